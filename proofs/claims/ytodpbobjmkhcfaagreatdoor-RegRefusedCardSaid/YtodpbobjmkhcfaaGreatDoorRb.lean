/- All that workers share, of the reference: what stands in memory for the same pure state; a flow that is there, on both sides. -/
import Derived.Test.YtodpbobjmkhcfaaGreatDoorRa
namespace Go.Proofs.YtodpbobjmkhcfaaGreatDoor.Gst
open Go Go.RowKit
set_option linter.unusedSimpArgs false
set_option linter.unusedVariables false
set_option maxHeartbeats 1000000
set_option synthInstance.maxSize 2000
set_option synthInstance.maxHeartbeats 400000

/-! ### Numbers once more -/
theorem rem_ii {cl : TCls} {a b : Int} (h : b ≠ 0) : pBin cl .rem (vi a) (vi b) = some (vi (a.tmod b)) := by
  simp only [pBin, pInt, if_true]
  rw [if_neg h]
theorem max_u {a b : Nat} : pMax [vu a, vu b] = some (vu (max a b)) := by
  simp only [pMax]
  congr 2
  split <;> omega

/-! ### What stands for the pure state, of the reference -/
abbrev encOb (x : Ob) : List Value := [vi x.flow, vi x.most, vu x.r]
instance : Enc encOb 3 := ⟨fun _ => rfl, fun _ => rfl, by omega⟩
abbrev encU (n : Nat) : List Value := [vu n]
instance : Enc encU 1 := ⟨fun _ => rfl, fun _ => rfl, by omega⟩
/-- The place of the call that a worker began last: pairs of whom and where. -/
def placeOf : List (Int × Int) → Int → Int
  | [], _ => 0
  | p :: ps, who => if (ps.any fun q => q.1 == who) = true then placeOf ps who else if p.1 = who then p.2 else 0
def pairsL (l : List (Int × Int)) : List Int := l.flatMap fun p => [p.1, p.2]
def nxOf (l : List (Int × Nat)) (k : Int) : Option Nat := (l.find? fun p => p.1 == k).map (·.2)
/-- A point behind all that are not behind it. -/
def insPt (x : Pt) : List Pt → List Pt
  | [] => [x]
  | y :: l => if y.step ≤ x.step ∨ (l.any fun z => decide (z.step ≤ x.step)) = true then y :: insPt x l else x :: y :: l
def byStep (l : List Pt) : List Pt := l.foldl (fun acc x => insPt x acc) []
def ringX (m i rp : Nat) (cs : List Pk) : SP := ex fun cv : Value => blk rp (.cells false [vp m, vi i, vi cs.length, cv]) * ts 3 Pk.cells cv cs
def ringsX (m : Nat) : Nat → List (Nat × List Pk) → SP
  | _, [] => emp
  | i, p :: ps => ringX m i p.1 p.2 * ringsX m (i + 1) ps
theorem ringsX_snoc (m : Nat) : ∀ (ps : List (Nat × List Pk)) (i : Nat) (q : Nat × List Pk), ringsX m i (ps ++ [q]) = ringsX m i ps * ringX m (i + ps.length) q.1 q.2 := by
  intro ps
  induction ps with
  | nil => intro i q; show ringX m i q.1 q.2 * emp = emp * ringX m (i + 0) q.1 q.2; rw [sep_emp, emp_sep]; rfl
  | cons p ps ih =>
    intro i q
    show ringX m i p.1 p.2 * ringsX m (i + 1) (ps ++ [q]) = ringX m i p.1 p.2 * ringsX m (i + 1) ps * _
    rw [ih, sep_assoc, List.length_cons, show i + 1 + ps.length = i + (ps.length + 1) from by omega]
structure XIds where
  m : Nat
  ib : Nat
  tb : Nat
  po : Nat
  co : Nat
  ov : Value
  rv : Value
  rp : List Nat
  wv : Value
  ws : List (Int × Int)
  pv : Value
  kv : Value
  nv : Value
  ns : List (Int × Nat)
def partsXB (x : Nat) (g : XIds) (σ : Sta) : SP :=
  blk x (.cells false [vi σ.c.sh, vi σ.c.sl, vi σ.c.wk, vi σ.c.wd, vu σ.c.un, vp g.m, vp g.ib, vp g.tb, vp g.po, vp g.co, g.ov, g.rv, g.wv, g.pv]) *
  (memX g.m σ.μ * (blk g.ib (.cells false [vp g.m, vi σ.c.sh, g.kv, g.nv]) * (ts 1 encI g.kv (g.ns.map (·.1)) * (ts 1 encU g.nv (g.ns.map (·.2)) * (tab g.tb g.m σ.c.sh.toNat σ.c.sl.toNat *
  (ts 3 encOb g.ov (σ.obs.map fun x => x.1) * (ts 1 encP1 g.rv g.rp * (ringsX g.m 0 (g.rp.zip (σ.obs.map fun x => x.2)) * (ts 1 encI g.wv (pairsL g.ws) * ts 7 Pt.cells g.pv (byStep σ.pts))))))))))
def partsXR (g : XIds) (σ : Sta) : Prop := g.rp.length = σ.obs.length ∧ (∀ k, placeOf g.ws k = (σ.places k).getD 0) ∧ ∀ k, nxOf g.ns k = σ.nx k
def partsX (x : Nat) (σ : Sta) : SP := ex fun g : XIds => pu (partsXR g σ) * partsXB x g σ
theorem partsX_open {p : Nat} {σ : Sta} {R : SP} {H : AH} (h : Holds (partsX p σ * R) H) : ∃ g : XIds, partsXR g σ ∧ Holds (partsXB p g σ * R) H := by
  obtain ⟨g, h1⟩ := Holds.ex.1 h
  rw [sep_assoc, Holds.pu] at h1
  exact ⟨g, h1⟩
theorem partsX_close {p : Nat} {σ : Sta} {R : SP} {H : AH} (g : XIds) (hl : partsXR g σ) (h : Holds (partsXB p g σ * R) H) : Holds (partsX p σ * R) H :=
  Holds.ex.2 ⟨g, by rw [sep_assoc]; exact Holds.pu.2 ⟨hl, h⟩⟩

/-! ### New parts of the reference -/
theorem r16_newInbox (m : Nat) (c : Cfg) (hc : rightB c = true) : Sp n_r16_NewInbox [vp m, vi c.sh] emp (fun b : Nat => vp b) (fun b => blk b (.cells false [vp m, vi c.sh, .slice none 0 0, .slice none 0 0])) := by
  have hc := rightB_iff.1 hc
  refine sp_of fun R H h => ?_
  refine wp_of (fun r => r16_NewInbox_of _ _ H) ?_
  refine w_bind (max_i) ?_
  refine w_bind (min_i) ?_
  rw [show min (max c.sh 1) 4 = c.sh from by omega]
  refine w_S ?_
  refine w_newC h fun b H3 h3 => ?_
  exact w_ret ⟨b, rfl, h3.to⟩
theorem r16_newTable (m : Nat) (c : Cfg) (hc : rightB c = true) : Sp n_r16_NewTable [vp m, vi c.sh, vi c.sl] emp (fun b : Nat => vp b) (fun b => tab b m c.sh.toNat c.sl.toNat) := by
  have hc := rightB_iff.1 hc
  refine sp_of fun R H h => ?_
  refine wp_of (fun r => r16_NewTable_of _ _ _ H) ?_
  refine w_bind (max_i) ?_
  refine w_bind (min_i) ?_
  refine w_bind (max_i) ?_
  refine w_bind (min_i) ?_
  rw [show min (max c.sh 1) 4 = ((c.sh.toNat : Nat) : Int) from by omega, show min (max c.sl 1) 4 = ((c.sl.toNat : Nat) : Int) from by omega]
  refine w_S ?_
  refine w_newC h fun b H3 h3 => ?_
  exact w_ret ⟨b, rfl, by unfold tab; exact h3.to⟩
theorem r16_newPost (m : Nat) (w : Int) : Sp n_r16_NewPost [vp m, vi w] emp (fun b : Nat => vp b) (fun _ => emp) := by
  refine sp_of fun R H h => ?_
  refine wp_of (fun r => r16_NewPost_of _ _ H) ?_
  refine w_bind (max_i) ?_
  refine w_bind (min_i) ?_
  refine w_S ?_
  refine w_newC h fun b H3 h3 => ?_
  exact w_ret ⟨b, rfl, h3.to⟩
theorem r01_width (w : Int) : Sp n_r01_Width [vi w] emp (fun x : Int => vi x) (fun _ => emp) := by
  refine sp_of fun R H h => ?_
  refine wp_of (fun r => r01_Width_of _ H) ?_
  refine w_bind (max_i) ?_
  refine w_bind (min_i) ?_
  exact w_ret ⟨_, rfl, h⟩
theorem r01_newQueue (n w : Int) : Sp n_r01_NewQueue [vi n, vi w] emp (fun b : Nat => vp b) (fun _ => emp) := by
  refine sp_of fun R H h => ?_
  refine wp_of (fun r => r01_NewQueue_of _ _ H) ?_
  refine w_S ?_
  refine w_newC h fun q H2 h2 => ?_
  refine wp_eq (r01_NewQueue_k0_eq _ _ _ _ H2) ?_
  refine wp_eq (r01_NewQueue_k2_eq _ _ _ _ _ H2) ?_
  obtain ⟨k, hk⟩ : ∃ k : Nat, min (max n 1) 16 = k := ⟨(min (max n 1) 16).toNat, by omega⟩
  have hk16 : k ≤ 16 := by omega
  have loop : ∀ (d i : Nat) (nv : Value) (m : List Nat) (H : AH), i + d = k → m.length = i → Holds (blk q (.cells false [nv]) * ts 1 encP1 nv m * R) H → wp (r01_NewQueue_k4 (vi n) (vi w) (.pointer none) (vp q) (vi i) H) fun v' H' => ∃ b : Nat, v' = vp b ∧ Holds (emp * R) H' := by
    intro d
    induction d with
    | zero =>
      intro i nv m H hi hm h
      refine wp_eq (r01_NewQueue_k4_eq _ _ _ _ _ H) ?_
      refine w_bind (max_i) ?_
      refine w_bind (min_i) ?_
      refine w_bind (lss_f (by omega)) ?_
      with_reducible repeat (first | refine w_bind (pick_t _ _) ?_ | refine w_bind (pick_f _ _) ?_ | refine w_bind gV_tt ?_ | refine w_bind gV_ff ?_ | refine w_bind gV_tf ?_ | refine w_bind gV_ft ?_ | refine w_bind gB_tf ?_ | refine w_bind gB_ft ?_ | refine w_gE_tf ?_ | refine w_gE_ft ?_ | refine w_gE_tt ?_ | refine w_gE_ff ?_ | refine w_onK_tf ?_ | refine w_onK_ft ?_ | refine w_onK_tt ?_ | refine w_onK_ff ?_ | refine w_gld_tt ?_ | refine w_gld_ff ?_ | refine w_gld_tf ?_ | refine w_gld_ft ?_ | refine w_gldN_tt ?_ | refine w_gldN_ff ?_ | refine w_gldN_tf ?_ | refine w_gldN_ft ?_ | refine w_gB_tt ?_ | refine w_gB_ff ?_ | refine w_bind un_not ?_ | refine w_cond_t ?_ | refine w_cond_f ?_ | refine w_bind gV_u ?_ | refine w_bind gB_u ?_ | refine w_gld_u ?_)
      refine wp_eq (r01_NewQueue_e3_0_eq _ _ H) ?_
      refine wp_eq (r01_NewQueue_k1_eq _ _ H) ?_
      exact w_ret ⟨q, rfl, h.to⟩
    | succ d ih =>
      intro i nv m H hi hm h
      refine wp_eq (r01_NewQueue_k4_eq _ _ _ _ _ H) ?_
      refine w_bind (max_i) ?_
      refine w_bind (min_i) ?_
      refine w_bind (lss_t (by omega)) ?_
      with_reducible repeat (first | refine w_bind (pick_t _ _) ?_ | refine w_bind (pick_f _ _) ?_ | refine w_bind gV_tt ?_ | refine w_bind gV_ff ?_ | refine w_bind gV_tf ?_ | refine w_bind gV_ft ?_ | refine w_bind gB_tf ?_ | refine w_bind gB_ft ?_ | refine w_gE_tf ?_ | refine w_gE_ft ?_ | refine w_gE_tt ?_ | refine w_gE_ff ?_ | refine w_onK_tf ?_ | refine w_onK_ft ?_ | refine w_onK_tt ?_ | refine w_onK_ff ?_ | refine w_gld_tt ?_ | refine w_gld_ff ?_ | refine w_gld_tf ?_ | refine w_gld_ft ?_ | refine w_gldN_tt ?_ | refine w_gldN_ff ?_ | refine w_gldN_tf ?_ | refine w_gldN_ft ?_ | refine w_gB_tt ?_ | refine w_gB_ff ?_ | refine w_bind un_not ?_ | refine w_cond_t ?_ | refine w_cond_f ?_ | refine w_bind gV_u ?_ | refine w_bind gB_u ?_ | refine w_gld_u ?_)
      refine wp_eq (r01_NewQueue_k5_eq _ _ _ _ _ H) ?_
      refine w_ad end_nf ?_
      refine w_Ld1 h rfl ?_
      refine w_call h (r01_width w) fun x H3 h3 => ?_
      refine w_eq1 h3 h rfl ?_
      refine w_S ?_
      refine w_newC h3 fun sb H3b h3b => ?_
      refine w_R h3b fun b0 H4 h4 => ?_
      refine w_tapp (sb : Nat) h4 rfl ?_ (by omega) fun a c H5 h5 => ?_
      · unfold room; omega
      refine w_st h5 end_nf rfl rfl fun H6 h6 => ?_
      refine wp_eq (r01_NewQueue_k6_eq _ _ _ _ _ H6) ?_
      refine w_bind (bin_add_i (by omega) (by omega)) ?_
      exact ih (i + 1) (.slice a (m.length + 1) c) (m ++ [sb]) H6 (by omega) (by simp; omega) h6.to
  refine loop k 0 (.slice none 0 0) [] H2 (by omega) rfl ?_
  have h3 := ts_nil 1 encP1 h2
  exact h3.to
theorem r16_newCore (c : Cfg) : Sp n_r16_NewCore [.agg (Cfg.cells c).toArray] emp (fun b : Nat => vp b) (fun _ => emp) := by
  refine sp_of fun R H h => ?_
  refine wp_of (fun r => r16_NewCore_of _ H) ?_
  refine w_newC h fun cb H1 h1 => ?_
  refine w_ld h1 end_f0 rfl ?_
  refine w_ld h1 end_f0 rfl ?_
  refine w_call h1 (r01_newQueue c.sh c.wd) fun q H2 h2 => ?_
  refine w_S ?_
  refine w_newC h2 fun b H5 h5 => ?_
  exact w_ret ⟨b, rfl, h5.to⟩
theorem memX_new {b : Nat} {R : SP} {H : AH} (h : Holds (blk b (.cells false [.slice none 0 0, .slice none 0 0, .slice none 0 0]) * R) H) : Holds (memX b ⟨fun _ => 0, [], 0⟩ * R) H := by
  refine Holds.ex.2 ⟨[], ?_⟩
  rw [sep_assoc, Holds.pu]
  refine ⟨⟨fun _ => rfl, Nat.le_refl _⟩, Holds.ex.2 ⟨(.slice none 0 0, .slice none 0 0, .slice none 0 0), ?_⟩⟩
  have h1 := ts_nil 3 encP (ts_nil 1 encV (ts_nil 5 Ev.cells h))
  exact h1.to
theorem r16_newParts (c : Cfg) (hc : rightB c = true) : Sp n_r16_NewParts [.agg (Cfg.cells c).toArray] emp (fun b : Nat => vp b) (fun b => partsX b (Sta.new c)) := by
  refine sp_of fun R H h => ?_
  refine wp_of (fun r => r16_NewParts_of _ H) ?_
  refine w_newC h fun cb H1 h1 => ?_
  refine w_S ?_
  refine w_newC h1 fun m H2 h2 => ?_
  refine w_LdN h2 ?_
  refine w_ld h2 end_f0 rfl ?_
  refine w_call h2 (r16_newInbox m c hc) fun ib H3 h3 => ?_
  refine w_eqN h3 h2 rfl ?_
  refine w_ad end_f0 ?_
  refine w_Ld1 h3 rfl ?_
  refine w_eq1 h2 h3 rfl ?_
  refine w_ad end_f0 ?_
  refine w_Ld1 h3 rfl ?_
  refine w_eq1 h2 h3 rfl ?_
  refine w_call h3 (r16_newTable m c hc) fun tb H4 h4 => ?_
  refine w_eqN h4 h2 rfl ?_
  refine w_ad end_f0 ?_
  refine w_Ld1 h4 rfl ?_
  refine w_eq1 h2 h4 rfl ?_
  refine w_eq1 h3 h4 rfl ?_
  refine w_call h4 (r16_newPost m c.wk) fun pb H5 h5 => ?_
  refine w_eqN h5 h2 rfl ?_
  refine w_LdN h5 ?_
  refine w_eqN h2 h5 rfl ?_
  refine w_eqN h3 h5 rfl ?_
  refine w_eqN h4 h5 rfl ?_
  refine w_call h5 (r16_newCore c) fun kb H6 h6 => ?_
  refine w_eqN h6 h2 rfl ?_
  refine w_S ?_
  refine w_newC h6 fun b H7 h7 => ?_
  refine w_ret ⟨b, rfl, ?_⟩
  refine partsX_close ⟨m, ib, tb, pb, kb, .slice none 0 0, .slice none 0 0, [], .slice none 0 0, [], .slice none 0 0, .slice none 0 0, .slice none 0 0, []⟩ ⟨rfl, fun _ => rfl, fun _ => rfl⟩ ?_
  have h8 := memX_new (b := m) (R := blk b (.cells false [vi c.sh, vi c.sl, vi c.wk, vi c.wd, vu c.un, vp m, vp ib, vp tb, vp pb, vp kb, .slice none 0 0, .slice none 0 0, .slice none 0 0, .slice none 0 0]) * (tab tb m c.sh.toNat c.sl.toNat * (blk ib (.cells false [vp m, vi c.sh, .slice none 0 0, .slice none 0 0]) * R))) (Holds.to h7)
  have h9 := ts_nil 3 encOb (ts_nil 1 encP1 (ts_nil 1 encI (ts_nil 7 Pt.cells (ts_nil 1 encI (ts_nil 1 encU h8)))))
  unfold partsXB
  show Holds (blk b (.cells false [vi c.sh, vi c.sl, vi c.wk, vi c.wd, vu c.un, vp m, vp ib, vp tb, vp pb, vp kb, .slice none 0 0, .slice none 0 0, .slice none 0 0, .slice none 0 0]) * (memX m ⟨fun _ => 0, [], 0⟩ * (blk ib (.cells false [vp m, vi c.sh, .slice none 0 0, .slice none 0 0]) * (ts 1 encI (.slice none 0 0) [] * (ts 1 encU (.slice none 0 0) [] * (tab tb m c.sh.toNat c.sl.toNat *
    (ts 3 encOb (.slice none 0 0) [] * (ts 1 encP1 (.slice none 0 0) [] * (emp * (ts 1 encI (.slice none 0 0) [] * ts 7 Pt.cells (.slice none 0 0) [])))))))))  * R) H7
  exact h9.to
end Go.Proofs.YtodpbobjmkhcfaaGreatDoor.Gst
