/- Several texts in one. -/
import Derived.Test.YthagelbepgcolaaGreatDoorDod
import Derived.Test.YthagelbepgcolaaGreatDoorPg
namespace Go.Proofs.YthagelbepgcolaaGreatDoor.Gst
open Go Go.RowKit
set_option linter.unusedSimpArgs false
set_option linter.unusedVariables false
set_option maxHeartbeats 4000000
set_option maxRecDepth 100000
section
variable {P R X : SP} {v pv : Value} {ll : List (List Cl)} {pk : List Int} {c : Cfg}
theorem aiQ {T rest : List Nat} (hT : T.length ≤ 90000) (x : Cl) (hx : dC x = true) (x1 x2 x4 x5 x6 : Value) {Q : Value → AH → Prop}
 (next : ∀ (s : Value) (l : List Nat) (H : AH), l ++ rest = T → ac (ts 1 aG s l * X) H → wp (ka x1 x2 x4 x5 x6 s H) Q) : ∀ (d i : Nat) (s : Value) (l : List Nat) (H : AH), i + d = 4 → l ++ (((Eg x).drop i).flatMap oZ ++ rest) = T → ac (ts 1 aG s l * X) H →
 wp (fE x1 x2 x4 x5 x6 s (.agg (Cl.cells x).toArray) (vi i) H) Q := by
 intro d
 induction d with
 | zero =>
  intro i s l H hi hl h;refine ae (k7 _ _ _ _ _ _ _ _ H) ?_;refine aa (aU (by omega)) ?_;refine gs ?_;refine ae (ry _ _ _ _ _ _ H) ?_;rw [List.drop_of_length_le (show (Eg x).length ≤ i by show 4 ≤ i; omega), List.flatMap_nil, List.nil_append] at hl;exact next s l H hl h
 | succ d ih =>
  intro i s l H hi hl h
  have hi4 : i < 4 := by omega
  refine ae (k7 _ _ _ _ _ _ _ _ H) ?_;refine aa (aW (by omega)) ?_;refine gs ?_;refine ae (uX _ _ _ _ _ _ _ _ H) ?_;refine aa (an3 x i hi4) ?_;have hok := kU.1 hx i hi4;unfold yJ at hok;have hok := of_decide_eq_true hok;refine aa (cw (by omega) (by omega)) ?_
  have hll : l.length ≤ 90000 := by have := congrArg List.length hl; simp only [cT] at this; omega
  refine ah h (dI s l (Hw x i).toNat (by omega) (by omega)) fun s' H1 h1 => ?_;refine ae (uY _ _ _ _ _ _ _ _ H1) ?_;refine aa (aq (by omega) (by omega)) ?_;refine ih (i + 1) s' (l ++ aJ (Hw x i).toNat) H1 (by omega) ?_ h1.to;rw [← hl, JD x hi4, List.flatMap_cons, List.append_assoc, List.append_assoc]
theorem apF (h : dn c = true) : dC ⟨c.sh, c.sl, c.wk, c.wd⟩ = true := by
 have hc := aT.1 h;refine kU.2 fun i hi => ?_;unfold yJ
 match i, hi with
 | 0, _ => exact dZ (show 0 ≤ c.sh ∧ c.sh ≤ 2147483647 by omega)
 | 1, _ => exact dZ (show 0 ≤ c.sl ∧ c.sl ≤ 2147483647 by omega)
 | 2, _ => exact dZ (show 0 ≤ c.wk ∧ c.wk ≤ 2147483647 by omega)
 | 3, _ => exact dZ (show 0 ≤ c.wd ∧ c.wd ≤ 2147483647 by omega)
def BL (P : SP) (c : Cfg) (ll : List (List Cl)) (pk : List Int) (s : Value) : SP := if m0 c ll pk = true then ts 1 aG s (bP c ll pk) * P else pu (s = .slice none 0 0) * P
theorem de [L : Ls P v ll] [r : Rd P pv 1 bz pk] (c : Cfg) (hn : (ll.length : Int) < 9223372036854775808) (hb : ll.length ≤ 6 → ∀ l ∈ ll, l.length ≤ 140737488355328) :
 Sp cJ [.agg (aK c v).toArray, pv] P (fun s : Value => .tuple #[s, vi (if m0 c ll pk then 0 else 1)]) (fun s => BL P c ll pk s) := by
 refine qm fun R H h => ?_;obtain ⟨us, hvl, r1, r2⟩ := L.out;refine eD (fun r => CX _ _ H) ?_;refine bH h fun b H1 h1 => ?_;refine bx h1 ?_;refine ah h1 (HM (P := P) (v := v) (pv := pv) (ll := ll) (pk := pk) c hn hb) fun _ H2 h2 => ?_;unfold BL
 cases hm : m0 c ll pk with
 | false =>
  refine aa (jw) ?_;rw [Bool.not_false];refine gs ?_;refine ay ⟨.slice none 0 0, rfl, ?_⟩;rw [if_neg (by simp), aC, ac.pu];exact ⟨rfl, h2.to⟩
 | true =>
  refine aa (jw) ?_;rw [Bool.not_true];refine gs ?_;obtain ⟨o1, o2, o3, o4⟩ := wq.1 hm;obtain ⟨m1, m2, m3⟩ := my o1;have hc := aT.1 m3;have hT := qx hm;refine xV h2 aj ?_;refine ce h2 fun b2 H3 h3 => ?_;refine cS h3 rfl rfl fun H4 h4 => ?_;refine ae (wD _ _ _ _ _ _ H4) ?_;refine aL h4 aj rfl ?_;refine aL h4 aj rfl ?_;refine aL h4 aj rfl ?_;refine aL h4 aj rfl ?_;refine amI (cs := Cl.cells ⟨c.sh, c.sl, c.wk, c.wd⟩) rfl ?_;refine ae (uW _ _ _ _ _ _ _ _ H4) ?_;refine aiQ (X := blk b2 (.cells false (Cfg.cells c)) * (blk b (.cells false (aK c v)) * (P * R))) (T := bP c ll pk) (rest := aJ c.un ++ (aJ ll.length ++ (ll.flatMap BY ++ (aJ pk.length ++ pk.flatMap oZ)))) hT ⟨c.sh, c.sl, c.wk, c.wd⟩ (apF m3) _ _ _ _ _ (fun s l H hl h => ?_) 4 0 (.slice none 0 0) [] H4 rfl rfl (fR 1 aG h4.to);refine ae (wE _ _ _ _ _ _ H) ?_;refine aL h aj rfl ?_
  have hll : l.length ≤ 90000 := by have := congrArg List.length hl; simp only [cT] at this; omega
  refine ah h (dI s l c.un (by omega) (by omega)) fun s' H1 h1 => ?_;refine k8 aj ?_;refine dK h1 rfl ?_;refine ci h h1 rfl ?_;refine aS (s := v) (l := us) h1 ?_;refine XP ?_;refine aa (cw (by omega) (by omega)) ?_
  have hl2 : (l ++ aJ c.un).length ≤ 90000 := by have := congrArg List.length hl; simp only [cT] at this ⊢; omega
  refine ah h1 (dI s' (l ++ aJ c.un) (us.length : Int).toNat (by omega) (by omega)) fun s2 H2' h2' => ?_;refine ae (wF _ _ _ _ _ H2') ?_;refine aL h2' aj rfl ?_;refine aS (s := v) (l := us) h2' ?_;refine ae (uN _ _ _ _ _ _ _ H2') ?_;refine Ik (fun v' H' hq => ?_) (VR (X := P * R) (T := bP c ll pk) hvl inferInstance (fun i h h' => by haveI := r2 i h h'; infer_instance) hT m1 m2 o2 o4 o3 _ _ us.length 0 s2 (l ++ aJ c.un ++ aJ (us.length : Int).toNat) H2' (by omega) ?_ h2'.to)
  ·obtain ⟨s3, rfl, hq⟩ := hq
   refine ⟨s3, rfl, ?_⟩;rw [if_pos rfl];exact hq.to
  ·rw [← hl, List.drop_zero, ← hvl]
   simp only [List.append_assoc]
   rfl
end
theorem kz (n : Int) : Sp ik [vi n] emp (fun _ : Unit => vb (yJ n)) (fun _ => emp) := by
 refine gb (MC _) fun R H h => ?_
 by_cases c1 : 0 ≤ n
 ·refine aa (ln c1) ?_
  refine gs ?_
  by_cases c2 : n < 2147483648
  ·refine aa (aW c2) ?_
   refine gs ?_;exact ay ⟨(), by unfold yJ; rw [dZ (by omega)], h.to⟩
  ·refine aa (aU c2) ?_
   refine gs ?_;exact ay ⟨(), by unfold yJ; rw [gm (by omega)], h.to⟩
 ·refine aa (lm c1) ?_
  refine gs ?_;exact ay ⟨(), by unfold yJ; rw [gm (by omega)], h.to⟩
section
variable {P R X : SP} {v pv : Value} {ll : List (List Cl)} {pk : List Int} {c : Cfg}
def Vn (X : SP) (ok : Bool) (T : List Nat) (v' : Value) (H' : AH) : Prop := ∃ s : Value, v' = .tuple #[s, vi (if ok then 0 else 1)] ∧ ac ((if ok = true then ts 1 aG s T * X else pu (s = .slice none 0 0) * X)) H'
theorem Sb [r : Rd X pv 1 bz pk] {T : List Nat} {ok : Bool} (hT : T.length ≤ 90000) (hk : pk.length ≤ 4000) (hok : ok = pk.all rk) (x4 x5 : Value) : ∀ (d i : Nat) (s : Value) (l : List Nat) (H : AH), i + d = pk.length → (∀ j, (h : j < pk.length) → j < i → rk pk[j] = true) → l.length ≤ 20000 + 5 * i → (ok = true → l ++ (pk.drop i).flatMap oZ = T) → ac (ts 1 aG s l * X) H →
 wp (ky pv x4 x5 s (vi i) H) (Vn X ok T) := by
 intro d
 induction d with
 | zero =>
  intro i s l H hi ho hlen hl h;refine ae (pY _ _ _ _ _ H) ?_;refine aS (s := pv) (l := pk) h ?_;refine aa (aU (by omega)) ?_;refine gs ?_;refine ae (yP _ _ _ H) ?_;refine ae (CS _ _ _ H) ?_
  have hall : ok = true := by
   rw [hok]
   exact List.all_eq_true.2 fun x hx => by
    obtain ⟨j, hj, rfl⟩ := List.getElem_of_mem hx;exact ho j hj (by omega)
  have hl := hl hall;rw [List.drop_of_length_le (by omega), List.flatMap_nil, List.append_nil] at hl;subst hl;refine ay ⟨s, by rw [if_pos hall], ?_⟩;rw [if_pos hall];exact h
 | succ d ih =>
  intro i s l H hi ho hlen hl h
  have hil : i < pk.length := by omega
  refine ae (pY _ _ _ _ _ H) ?_;refine aS (s := pv) (l := pk) h ?_;refine aa (aW (by omega)) ?_;refine gs ?_;refine ae (CU _ _ _ _ _ H) ?_;refine bU (s := pv) (l := pk) h hil rfl ?_
  have bad : rk pk[i] = false → wp (some (Value.tuple #[.slice none 0 0, vi 1], H)) (Vn X ok T) := by
   intro hb
   have hf : ok = false := by
    rw [hok, List.all_eq_false];exact ⟨pk[i], tY hil, by rw [hb]; simp⟩
   refine ay ⟨.slice none 0 0, by rw [hf]; rfl, ?_⟩;rw [hf, if_neg (by simp), ac.pu];exact ⟨rfl, h.to⟩
  by_cases c1 : pk[i] < 0
  ·refine aa (aW c1) ?_
   refine gs ?_;exact bad (by unfold rk; exact gm (by omega))
  ·refine aa (aU c1) ?_
   refine gs ?_;refine bU (s := pv) (l := pk) h hil rfl ?_
   by_cases c2 : (63 : Int) < pk[i]
   ·refine aa (Cb (iQ c2)) ?_
    refine gs ?_;exact bad (by unfold rk; exact gm (by omega))
   ·refine aa (Cb (iP c2)) ?_
    refine gs ?_;refine bU (s := pv) (l := pk) h hil rfl ?_;refine aa (cw (by omega) (by omega)) ?_;refine ah h (cv s l pk[i].toNat (by omega) (by omega)) fun s' H1 h1 => ?_;refine ae (CV _ _ _ _ _ H1) ?_;refine aa (aq (by omega) (by omega)) ?_;refine ih (i + 1) s' (l ++ aJ pk[i].toNat) H1 (by omega) (fun j hj hji => ?_) ?_ (fun e => ?_) h1.to
    ·rcases Nat.lt_or_ge j i with h1 | h1
     ·exact ho j hj h1
     ·have : j = i := by omega
      subst this;unfold rk; exact dZ (by omega)
    ·have := jV (n := pk[i].toNat) (by omega)
     simp only [cT]; omega
    ·rw [← hl e, List.drop_eq_getElem_cons hil, List.flatMap_cons, List.append_assoc]
theorem Xt {b6 : Nat} {us : List Sv} {i0 : Nat} [ru : Rd X v 1 iK us] (hiu : i0 < us.length) {cl : List Cl} [r : Rd X (us[i0]).v 4 Cl.cells cl] [hb6 : Hs X b6 (.cells false (aK c v))] {T rest : List Nat} {ok : Bool} (hT : T.length ≤ 90000) (hc : cl.length ≤ 100) (hbad : cl.all dC = false → ok = false) (x1 x4 x5 : Value)
 (next : ∀ (s : Value) (l : List Nat) (H : AH), cl.all dC = true → l.length ≤ 1000 + 2000 * i0 + 100 + 20 * cl.length → (ok = true → l ++ rest = T) → ac (ts 1 aG s l * X) H → wp (mJ x1 (vp b6) x4 x5 s (vi i0) H) (Vn X ok T)) :
 ∀ (d i : Nat) (s : Value) (l : List Nat) (H : AH), i + d = cl.length → (∀ j, (h : j < cl.length) → j < i → dC cl[j] = true) → l.length ≤ 1000 + 2000 * i0 + 100 + 20 * i → i0 ≤ 10 → (ok = true → l ++ ((cl.drop i).flatMap yh ++ rest) = T) → ac (ts 1 aG s l * X) H →
 wp (je x1 (vp b6) x4 x5 s (vi i0) (vi i) H) (Vn X ok T) := by
 intro d
 induction d with
 | zero =>
  intro i s l H hi ho hlen hi10 hl h;refine ae (nT _ _ _ _ _ _ _ H) ?_;refine aL h aj rfl ?_;refine bU (s := v) (l := us) h hiu rfl ?_;refine aS (s := (us[i0]).v) (l := cl) h ?_;refine aa (aU (by omega)) ?_;refine gs ?_;refine ae (wB _ _ _ _ _ _ H) ?_
  have hall : cl.all dC = true := List.all_eq_true.2 fun x hx => by
   obtain ⟨j, hj, rfl⟩ := List.getElem_of_mem hx;exact ho j hj (by omega)
  refine next s l H hall (by omega) (fun e => ?_) h;have := hl e
  rwa [List.drop_of_length_le (by omega), List.flatMap_nil, List.nil_append] at this
 | succ d ih =>
  intro i s l H hi ho hlen hi10 hl h
  have hil : i < cl.length := by omega
  refine ae (nT _ _ _ _ _ _ _ H) ?_;refine aL h aj rfl ?_;refine bU (s := v) (l := us) h hiu rfl ?_;refine aS (s := (us[i0]).v) (l := cl) h ?_;refine aa (aW (by omega)) ?_;refine gs ?_;refine ae (A5 _ _ _ _ _ _ _ H) ?_;refine aL h aj rfl ?_;refine bU (s := v) (l := us) h hiu rfl ?_;refine Df (s := (us[i0]).v) (l := cl) h hil ?_;refine ce h fun b1 H1 h1 => ?_;refine cS h1 rfl rfl fun H2 h2 => ?_;refine aL h2 aj rfl ?_
  have bad : ∀ {H : AH} {Y : SP}, dC cl[i] = false → ac (Y * (ts 1 aG s l * X)) H → wp (some (Value.tuple #[.slice none 0 0, vi 1], H)) (Vn X ok T) := by
   intro H Y hb h
   have hf : ok = false := hbad (by
    rw [List.all_eq_false]
    exact ⟨cl[i], tY hil, by rw [hb]; simp⟩)
   refine ay ⟨.slice none 0 0, by rw [hf]; rfl, ?_⟩;rw [hf, if_neg (by simp), ac.pu];exact ⟨rfl, h.to⟩
  refine ah h2 (kz _) fun _ H3 h3 => ?_
  cases e0 : yJ cl[i].op with
  | false =>
   refine aa (jw) ?_;rw [Bool.not_false];refine gs ?_;exact bad (Y := emp) (by unfold dC; rw [e0]; rfl) h3.to
  | true =>
  refine aa (jw) ?_;rw [Bool.not_true];refine gs ?_;refine aL h3 aj rfl ?_;refine gs ?_;refine ah h3 (kz _) fun _ H4 h4 => ?_
  cases e1 : yJ cl[i].flow with
  | false =>
   refine aa (Cb (jw)) ?_;rw [Bool.not_false];refine gs ?_;exact bad (Y := emp) (by unfold dC; rw [e0, e1]; rfl) h4.to
  | true =>
  refine aa (Cb (jw)) ?_;rw [Bool.not_true];refine gs ?_;refine aL h4 aj rfl ?_;refine gs ?_;refine ah h4 (kz _) fun _ H5 h5 => ?_
  cases e2 : yJ cl[i].a with
  | false =>
   refine aa (Cb (jw)) ?_;rw [Bool.not_false];refine gs ?_;exact bad (Y := emp) (by unfold dC; rw [e0, e1, e2]; rfl) h5.to
  | true =>
  refine aa (Cb (jw)) ?_;rw [Bool.not_true];refine gs ?_;refine aL h5 aj rfl ?_;refine gs ?_;refine ah h5 (kz _) fun _ H6 h6 => ?_
  cases e3 : yJ cl[i].b with
  | false =>
   refine aa (Cb (jw)) ?_;rw [Bool.not_false];refine gs ?_;exact bad (Y := emp) (by unfold dC; rw [e0, e1, e2, e3]; rfl) h6.to
  | true =>
  refine aa (Cb (jw)) ?_;rw [Bool.not_true];refine gs ?_;have k0 := of_decide_eq_true (show decide (0 ≤ cl[i].op ∧ cl[i].op ≤ 2147483647) = true from e0);have k1 := of_decide_eq_true (show decide (0 ≤ cl[i].flow ∧ cl[i].flow ≤ 2147483647) = true from e1);have k2 := of_decide_eq_true (show decide (0 ≤ cl[i].a ∧ cl[i].a ≤ 2147483647) = true from e2);have k3 := of_decide_eq_true (show decide (0 ≤ cl[i].b ∧ cl[i].b ≤ 2147483647) = true from e3);have q0 := jV (n := cl[i].op.toNat) (by omega);have q1 := jV (n := cl[i].flow.toNat) (by omega);have q2 := jV (n := cl[i].a.toNat) (by omega);have q3 := jV (n := cl[i].b.toNat) (by omega);refine aL h6 aj rfl ?_;refine aa (cw (by omega) (by omega)) ?_;refine ah h6 (cv s l cl[i].op.toNat (by omega) (by omega)) fun s1 J1 j1 => ?_;refine k8 aj ?_;refine dK j1 rfl ?_;refine ci h6 j1 rfl ?_;refine aa (cw (by omega) (by omega)) ?_;refine ah j1 (cv s1 (l ++ aJ cl[i].op.toNat) cl[i].flow.toNat (by omega) (by simp only [cT]; omega)) fun s2 J2 j2 => ?_;refine k8 aj ?_;refine dK j2 rfl ?_;refine ci h6 j2 rfl ?_;refine ci j1 j2 rfl ?_;refine aa (cw (by omega) (by omega)) ?_;refine ah j2 (cv s2 (l ++ aJ cl[i].op.toNat ++ aJ cl[i].flow.toNat) cl[i].a.toNat (by omega) (by simp only [cT]; omega)) fun s3 J3 j3 => ?_;refine k8 aj ?_;refine dK j3 rfl ?_;refine ci h6 j3 rfl ?_;refine ci j1 j3 rfl ?_;refine ci j2 j3 rfl ?_;refine aa (cw (by omega) (by omega)) ?_;refine ah j3 (cv s3 (l ++ aJ cl[i].op.toNat ++ aJ cl[i].flow.toNat ++ aJ cl[i].a.toNat) cl[i].b.toNat (by omega) (by simp only [cT]; omega)) fun s4 J4 j4 => ?_;refine ae (A6 _ _ _ _ _ _ _ J4) ?_;refine aa (aq (by omega) (by omega)) ?_;refine ih (i + 1) s4 (l ++ aJ cl[i].op.toNat ++ aJ cl[i].flow.toNat ++ aJ cl[i].a.toNat ++ aJ cl[i].b.toNat) J4 (by omega) (fun j hj hji => ?_) (by simp only [cT]; omega) hi10 (fun e => ?_) j4.to
  ·rcases Nat.lt_or_ge j i with h1 | h1
   ·exact ho j hj h1
   ·have : j = i := by omega
    subst this;unfold dC;rw [e0, e1, e2, e3]; rfl
  ·rw [← hl e, List.drop_eq_getElem_cons hil, List.flatMap_cons]
   simp only [yh, Eg, oZ, List.flatMap_cons, List.flatMap_nil, List.append_nil, List.append_assoc]
theorem Sa {b6 : Nat} {us : List Sv} (ru : Rd X v 1 iK us) (hvl : us.length = ll.length) (r2 : ∀ i (h : i < us.length) (h' : i < ll.length), Rd X (us[i]).v 4 Cl.cells ll[i]) [r : Rd X pv 1 bz pk] (hb6 : Hs X b6 (.cells false (aK c v))) {T : List Nat} {ok : Bool} (hT : T.length ≤ 90000) (h6 : ll.length ≤ 6) (h60 : ck ll ≤ 60) (hk : pk.length ≤ 4000)
 (hok : ok = (ll.all (·.all dC) && pk.all rk)) (x4 x5 : Value) : ∀ (d i : Nat) (s : Value) (l : List Nat) (H : AH), i + d = us.length → (∀ j, (h : j < ll.length) → j < i → (ll[j]).all dC = true) → l.length ≤ 1000 + 2000 * i → (ok = true → l ++ ((ll.drop i).flatMap BY ++ (aJ pk.length ++ pk.flatMap oZ)) = T) → ac (ts 1 aG s l * X) H →
 wp (jd pv (vp b6) x4 x5 s (vi i) H) (Vn X ok T) := by
 intro d
 induction d with
 | zero =>
  intro i s l H hi ho hlen hl h;refine ae (nS _ _ _ _ _ _ H) ?_;refine aL h aj rfl ?_;refine aS (s := v) (l := us) h ?_;refine aa (aU (by omega)) ?_;refine gs ?_;refine ae (wA _ _ _ _ H) ?_;refine ae (CP _ _ _ _ H) ?_;refine aS (s := pv) (l := pk) h ?_;refine aa (cw (by omega) (by omega)) ?_;refine ah h (cv s l (pk.length : Int).toNat (by omega) (by omega)) fun s' H1 h1 => ?_;refine ae (CR _ _ _ _ H1) ?_;refine ae (CT _ _ _ _ _ H1) ?_
  have hall : ll.all (·.all dC) = true := List.all_eq_true.2 fun q hq => by
   obtain ⟨j, hj, rfl⟩ := List.getElem_of_mem hq;exact ho j hj (by omega)
  have e10 := cj (n := (pk.length : Int).toNat) (by omega);refine Sb (X := X) hT hk (by rw [hok, hall, Bool.true_and]) _ _ pk.length 0 s' (l ++ aJ (pk.length : Int).toNat) H1 (by omega) (fun j _ hj => absurd hj (by omega)) (by simp only [cT]; omega) (fun e => ?_) h1.to;have := hl e;rw [List.drop_of_length_le (by omega), List.flatMap_nil, List.nil_append] at this;rw [← this, List.drop_zero, List.append_assoc]
  rfl
 | succ d ih =>
  intro i s l H hi ho hlen hl h
  have hiu : i < us.length := by omega
  have hil : i < ll.length := by omega
  haveI := r2 i hiu hil
  have hl60 : ll[i].length ≤ 60 := by have := gM hil; omega
  refine ae (nS _ _ _ _ _ _ H) ?_;refine aL h aj rfl ?_;refine aS (s := v) (l := us) h ?_;refine aa (aW (by omega)) ?_;refine gs ?_;refine ae (AX _ _ _ _ _ _ H) ?_;refine aL h aj rfl ?_;refine bU (s := v) (l := us) h hiu rfl ?_;refine aS (s := (us[i]).v) (l := ll[i]) h ?_;refine aa (cw (by omega) (by omega)) ?_;refine ah h (cv s l (ll[i].length : Int).toNat (by omega) (by omega)) fun s' H1 h1 => ?_;refine ae (AZ _ _ _ _ _ _ _ H1) ?_;have e10 := cj (n := (ll[i].length : Int).toNat) (by omega);refine Xt (X := X) (us := us) (i0 := i) hiu (cl := ll[i]) (rest := (ll.drop (i + 1)).flatMap BY ++ (aJ pk.length ++ pk.flatMap oZ)) (T := T) (c := c) hT (by omega) (fun e => ?_) _ _ _ (fun s l H hall hlen2 hl h => ?_) ll[i].length 0 s' (l ++ aJ (ll[i].length : Int).toNat) H1 (by omega) (fun j _ hj => absurd hj (by omega)) (by simp only [cT]; omega) (by omega) (fun e => ?_) h1.to
  ·rw [hok]
   have : ll.all (·.all dC) = false := by
    rw [List.all_eq_false];exact ⟨ll[i], tY hil, by rw [e]; simp⟩
   rw [this]; rfl
  ·refine ae (AY _ _ _ _ _ _ H) ?_
   refine aa (aq (by omega) (by omega)) ?_;refine ih (i + 1) s l H (by omega) (fun j hj hji => ?_) (by omega) hl h
   rcases Nat.lt_or_ge j i with h1 | h1
   ·exact ho j hj h1
   ·have : j = i := by omega
    subst this;exact hall
  ·rw [← hl e, List.drop_zero, List.drop_eq_getElem_cons hil, List.flatMap_cons]
   simp only [BY, List.append_assoc]
   rfl
end
section
variable {P R X : SP} {v pv : Value} {ll : List (List Cl)} {pk : List Int} {c : Cfg}
theorem HD [L : Ls P v ll] [r : Rd P pv 1 bz pk] (c : Cfg) (hb : ∀ l ∈ ll, l.length ≤ 140737488355328) :
 Sp rg [.agg (aK c v).toArray, pv] P (fun s : Value => .tuple #[s, vi (if m0 c ll pk then 0 else 1)]) (fun s => BL P c ll pk s) := by
 refine qm fun R H h => ?_;obtain ⟨us, hvl, r1, r2⟩ := L.out;refine eD (fun r => IH _ _ H) ?_;refine bH h fun b H1 h1 => ?_;refine bx h1 ?_;refine ah h1 (akL (P := P) (v := v) (ll := ll) c hb) fun _ H2 h2 => ?_
 have bad : m0 c ll pk = false → ∀ {H : AH} {Y : SP}, ac (Y * (P * R)) H → wp (some (Value.tuple #[.slice none 0 0, vi 1], H)) fun v' H' => ∃ s : Value, v' = .tuple #[s, vi (if m0 c ll pk then 0 else 1)] ∧ ac (BL P c ll pk s * R) H' := by
  intro e H Y h;refine ay ⟨.slice none 0 0, by rw [e]; rfl, ?_⟩;unfold BL;rw [e, if_neg (by simp), aC, ac.pu];exact ⟨rfl, h.to⟩
 cases hm : j0 c ll with
 | false =>
  refine aa (jw) ?_;rw [Bool.not_false];refine gs ?_;exact bad (by unfold m0; rw [hm]; rfl) (Y := emp) h2.to
 | true =>
 refine aa (jw) ?_;rw [Bool.not_true];obtain ⟨m1, m2, m3⟩ := my hm;have hc := aT.1 m3;refine gs ?_;refine gg (s := pv) (l := pk) h2 ?_
 by_cases hk : (4000 : Int) < pk.length
 ·refine aa (Cb (iQ hk)) ?_
  refine gs ?_;exact bad (by unfold m0; rw [gm (by omega)]; simp) (Y := emp) h2.to
 refine aa (Cb (iP hk)) ?_;refine gs ?_;refine xV h2 aj ?_;refine ce h2 fun b2 H3 h3 => ?_;refine cS h3 rfl rfl fun H4 h4 => ?_;refine aL h4 aj rfl ?_;refine aa (cw (by omega) (by omega)) ?_;have a1 : (aJ c.sh.toNat).length ≤ 10 := cj (by omega);have a2 : (aJ c.sl.toNat).length ≤ 10 := cj (by omega);have a3 : (aJ c.wk.toNat).length ≤ 10 := cj (by omega);have a4 : (aJ c.wd.toNat).length ≤ 10 := cj (by omega);have a5 : (aJ c.un).length ≤ 10 := cj (by omega);have a6 : (aJ (us.length : Int).toNat).length ≤ 10 := cj (by omega);refine ah (fR 1 aG h4) (cv (.slice none 0 0) [] c.sh.toNat (by omega) (by simp)) fun s1 J1 j1 => ?_;rw [List.nil_append] at j1;refine k8 aj ?_;refine dK j1 rfl ?_;refine ci h4 j1 rfl ?_;refine aa (cw (by omega) (by omega)) ?_;refine ah j1 (cv s1 (aJ c.sh.toNat) c.sl.toNat (by omega) (by omega)) fun s2 J2 j2 => ?_;refine k8 aj ?_;refine dK j2 rfl ?_;refine ci h4 j2 rfl ?_;refine ci j1 j2 rfl ?_;refine aa (cw (by omega) (by omega)) ?_;refine ah j2 (cv s2 (aJ c.sh.toNat ++ aJ c.sl.toNat) c.wk.toNat (by omega) (by simp only [cT]; omega)) fun s3 J3 j3 => ?_;refine k8 aj ?_;refine dK j3 rfl ?_;refine ci h4 j3 rfl ?_;refine ci j1 j3 rfl ?_;refine ci j2 j3 rfl ?_;refine aa (cw (by omega) (by omega)) ?_;refine ah j3 (cv s3 (aJ c.sh.toNat ++ aJ c.sl.toNat ++ aJ c.wk.toNat) c.wd.toNat (by omega) (by simp only [cT]; omega)) fun s4 J4 j4 => ?_;refine k8 aj ?_;refine dK j4 rfl ?_;refine ci h4 j4 rfl ?_;refine ci j1 j4 rfl ?_;refine ci j2 j4 rfl ?_;refine ci j3 j4 rfl ?_;refine ah j4 (cv s4 (aJ c.sh.toNat ++ aJ c.sl.toNat ++ aJ c.wk.toNat ++ aJ c.wd.toNat) c.un (by omega) (by simp only [cT]; omega)) fun s5 J5 j5 => ?_;refine aL j5 aj rfl ?_;refine aS (s := v) (l := us) j5 ?_;refine aa (cw (by omega) (by omega)) ?_;refine ah j5 (cv s5 (aJ c.sh.toNat ++ aJ c.sl.toNat ++ aJ c.wk.toNat ++ aJ c.wd.toNat ++ aJ c.un) (us.length : Int).toNat (by omega) (by simp only [cT]; omega)) fun s6 J6 j6 => ?_;refine ae (CO _ _ _ _ _ J6) ?_;refine ae (AW _ _ _ _ _ _ J6) ?_
 have hok : m0 c ll pk = (ll.all (·.all dC) && pk.all rk) := by
  unfold m0;rw [hm, dZ (show pk.length ≤ 4000 by omega)]
  rfl
 let T := if m0 c ll pk = true then bP c ll pk else []
 have hT : T.length ≤ 90000 := by
  show (if _ then _ else _ : List Nat).length ≤ _
  split
  ·rename_i e; exact qx e
  ·simp
 refine Ik (fun v' H' hq => ?_) (Sa (X := blk b (.cells false (aK c v)) * (P * R)) (us := us) (T := T) (ok := m0 c ll pk) (c := c) inferInstance hvl (fun i h h' => by haveI := r2 i h h'; infer_instance) inferInstance hT m1 m2 (by omega) hok _ _ us.length 0 s6 (aJ c.sh.toNat ++ aJ c.sl.toNat ++ aJ c.wk.toNat ++ aJ c.wd.toNat ++ aJ c.un ++ aJ (us.length : Int).toNat) J6 (by omega) (fun j _ hj => absurd hj (by omega)) (by simp only [cT]; omega) (fun e => ?_) j6.to)
 ·obtain ⟨s, rfl, hq⟩ := hq
  refine ⟨s, rfl, ?_⟩;unfold BL
  cases e : m0 c ll pk with
  | true =>
   rw [e, if_pos rfl] at hq;rw [if_pos rfl]
   have hTe : T = bP c ll pk := by show (if _ then _ else _) = _; rw [if_pos e]
   rw [hTe] at hq;exact hq.to
  | false =>
   rw [e, if_neg (by simp), ac.pu] at hq;rw [if_neg (by simp), aC, ac.pu];exact ⟨hq.1, hq.2.to⟩
 ·have hTe : T = bP c ll pk := by show (if _ then _ else _) = _; rw [if_pos e]
  rw [hTe, List.drop_zero];unfold bP;rw [← hvl];simp only [yh, Eg, oZ, List.flatMap_cons, List.flatMap_nil, List.append_nil, List.append_assoc]
  rfl
end
theorem R9 {cl : TCls} {a b : Int} (h : b ≠ 0) : ag cl .rem (vi a) (vi b) = some (vi (a.tmod b)) := by
 simp only [ag, j9, if_true];rw [if_neg h]
section
variable {P R : SP} {H : AH} {s x y : Value} {l m : List Nat}
end
def bT (n : Int) (x : Int) : Int := if n.tmod 7 = 0 then x else bD x 64
section
variable {P R X : SP} {H : AH} {s pv : Value} {pk : List Int}
theorem Sz [r : Rd P pv 1 bz pk] (n : Int) : ∀ (d i : Nat) (s : Value) (H : AH), i + d = min pk.length 60 → ac (ts 1 bz s ((pk.take i).map (bT n)) * P) H →
 wp (lQ pv (vi n) (.slice none 0 0) s (vi i) H) fun v' H' => ∃ v : Value, v' = v ∧ ac (ts 1 bz v ((pk.take 60).map (bT n)) * P) H' := by
 intro d
 induction d with
 | zero =>
  intro i s H hi h;refine ae (rT _ _ _ _ _ H) ?_;refine aS (s := pv) (l := pk) h ?_
  have e : pk.take i = pk.take 60 := by
   by_cases hk : pk.length ≤ 60
   ·rw [List.take_of_length_le (by omega), List.take_of_length_le hk]
   ·rw [show i = 60 by omega]
  rw [e] at h
  have stop : wp (mw (.slice none 0 0) s H) fun v' H' => ∃ v : Value, v' = v ∧ ac (ts 1 bz v ((pk.take 60).map (bT n)) * P) H' := by
   refine ae (z6 _ _ H) ?_;refine ae (D9 _ _ H) ?_;exact ay ⟨s, rfl, h⟩
  by_cases hil : (i : Int) < pk.length
  ·refine aa (aW hil) ?_
   refine gs ?_;refine aa (aU (by omega)) ?_;refine gs ?_;exact stop
  ·refine aa (aU hil) ?_
   refine gs ?_;exact stop
 | succ d ih =>
  intro i s H hi h
  have hil : i < pk.length := by omega
  refine ae (rT _ _ _ _ _ H) ?_;refine aS (s := pv) (l := pk) h ?_;refine aa (aW (by omega)) ?_;refine gs ?_;refine aa (aW (by omega)) ?_;refine gs ?_;refine ae (Eb _ _ _ _ _ H) ?_
  have e : (pk.take (i + 1)).map (bT n) = (pk.take i).map (bT n) ++ [bT n pk[i]] := by
   rw [List.take_succ_eq_append_getElem hil, Ac]; rfl
  refine aa (R9 (by omega)) ?_
  by_cases h7 : n.tmod 7 = 0
  ·refine aa (cM h7) ?_
   refine gs ?_;refine bU (s := pv) (l := pk) h hil rfl ?_;refine IP h fun b0 H3 h3 => ?_;refine d8 (s := s) (pk[i] : Int) h3 rfl ?_ (by omega) fun a cc H4 h4 => ?_
   ·unfold cg; simp only [dN, List.length_take]; omega
   refine ae (rU _ _ _ _ _ H4) ?_;refine aa (aq (by omega) (by omega)) ?_;refine ih (i + 1) _ H4 (by omega) ?_;rw [e, show bT n pk[i] = pk[i] by unfold bT; rw [if_pos h7]];exact h4.to
  ·refine aa (nw h7) ?_
   refine gs ?_;refine bU (s := pv) (l := pk) h hil rfl ?_;refine ah h (aN pk[i] 64 (by omega) (by omega)) fun _ H2 h2 => ?_;refine IP h2 fun b0 H3 h3 => ?_;refine d8 (s := s) (bD pk[i] 64 : Int) h3 rfl ?_ (by omega) fun a cc H4 h4 => ?_
   ·unfold cg; simp only [dN, List.length_take]; omega
   refine ae (rU _ _ _ _ _ H4) ?_;refine aa (aq (by omega) (by omega)) ?_;refine ih (i + 1) _ H4 (by omega) ?_;rw [e, show bT n pk[i] = bD pk[i] 64 by unfold bT; rw [if_neg h7]];exact h4.to
theorem oE [r : Rd P pv 1 bz pk] (n : Int) : Sp kS [pv, vi n] P (fun v : Value => v) (fun v => ts 1 bz v ((pk.take 60).map (bT n)) * P) := by
 refine gb (Mi _ _) fun R H h => ?_;refine ae (D8 _ _ _ _ H) ?_;refine ae (Ea _ _ _ _ _ H) ?_;refine Ik (fun v' H' hq => ?_) (Sz (P := P * R) (pk := pk) n (min pk.length 60) 0 (.slice none 0 0) H (by omega) (fR 1 bz h));obtain ⟨s', rfl, hq⟩ := hq;exact ⟨v', rfl, hq.to⟩
end
section
variable {α : Type} {P R : SP} {H : AH} {e : Nat} {enc : α → List Value} {l : List α} {Q : Value → AH → Prop}
theorem Fs {b j f : Nat} {k : AH → OV} {z : Value} {xs : List Value} (y : α) [E : Enc enc e] (h : ac (blk b (.cells false (l.flatMap enc)) * R) H) (hj : j < l.length) (hf : f + 1 ≤ e) [c : BK z xs] (hn : xs.length = 1) (hx : xs.all Value.oneCell' = true) (hy : splice (enc l[j]) f xs = enc y)
 (hk : ∀ H', ac (blk b (.cells false ((l.set j y).flatMap enc)) * R) H' → wp (k H') Q) : wp (st 1 [.n, .f f] (vm b (0 + j * e)) z H k) Q := by
 have hend : Ft [.n, .f f] (vm b (0 + j * e)) b (j * e + f) := by
  intro R' k';rw [NB (eI db)];rw [Nat.zero_add]
 unfold st;have hc := c.eq;subst hc;rw [hend];have hlen := iO E.len l;have hm : (j + 1) * e ≤ l.length * e := Nat.mul_le_mul_right _ (by omega);rw [Nat.add_mul] at hm;rw [OL h (by simpa using hn) (by omega) hx, aB, DE E.len l j hj f _ (by rw [hn]; exact hf) y hy];exact hk _ (h.set (.cells false ((l.set j y).flatMap enc)))
theorem Bd {j f : Nat} [E : Enc enc e] (hj : j < l.length) (hf : f < e) : (l.flatMap enc)[0 + j * e + f]? = (enc l[j])[f]? := by
 rw [Nat.zero_add]; exact ym E.len l j hj f hf
end
def Mk (ps : List (Sv × List Cl)) (i j : Nat) : Prop := ∀ (k m : Nat) (p : Sv × List Cl) (x : Cl), ps[k]? = some p → p.2[m]? = some x → (k < i ∨ k = i ∧ m < j) → dC x = true
theorem Mk.set {ps : List (Sv × List Cl)} {i j : Nat} (h : Mk ps i j) (hi : i < ps.length) {y : Cl} (hy : dC y = true) : Mk (ps.set i ((ps[i]).1, (ps[i]).2.set j y)) i (j + 1) := by
 intro k m p x h1 h2 h3;rw [List.getElem?_set] at h1
 by_cases hk : i = k
 ·subst hk
  rw [if_pos rfl, if_pos hi] at h1;obtain rfl := kT h1;rw [List.getElem?_set] at h2
  by_cases hm : j = m
  ·rw [if_pos hm] at h2
   split at h2
   ·obtain rfl := kT h2; exact hy
   ·cases h2
  ·rw [if_neg hm] at h2
   exact h i m _ x (na hi) h2 (by omega)
 ·rw [if_neg hk] at h1
  exact h k m p x h1 h2 (by omega)
theorem Mk.next {ps : List (Sv × List Cl)} {i j : Nat} (h : Mk ps i j) (hi : i < ps.length) (hj : j = (ps[i]).2.length) : Mk ps (i + 1) 0 := by
 intro k m p x h1 h2 h3
 by_cases hk : k = i
 ·subst hk
  rw [na hi] at h1;obtain rfl := kT h1;refine h k m _ x (na hi) h2 (.inr ⟨rfl, ?_⟩);have := (Ab.1 h2).1;omega
 ·exact h k m p x h1 h2 (by omega)
theorem Mk.all {ps : List (Sv × List Cl)} {i : Nat} (h : Mk ps i 0) (hi : ps.length ≤ i) : ∀ l ∈ ps.map (·.2), ∀ x ∈ l, dC x = true := by
 intro l hl x hx;obtain ⟨p, hp, rfl⟩ := List.mem_map.1 hl;obtain ⟨k, hk, rfl⟩ := List.getElem_of_mem hp;obtain ⟨m, hm, rfl⟩ := List.getElem_of_mem hx;exact h k m _ _ (na hk) (na hm) (.inl (by omega))
theorem XH {ps : List (Sv × List Cl)} {i : Nat} (hi : i < ps.length) {q : Sv × List Cl} (hq : q.2.length = (ps[i]).2.length) : ck ((ps.set i q).map (·.2)) = ck (ps.map (·.2)) := by
 have := OO (ll := ps.map (·.2)) (i := i) (by simpa using hi) q.2;rw [List.map_set];simp only [List.getElem_map] at this;omega
section
variable {P R X : SP} {v : Value} {ll : List (List Cl)}
def yZ (P : SP) (n : Int) (y : Cfg × Sv) : SP := ex (fun ps : List (Sv × List Cl) => pu (dn y.1 = true ∧ (ps.length : Int) = y.1.wk ∧ ck (ps.map (·.2)) ≤ 60 ∧ (n.tmod 5 ≠ 0 → ∀ l ∈ ps.map (·.2), ∀ x ∈ l, dC x = true)) * jx y.2.v ps) * P
def X1 (b b4 : Nat) (c : Cfg) (pv : Sv) (ps : List (Sv × List Cl)) (X : SP) : SP := blk b (.cells false (aK c pv.v)) * (blk b4 (.cells false [vi 0, vi 0, vi 0, vi 0, vw 0, .slice none 0 0]) * (ts 1 iK pv.v (ps.map (·.1)) * (eb ps * X)))
theorem apE (x : Int) : yJ (bD x 2147483648) = true := by
 have := bV (v := x) (n := 2147483648) (by omega);unfold yJ;exact dZ (by omega)
theorem OJ {b b4 : Nat} {c : Cfg} {pv : Sv} {Q : Value → AH → Prop} {i L : Nat} (hL : L ≤ 60) (hi : i < L) {m : Nat} (next : ∀ (ps : List (Sv × List Cl)) (H : AH), ps.length = L → ck (ps.map (·.2)) = m → Mk ps (i + 1) 0 → ac (X1 b b4 c pv ps X) H → wp (qZ (vp b) (vp b4) (vi i) H) Q) : ∀ (d j : Nat) (ps : List (Sv × List Cl)) (hps : ps.length = L) (H : AH),
 j + d = (ps[i]'(by omega)).2.length → (ps[i]'(by omega)).2.length ≤ 60 → ck (ps.map (·.2)) = m → Mk ps i j → ac (X1 b b4 c pv ps X) H → wp (ki (vp b) (vp b4) (vi i) (vi j) H) Q := by
 intro d
 induction d with
 | zero =>
  intro j ps hps H hj h60 hm hk h;refine ae (pK _ _ _ _ H) ?_;have h' := h;unfold X1 at h'
  have hil : i < ps.length := by omega
  have hqm : i < (ps.map (·.1)).length := by simpa using hil
  refine aL h' aj rfl ?_;refine bU (s := pv.v) (l := ps.map fun x : Sv × List Cl => x.1) h' hqm (v := (ps[i]).1.v) (by simp) ?_;obtain ⟨Rr, e1, e2⟩ := nX hil;rw [e1] at h';refine aS (s := (ps[i]).1.v) (l := (ps[i]).2) h' ?_;refine aa (aU (by omega)) ?_;refine gs ?_;refine ae (yB _ _ _ H) ?_;exact next ps H hps hm (hk.next hil (by omega)) h
 | succ d ih =>
  intro j ps hps H hj h60 hm hk h;refine ae (pK _ _ _ _ H) ?_
  have hil : i < ps.length := by omega
  have hqm : i < (ps.map (·.1)).length := by simpa using hil
  have hjl : j < (ps[i]).2.length := by omega
  obtain ⟨Rr, e1, e2⟩ := nX hil;have h' := h;unfold X1 at h';rw [e1] at h';refine aL h' aj rfl ?_;refine bU (s := pv.v) (l := ps.map fun x : Sv × List Cl => x.1) h' hqm (v := (ps[i]).1.v) (by simp) ?_;refine aS (s := (ps[i]).1.v) (l := (ps[i]).2) h' ?_;refine aa (aW (by omega)) ?_;refine gs ?_;refine ae (Cp _ _ _ _ H) ?_;refine aL h' aj rfl ?_;refine bU (s := pv.v) (l := ps.map fun x : Sv × List Cl => x.1) h' hqm (v := (ps[i]).1.v) (by simp) ?_
  rcases rA (s := (ps[i]).1.v) (l := (ps[i]).2) h' with ⟨_, e0, _⟩ | ⟨br, hv, h2⟩
  ·rw [e0] at hjl; simp at hjl
  have hsv : (ps[i]).1.v = vs br (ps[i]).2.length 4 := hv;rw [hv];refine k8 (S7 hjl db) ?_;have c0 : (((ps[i]).2).flatMap Cl.cells)[0 + j * 4 + 0]? = some (vi ((ps[i]).2[j]).op) := Bd (enc := Cl.cells) (e := 4) hjl (by omega);have c1 : (((ps[i]).2).flatMap Cl.cells)[0 + j * 4 + 1]? = some (vi ((ps[i]).2[j]).flow) := Bd (enc := Cl.cells) (e := 4) hjl (by omega);have c2 : (((ps[i]).2).flatMap Cl.cells)[0 + j * 4 + 2]? = some (vi ((ps[i]).2[j]).a) := Bd (enc := Cl.cells) (e := 4) hjl (by omega);have c3 : (((ps[i]).2).flatMap Cl.cells)[0 + j * 4 + 3]? = some (vi ((ps[i]).2[j]).b) := Bd (enc := Cl.cells) (e := 4) hjl (by omega);refine aL h2 (NB (eI db)) c0 ?_;refine ah h2 (aN _ 2147483648 (by omega) (by omega)) fun _ J1 j1 => ?_;refine k8 (NB (eI db)) ?_;refine dK j1 c1 ?_;refine ci h2 j1 rfl ?_;refine ah j1 (aN _ 2147483648 (by omega) (by omega)) fun _ J2 j2 => ?_;refine k8 (NB (eI db)) ?_;refine dK j2 c2 ?_;refine ci h2 j2 rfl ?_;refine ci j1 j2 rfl ?_;refine ah j2 (aN _ 2147483648 (by omega) (by omega)) fun _ J3 j3 => ?_;refine k8 (NB (eI db)) ?_;refine dK j3 c3 ?_;refine ci h2 j3 rfl ?_;refine ci j1 j3 rfl ?_;refine ci j2 j3 rfl ?_;refine ah j3 (aN _ 2147483648 (by omega) (by omega)) fun _ J4 j4 => ?_;simp only [ee] at j4
  generalize hx : (ps[i]).2[j] = x at *
  generalize hl : (ps[i]).2 = l at *
  refine Fs (enc := Cl.cells) (e := 4) (l := l) (⟨bD x.op 2147483648, x.flow, x.a, x.b⟩ : Cl) j4 hjl (by omega) rfl rfl (by rw [hx]; rfl) fun K1 k1 => ?_;refine Fs (enc := Cl.cells) (e := 4) (⟨bD x.op 2147483648, bD x.flow 2147483648, x.a, x.b⟩ : Cl) k1 (by simpa using hjl) (by omega) rfl rfl (by rw [List.getElem_set_self]; rfl) fun K2 k2 => ?_;refine Fs (enc := Cl.cells) (e := 4) (⟨bD x.op 2147483648, bD x.flow 2147483648, bD x.a 2147483648, x.b⟩ : Cl) k2 (by simpa using hjl) (by omega) rfl rfl (by rw [List.getElem_set_self]; rfl) fun K3 k3 => ?_;refine Fs (enc := Cl.cells) (e := 4) (⟨bD x.op 2147483648, bD x.flow 2147483648, bD x.a 2147483648, bD x.b 2147483648⟩ : Cl) k3 (by simpa using hjl) (by omega) rfl rfl (by rw [List.getElem_set_self]; rfl) fun K4 k4 => ?_;simp only [List.set_set] at k4;refine ae (Cq _ _ _ _ K4) ?_;refine aa (aq (by omega) (by omega)) ?_;have k5 := rz (e := 4) (enc := Cl.cells) k4;rw [Ec, ← hsv] at k5
  have hy : dC ⟨bD x.op 2147483648, bD x.flow 2147483648, bD x.a 2147483648, bD x.b 2147483648⟩ = true := by
   unfold dC;simp only [apE, Bool.and_self]
  have mk := hk.set hil hy;rw [hl] at mk;have hsm := XH hil (q := ((ps[i]).1, l.set j ⟨bD x.op 2147483648, bD x.flow 2147483648, bD x.a 2147483648, bD x.b 2147483648⟩)) (by rw [hl]; simp)
  have hmap : (ps.set i ((ps[i]).1, l.set j ⟨bD x.op 2147483648, bD x.flow 2147483648, bD x.a 2147483648, bD x.b 2147483648⟩)).map (·.1) = ps.map (·.1) := by
   rw [List.map_set];refine List.ext_getElem (by simp) fun k hk1 hk2 => ?_;rw [List.getElem_set]
   split
   ·rename_i e; subst e; simp
   ·rfl
  refine ih (j + 1) (ps.set i ((ps[i]).1, l.set j ⟨bD x.op 2147483648, bD x.flow 2147483648, bD x.a 2147483648, bD x.b 2147483648⟩)) (by rw [Ec]; exact hps) K4 ?_ ?_ (by rw [hsm]; exact hm) mk ?_
  ·rw [List.getElem_set_self]; simp only [Ec]; omega
  ·rw [List.getElem_set_self]; simp only [Ec]; omega
  ·unfold X1
   rw [hmap, e2];exact k5.to
theorem oD [L : Ls P v ll] (c : Cfg) (n : Int) (hn : (ll.length : Int) < 9223372036854775808) (hb : ∀ l ∈ ll, (l.length : Int) < 9223372036854775808) :
 Sp kR [.agg (aK c v).toArray, vi n] P (fun y : Cfg × Sv => .agg (aK y.1 y.2.v).toArray) (fun y => yZ P n y) := by
 refine gb (Mh _ _) fun R H h => ?_;refine bH h fun b H1 h1 => ?_;refine ce h1 fun b4 H2 h2 => ?_;refine bx h2 ?_;refine ah h2 (Xm (P := P) (v := v) (ll := ll) c hn hb) fun y H3 h3 => ?_;obtain ⟨⟨sh, sl, wk, wd, un⟩, pv⟩ := y;rw [aC] at h3;obtain ⟨ps, h3b⟩ := ac.ex.1 h3
 clear h3
 rw [aC, ac.pu] at h3b;obtain ⟨⟨hr, hpl, hps, hsm⟩, h3c⟩ := h3b;dsimp only at hr hpl h3c;dsimp only;have hc := aT.1 hr;dsimp only at hc;refine cS h3c rfl rfl fun H4 h4 => ?_;have fin : ∀ (ps : List (Sv × List Cl)) (H : AH), (ps.length : Int) = wk → ck (ps.map (·.2)) ≤ 60 → (n.tmod 5 ≠ 0 → ∀ l ∈ ps.map (·.2), ∀ x ∈ l, dC x = true) → ac (X1 b b4 ⟨sh, sl, wk, wd, un⟩ pv ps (P * R)) H →
  wp (qY (vp b) (vp b4) H) fun v' H' => ∃ y : Cfg × Sv, v' = .agg (aK y.1 y.2.v).toArray ∧ ac (yZ P n y * R) H' := by
  intro ps H hp hs ha h;refine ae (rR _ _ H) ?_;unfold X1 at h;refine bx h ?_;refine cS h rfl rfl fun H5 h5 => ?_;refine bx h5 ?_;refine ay ⟨(⟨sh, sl, wk, wd, un⟩, pv), rfl, ?_⟩;unfold yZ;rw [aC];refine ac.ex.2 ⟨ps, ?_⟩;rw [aC];refine ac.pu.2 ⟨⟨hr, hp, hs, ha⟩, ?_⟩;unfold jx;exact h5.to
 have h5 : ac (X1 b b4 ⟨sh, sl, wk, wd, un⟩ pv ps (P * R)) H4 := by
  unfold X1;unfold jx at h4;exact h4.to
 refine aa (R9 (by omega)) ?_
 by_cases h7 : n.tmod 5 = 0
 ·refine aa (cM h7) ?_
  refine gs ?_;exact ae (rR _ _ H4).symm (fin ps H4 hpl hsm (fun h => absurd h7 h) h5)
 ·refine aa (nw h7) ?_
  refine gs ?_;refine ae (D4 _ _ H4) ?_;refine ae (D5 _ _ _ H4) ?_;have outer : ∀ (d i : Nat) (ps : List (Sv × List Cl)) (H : AH), i + d = ps.length → (ps.length : Int) = wk → ck (ps.map (·.2)) ≤ 60 → Mk ps i 0 → ac (X1 b b4 ⟨sh, sl, wk, wd, un⟩ pv ps (P * R)) H →
   wp (lP (vp b) (vp b4) (vi i) H) fun v' H' => ∃ y : Cfg × Sv, v' = .agg (aK y.1 y.2.v).toArray ∧ ac (yZ P n y * R) H' := by
   intro d
   induction d with
   | zero =>
    intro i ps H hi hp hs hk h;refine ae (rS _ _ _ H) ?_;have h' := h;unfold X1 at h';refine aL h' aj rfl ?_;refine ahN (s := pv.v) h' ?_;refine aa (aU (by simp only [dN]; omega)) ?_;refine gs ?_;refine ae (zZ _ _ H) ?_;exact fin ps H hp hs (fun _ => hk.all (by omega)) h
   | succ d ih =>
    intro i ps H hi hp hs hk h;refine ae (rS _ _ _ H) ?_;have h' := h;unfold X1 at h';refine aL h' aj rfl ?_;refine ahN (s := pv.v) h' ?_;refine aa (aW (by simp only [dN]; omega)) ?_;refine gs ?_;refine ae (D6 _ _ _ H) ?_;refine ae (Co _ _ _ _ H) ?_
    have hil : i < ps.length := by omega
    have hrow : (ps[i]).2.length ≤ 60 := by
     have := gM (ll := ps.map (·.2)) (i := i) (by simpa using hil);simp only [List.getElem_map] at this;omega
    refine OJ (L := ps.length) (i := i) (by omega) hil (m := ck (ps.map (·.2))) (fun ps' H' hp' hs' hk' h' => ?_) (ps[i]).2.length 0 ps rfl H (by omega) hrow rfl hk h;refine ae (D7 _ _ _ H') ?_;refine aa (aq (by omega) (by omega)) ?_;exact ih (i + 1) ps' H' (by omega) (by omega) (by omega) hk' h'
  exact outer ps.length 0 ps H4 (by omega) hpl hsm (fun k m p x _ _ h => by omega) h5
end
theorem ME {α : Type} (P : SP) (e : Nat) (enc : α → List Value) : Rd P (.slice none 0 0) e enc [] := ⟨fun {H} h => ⟨by simp, .inl ⟨none, 0, rfl, rfl, fun _ => rfl, fun x hx => by cases hx⟩⟩⟩
section
variable {P R X : SP} {H0 : AH} {v pv : Value} {ll : List (List Cl)} {pk : List Int}
end
theorem aj5 (ll : List (List Cl)) : RD (ll.map (·.map Yr)) = ck ll := by
 induction ll with
 | nil => rfl
 | cons l ll ih =>
  simp only [List.map_cons, RD, ih, dN];simp [ck]
theorem akD {n : Int} : yJ n = true ↔ 0 ≤ n ∧ n ≤ 2147483647 := by unfold yJ; exact decide_eq_true_iff
theorem UR {x : Cl} (h : dC x = true) : (0 ≤ x.op ∧ x.op ≤ 2147483647) ∧ (0 ≤ x.flow ∧ x.flow ≤ 2147483647) ∧ (0 ≤ x.a ∧ x.a ≤ 2147483647) ∧ 0 ≤ x.b ∧ x.b ≤ 2147483647 := by
 unfold dC at h;simp only [Bool.and_eq_true, akD] at h;exact ⟨h.1.1.1, h.1.1.2, h.1.2, h.2⟩
theorem Mu {c : Cfg} {ll : List (List Cl)} {pk : List Int} (h : m0 c ll pk = true) : (scN c ll pk).Ok := by
 obtain ⟨h1, h2, h3, h4⟩ := wq.1 h;obtain ⟨m1, m2, m3⟩ := my h1;have hc := aT.1 m3
 have hw : (ll.length : Int) ≤ c.wk := by
  unfold j0 at h1;simp only [Bool.and_eq_true, decide_eq_true_eq] at h1;exact h1.2.1
 refine ⟨?_, ?_, ?_, ?_, ?_, ?_, ?_, ?_, ?_, ?_⟩
 ·show 1 ≤ c.sh.toNat ∧ c.sh.toNat ≤ 4; omega
 ·show 1 ≤ c.sl.toNat ∧ c.sl.toNat ≤ 4; omega
 ·show 1 ≤ c.wk.toNat ∧ c.wk.toNat ≤ 6; omega
 ·show c.wd.toNat ≤ 40; omega
 ·show 1 ≤ c.un ∧ c.un ≤ 4611686018427387904; omega
 ·show (ll.map (·.map Yr)).length ≤ c.wk.toNat
  rw [dN]; omega
 ·show RD (ll.map (·.map Yr)) ≤ 60
  rw [aj5]; exact m2
 ·intro l hl x hx
  obtain ⟨l', hl', rfl⟩ := List.mem_map.1 hl;obtain ⟨x', hx', rfl⟩ := List.mem_map.1 hx;have := UR (h3 l' hl' x' hx');show x'.op.toNat ≤ 2147483647 ∧ x'.flow.toNat ≤ 2147483647 ∧ x'.a.toNat ≤ 2147483647 ∧ x'.b.toNat ≤ 2147483647;omega
 ·show (pk.map Int.toNat).length ≤ 4000
  rw [dN]; exact h2
 ·intro n hn
  obtain ⟨n', hn', rfl⟩ := List.mem_map.1 hn;have := h4 n' hn';unfold rk at this;have := of_decide_eq_true this;omega
theorem aiF {c : Cfg} (h : dn c = true) : lk (cfN c) = c := by
 have := aT.1 h;obtain ⟨sh, sl, wk, wd, un⟩ := c;dsimp only at this;simp only [lk, cfN, Cfg.mk.injEq, Int.toNat_of_nonneg (show 0 ≤ sh by omega), Int.toNat_of_nonneg (show 0 ≤ sl by omega), Int.toNat_of_nonneg (show 0 ≤ wk by omega), Int.toNat_of_nonneg (show 0 ≤ wd by omega), and_self]
theorem aiH {x : Cl} (h : dC x = true) : wT (Yr x) = x := by
 have := UR h;obtain ⟨op, fl, a, b⟩ := x;dsimp only at this;simp only [wT, Yr, Cl.mk.injEq, Int.toNat_of_nonneg (show 0 ≤ op by omega), Int.toNat_of_nonneg (show 0 ≤ fl by omega), Int.toNat_of_nonneg (show 0 ≤ a by omega), Int.toNat_of_nonneg (show 0 ≤ b by omega), and_self]
theorem aj9 {ll : List (List Cl)} (h : ∀ l ∈ ll, ∀ x ∈ l, dC x = true) : Od (ll.map (·.map Yr)) = ll := by
 unfold Od;rw [List.map_map]
 conv => rhs; rw [← List.map_id ll]
 refine List.map_congr_left fun l hl => ?_;show (l.map Yr).map wT = id l;rw [List.map_map, id]
 conv => rhs; rw [← List.map_id l]
 exact List.map_congr_left fun x hx => aiH (h l hl x hx)
theorem akI {pk : List Int} (h : ∀ n ∈ pk, rk n = true) : (pk.map Int.toNat).map (fun n : Nat => (n : Int)) = pk := by
 rw [List.map_map]
 conv => rhs; rw [← List.map_id pk]
 refine List.map_congr_left fun n hn => ?_;have := h n hn;unfold rk at this;have := of_decide_eq_true this;show ((n.toNat : Nat) : Int) = n;omega
theorem VT (s : ScN) : ∀ x ∈ dF s, x < 256 := by
 intro x hx;unfold dF rH at hx;simp only [List.mem_append, List.mem_flatMap] at hx;have k := aiP
 rcases hx with (h | h | h | h | h) | h | ⟨l, _, h⟩ | h | ⟨n, _, h⟩
 ·exact k _ _ h
 ·exact k _ _ h
 ·exact k _ _ h
 ·exact k _ _ h
 ·exact k _ _ h
 ·exact k _ _ h
 ·unfold s0 at h
  simp only [List.mem_append, List.mem_flatMap] at h
  rcases h with h | ⟨y, _, h⟩
  ·exact k _ _ h
  ·unfold Jb at h
   simp only [List.mem_append] at h
   rcases h with h | h | h | h <;> exact k _ _ h
 ·exact k _ _ h
 ·exact k _ _ h
theorem vB (c : Cfg) (ll : List (List Cl)) (pk : List Int) : ∀ x ∈ bP c ll pk, x < 256 := by
 rw [fU]; exact VT _
theorem Kf {c : Cfg} {ll : List (List Cl)} {pk : List Int} (h : m0 c ll pk = true) : bC (bP c ll pk) = .ok (scN c ll pk) := by
 rw [fU, It (Mu h)]
section
variable {R : SP}
theorem Dy {v : Value} {c : Cfg} {ll : List (List Cl)} {pk : List Int} {H : AH} (ho : m0 c ll pk = true) (r : Rd R v 1 aG (bP c ll pk)) (h : ac R H) :
 wp (FF ba [v] H) fun r H' => ∃ (sv : Sv) (ps : List (Sv × List Cl)) (pv : Value), r = .tuple #[.agg (aK c sv.v).toArray, pv, vi 0] ∧ ps.map (·.2) = ll ∧ ac (jx sv.v ps * (ts 1 bz pv pk * R)) H' := by
 obtain ⟨rv, H', e, hq⟩ := fA r (vB _ _ _) (by have := qx ho; omega) h;refine ⟨rv, H', e, ?_⟩;rw [Kf ho] at hq;unfold da at hq;obtain ⟨sv, ps, pv, rfl, h1, h2⟩ := hq;obtain ⟨o1, o2, o3, o4⟩ := wq.1 ho;obtain ⟨m1, m2, m3⟩ := my o1;have e1 : lk (scN c ll pk).c = c := aiF m3;have e2 : Od (scN c ll pk).ls = ll := aj9 o3;have e3 : (scN c ll pk).pk.map (fun n : Nat => (n : Int)) = pk := akI o4;rw [e1];rw [e2] at h1;rw [e3] at h2;exact ⟨sv, ps, pv, rfl, h1, h2⟩
end
abbrev ajY : List Value := [.string mY, .string mY, .string mY, .string mY, .string mY]
theorem ajZ {l : List Value} {o : Nat} (h : (l.drop o).take 5 = ajY) : ∀ j, j < 5 → l[o + j]? = some (.string mY) := by
 intro j hj
 have e : ((l.drop o).take 5)[j]? = ajY[j]? := by rw [h]
 rw [List.getElem?_take, if_pos hj, List.getElem?_drop] at e;rw [e]
 match j, hj with
 | 0, _ => rfl
 | 1, _ => rfl
 | 2, _ => rfl
 | 3, _ => rfl
 | 4, _ => rfl
theorem W6 {H : AH} {b o : Nat} {ro : Bool} {cs : List Value} (hH : H.get b = some (.cells ro cs)) (h5 : (cs.drop o).take 5 = ajY) : FF ue [.slice (some ⟨b, o, none⟩) 5 1, .string XG] H = some (.string Bv, H) := by
 refine dH.2 (amU (fn := Tryz.f68) Tryz.func68 (by kernel_rfl) ?_ ?_)
 ·simp only [an5, dm, hH, h5]
 ·refine XM ⟨Tryz.f68, Tryz.func68, by kernel_rfl, by decide⟩ (fun bk o c w h1 h2 h3 => ?_) hH (ajZ h5)
  exact Tryz.strings_Join bk o c [mY, mY, mY, mY, mY] XG w h1 h2 (by decide) h3 (by decide)
def Ki (x : Value) (E : EH) : Option (List Int) := match x with
 | .slice (some ⟨b, o, none⟩) n 1 => match E.get b with
  | some (.cells _ cs) => if o + n ≤ cs.length then u8s ((cs.drop o).take n) else none
  | _ => none
 | _ => none
def apI (args : List Value) (E : EH) : Option (Value × EH) := match args with
 | [x, y] => match Ki x E, Ki y E with
  | some l, some m => if l = m then some (.bool true, E) else none
  | _, _ => none
 | _ => none
def apJ (args : List Value) (E : EH) : Option (Value × EH) := match args with
 | [.int .i64 n] => if n = 0 then some (.string mY, E) else if n = 12 then some (.string amD, E) else none
 | _ => none
def apM (args : List Value) (E : EH) : Option (Value × EH) := match args with
 | [.int .u64 n, .int .i64 m] => if n = 0 ∧ m = 10 then some (.string mY, E) else none
 | _ => none
def apK (args : List Value) (E : EH) : Option (Value × EH) := match args with
 | [.slice (some ⟨b, o, none⟩) n e, .string s] => match E.get b with
  | some (.cells _ cs) => if n = 5 ∧ e = 1 ∧ s = XG ∧ Gm (eqV 0) ((cs.drop o).take 5) ajY = true then some (.string Bv, E) else none
  | _ => none
 | _ => none
def apL (args : List Value) (E : EH) : Option (Value × EH) := match args with
 | [.slice none 0 0] => (E.push (.cells false zeroP)).bind fun E => (E.push (.cells false [.slice none 0 0])).bind fun E => (E.push (.cells false [vi 12])).bind fun E => (E.push (.cells false [.slice none 0 0])).bind fun E => (E.push (.cells false zeroP)).bind fun E => (E.push (.cells false zeroP)).map fun E => (.tuple #[.agg zeroP.toArray, .slice none 0 0, vi 12], E)
 | _ => none
def orc : TF := fun f args E => if f = Af then apI args E else if f = mB then apJ args E else if f = fK then apM args E else if f = ue then apK args E else if f = gD then apL args E else none
section
variable {d : Nat} {F : List AObj} {E : EH} {H : AH}
theorem agX {k : IntKind} {n : Int} : aY 4 d (.int k n) = .int k n := by simp [aY]
theorem aqN {b : Bool} : aY 4 d (.bool b) = .bool b := by simp [aY]
theorem XD {b : ByteArray} : aY 4 d (.string b) = .string b := by simp [aY]
theorem aqO : aY 4 d (.slice none 0 0) = .slice none 0 0 := by simp [aY]
theorem amC {b o n e : Nat} : aY 4 d (.slice (some ⟨b, o, none⟩) n e) = .slice (some ⟨Bs 4 d b, o, none⟩) n e := by simp [aY, C7]
theorem aoQ : ∀ {l : List Value} {ns : List Int}, u8s l = some ns → eB 4 d l = l := by
 intro l
 induction l with
 | nil => intro ns h; rfl
 | cons a l ih =>
  intro ns h;unfold u8s at h
  split at h
  ·rename_i e; cases e
  ·rename_i n l' e
   obtain ⟨rfl, rfl⟩ := List.cons.inj e;obtain ⟨m, hm, _⟩ := au.1 h;rw [eB, List.map_cons];have := ih hm;rw [eB] at this;rw [this, agX]
  ·cases h
theorem I5 (hR : HR 4 d F E H) {x : Value} {ns : List Int} (h : Ki x E = some ns) : kj (aY 4 d x) H = some (.string (DF ns)) := by
 unfold Ki at h
 split at h
 ·rename_i b o n
  split at h
  ·rename_i ro cs hb
   split at h
   ·rename_i hle
    have hg := hR.get b;rw [hb] at hg;have hs := aoQ (d := d) h;rw [amC];unfold kj
    by_cases h0 : n = 0
    ·subst h0
     simp only [if_true];rw [List.take_zero] at h
     have : ns = [] := by cases h; rfl
     subst this
     rfl
    ·simp only [h0, if_false, if_true]
     have : aQ n (.pointer (some ⟨Bs 4 d b, o, none⟩)) H = some (.agg ((cs.drop o).take n).toArray) := by
      simp only [aQ, uk, dm, aB, hg, ff];show (if o + n ≤ (eB 4 d cs).length then some (Value.agg (((eB 4 d cs).drop o).take n).toArray) else none) = _;rw [if_pos (by rw [eB, dN]; exact hle)];rw [eB, ← List.map_drop, ← List.map_take];rw [eB] at hs;rw [hs]
     rw [this];show (u8s ((cs.drop o).take n).toArray.toList).map _ = _;rw [show ((cs.drop o).take n).toArray.toList = (cs.drop o).take n from rfl, h]
     rfl
   ·cases h
  ·cases h
 ·cases h
theorem akE (hd : F.length = d) : lO 4 d F orc (aF PP [3]) := by
 intro E H f args hR v E' h;unfold orc at h
 split at h
 ·rename_i hf; subst hf
  unfold apI at h
  split at h
  ·rename_i x y
   split at h
   ·rename_i l m hl hm
    split at h
    ·rename_i e; subst e
     cases h;refine ⟨H, JY.1 (IB _ _ H ?_), hR⟩;rw [I5 hR hl, I5 hR hm];simp only [aB]
     have : ag .other .eql (.string (DF l)) (.string (DF l)) = some (vb true) := by
      simp only [ag, Xg]
      have : (DF l == DF l) = true := by
       show ((DF l).data == (DF l).data) = true;simp
      rw [this]
     rw [this, aqN]; rfl
    ·cases h
   ·cases h
  ·cases h
 split at h
 ·rename_i hf; subst hf
  unfold apJ at h
  split at h
  ·split at h
   ·rename_i e; subst e
    cases h;refine ⟨H, ?_, hR⟩;rw [eB, List.map_cons, List.map_nil, agX, XD];exact UL (by omega) (by omega) (U7 H)
   split at h
   ·rename_i e; subst e
    cases h;refine ⟨H, ?_, hR⟩;rw [eB, List.map_cons, List.map_nil, agX, XD];exact UL (by omega) (by omega) (ag7 H)
   ·cases h
  ·cases h
 split at h
 ·rename_i hf; subst hf
  unfold apM at h
  split at h
  ·split at h
   ·rename_i e
    obtain ⟨rfl, rfl⟩ := e;cases h;refine ⟨H, ?_, hR⟩;rw [eB, List.map_cons, List.map_cons, List.map_nil, agX, agX, XD];exact aj3
   ·cases h
  ·cases h
 split at h
 ·rename_i hf; subst hf
  unfold apK at h
  split at h
  ·rename_i b o n e s
   split at h
   ·rename_i ro cs hb
    split at h
    ·rename_i e
     obtain ⟨rfl, rfl, rfl, e⟩ := e;have e := yj (B0 0) _ _ e;cases h;have hg := hR.get b;rw [hb] at hg;refine ⟨H, ?_, hR⟩;rw [eB, List.map_cons, List.map_cons, List.map_nil, amC, XD, XD];refine W6 (cs := eB 4 d cs) (ro := ro) hg ?_;rw [eB, ← List.map_drop, ← List.map_take, e];simp only [List.map_cons, List.map_nil, XD]
    ·cases h
   ·cases h
  ·cases h
 split at h
 ·rename_i hf; subst hf
  unfold apL at h
  split at h
  ·obtain ⟨E1, h1, h⟩ := ai.1 h
   obtain ⟨E2, h2, h⟩ := ai.1 h;obtain ⟨E3, h3, h⟩ := ai.1 h;obtain ⟨E4, h4, h⟩ := ai.1 h;obtain ⟨E5, h5, h⟩ := ai.1 h;obtain ⟨E6, h6, h⟩ := au.1 h;cases h;have k6 := (((((hR.push h1).push h2).push h3).push h4).push h5).push h6;refine ⟨ap H [.cells false zeroP, .cells false [.slice none 0 0], .cells false [vi 12], .cells false [.slice none 0 0], .cells false zeroP, .cells false zeroP], ?_, ?_⟩
   ·have eT : aY 4 d (.tuple #[.agg zeroP.toArray, .slice none 0 0, vi 12]) = .tuple #[.agg zeroP.toArray, .slice none 0 0, vi 12] := by simp [aY]
    rw [eB, List.map_cons, List.map_nil, aqO, eT];exact agU H
   have e : ∀ (A B C D E F : AObj), ap H [A, B, C, D, E, F] = (((((H.push A).push B).push C).push D).push E).push F := by
    intro A B C D E F;simp only [ap, AH.push, List.append_assoc]
    rfl
   rw [e]
   have z1 : Il 4 d (.cells false zeroP) = .cells false zeroP := by simp [Il, aY]
   have z2 : Il 4 d (.cells false [.slice none 0 0]) = .cells false [.slice none 0 0] := by simp [Il, aY]
   have z3 : Il 4 d (.cells false [vi 12]) = .cells false [vi 12] := by simp [Il, aY]
   rw [z1, z2, z3] at k6;exact k6
  ·cases h
 ·cases h
end
def tabC : List Value := [0,1,56,2,57,49,28,3,61,58,42,50,38,29,17,4,62,47,59,36,45,43,51,22,53,39,33,30,24,18,12,5,63,55,48,27,60,41,37,16,46,35,44,21,52,32,23,11,54,26,40,15,34,20,31,10,25,14,19,9,13,8,7,6].map fun n => .int .u8 n
theorem Vx : RR tabC (Db Tryz.prog [3] [52, 338] orc 100000 60 14 [] (HY tabC)) = true := by decide +kernel
abbrev ITy : Ty := .int .i64
abbrev CfgTy : Ty := .pair ITy (.pair ITy (.pair ITy (.pair ITy (.pair (.int .u64) .unit))))
abbrev ClTy : Ty := .pair ITy (.pair ITy (.pair ITy (.pair ITy .unit)))
def ahB (x : ClTy.I) : Cl := ⟨x.1, x.2.1, x.2.2.1, x.2.2.2.1⟩
theorem amW {H : AH} {x : ClTy.I} {cs : List Value} (h : Abs H ClTy x cs) : cs = Cl.cells (ahB x) := by
 obtain ⟨c1, c2, rfl, h1, c3, c4, rfl, h2, c5, c6, rfl, h3, c7, c8, rfl, h4, h5⟩ := h;have h5 : c8 = [] := h5;rw [h1.1, h2.1, h3.1, h4.1, h5]
 rfl
theorem Kd {H : AH} {x : CfgTy.I} {cs : List Value} (h : Abs H CfgTy x cs) : ∃ c : Cfg, cs = Cfg.cells c := by
 obtain ⟨c1, c2, rfl, h1, c3, c4, rfl, h2, c5, c6, rfl, h3, c7, c8, rfl, h4, c9, c10, rfl, h5, h6⟩ := h;have h6 : c10 = [] := h6;obtain ⟨e5, hw⟩ := h5
 have : 0 ≤ x.2.2.2.2.1 ∧ x.2.2.2.2.1 ≤ 18446744073709551615 := by simpa [Lit.wf, IntKind.has, IntKind.min, IntKind.max, IntKind.bits, IntKind.signed] using hw
 refine ⟨⟨x.1, x.2.1, x.2.2.1, x.2.2.2.1, x.2.2.2.2.1.toNat⟩, ?_⟩;rw [h1.1, h2.1, h3.1, h4.1, e5, h6];show _ = [vi x.1, vi x.2.1, vi x.2.2.1, vi x.2.2.2.1, .int .u64 ((x.2.2.2.2.1.toNat : Nat) : Int)];rw [Int.toNat_of_nonneg this.1]
 rfl
theorem O8 {H0 : AH} {v : Value} {l : List ClTy.I} (h : Abs H0 (.slice ClTy) l [v]) : Rd (cq H0) v 4 Cl.cells (l.map ahB) := by
 have E : Enc (fun x : ClTy.I => Cl.cells (ahB x)) ClTy.w := ⟨fun _ => rfl, fun _ => rfl, by decide⟩;have r := Rd.arg (t := ClTy) (enc := fun x => Cl.cells (ahB x)) (E := E) (fun x c hx => amW hx) h;refine ⟨fun {H} hh => ?_⟩;have := r.rd hh;rw [List.flatMap_map, dN];exact this
theorem akQ {H0 : AH} {t : Ty} {L : List (List t.I)} {row : List Value} (h : iB (Abs H0 (.slice t)) L row) : ∃ us : List Sv, row = us.flatMap iK ∧ us.length = L.length ∧ ∀ i (h : i < us.length) (h' : i < L.length), Abs H0 (.slice t) L[i] [(us[i]).v] := by
 induction h with
 | nil => exact ⟨[], rfl, rfl, fun i h => by simp at h⟩
 | @cons x l c cs h1 _ ih =>
  obtain ⟨us, rfl, h2, h3⟩ := ih
  have : ∃ s : Sv, c = [s.v] := by
   rcases h1 with ⟨_, rfl⟩ | ⟨_, b, rfl⟩ | ⟨b, row, _, rfl, _⟩
   ·exact ⟨⟨none, 0, 0⟩, rfl⟩
   ·exact ⟨⟨_, _, _⟩, rfl⟩
   ·exact ⟨⟨_, _, _⟩, rfl⟩
  obtain ⟨s, rfl⟩ := this;refine ⟨s :: us, rfl, by simp [h2], fun i h h' => ?_⟩
  cases i with
  | zero => exact h1
  | succ i => exact h3 i (by simpa using h) (by simpa using h')
theorem O9 {H0 : AH} {v : Value} {L : List (List ClTy.I)} (h : Abs H0 (.slice (.slice ClTy)) L [v]) : Ls (cq H0) v (L.map fun l => l.map ahB) ∧ ∀ l ∈ L, ∃ s : Sv, Abs H0 (.slice ClTy) l [s.v] := by
 have key : ∃ us : List Sv, us.length = L.length ∧ Rd (cq H0) v 1 iK us ∧ ∀ i (h : i < us.length) (h' : i < L.length), Abs H0 (.slice ClTy) L[i] [(us[i]).v] := by
  rcases h with ⟨rfl, e⟩ | ⟨rfl, b, e⟩ | ⟨b, row, h1, e, h3, _⟩
  ·obtain rfl : v = .slice none 0 0 := by simpa using e
   exact ⟨[], rfl, ⟨fun {H} hH => ⟨rfl, .inl ⟨none, 0, rfl, rfl, fun _ => rfl, fun x hx => by cases hx⟩⟩⟩, fun i h => by simp at h⟩
  ·obtain rfl : v = .slice (some ⟨b, 0, none⟩) 0 0 := by simpa using e
   exact ⟨[], rfl, ⟨fun {H} hH => ⟨rfl, .inl ⟨_, 0, rfl, rfl, (fun h => by cases h), fun x hx => ⟨b, 0, (kT hx).symm⟩⟩⟩⟩, fun i h => by simp at h⟩
  ·obtain rfl : v = .slice (some ⟨b, 0, none⟩) L.length 1 := by simpa [Ty.w] using e
   obtain ⟨us, rfl, h4, h5⟩ := akQ h3;refine ⟨us, h4, ⟨fun {H} hH => ?_⟩, h5⟩;have hl := iO (enc := iK) (e := 1) (fun _ => rfl) us;refine ⟨hl, .inr ⟨b, 0, true, _, by rw [h4], (Fx.refl H0).fx hH b _ h1, by omega, ?_⟩⟩;rw [List.drop_zero, ← hl, List.take_length]
 obtain ⟨us, h1, h2, h3⟩ := key;refine ⟨⟨us, by simp [h1], h2, fun i h h' => ?_⟩, fun l hl => ?_⟩
 ·rw [List.getElem_map]
  exact O8 (h3 i h (by simpa using h'))
 ·obtain ⟨i, hi, rfl⟩ := List.mem_iff_getElem.1 hl
  exact ⟨us[i]'(by omega), h3 i (by omega) hi⟩
theorem vx {H0 : AH} {v : Value} {l : List Int} (h : Abs H0 (.slice (.int .i64)) l [v]) : Rd (cq H0) v 1 bz l :=
 Rd.arg (t := .int .i64) (enc := bz) (E := inferInstanceAs (Enc bz 1)) (fun x c h => h.1) h
structure Tab4 (H0 : AH) : Prop where
 d0 : H0.get 0 = some .dead
 d1 : H0.get 1 = some .dead
 d2 : H0.get 2 = some .dead
 t3 : H0.get 3 = some (.cells true tabC)
theorem Tab4.objs {H : AH} (h : Tab4 H) : ∃ F, H.objs = [.dead, .dead, .dead, .cells true tabC] ++ F := by
 obtain ⟨objs⟩ := H;obtain ⟨h0, h1, h2, h3⟩ := h;simp only [AH.get] at h0 h1 h2 h3
 match objs, h0, h1, h2, h3 with
 | a :: b :: c :: d :: F, h0, h1, h2, h3 =>
  simp at h0 h1 h2 h3;subst h0 h1 h2 h3;exact ⟨F, rfl⟩
theorem l7 {H0 : AH} (hT : Tab4 H0) : Sp bB [] (cq H0) (fun _ : Unit => vb true) (fun _ => cq H0) := by
 refine qm fun R H h => ?_;have hf : ∀ b o, H0.get b = some o → H.get b = some o := (Fx.refl H0).fx h.left;have h4 : Tab4 H := ⟨hf _ _ hT.d0, hf _ _ hT.d1, hf _ _ hT.d2, hf _ _ hT.t3⟩;obtain ⟨F, hF⟩ := h4.objs
 obtain ⟨H', e, hs, hg⟩ := Nq (P := Tryz.prog) (D := [52, 338]) (O := orc) (N := 100000) (k := 60) (f := 14) (tab := tabC) (fun k hk => by
  rcases Mj.1 hk with rfl | hk
  ·exact Ch
  ·rw [List.mem_singleton.1 hk]; exact afN) (fun F => akE rfl) (by decide) Vx hF
 refine ⟨vb true, H', e, (), rfl, ?_⟩;obtain ⟨h1, h2, h3⟩ := h;exact ⟨h1, h2, fun i o hi => by rw [hg i (AH.lt_of_get (h3 i o hi))]; exact h3 i o hi⟩
abbrev PlanTy : Ty := .pair CfgTy (.pair (.slice (.slice ClTy)) .unit)
theorem Cx {H0 : AH} {xp : PlanTy.I} {cp : List Value} (hp : Abs H0 PlanTy xp cp) (hs : oR PlanTy xp) : ∃ (c : Cfg) (v : Value) (ll : List (List Cl)), cp = aK c v ∧ Ls (cq H0) v ll ∧ (ll.length : Int) < 9223372036854775808 ∧ ∀ l ∈ ll, l.length ≤ 140737488355328 := by
 obtain ⟨c1, c2, rfl, h1, c3, c4, rfl, h2, h3⟩ := hp;have h3 : c4 = [] := h3;obtain ⟨c, rfl⟩ := Kd h1
 have hv : ∃ v, c3 = [v] := by
  rcases h2 with ⟨_, rfl⟩ | ⟨_, b, rfl⟩ | ⟨b, row, _, rfl, _⟩ <;> exact ⟨_, rfl⟩
 obtain ⟨v, rfl⟩ := hv;subst h3;obtain ⟨hl, hi⟩ := O9 h2
 have hm : maxLen = 9223372036854775807 := by decide
 have hr : reachBytes = 140737488351232 := by decide
 refine ⟨c, v, _, rfl, hl, ?_, fun l hl' => ?_⟩
 ·have := aiA h2
  simp only [dN];omega
 ·obtain ⟨l0, h0, rfl⟩ := List.mem_map.1 hl'
  have := (hs.2.1.2 l0 h0).1;simp only [dN];omega
theorem Ha (c : Cfg) : ag (.flat 5) .eql (.agg (Cfg.cells c).toArray) (.agg (Cfg.cells c).toArray) = some (vb true) := by
 show (rn (.flat 5) (.agg #[vi c.sh, vi c.sl, vi c.wk, vi c.wd, vu c.un]) (.agg #[vi c.sh, vi c.sl, vi c.wk, vi c.wd, vu c.un])).map (fun b => Value.bool b) = _;simp only [rn];rw [if_pos ⟨rfl, rfl⟩];simp [bm]
theorem Mm (P : SP) : Ls P (.slice none 0 0) [] := ⟨[], rfl, ME P 1 iK, fun i h => by simp at h⟩
theorem OE {H0 : AH} (hA : Sp bB [] (cq H0) (fun _ : Unit => vb true) (fun _ => cq H0)) {unit : Nat} (hu : unit < 18446744073709551616) (c : Cfg) :
 ∃ H', FF fv [vu unit, .agg (Cfg.cells c).toArray] H0 = some (vb true, H') := by
 have key : wp (FF fv [vu unit, .agg (Cfg.cells c).toArray] H0) fun v' _ => v' = vb true := by
  refine eD (fun r => yA _ _ H0) ?_;refine bH (jW H0) fun b H1 h1 => ?_;refine bx h1 ?_;refine ah h1 (uq c) fun c' H2 h2 => ?_;obtain ⟨hr, h2'⟩ := ac.pu.1 h2;obtain ⟨sh, sl, wk, wd, un⟩ := c';have hc := aT.1 hr;dsimp only at hc;refine cS h2' rfl rfl fun H3 h3 => ?_;refine gN h3 aj rfl rfl fun H4 h4 => ?_;refine bx h4 ?_;refine xW (cs := aK ⟨sh, sl, wk, wd, unit⟩ (.slice none 0 0)) rfl ?_;refine ce h4 fun b2 H5 h5 => ?_;refine cS h5 rfl rfl fun H6 h6 => ?_;refine bx h6 ?_
  haveI := Mm (cq H0)
  haveI := ME (cq H0) 1 bz
  refine ah h6 (de (P := cq H0) (v := .slice none 0 0) (pv := .slice none 0 0) (ll := []) (pk := []) ⟨sh, sl, wk, wd, unit⟩ (by simp) (fun _ l hl => by cases hl)) fun s1 H7 h7 => ?_;refine aa (v := s1) rfl ?_;refine aa (v := vi (if m0 ⟨sh, sl, wk, wd, unit⟩ [] [] then 0 else 1)) rfl ?_;unfold BL at h7
  have hok : m0 ⟨sh, sl, wk, wd, unit⟩ [] [] = decide (1 ≤ unit ∧ unit ≤ 4611686018427387904) := by
   have e1 : dn ⟨sh, sl, wk, wd, unit⟩ = decide (1 ≤ unit ∧ unit ≤ 4611686018427387904) := by
    by_cases h : 1 ≤ unit ∧ unit ≤ 4611686018427387904
    ·rw [dZ h]
     exact aT.2 (by dsimp only; omega)
    ·rw [gm h]
     cases hb : dn ⟨sh, sl, wk, wd, unit⟩ with
     | false => rfl
     | true => have := aT.1 hb; dsimp only at this; omega
   have e2 : decide ((([] : List (List Cl)).length : Int) ≤ wk ∧ ck [] ≤ 60) = true := dZ ⟨by simp; omega, by decide⟩
   have e3 : j0 ⟨sh, sl, wk, wd, unit⟩ [] = decide (1 ≤ unit ∧ unit ≤ 4611686018427387904) := by
    unfold j0;rw [e1, e2, Bool.and_true]
   unfold m0;rw [e3];simp
  by_cases h : 1 ≤ unit ∧ unit ≤ 4611686018427387904
  ·have ho := hok.trans (dZ h)
   rw [ho, if_pos rfl] at h7;rw [ho];refine aa (aU (by omega)) ?_;refine gs ?_;refine aa (iP (by omega)) ?_;refine gs ?_;obtain ⟨rv, H8, e8, sv, ps, pv, rfl, hps, h8⟩ := Dy (R := ts 1 aG s1 (bP ⟨sh, sl, wk, wd, unit⟩ [] []) * (cq H0 * (blk b2 (.cells false (aK ⟨sh, sl, wk, wd, unit⟩ (.slice none 0 0))) * blk b (.cells false [vi sh, vi sl, vi wk, vi wd, vu unit])))) ho (v := s1) inferInstance (h7.to);rw [e8, aB];refine aa (v := .agg (aK ⟨sh, sl, wk, wd, unit⟩ sv.v).toArray) rfl ?_;refine aa (v := pv) rfl ?_;refine aa (v := vi 0) rfl ?_;have hnil : ps = [] := List.map_eq_nil_iff.1 hps;subst hnil;unfold jx at h8;refine ce h8 fun b3 H9 h9 => ?_;refine cS h9 rfl rfl fun H10 h10 => ?_;refine ah h10 hA fun _ H11 h11 => ?_;refine gs ?_;refine aa (cM rfl) ?_;refine gs ?_;refine aa (cM rfl) ?_;refine gs ?_;refine xV h11 aj ?_;refine gs ?_;refine bx h11 ?_;refine aa (Ha ⟨sh, sl, wk, wd, unit⟩) ?_;refine gs ?_;refine aL h11 aj rfl ?_;refine gs ?_;refine gg (s := sv.v) h11 ?_;refine gs ?_;refine aa (cM rfl) ?_;refine gs ?_;refine gg (s := pv) h11 ?_;refine gs ?_;refine aa (cM rfl) ?_;refine gs ?_;exact ay rfl
  ·have ho := hok.trans (gm h)
   rw [ho, if_neg (by simp), aC] at h7;obtain ⟨rfl, h7'⟩ := ac.pu.1 h7;rw [ho];have tail : ∀ {k : Value × AH → OV}, (∀ H', wp (k (vb true, H')) fun v' _ => v' = vb true) → wp ((FF bB [] H7).bind k) fun v' _ => v' = vb true := fun {k} hk => ah h7' hA fun _ H8 h8 => hk H8
   by_cases h1 : (unit : Int) < 1
   ·refine aa (aW h1) ?_
    refine gs ?_;refine tail fun H8 => ?_;refine gs ?_;refine aa (cM rfl) ?_;refine gs ?_;refine aa (v := vi 0) rfl ?_;refine gs ?_;refine aa (cM rfl) ?_;refine gs ?_;exact ay rfl
   ·refine aa (aU h1) ?_
    refine gs ?_;refine aa (iQ (by omega)) ?_;refine gs ?_;refine tail fun H8 => ?_;refine gs ?_;refine aa (cM rfl) ?_;refine gs ?_;refine aa (v := vi 0) rfl ?_;refine gs ?_;refine aa (cM rfl) ?_;refine gs ?_;exact ay rfl
 obtain ⟨v', H', e, rfl⟩ := key;exact ⟨H', e⟩
theorem scriptUnits_args {H0 : AH} (hT : Tab4 H0) {unit : Nat} (hu : unit < 18446744073709551616) {x : CfgTy.I} {cs : List Value} (h : Abs H0 CfgTy x cs) :
 ∃ H', FF fv [vu unit, .agg cs.toArray] H0 = some (vb true, H') := by
 obtain ⟨c, rfl⟩ := Kd h;exact OE (l7 hT) hu c
theorem Rx (x : Cl) : ag (.flat 4) .eql (.agg (Cl.cells x).toArray) (.agg (Cl.cells x).toArray) = some (vb true) := by
 show (rn (.flat 4) (.agg #[vi x.op, vi x.flow, vi x.a, vi x.b]) (.agg #[vi x.op, vi x.flow, vi x.a, vi x.b])).map (fun b => Value.bool b) = _;simp only [rn];rw [if_pos ⟨rfl, rfl⟩];simp [bm]
theorem RX (x : Cl) : Sp bQ [.agg (Cl.cells x).toArray, .agg (Cl.cells x).toArray] emp (fun _ : Unit => vb true) (fun _ => emp) := by
 refine gb (pB _ _) fun R H h => ?_;refine bH h fun b H1 h1 => ?_;refine bH h1 fun b2 H2 h2 => ?_;refine bx h2 ?_;refine bx h2 ?_;refine aa (Rx x) ?_;exact ay ⟨(), rfl, h2.right.right⟩
theorem Xi (x : Int) : Sp dd [vi x, vi x] emp (fun _ : Unit => vb true) (fun _ => emp) := by
 refine gb (yp _ _) fun R H h => ?_;refine aa (cM rfl) ?_;exact ay ⟨(), rfl, h⟩
section
variable {P : SP} {v v' : Value}
theorem MG {l : List Cl} [r1 : Rd P v 4 Cl.cells l] [r2 : Rd P v' 4 Cl.cells l] (hl : (l.length : Int) < 9223372036854775807) : Sp q8 [v, v', .func (.func bQ) #[] #[]] P (fun _ : Unit => vb true) (fun _ => P) := by
 refine gb (Iv _ _ _) fun R H h => ?_;refine aS (s := v) (l := l) h ?_;refine aS (s := v') (l := l) h ?_;refine aa (fL rfl) ?_;refine gs ?_;refine ae (Cc _ _ _ _ H) ?_;refine ae (Ce _ _ _ _ _ H) ?_
 have loop : ∀ (d i : Nat) (H : AH), i + d = l.length → ac (P * R) H → wp (kg v v' (.func (.func bQ) #[] #[]) (vb false) (vi i) H) fun v' H' => ∃ x : Unit, v' = vb true ∧ ac (P * R) H' := by
  intro d
  induction d with
  | zero =>
   intro i H hi h;refine ae (pA _ _ _ _ _ H) ?_;refine aS (s := v) (l := l) h ?_;refine aa (aU (by omega)) ?_;refine gs ?_;refine ae (yo _ H) ?_;refine ae (Cd _ H) ?_;exact ay ⟨(), rfl, h⟩
  | succ d ih =>
   intro i H hi h
   have hil : i < l.length := by omega
   refine ae (pA _ _ _ _ _ H) ?_;refine aS (s := v) (l := l) h ?_;refine aa (aW (by omega)) ?_;refine gs ?_;refine ae (Cf _ _ _ _ _ H) ?_;refine Df (s := v) (l := l) h hil ?_;refine Df (s := v') (l := l) h hil ?_;show wp ((FF bQ [.agg (Cl.cells l[i]).toArray, .agg (Cl.cells l[i]).toArray] H).bind _) _;refine ah h (RX l[i]) fun _ H2 h2 => ?_;refine gs ?_;refine ae (Cg _ _ _ _ _ H2) ?_;refine aa (aq (by omega) (by omega)) ?_;exact ih (i + 1) H2 (by omega) h2.to
 exact loop l.length 0 H (by omega) h
theorem JL {l : List Int} [r1 : Rd P v 1 bz l] [r2 : Rd P v' 1 bz l] (hl : (l.length : Int) < 9223372036854775807) : Sp lc [v, v'] P (fun _ : Unit => vb true) (fun _ => P) := by
 have key : Sp mz [v, v', .func (.func dd) #[] #[]] P (fun _ : Unit => vb true) (fun _ => P) := by
  refine gb (DZ _ _ _) fun R H h => ?_;refine aS (s := v) (l := l) h ?_;refine aS (s := v') (l := l) h ?_;refine aa (fL rfl) ?_;refine gs ?_;refine ae (yq _ _ _ _ H) ?_;refine ae (yu _ _ _ _ _ H) ?_
  have loop : ∀ (d i : Nat) (H : AH), i + d = l.length → ac (P * R) H → wp (gQ v v' (.func (.func dd) #[] #[]) (vb false) (vi i) H) fun v' H' => ∃ x : Unit, v' = vb true ∧ ac (P * R) H' := by
   intro d
   induction d with
   | zero =>
    intro i H hi h;refine ae (mi _ _ _ _ _ H) ?_;refine aS (s := v) (l := l) h ?_;refine aa (aU (by omega)) ?_;refine gs ?_;refine ae (tR _ H) ?_;refine ae (yr _ H) ?_;exact ay ⟨(), rfl, h⟩
   | succ d ih =>
    intro i H hi h
    have hil : i < l.length := by omega
    refine ae (mi _ _ _ _ _ H) ?_;refine aS (s := v) (l := l) h ?_;refine aa (aW (by omega)) ?_;refine gs ?_;refine ae (yw _ _ _ _ _ H) ?_;refine bU (s := v) (l := l) h hil rfl ?_;refine bU (s := v') (l := l) h hil rfl ?_;show wp ((FF dd [vi l[i], vi l[i]] H).bind _) _;refine ah h (Xi l[i]) fun _ H2 h2 => ?_;refine gs ?_;refine ae (yx _ _ _ _ _ H2) ?_;refine aa (aq (by omega) (by omega)) ?_;exact ih (i + 1) H2 (by omega) h2.to
  exact loop l.length 0 H (by omega) h
 refine gb (Ci _ _) fun R H h => ?_;refine ah h key fun _ H2 h2 => ?_;exact ay ⟨(), rfl, h2.to⟩
theorem Si {l : List Cl} [r1 : Rd P v 4 Cl.cells l] [r2 : Rd P v' 4 Cl.cells l] (hl : (l.length : Int) < 9223372036854775807) : Sp cu [v, v'] P (fun _ : Unit => vb true) (fun _ => P) := by
 refine gb (sr _ _) fun R H h => ?_;refine ah h (MG (P := P) (v := v) (v' := v') (l := l) hl) fun _ H2 h2 => ?_;exact ay ⟨(), rfl, h2.to⟩
theorem Sj {ll : List (List Cl)} [L : Ls P v ll] [L' : Ls P v' ll] (hn : (ll.length : Int) < 9223372036854775807) (hb : ∀ l ∈ ll, (l.length : Int) < 9223372036854775807) : Sp Cs [v, v', .func (.func cu) #[] #[]] P (fun _ : Unit => vb true) (fun _ => P) := by
 refine qm fun R H h => ?_;obtain ⟨us, hul, r1, q1⟩ := L.out;obtain ⟨us', hul', r2, q2⟩ := L'.out;refine eD (fun r => RB _ _ _ H) ?_;refine aS (s := v) (l := us) h ?_;refine aS (s := v') (l := us') h ?_;refine aa (fL (by omega)) ?_;refine gs ?_;refine ae (Iw _ _ _ _ H) ?_;refine ae (Iy _ _ _ _ _ H) ?_
 have loop : ∀ (d i : Nat) (H : AH), i + d = ll.length → ac (P * R) H → wp (qJ v v' (.func (.func cu) #[] #[]) (vb false) (vi i) H) fun v' H' => ∃ x : Unit, v' = vb true ∧ ac (P * R) H' := by
  intro d
  induction d with
  | zero =>
   intro i H hi h;refine ae (xc _ _ _ _ _ H) ?_;refine aS (s := v) (l := us) h ?_;refine aa (aU (by omega)) ?_;refine gs ?_;refine ae (DY _ H) ?_;refine ae (Ix _ H) ?_;exact ay ⟨(), rfl, h⟩
  | succ d ih =>
   intro i H hi h
   have hil : i < ll.length := by omega
   have hiu : i < us.length := by omega
   have hiu' : i < us'.length := by omega
   haveI := q1 i hiu hil
   haveI := q2 i hiu' hil
   refine ae (xc _ _ _ _ _ H) ?_;refine aS (s := v) (l := us) h ?_;refine aa (aW (by omega)) ?_;refine gs ?_;refine ae (Iz _ _ _ _ _ H) ?_;refine bU (s := v) (l := us) h hiu rfl ?_;refine bU (s := v') (l := us') h hiu' rfl ?_;show wp ((FF cu [(us[i]).v, (us'[i]).v] H).bind _) _;refine ah h (Si (P := P) (v := (us[i]).v) (v' := (us'[i]).v) (l := ll[i]) (hb _ (tY hil))) fun _ H2 h2 => ?_;refine gs ?_;refine ae (IA _ _ _ _ _ H2) ?_;refine aa (aq (by omega) (by omega)) ?_;exact ih (i + 1) H2 (by omega) h2.to
 exact loop ll.length 0 H (by omega) h
theorem wv {ll : List (List Cl)} [L : Ls P v ll] [L' : Ls P v' ll] (c : Cfg) (hn : (ll.length : Int) < 9223372036854775807) (hb : ∀ l ∈ ll, (l.length : Int) < 9223372036854775807) : Sp kP [.agg (aK c v).toArray, .agg (aK c v').toArray] P (fun _ : Unit => vb true) (fun _ => P) := by
 refine gb (Mc _ _) fun R H h => ?_;refine bH h fun b H1 h1 => ?_;refine bH h1 fun b2 H2 h2 => ?_;refine xV h2 aj ?_;refine xV h2 aj ?_;refine aa (Ha c) ?_;refine gs ?_;refine aL h2 aj rfl ?_;refine gs ?_;refine aL h2 aj rfl ?_;refine gs ?_;refine ah h2 (Sj (P := P) (v := v) (v' := v') (ll := ll) hn hb) fun _ H3 h3 => ?_;refine gs ?_;exact ay ⟨(), rfl, h3.to⟩
end
theorem ahP {n : Nat} (h : n < 256) : IntKind.wrap .u8 (n : Int) = n := by
 simp only [IntKind.wrap, IntKind.bits, IntKind.signed];simp;omega
theorem X8 {cl : TCls} {a b : Nat} (h : a + b < 256) : ag cl .add (.int .u8 (a : Int)) (.int .u8 (b : Int)) = some (.int .u8 ((a + b : Nat) : Int)) := by
 simp only [ag, j9, if_true];rw [show (a : Int) + (b : Int) = ((a + b : Nat) : Int) by omega, ahP h]
theorem apU {cl : TCls} {a b : Nat} (h : b ≤ a) (ha : a < 256) : ag cl .sub (.int .u8 (a : Int)) (.int .u8 (b : Int)) = some (.int .u8 ((a - b : Nat) : Int)) := by
 simp only [ag, j9, if_true];rw [show (a : Int) - (b : Int) = ((a - b : Nat) : Int) by omega, ahP (by omega)]
theorem aoJ {cl : TCls} {a b : Nat} (hb : b ≠ 0) : ag cl .rem (.int .u8 (a : Int)) (.int .u8 (b : Int)) = some (.int .u8 ((a % b : Nat) : Int)) := by
 simp only [ag, j9, if_true];rw [if_neg (by omega)];have h1 : (a : Int).tmod (b : Int) = ((a % b : Nat) : Int) := (Int.ofNat_tmod a b).symm;rw [h1]
theorem zk {n : Nat} (h : n < 256) : aO (some .u8) (vi (n : Int)) = some (.int .u8 (n : Int)) := by
 simp only [aO];rw [ahP h]
theorem aiL {n : Int} : aO (some .u8) (vi n) = some (.int .u8 (((n % 256).toNat : Nat) : Int)) := by
 simp only [aO];have h0 : 0 ≤ n % 256 := Int.emod_nonneg _ (by omega);rw [Int.toNat_of_nonneg h0];simp only [IntKind.wrap, IntKind.bits, IntKind.signed];simp
theorem S2 {n : Nat} (h : n < 256) : aO (some .i64) (.int .u8 (n : Int)) = some (vi (n : Int)) := by
 simp only [aO];rw [ma (by omega) (by omega)]
theorem Sh {α : Type} {R : α → List Value → Prop} {l : List α} {row : List Value} (h : iB R l row) : ∀ x ∈ l, ∃ c, R x c := by
 induction h with
 | nil => intro x hx; cases hx
 | cons h1 _ ih =>
  intro x hx
  rcases Mj.1 hx with rfl | hx
  ·exact ⟨_, h1⟩
  ·exact ih x hx
theorem Nl {H : AH} {x : Int} {c : List Value} (h : Abs H (.int .u8) x c) : c = aG x.toNat ∧ x.toNat < 256 := by
 obtain ⟨e, hw⟩ := h
 have : 0 ≤ x ∧ x ≤ 255 := by simpa [Lit.wf, IntKind.has, IntKind.min, IntKind.max, IntKind.bits, IntKind.signed] using hw
 refine ⟨?_, by omega⟩;rw [e];show _ = [Value.int .u8 ((x.toNat : Nat) : Int)];rw [Int.toNat_of_nonneg this.1]
theorem FE {H0 : AH} {v : Value} {l : List Int} (h : Abs H0 (.slice (.int .u8)) l [v]) : Rd (cq H0) v 1 aG (l.map Int.toNat) ∧ ∀ y ∈ l.map Int.toNat, y < 256 := by
 constructor
 ·have E : Enc (fun x : Int => aG x.toNat) (Ty.int .u8).w := ⟨fun _ => rfl, fun _ => rfl, by decide⟩
  have r := Rd.arg (t := .int .u8) (enc := fun x : Int => aG x.toNat) (E := E) (fun x c hx => (Nl hx).1) h;refine ⟨fun {H} hh => ?_⟩;have := r.rd hh;rw [List.flatMap_map, dN];exact this
 ·intro y hy
  obtain ⟨x, hx, rfl⟩ := List.mem_map.1 hy
  rcases h with ⟨rfl, _⟩ | ⟨rfl, _⟩ | ⟨b, row, _, _, h3, _⟩
  ·cases hx
  ·cases hx
  ·obtain ⟨c, hc⟩ := Sh h3 x hx
   exact (Nl hc).2
theorem ye {c : Cfg} {ll : List (List Cl)} {pk : List Int} (h : m0 c ll pk = true) (hk : pk.length ≤ 60) : (bP c ll pk).length ≤ 2000 := by
 obtain ⟨h1, h2, h3, h4⟩ := wq.1 h;obtain ⟨m1, m2, m3⟩ := my h1;have hc := aT.1 m3
 have e1 : (yh ⟨c.sh, c.sl, c.wk, c.wd⟩).length ≤ 20 := Gg (kU.2 fun i hi => by
  unfold yJ
  match i, hi with
  | 0, _ => exact dZ (show 0 ≤ c.sh ∧ c.sh ≤ 2147483647 by omega)
  | 1, _ => exact dZ (show 0 ≤ c.sl ∧ c.sl ≤ 2147483647 by omega)
  | 2, _ => exact dZ (show 0 ≤ c.wk ∧ c.wk ≤ 2147483647 by omega)
  | 3, _ => exact dZ (show 0 ≤ c.wd ∧ c.wd ≤ 2147483647 by omega))
 have e2 : (aJ c.un).length ≤ 10 := cj (by omega);have e3 : (aJ ll.length).length ≤ 10 := cj (by omega);have e4 := OA h3 m2;have e5 : (aJ pk.length).length ≤ 10 := cj (by omega)
 have e6 := Ad (f := oZ) (k := 5) (l := pk) fun n hn => Gi (by
  have := h4 n hn;unfold rk at this;unfold yJ;have := of_decide_eq_true this
  exact dZ (by omega))
 unfold bP;simp only [cT];omega
theorem Mr {c : Cfg} {ps : List (Sv × List Cl)} {pk : List Int} (hr : dn c = true) (hpl : (ps.length : Int) = c.wk) (hsm : ck (ps.map (·.2)) ≤ 60) (hok : ∀ l ∈ ps.map (·.2), ∀ x ∈ l, dC x = true) : m0 c (ps.map (·.2)) ((pk.take 60).map (bT 1)) = true := by
 refine wq.2 ⟨?_, ?_, hok, ?_⟩
 ·unfold j0
  rw [hr, Bool.true_and];exact dZ ⟨by simp only [dN]; omega, hsm⟩
 ·simp only [dN, List.length_take]; omega
 ·intro n hn
  obtain ⟨x, _, rfl⟩ := List.mem_map.1 hn
  have e : bT 1 x = bD x 64 := by unfold bT; rw [if_neg (by decide)]
  have := bV (v := x) (n := 64) (by omega);rw [e];unfold rk;exact dZ (by omega)
section
variable {P R : SP} {H : AH} {Q : Value → AH → Prop} {s x v : Value} {L l m : List Nat}
theorem vn {kk : Value × AH → OV} [rd : Rd P x 1 aG m] (h : ac P H) (hm : m.length ≤ 140737488355328) (hk : ∀ v H', ac (ts 1 aG v m * P) H' → wp (kk (v, H')) Q) : wp ((cz 1 1 (.slice none 0 0) x H).bind kk) Q := by
 have h2 : ac (ts 1 aG (.slice none 0 0) ([] : List Nat) * P) H := fR 1 aG h;refine vo (m := m) (bytes := 1) h2 ?_ (by omega) fun v H' h3 => ?_
 ·unfold cg; simp only [List.length_nil]; omega
 ·rw [List.nil_append, ee] at h3
  exact hk v H' h3
theorem mZ {n : Nat} {kk : Value × AH → OV} (h : ac P H) [f : Ts P s Nat 1 aG l R] (hl : l.length < 1000000) (hk : ∀ v H', ac (ts 1 aG v (l ++ [n]) * R) H' → wp (kk (v, H')) Q) :
 wp (la 1 1 [.int .u8 0] [(0, .int .u8 ((n : Nat) : Int))] H fun v' H' => (cz 1 1 s v' H').bind kk) Q := by
 refine IP h fun b0 H2 h2 => ?_;refine d8 (s := s) (n : Nat) h2 rfl ?_ (by omega) fun a c H3 h3 => hk _ _ ?_
 ·unfold cg; omega
 ·rw [cC] at h3
  exact h3.right
theorem Dg {len : Nat} {xs : List (Nat × Value)} {k : Value → AH → OV} (L : List Nat) (h : ac P H) (hl : L.length = len) (hf : cA (Og 1) (List.replicate len [Value.int .u8 0]).flatten xs = some (L.flatMap aG)) (hk : ∀ v H', ac (ts 1 aG v L * P) H' → wp (k v H') Q) : wp (la len 1 [.int .u8 0] xs H k) Q := by
 subst hl;exact Vi h hf fun b H' h' => hk _ _ (rz h')
theorem rB {len : Nat} {xs : List (Nat × Value)} {k : Value × AH → OV} (L : List Nat) (h : ac P H) (hl : L.length = len) (hf : cA (Og 1) (List.replicate len [Value.int .u8 0]).flatten xs = some (L.flatMap aG)) (hk : ∀ v H', ac (ts 1 aG v L * P) H' → wp (k (v, H')) Q) : wp ((la len 1 [.int .u8 0] xs H fun v H => some (v, H)).bind k) Q := by
 subst hl;unfold la;rw [hf];exact hk _ _ (rz (h.push _))
theorem De {e : Int} {k : Value × AH → OV} (hd : bC L = .error e) (r : Rd R v 1 aG L) (hL : ∀ y ∈ L, y < 256) (hlen : (L.length : Int) < 9223372036854775808) (h : ac R H)
 (hk : ∀ H', ac R H' → wp (k (.tuple #[.agg zeroP.toArray, .slice none 0 0, vi e], H')) Q) : wp ((FF ba [v] H).bind k) Q := by
 obtain ⟨rv, H', e1, hq⟩ := fA r hL hlen h;rw [e1, aB];unfold da at hq;rw [hd] at hq;obtain ⟨rfl, h'⟩ := hq;exact hk H' h'
theorem fh {d : Int} {k : Value × AH → OV} (hd : DX L = d) (r : Rd R v 1 aG L) (hL : ∀ y ∈ L, y < 256) (hlen : (L.length : Int) < 9223372036854775808) (h : ac R H)
 (hk : ∀ H', ac R H' → wp (k (vi d, H')) Q) : wp ((FF bI [v] H).bind k) Q := by
 have key : wp (FF bI [v] H) fun v' H' => v' = vi d ∧ ac R H' := by
  refine eD (fun r => Hk _ H) ?_;obtain ⟨rv, H', e1, hq⟩ := fA r hL hlen h;rw [e1, aB];unfold da at hq;unfold DX at hd
  cases hdd : bC L with
  | ok s =>
   rw [hdd] at hq hd;obtain ⟨sv, ps, pv, rfl, _, h'⟩ := hq;refine aa (v := .agg (aK (lk s.c) sv.v).toArray) rfl ?_;refine aa (v := pv) rfl ?_;refine aa (v := vi 0) rfl ?_;refine ce h' fun b H2 h2 => ?_;refine cS h2 rfl rfl fun H3 h3 => ?_;exact ay ⟨by rw [← hd], h3.right.right.right⟩
  | error e =>
   rw [hdd] at hq hd;obtain ⟨rfl, h'⟩ := hq;refine aa (v := .agg zeroP.toArray) rfl ?_;refine aa (v := .slice none 0 0) rfl ?_;refine aa (v := vi e) rfl ?_;refine ce h' fun b H2 h2 => ?_;refine cS h2 rfl rfl fun H3 h3 => ?_;exact ay ⟨by rw [← hd], h3.right⟩
 obtain ⟨v', H', e, rfl, h'⟩ := key;rw [e, aB];exact hk H' h'
end
theorem cP {L M : List Nat} (h1 : ∀ y ∈ L, y < 256) (h2 : ∀ y ∈ M, y < 256) : ∀ y ∈ L ++ M, y < 256 := fun y hy => by
 rcases List.mem_append.1 hy with h | h
 ·exact h1 y h
 ·exact h2 y h
theorem t4 {n : Nat} (h : n < 256) : ∀ y ∈ [n], y < 256 := fun y hy => by rw [List.mem_singleton.1 hy]; exact h
theorem XA {H0 : AH} {v pv mv : Value} {ll : List (List Cl)} {pk : List Int} {more : List Nat} [L : Ls (cq H0) v ll] [r : Rd (cq H0) pv 1 bz pk] [rm : Rd (cq H0) mv 1 aG more] (hA : Sp bB [] (cq H0) (fun _ : Unit => vb true) (fun _ => cq H0)) (hn : (ll.length : Int) < 9223372036854775808) (hb : ∀ l ∈ ll, l.length ≤ 140737488355328) (hm1 : ∀ y ∈ more, y < 256) (hm2 : more.length ≤ 140737488351232) (c : Cfg) (n : Int) :
 ∃ H', FF gR [.agg (aK c v).toArray, pv, vi n, mv] H0 = some (vb true, H') := by
 have key : wp (FF gR [.agg (aK c v).toArray, pv, vi n, mv] H0) fun v' _ => v' = vb true := by
  refine eD (fun r => Cm _ _ _ _ H0) ?_;refine bH (jW H0) fun b H1 h1 => ?_;refine bx h1 ?_;refine ah h1 (oD (P := cq H0) (v := v) (ll := ll) c 1 hn (fun l hl => by have := hb l hl; omega)) fun y H2 h2 => ?_;obtain ⟨⟨sh, sl, wk, wd, un⟩, qv⟩ := y;unfold yZ at h2;rw [aC] at h2;obtain ⟨ps, h2b⟩ := ac.ex.1 h2
  clear h2
  rw [aC, ac.pu] at h2b;obtain ⟨⟨hr, hpl, hsm, hok⟩, h2c⟩ := h2b;dsimp only at hr hpl h2c;dsimp only;have hcc := aT.1 hr;dsimp only at hcc;refine ah h2c (oE (P := cq H0) (pv := pv) (pk := pk) 1) fun s H3 h3 => ?_;have ho := Mr (pk := pk) hr hpl hsm (hok (by decide));have h3' : ac (jx qv.v ps * (ts 1 bz s ((pk.take 60).map (bT 1)) * cq H0)) H3 := h3.to
  refine ah h3' (de (P := jx qv.v ps * (ts 1 bz s ((pk.take 60).map (bT 1)) * cq H0)) (v := qv.v) (pv := s) (ll := ps.map fun x : Sv × List Cl => x.2) (pk := (pk.take 60).map (bT 1)) ⟨sh, sl, wk, wd, un⟩ (by simp only [dN]; omega) (fun _ l hl => by
   obtain ⟨i, hi, rfl⟩ := List.getElem_of_mem hl;have := gM hi
   omega)) fun s1 H4 h4 => ?_
  refine aa (v := s1) rfl ?_;refine aa (v := vi (if m0 ⟨sh, sl, wk, wd, un⟩ (ps.map fun x : Sv × List Cl => x.2) ((pk.take 60).map (bT 1)) then 0 else 1)) rfl ?_;unfold BL at h4;rw [ho, if_pos rfl] at h4;rw [ho];have hlen := ye ho (by simp only [dN, List.length_take]; omega);have hlt := vB ⟨sh, sl, wk, wd, un⟩ (ps.map fun x : Sv × List Cl => x.2) ((pk.take 60).map (bT 1));have hsN := Mu ho
  have hpos : 7 ≤ (bP ⟨sh, sl, wk, wd, un⟩ (ps.map fun x : Sv × List Cl => x.2) ((pk.take 60).map (bT 1))).length := by rw [fU]; exact Gj hsN
  have hcut : ∀ j, j < (bP ⟨sh, sl, wk, wd, un⟩ (ps.map fun x : Sv × List Cl => x.2) ((pk.take 60).map (bT 1))).length → bC ((bP ⟨sh, sl, wk, wd, un⟩ (ps.map fun x : Sv × List Cl => x.2) ((pk.take 60).map (bT 1))).take j) = .error 12 := by
   intro j hj;refine PA hsN (l := (bP ⟨sh, sl, wk, wd, un⟩ (ps.map fun x : Sv × List Cl => x.2) ((pk.take 60).map (bT 1))).take j) (t := (bP ⟨sh, sl, wk, wd, un⟩ (ps.map fun x : Sv × List Cl => x.2) ((pk.take 60).map (bT 1))).drop j) (by rw [List.take_append_drop, fU]) (fun h => ?_);have := congrArg List.length h;simp only [List.length_drop, List.length_nil] at this;omega
  have hmore : ∀ x t, bC (bP ⟨sh, sl, wk, wd, un⟩ (ps.map fun x : Sv × List Cl => x.2) ((pk.take 60).map (bT 1)) ++ x :: t) = .error 11 := by
   intro x t;rw [fU];exact Nx hsN x t
  generalize bP ⟨sh, sl, wk, wd, un⟩ (ps.map fun x : Sv × List Cl => x.2) ((pk.take 60).map (bT 1)) = B at *
  have h4' : ac (ts 1 aG s1 B * cq H0) H4 := h4.to
  clear h4 h3 h3' h2c
  refine ah h4' hA fun _ H5 h5 => ?_;have h5' : ac (ts 1 aG s1 B * cq H0) H5 := h5.to
  clear h5
  refine gs ?_;rw [Bool.not_true];refine gs ?_;refine aa (fL rfl) ?_;refine gs ?_;refine gg (s := s1) (l := B) h5' ?_;refine gs ?_;refine aa (nw (by omega)) ?_;refine gs ?_;refine aS (s := s1) (l := B) h5' ?_;refine ah h5' (aN n B.length (by omega) (by omega)) fun _ H6 h6 => ?_;have h6' : ac (ts 1 aG s1 B * cq H0) H6 := h6.to
  clear h6
  have hmod := bV (v := n) (n := B.length) (by omega);obtain ⟨j, hj, hjl⟩ : ∃ j : Nat, bD n B.length = j ∧ j < B.length := ⟨(bD n B.length).toNat, by omega, by omega⟩;rw [hj];obtain ⟨s', es, rs⟩ := Bb (P := ts 1 aG s1 B * cq H0) (s := s1) (l := B) (lo := none) (hi := some (vi j)) (a := 0) (b := j) h6' (.inl ⟨rfl, rfl⟩) (.inr ⟨.i64, rfl⟩) (by omega) (by omega) (by omega);rw [List.drop_zero] at rs;refine aa es ?_;refine De (hcut j hjl) rs (fun y hy => hlt y (List.mem_of_mem_take hy)) (by rw [List.length_take]; omega) h6' fun H7 h7 => ?_;refine aa (v := .agg zeroP.toArray) rfl ?_;refine aa (v := .slice none 0 0) rfl ?_;refine aa (v := vi 12) rfl ?_;refine ce h7 fun b3 H8 h8 => ?_;refine cS h8 rfl rfl fun H9 h9 => ?_;refine aa (fL rfl) ?_;refine gs ?_;refine bx h9 ?_;refine gs ?_;refine aa (v := .agg zeroP.toArray) rfl ?_;refine gs ?_;have h9' : ac (ts 1 aG s1 B * cq H0) H9 := h9.to
  haveI := Mm (cq H0)
  refine ah h9' (wv (P := cq H0) (v := .slice none 0 0) (v' := .slice none 0 0) (ll := []) ⟨0, 0, 0, 0, 0⟩ (by simp) (fun l hl => by cases hl)) fun _ H10 h10 => ?_;refine gs ?_;rw [Bool.not_true];refine gs ?_;refine aa (v := vi 0) rfl ?_;refine gs ?_;refine aa (fL rfl) ?_;refine gs ?_;have h10' : ac (ts 1 aG s1 B * cq H0) H10 := h10.to;refine vn (m := B) h10' (by omega) fun v1 H11 h11 => ?_;refine aa (aiL) ?_
  have hn8 : (n % 256).toNat < 256 := by omega
  generalize (n % 256).toNat = x at hn8
  refine mZ (l := B) (n := x) h11 (by omega) fun v2 H12 h12 => ?_;refine De (hmore x []) (R := ts 1 aG v2 (B ++ [x]) * (emp * (ts 1 aG s1 B * cq H0))) inferInstance (cP hlt (t4 hn8)) (by simp only [cT, List.length_singleton]; omega) h12 fun H13 h13 => ?_;refine aa (v := .agg zeroP.toArray) rfl ?_;refine aa (v := .slice none 0 0) rfl ?_;refine aa (v := vi 11) rfl ?_;refine ce h13 fun b4 H14 h14 => ?_;refine cS h14 rfl rfl fun H15 h15 => ?_;have h15' : ac (ts 1 aG s1 B * cq H0) H15 := h15.to;refine vn (m := B) h15' (by omega) fun v3 H16 h16 => ?_;refine mZ (l := B) (n := 0) h16 (by omega) fun v4 H17 h17 => ?_;refine vo (s := v4) (l := B ++ [0]) (m := more) (x := mv) h17 (by unfold cg; simp only [cT, List.length_singleton]; omega) (by omega) fun v5 H18 h18 => ?_;refine De (L := B ++ [0] ++ more) (by rw [List.append_assoc]; exact hmore 0 more) (r := Rd.left _ _ _ _ _ _) (cP (cP hlt (t4 (by omega))) hm1) (by simp only [cT, List.length_singleton]; omega) h18 fun H19 h19 => ?_;refine aa (v := .agg zeroP.toArray) rfl ?_;refine aa (v := .slice none 0 0) rfl ?_;refine aa (v := vi 11) rfl ?_;refine ce h19 fun b5 H20 h20 => ?_;refine cS h20 rfl rfl fun H21 h21 => ?_;refine aa (cM rfl) ?_;refine gs ?_;refine aa (cM rfl) ?_;refine gs ?_;exact ay rfl
 obtain ⟨v', H', e, rfl⟩ := key;exact ⟨H', e⟩
theorem scriptCut_args {H0 : AH} (hT : Tab4 H0) {xp : PlanTy.I} {cp : List Value} (hp : Abs H0 PlanTy xp cp) (hs : oR PlanTy xp) {pk : List Int} {pv : Value} (hpk : Abs H0 (.slice (.int .i64)) pk [pv]) (n : Int) {more : List Int} {mv : Value} (hm : Abs H0 (.slice (.int .u8)) more [mv]) (hms : oR (.slice (.int .u8)) more) :
 ∃ H', FF gR [.agg cp.toArray, pv, vi n, mv] H0 = some (vb true, H') := by
 obtain ⟨c, v, ll, rfl, hl, h1, h2⟩ := Cx hp hs
 haveI := hl
 haveI := vx hpk
 obtain ⟨rm, hm1⟩ := FE hm
 haveI := rm
 have hr : reachBytes = 140737488351232 := by decide
 have hm2 := hms.1;exact XA (ll := ll) (pk := pk) (more := more.map Int.toNat) (l7 hT) h1 h2 hm1 (by simp only [dN]; omega) c n
section
variable {H0 : AH} {s1 : Value} {B : List Nat}
theorem W2 (hlen : B.length ≤ 2000) (hlt : ∀ y ∈ B, y < 256) {j : Nat} (hj : j < 4) (hjB : 7 ≤ B.length) (at' : Int) {big : Nat}
 (hset : ∀ k x, k < 4 → x < 128 → (x < loK k ∨ hiK k < x) → bC (B.set k x) = .error 11) {T : List Nat} (hT : ∀ y ∈ T, y < 256) (hTl : T.length ≤ 2100) (hlong : bC (T ++ 0 :: B.drop (j + 1)) = .error 11)
 {v : Value} {H : AH} (h : ac (ts 1 aG v T * (ts 1 aG s1 B * cq H0)) H) : wp (gY (vi at') (vu big) (vb false) s1 (vi j) v H) fun v' _ => v' = vb true := by
 refine ae (sA _ _ _ _ _ _ H) ?_;refine mZ (l := T) (n := 0) h (by omega) fun v1 H1 h1 => ?_;refine aa (aq (by omega) (by omega)) ?_;have h1' : ac (ts 1 aG v1 (T ++ [0]) * (ts 1 aG s1 B * cq H0)) H1 := h1.to;obtain ⟨s', es, rs⟩ := Bb (P := ts 1 aG s1 B * cq H0) (s := s1) (l := B) (lo := some (vi ((j : Int) + 1))) (hi := none) (a := j + 1) (b := B.length) h1'.right (.inr ⟨.i64, rfl⟩) (.inl ⟨rfl, rfl⟩) (by omega) (by omega) (by omega);rw [List.take_length] at rs;refine aa es ?_
 haveI := rs
 refine vo (s := v1) (l := T ++ [0]) (m := B.drop (j + 1)) (x := s') h1 (by unfold cg; simp only [cT, List.length_singleton, List.length_drop]; omega) (by omega) fun v2 H2 h2 => ?_
 have e1 : T ++ [0] ++ B.drop (j + 1) = T ++ 0 :: B.drop (j + 1) := by simp
 rw [e1] at h2
 refine De (L := T ++ 0 :: B.drop (j + 1)) hlong (r := Rd.left _ _ _ _ _ _) (cP hT (fun y hy => by
  rcases Mj.1 hy with rfl | hy
  ·omega
  ·exact hlt y (List.mem_of_mem_drop hy))) (by simp only [cT, List.length_cons, List.length_drop]; omega) h2 fun H3 h3 => ?_
 refine aa (v := .agg zeroP.toArray) rfl ?_;refine aa (v := .slice none 0 0) rfl ?_;refine aa (v := vi 11) rfl ?_;refine ce h3 fun b4 H4 h4 => ?_;refine cS h4 rfl rfl fun H5 h5 => ?_;have h5' : ac (ts 1 aG s1 B * cq H0) H5 := h5.to;refine vn (m := B) h5' (by omega) fun v3 H6 h6 => ?_;refine Vi (cs := [vi 4, vi 4, vi 6, vi 40]) h6 rfl fun b5 H7 h7 => ?_;have h7' : ac (ts 1 bz (vs b5 4 1) [4, 4, 6, 40] * (ts 1 aG v3 B * (ts 1 aG s1 B * cq H0))) H7 := rz (l := ([4, 4, 6, 40] : List Int)) h7
 obtain ⟨m, hm, hm40, hmk⟩ : ∃ m : Nat, ([4, 4, 6, 40] : List Int)[j]? = some (m : Int) ∧ m ≤ 40 ∧ m = hiK j := by
  match j, hj with
  | 0, _ => exact ⟨4, rfl, by omega, rfl⟩
  | 1, _ => exact ⟨4, rfl, by omega, rfl⟩
  | 2, _ => exact ⟨6, rfl, by omega, rfl⟩
  | 3, _ => exact ⟨40, rfl, by omega, rfl⟩
 obtain ⟨hm1, hm2⟩ := Ab.1 hm;refine aoS (s := vs b5 4 1) (l := ([4, 4, 6, 40] : List Int)) (i := j) (v := vi m) h7' hm1 (by rw [hm2]; rfl) ?_;refine aa (aq (by omega) (by omega)) ?_;refine aa (MF 60 (by omega)) ?_;have hbm := Nat.mod_lt big (show 60 > 0 by omega)
 generalize big % 60 = q at hbm
 refine aa (EP (by omega)) ?_;refine aa (aq (by omega) (by omega)) ?_;rw [show (m : Int) + 1 + (q : Int) = ((m + 1 + q : Nat) : Int) by omega];refine aa (zk (by omega)) ?_;have h7b : ac (ts 1 aG v3 B * (ts 1 aG s1 B * cq H0)) H7 := h7'.right;refine DS (s := v3) (l := B) (i := j) (m + 1 + q : Nat) h7b (by omega) (.inl ⟨rfl, rfl⟩) rfl (by omega) rfl rfl fun H8 h8 => ?_
 refine De (L := B.set j (m + 1 + q)) (hset j (m + 1 + q) hj (by omega) (by omega)) (r := Rd.left _ _ _ _ _ _) (fun y hy => by
  rcases List.mem_or_eq_of_mem_set hy with h | rfl
  ·exact hlt y h
  ·omega) (by simp only [Ec]; omega) h8 fun H9 h9 => ?_
 refine aa (v := .agg zeroP.toArray) rfl ?_;refine aa (v := .slice none 0 0) rfl ?_;refine aa (v := vi 11) rfl ?_;refine ce h9 fun b6 H10 h10 => ?_;refine cS h10 rfl rfl fun H11 h11 => ?_;have h11' : ac (ts 1 aG s1 B * cq H0) H11 := h11.to;refine vn (m := B) h11' (by omega) fun v4 H12 h12 => ?_;refine ah h12 (aN at' 3 (by omega) (by omega)) fun _ H13 h13 => ?_;have h13' : ac (ts 1 aG v4 B * (ts 1 aG s1 B * cq H0)) H13 := h13.to;have hmod := bV (v := at') (n := 3) (by omega);obtain ⟨i, hi, hi3⟩ : ∃ i : Nat, bD at' 3 = i ∧ i < 3 := ⟨(bD at' 3).toNat, by omega, by omega⟩;rw [hi];refine DS (s := v4) (l := B) (i := i) (0 : Nat) h13' (by omega) (.inl ⟨rfl, rfl⟩) rfl (by omega) rfl rfl fun H14 h14 => ?_
 refine De (L := B.set i 0) (hset i 0 (by omega) (by omega) (.inl (by unfold loK; rw [if_pos hi3]; omega))) (r := Rd.left _ _ _ _ _ _) (fun y hy => by
  rcases List.mem_or_eq_of_mem_set hy with h | rfl
  ·exact hlt y h
  ·omega) (by simp only [Ec]; omega) h14 fun H15 h15 => ?_
 refine aa (v := .agg zeroP.toArray) rfl ?_;refine aa (v := .slice none 0 0) rfl ?_;refine aa (v := vi 11) rfl ?_;refine ce h15 fun b7 H16 h16 => ?_;refine cS h16 rfl rfl fun H17 h17 => ?_;refine aa (cM rfl) ?_;refine gs ?_;refine aa (cM rfl) ?_;refine gs ?_;refine aa (cM rfl) ?_;refine gs ?_;exact ay rfl
theorem Rz (hlen : B.length ≤ 2000) (hlt : ∀ y ∈ B, y < 256) {j : Nat} (hj : j < 4) (hjB : 7 ≤ B.length) (at' zeros : Int) {big : Nat}
 (hset : ∀ k x, k < 4 → x < 128 → (x < loK k ∨ hiK k < x) → bC (B.set k x) = .error 11) {T : List Nat} (hT : ∀ y ∈ T, y < 256) (hTl : T.length ≤ 2001) (hlong : ∀ m, bC (T ++ (List.replicate m 128 ++ 0 :: B.drop (j + 1))) = .error 11) {m : Nat} (hm : bD zeros 12 = m) (hm12 : m < 12) : ∀ (d i : Nat) (v : Value) (H : AH), i + d = m →
 ac (ts 1 aG v (T ++ List.replicate i 128) * (ts 1 aG s1 B * cq H0)) H → wp (em (vi at') (vi zeros) (vu big) (vb false) s1 (vi j) v (vi i) H) fun v' _ => v' = vb true := by
 intro d
 induction d with
 | zero =>
  intro i v H hi h;refine ae (iY _ _ _ _ _ _ _ _ H) ?_;refine ah h (aN zeros 12 (by omega) (by omega)) fun _ H2 h2 => ?_;rw [hm];refine aa (aU (by omega)) ?_;refine gs ?_;refine ae (oC _ _ _ _ _ _ H2) ?_;refine W2 (H0 := H0) (s1 := s1) (T := T ++ List.replicate i 128) hlen hlt hj hjB at' hset (fun y hy => ?_) (by simp only [cT, List.length_replicate]; omega) (by rw [List.append_assoc]; exact hlong i) h2.to
  rcases List.mem_append.1 hy with h | h
  ·exact hT y h
  ·rw [List.eq_of_mem_replicate h]; omega
 | succ d ih =>
  intro i v H hi h;refine ae (iY _ _ _ _ _ _ _ _ H) ?_;refine ah h (aN zeros 12 (by omega) (by omega)) fun _ H2 h2 => ?_;rw [hm];refine aa (aW (by omega)) ?_;refine gs ?_;refine ae (qW _ _ _ _ _ _ _ _ H2) ?_;have h2' : ac (ts 1 aG v (T ++ List.replicate i 128) * (ts 1 aG s1 B * cq H0)) H2 := h2.to;refine mZ (l := T ++ List.replicate i 128) (n := 128) h2' (by simp only [cT, List.length_replicate]; omega) fun v2 H3 h3 => ?_;refine ae (qX _ _ _ _ _ _ _ _ H3) ?_;refine aa (aq (by omega) (by omega)) ?_;refine ih (i + 1) v2 H3 (by omega) ?_
  have e : T ++ List.replicate i 128 ++ [128] = T ++ List.replicate (i + 1) 128 := by
   rw [List.append_assoc]
   congr 1
   exact List.replicate_append_replicate (n := i) (m := 1)
  rw [e] at h3;exact h3.to
end
theorem OD {H0 : AH} {v pv : Value} {ll : List (List Cl)} {pk : List Int} [L : Ls (cq H0) v ll] [r : Rd (cq H0) pv 1 bz pk] (hA : Sp bB [] (cq H0) (fun _ : Unit => vb true) (fun _ => cq H0)) (hn : (ll.length : Int) < 9223372036854775808) (hb : ∀ l ∈ ll, l.length ≤ 140737488355328) (c : Cfg) (at' zeros : Int) {big : Nat} (hbig : big < 18446744073709551616) :
 ∃ H', FF fu [.agg (aK c v).toArray, pv, vi at', vi zeros, vu big] H0 = some (vb true, H') := by
 have key : wp (FF fu [.agg (aK c v).toArray, pv, vi at', vi zeros, vu big] H0) fun v' _ => v' = vb true := by
  refine eD (fun r => yz _ _ _ _ _ H0) ?_;refine bH (jW H0) fun b H1 h1 => ?_;refine bx h1 ?_;refine ah h1 (oD (P := cq H0) (v := v) (ll := ll) c 1 hn (fun l hl => by have := hb l hl; omega)) fun y H2 h2 => ?_;obtain ⟨⟨sh, sl, wk, wd, un⟩, qv⟩ := y;unfold yZ at h2;rw [aC] at h2;obtain ⟨ps, h2b⟩ := ac.ex.1 h2
  clear h2
  rw [aC, ac.pu] at h2b;obtain ⟨⟨hr, hpl, hsm, hok⟩, h2c⟩ := h2b;dsimp only at hr hpl h2c;dsimp only;have hcc := aT.1 hr;dsimp only at hcc;refine ah h2c (oE (P := cq H0) (pv := pv) (pk := pk) 1) fun s H3a h3a => ?_;refine cS h3a rfl rfl fun H3 h3 => ?_;refine bx h3 ?_;have ho := Mr (pk := pk) hr hpl hsm (hok (by decide));have h3' : ac (jx qv.v ps * (ts 1 bz s ((pk.take 60).map (bT 1)) * cq H0)) H3 := h3.to
  refine ah h3' (de (P := jx qv.v ps * (ts 1 bz s ((pk.take 60).map (bT 1)) * cq H0)) (v := qv.v) (pv := s) (ll := ps.map fun x : Sv × List Cl => x.2) (pk := (pk.take 60).map (bT 1)) ⟨sh, sl, wk, wd, un⟩ (by simp only [dN]; omega) (fun _ l hl => by
   obtain ⟨i, hi, rfl⟩ := List.getElem_of_mem hl;have := gM hi
   omega)) fun s1 H4 h4 => ?_
  refine aa (v := s1) rfl ?_;refine aa (v := vi (if m0 ⟨sh, sl, wk, wd, un⟩ (ps.map fun x : Sv × List Cl => x.2) ((pk.take 60).map (bT 1)) then 0 else 1)) rfl ?_;unfold BL at h4;rw [ho, if_pos rfl] at h4;rw [ho];have hlen := ye ho (by simp only [dN, List.length_take]; omega);have hlt := vB ⟨sh, sl, wk, wd, un⟩ (ps.map fun x : Sv × List Cl => x.2) ((pk.take 60).map (bT 1));have hsN := Mu ho
  have hpos : 8 ≤ (bP ⟨sh, sl, wk, wd, un⟩ (ps.map fun x : Sv × List Cl => x.2) ((pk.take 60).map (bT 1))).length := by
   rw [fU];refine NA hsN (fun h => ?_);have := congrArg List.length h;unfold scN at this;simp only [dN, List.length_nil] at this;omega
  have hset : ∀ k x, k < 4 → x < 128 → (x < loK k ∨ hiK k < x) → bC ((bP ⟨sh, sl, wk, wd, un⟩ (ps.map fun x : Sv × List Cl => x.2) ((pk.take 60).map (bT 1))).set k x) = .error 11 := by
   intro k x hk hx hb;rw [fU];exact W3 hsN hk hx hb
  have hlong : ∀ k m, k < 4 → ∃ hl : k < (bP ⟨sh, sl, wk, wd, un⟩ (ps.map fun x : Sv × List Cl => x.2) ((pk.take 60).map (bT 1))).length, (bP ⟨sh, sl, wk, wd, un⟩ (ps.map fun x : Sv × List Cl => x.2) ((pk.take 60).map (bT 1)))[k] < 128 ∧ bC ((bP ⟨sh, sl, wk, wd, un⟩ (ps.map fun x : Sv × List Cl => x.2) ((pk.take 60).map (bT 1))).take k ++ (((bP ⟨sh, sl, wk, wd, un⟩ (ps.map fun x : Sv × List Cl => x.2) ((pk.take 60).map (bT 1)))[k] + 128) :: (List.replicate m 128 ++ 0 :: (bP ⟨sh, sl, wk, wd, un⟩ (ps.map fun x : Sv × List Cl => x.2) ((pk.take 60).map (bT 1))).drop (k + 1)))) = .error 11 := by
   intro k m hk;rw [fU];exact Ry hsN hk
  generalize bP ⟨sh, sl, wk, wd, un⟩ (ps.map fun x : Sv × List Cl => x.2) ((pk.take 60).map (bT 1)) = B at *
  have h4' : ac (ts 1 aG s1 B * cq H0) H4 := h4.to
  clear h4 h3 h3' h2c
  refine ah h4' hA fun _ H5 h5 => ?_;have h5' : ac (ts 1 aG s1 B * cq H0) H5 := h5.to
  clear h5
  refine gs ?_;rw [Bool.not_true];refine gs ?_;refine aa (fL rfl) ?_;refine gs ?_;refine gg (s := s1) (l := B) h5' ?_;refine gs ?_;refine aa (aU (by omega)) ?_;refine gs ?_;refine ah h5' (aN at' 4 (by omega) (by omega)) fun _ H6 h6 => ?_;have h6' : ac (ts 1 aG s1 B * cq H0) H6 := h6.to
  clear h6
  have hmod := bV (v := at') (n := 4) (by omega);obtain ⟨j, hj, hj4⟩ : ∃ j : Nat, bD at' 4 = j ∧ j < 4 := ⟨(bD at' 4).toNat, by omega, by omega⟩;rw [hj];obtain ⟨s', es, rs⟩ := Bb (P := ts 1 aG s1 B * cq H0) (s := s1) (l := B) (lo := none) (hi := some (vi j)) (a := 0) (b := j) h6' (.inl ⟨rfl, rfl⟩) (.inr ⟨.i64, rfl⟩) (by omega) (by omega) (by omega);rw [List.drop_zero] at rs;refine aa es ?_
  haveI := rs
  refine vn (m := B.take j) h6' (by rw [List.length_take]; omega) fun v1 H7 h7 => ?_;obtain ⟨hjB, hb128, _⟩ := hlong j 0 hj4;refine bU (s := s1) (l := B) h7.right hjB rfl ?_;refine aa (X8 (b := 128) (by omega)) ?_;refine mZ (l := B.take j) (n := B[j] + 128) h7 (by rw [List.length_take]; omega) fun v2 H8 h8 => ?_;refine ae (sy _ _ _ _ _ _ _ H8) ?_;refine ae (qV _ _ _ _ _ _ _ _ H8) ?_;have hmod2 := bV (v := zeros) (n := 12) (by omega);refine Rz (H0 := H0) (s1 := s1) (T := B.take j ++ [B[j] + 128]) (m := (bD zeros 12).toNat) hlen hlt hj4 (by omega) at' zeros hset (cP (fun y hy => hlt y (List.mem_of_mem_take hy)) (t4 (by omega))) (by simp only [cT, List.length_singleton, List.length_take]; omega) (fun m => ?_) (by omega) (by omega) (bD zeros 12).toNat 0 v2 H8 (by omega) ?_
  ·obtain ⟨_, _, hl⟩ := hlong j m hj4
   rw [List.append_assoc];exact hl
  ·rw [List.replicate_zero, List.append_nil]
   exact h8.to
 obtain ⟨v', H', e, rfl⟩ := key;exact ⟨H', e⟩
theorem scriptForms_args {H0 : AH} (hT : Tab4 H0) {xp : PlanTy.I} {cp : List Value} (hp : Abs H0 PlanTy xp cp) (hs : oR PlanTy xp) {pk : List Int} {pv : Value} (hpk : Abs H0 (.slice (.int .i64)) pk [pv]) (at' zeros : Int) {big : Nat} (hbig : big < 18446744073709551616) :
 ∃ H', FF fu [.agg cp.toArray, pv, vi at', vi zeros, vu big] H0 = some (vb true, H') := by
 obtain ⟨c, v, ll, rfl, hl, h1, h2⟩ := Cx hp hs
 haveI := hl
 haveI := vx hpk
 exact OD (ll := ll) (pk := pk) (l7 hT) h1 h2 c at' zeros hbig
theorem yC (j i : Nat) : i3 j (i + 1) = i3 j i ++ (if i = j then [255, 255, 255, 255, 7] else [1]) := by
 unfold i3;rw [List.range_succ, List.flatMap_append, List.append_assoc];simp
theorem yK (j i : Nat) : gH j (i + 1) = gH j i ++ (if i = j then [128, 128, 128, 128, 8] else [1]) := by
 unfold gH;rw [List.range_succ, List.flatMap_append, List.append_assoc];simp
theorem Jx (j i : Nat) : (i3 j i).length ≤ 7 + 5 * i ∧ ∀ y ∈ i3 j i, y < 256 := by
 induction i with
 | zero => exact ⟨by simp [i3], fun y hy => by simp [i3] at hy; omega⟩
 | succ i ih =>
  rw [yC]
  split
  ·exact ⟨by simp; omega, cP ih.2 (fun y hy => by simp at hy; omega)⟩
  ·exact ⟨by simp; omega, cP ih.2 (fun y hy => by simp at hy; omega)⟩
theorem JG (j i : Nat) : (gH j i).length ≤ 7 + 5 * i ∧ ∀ y ∈ gH j i, y < 256 := by
 induction i with
 | zero => exact ⟨by simp [gH], fun y hy => by simp [gH] at hy; omega⟩
 | succ i ih =>
  rw [yK]
  split
  ·exact ⟨by simp; omega, cP ih.2 (fun y hy => by simp at hy; omega)⟩
  ·exact ⟨by simp; omega, cP ih.2 (fun y hy => by simp at hy; omega)⟩
def sN (x i : Nat) : List Nat := [1, 1, 2, 0, 1, 2, x] ++ (List.range i).map (· % 128)
theorem XN (x i : Nat) : sN x (i + 1) = sN x i ++ [i % 128] := by
 unfold sN;rw [List.range_succ, Ac, ← List.append_assoc]
 rfl
theorem Ve {x i : Nat} (hx : x < 60) : (sN x i).length = 7 + i ∧ ∀ y ∈ sN x i, y < 256 := by
 unfold sN;refine ⟨by simp; omega, cP (fun y hy => by simp at hy; omega) fun y hy => ?_⟩;obtain ⟨z, _, rfl⟩ := List.mem_map.1 hy;have := Nat.mod_lt z (show 128 > 0 by omega);show z % 128 < 256;omega
section
variable {H0 : AH}
theorem X7 {j : Nat} (hj : j < 4) {x6 v1 v2 : Value} {H : AH} (h : ac (ts 1 aG v1 (i3 j 4) * (ts 1 aG v2 (gH j 4) * cq H0)) H) : wp (gX x6 v1 v2 H) fun v' _ => v' = vb true := by
 refine ae (sx _ _ _ H) ?_;have l1 := Jx j 4;have l2 := JG j 4;refine mZ (s := v1) (l := i3 j 4) (n := 0) h (by omega) fun v3 H2 h2 => ?_;refine fh (L := i3 j 4 ++ [0]) (ab9 ⟨j, hj⟩) (r := Rd.left _ _ _ _ _ _) (cP l1.2 (t4 (by omega))) (by simp; omega) h2 fun H3 h3 => ?_;refine aa (cM rfl) ?_;refine gs ?_;have h3' : ac (ts 1 aG v2 (gH j 4) * cq H0) H3 := h3.to;refine rB [0] h3' rfl rfl fun v4 H4 h4 => ?_;refine gs ?_;have h4' : ac (ts 1 aG v2 (gH j 4) * (ts 1 aG v4 [0] * cq H0)) H4 := h4.to;refine vo (s := v2) (l := gH j 4) (m := [0]) (x := v4) h4' (by unfold cg; simp; omega) (by omega) fun v5 H5 h5 => ?_;refine gs ?_;refine fh (L := gH j 4 ++ [0]) (aqA ⟨j, hj⟩) (r := Rd.left _ _ _ _ _ _) (cP l2.2 (t4 (by omega))) (by simp; omega) h5 fun H6 h6 => ?_;refine gs ?_;refine aa (cM rfl) ?_;refine gs ?_;exact ay rfl
theorem O5 {at' : Int} {j : Nat} (hj : bD at' 4 = j) (hj4 : j < 4) {x6 : Value} : ∀ (d i : Nat) (v1 v2 : Value) (H : AH), i + d = 4 → ac (ts 1 aG v1 (i3 j i) * (ts 1 aG v2 (gH j i) * cq H0)) H → wp (eh (vi at') x6 v1 v2 (vi i) H) fun v' _ => v' = vb true := by
 intro d
 induction d with
 | zero =>
  intro i v1 v2 H hi h;refine ae (iT _ _ _ _ _ H) ?_;refine aa (aU (by omega)) ?_;refine gs ?_;refine ae (oz _ _ _ H) ?_
  obtain rfl : i = 4 := by omega
  exact X7 hj4 h
 | succ d ih =>
  intro i v1 v2 H hi h;have l1 := Jx j i;have l2 := JG j i;refine ae (iT _ _ _ _ _ H) ?_;refine aa (aW (by omega)) ?_;refine gs ?_;refine ae (qL _ _ _ _ _ H) ?_;refine ah h (aN at' 4 (by omega) (by omega)) fun _ H1 h1 => ?_;rw [hj];have h1' : ac (ts 1 aG v1 (i3 j i) * (ts 1 aG v2 (gH j i) * cq H0)) H1 := h1.to
  by_cases hij : i = j
  ·refine aa (fL (by omega)) ?_
   refine gs ?_;refine Dg [255, 255, 255, 255, 7] h1' rfl rfl fun v3 H2 h2 => ?_;have h2' : ac (ts 1 aG v1 (i3 j i) * (ts 1 aG v3 [255, 255, 255, 255, 7] * (ts 1 aG v2 (gH j i) * cq H0))) H2 := h2.to;refine vo (s := v1) (l := i3 j i) (m := [255, 255, 255, 255, 7]) (x := v3) h2' (by unfold cg; simp; omega) (by omega) fun v4 H3 h3 => ?_;have h3' : ac (ts 1 aG v4 (i3 j i ++ [255, 255, 255, 255, 7]) * (ts 1 aG v2 (gH j i) * cq H0)) H3 := h3.to;refine Dg [128, 128, 128, 128, 8] h3' rfl rfl fun v5 H4 h4 => ?_;have h4' : ac (ts 1 aG v2 (gH j i) * (ts 1 aG v5 [128, 128, 128, 128, 8] * (ts 1 aG v4 (i3 j i ++ [255, 255, 255, 255, 7]) * cq H0))) H4 := h4.to;refine vo (s := v2) (l := gH j i) (m := [128, 128, 128, 128, 8]) (x := v5) h4' (by unfold cg; simp; omega) (by omega) fun v6 H5 h5 => ?_;refine ae (iU _ _ _ _ _ H5) ?_;refine aa (aq (by omega) (by omega)) ?_;refine ih (i + 1) v4 v6 H5 (by omega) ?_;rw [yC, yK, if_pos hij, if_pos hij];exact h5.to
  ·refine aa (DG (by omega)) ?_
   refine gs ?_;refine mZ (s := v1) (l := i3 j i) (n := 1) h1' (by omega) fun v3 H2 h2 => ?_;refine mZ (s := v2) (l := gH j i) (n := 1) h2 (by omega) fun v4 H3 h3 => ?_;refine ae (oA _ _ _ _ _ H3) ?_;refine ae (iU _ _ _ _ _ H3) ?_;refine aa (aq (by omega) (by omega)) ?_;refine ih (i + 1) v3 v4 H3 (by omega) ?_;rw [yC, yK, if_neg hij, if_neg hij];exact h3.to
theorem X6 {at' : Int} {x : Nat} (hx : x < 60) {x6 v : Value} {H : AH} (h : ac (ts 1 aG v (sN x (4 * x)) * cq H0) H) : wp (gW (vi at') x6 (.int .u8 (x : Int)) v H) fun v' _ => v' = vb true := by
 refine ae (su _ _ _ _ H) ?_;have hl := Ve (i := 4 * x) hx;refine vn (m := sN x (4 * x)) h (by omega) fun v1 H1 h1 => ?_;refine aa (apU (a := 61) (b := x) (by omega) (by omega)) ?_;refine mZ (s := v1) (l := sN x (4 * x)) (n := 61 - x) h1 (by omega) fun v2 H2 h2 => ?_;refine fh (L := sN x (4 * x) ++ [61 - x]) (ab7 ⟨x, hx⟩) (r := Rd.left _ _ _ _ _ _) (cP hl.2 (t4 (by omega))) (by simp; omega) h2 fun H3 h3 => ?_;refine aa (fL rfl) ?_;refine gs ?_;have h3' : ac (ts 1 aG v (sN x (4 * x)) * cq H0) H3 := h3.to;refine vn (m := sN x (4 * x)) h3' (by omega) fun v3 H4 h4 => ?_;refine gs ?_;refine aa (apU (a := 60) (b := x) (by omega) (by omega)) ?_;refine gs ?_;refine rB [60 - x] h4 rfl rfl fun v4 H5 h5 => ?_;refine gs ?_;have h5' : ac (ts 1 aG v3 (sN x (4 * x)) * (ts 1 aG v4 [60 - x] * cq H0)) H5 := h5.to;refine vo (s := v3) (l := sN x (4 * x)) (m := [60 - x]) (x := v4) h5' (by unfold cg; simp; omega) (by omega) fun v5 H6 h6 => ?_;refine gs ?_;refine fh (L := sN x (4 * x) ++ [60 - x]) (ab8 ⟨x, hx⟩) (r := Rd.left _ _ _ _ _ _) (cP hl.2 (t4 (by omega))) (by simp; omega) h6 fun H7 h7 => ?_;refine gs ?_;refine aa (fL rfl) ?_;refine gs ?_;have h7' : ac (cq H0) H7 := h7.to;refine Dg [1, 1, 1, 0, 1, 1, 1] h7' rfl rfl fun v6 H8 h8 => ?_;refine Dg [1, 1, 1, 0, 1, 1, 1] h8 rfl rfl fun v7 H9 h9 => ?_;refine ae (sw _ _ _ _ H9) ?_;refine ae (qK _ _ _ _ _ H9) ?_;have hmod := bV (v := at') (n := 4) (by omega)
 have h9' : ac (ts 1 aG v6 (i3 (bD at' 4).toNat 0) * (ts 1 aG v7 (gH (bD at' 4).toNat 0) * cq H0)) H9 := by
  have t : ac (ts 1 aG v6 [1, 1, 1, 0, 1, 1, 1] * (ts 1 aG v7 [1, 1, 1, 0, 1, 1, 1] * cq H0)) H9 := h9.to;exact t
 exact O5 (j := (bD at' 4).toNat) (by omega) (by omega) 4 0 v6 v7 H9 (by omega) h9'
theorem Vu {at' : Int} {x : Nat} (hx : x < 60) {x6 : Value} : ∀ (d i : Nat) (v : Value) (H : AH), i + d = 4 * x → ac (ts 1 aG v (sN x i) * cq H0) H → wp (ei (vi at') x6 (.int .u8 (x : Int)) v (vi i) H) fun v' _ => v' = vb true := by
 intro d
 induction d with
 | zero =>
  intro i v H hi h;refine ae (iV _ _ _ _ _ H) ?_;refine aa (S2 (by omega)) ?_;refine aa (jT (by omega) (by omega)) ?_;refine aa (aU (by omega)) ?_;refine gs ?_;refine ae (oB _ _ _ _ H) ?_
  obtain rfl : i = 4 * x := by omega
  exact X6 hx h
 | succ d ih =>
  intro i v H hi h;have hl := Ve (i := i) hx;refine ae (iV _ _ _ _ _ H) ?_;refine aa (S2 (by omega)) ?_;refine aa (jT (by omega) (by omega)) ?_;refine aa (aW (by omega)) ?_;refine gs ?_;refine ae (qN _ _ _ _ _ H) ?_;refine aa (oV (b := 128) (by omega)) ?_;have := Nat.mod_lt i (show 128 > 0 by omega);refine aa (zk (by omega)) ?_;refine mZ (s := v) (l := sN x i) (n := i % 128) h (by omega) fun v2 H2 h2 => ?_;refine ae (qO _ _ _ _ _ H2) ?_;refine aa (aq (by omega) (by omega)) ?_;refine ih (i + 1) v2 H2 (by omega) ?_;rw [XN];exact h2.to
end
theorem OC {H0 : AH} (hA : Sp bB [] (cq H0) (fun _ : Unit => vb true) (fun _ => cq H0)) (w n at' : Int) :
 ∃ H', FF ft [vi w, vi n, vi at'] H0 = some (vb true, H') := by
 have key : wp (FF ft [vi w, vi n, vi at'] H0) fun v' _ => v' = vb true := by
  refine eD (fun r => yy _ _ _ H0) ?_;refine ah (jW H0) (aN w 6 (by omega) (by omega)) fun _ H1 h1 => ?_;have m1 := bV (v := w) (n := 6) (by omega);refine aa (aq (by omega) (by omega)) ?_;obtain ⟨k, hk, hk1, hk6⟩ : ∃ k : Nat, 1 + bD w 6 = k ∧ 1 ≤ k ∧ k < 7 := ⟨(1 + bD w 6).toNat, by omega, by omega, by omega⟩;rw [hk];refine aa (zk (by omega)) ?_;refine ah h1 (aN n 60 (by omega) (by omega)) fun _ H2 h2 => ?_;have m2 := bV (v := n) (n := 60) (by omega);obtain ⟨x, hx, hx60⟩ : ∃ x : Nat, bD n 60 = x ∧ x < 60 := ⟨(bD n 60).toNat, by omega, by omega⟩;rw [hx];refine aa (zk (by omega)) ?_;have h2' : ac (cq H0) H2 := h2.to;refine ah h2' hA fun _ H3 h3 => ?_;have h3' : ac (cq H0) H3 := h3.to
  clear h1 h2 h2' h3
  refine gs ?_;rw [Bool.not_true];refine gs ?_;refine aa (X8 (a := k) (b := 1) (by omega)) ?_;refine gs ?_;refine aa (X8 (a := k + 1) (b := x) (by omega)) ?_;refine gs ?_;refine rB [1, 1, k, 0, 1, k + 1 + x] h3' rfl rfl fun v1 H4 h4 => ?_;refine gs ?_;refine fh (L := [1, 1, k, 0, 1, k + 1 + x]) (ab1 ⟨k, hk6⟩ ⟨x, hx60⟩ hk1) (r := Rd.left _ _ _ _ _ _) (fun y hy => by simp at hy; omega) (by simp) h4 fun H5 h5 => ?_;refine gs ?_;refine aa (fL rfl) ?_;refine gs ?_;refine aa (X8 (a := 61) (b := x) (by omega)) ?_;refine gs ?_;refine rB [1, 1, 1, 0, 1, 1, 61 + x] h5.right rfl rfl fun v2 H6 h6 => ?_;refine gs ?_;refine fh (L := [1, 1, 1, 0, 1, 1, 61 + x]) (ab2 ⟨x, hx60⟩) (r := Rd.left _ _ _ _ _ _) (fun y hy => by simp at hy; omega) (by simp) h6 fun H7 h7 => ?_;refine gs ?_;refine aa (fL rfl) ?_;refine gs ?_;refine aa (X8 (a := 64) (b := x) (by omega)) ?_;refine gs ?_;refine rB [1, 1, 1, 0, 1, 0, 1, 64 + x] h7.right rfl rfl fun v3 H8 h8 => ?_;refine gs ?_;refine fh (L := [1, 1, 1, 0, 1, 0, 1, 64 + x]) (ab3 ⟨x, hx60⟩) (r := Rd.left _ _ _ _ _ _) (fun y hy => by simp at hy; omega) (by simp) h8 fun H9 h9 => ?_;refine gs ?_;refine aa (fL rfl) ?_;refine gs ?_;refine rB [1, 1, 1, 0, 1, 0, 1, 63] h9.right rfl rfl fun v4 H10 h10 => ?_;refine gs ?_;refine fh (L := [1, 1, 1, 0, 1, 0, 1, 63]) ab4 (r := Rd.left _ _ _ _ _ _) (fun y hy => by simp at hy; omega) (by simp) h10 fun H11 h11 => ?_;refine gs ?_;refine aa (fL rfl) ?_;refine gs ?_;refine Dg [1, 1, 1, 0, 1, 0, 161, 31] h11.right rfl rfl fun v5 H12 h12 => ?_;refine fh (L := [1, 1, 1, 0, 1, 0, 161, 31]) ab5 (r := Rd.left _ _ _ _ _ _) (fun y hy => by simp at hy; omega) (by simp) h12 fun H13 h13 => ?_;refine aa (fL rfl) ?_;refine gs ?_;refine rB [1, 1, 1, 0, 1, 0, 160, 31] h13.right rfl rfl fun v6 H14 h14 => ?_;refine gs ?_;refine fh (L := [1, 1, 1, 0, 1, 0, 160, 31]) ab6 (r := Rd.left _ _ _ _ _ _) (fun y hy => by simp at hy; omega) (by simp) h14 fun H15 h15 => ?_;refine gs ?_;refine aa (fL rfl) ?_;refine gs ?_;refine Dg [1, 1, 2, 0, 1, 2, x] h15.right rfl rfl fun v7 H16 h16 => ?_;refine ae (ss _ _ _ _ H16) ?_;refine ae (qM _ _ _ _ _ H16) ?_
  have h16' : ac (ts 1 aG v7 (sN x 0) * cq H0) H16 := by
   have t : ac (ts 1 aG v7 [1, 1, 2, 0, 1, 2, x] * cq H0) H16 := h16.to;exact t
  exact Vu hx60 (4 * x) 0 v7 H16 (by omega) h16'
 obtain ⟨v', H', e, rfl⟩ := key;exact ⟨H', e⟩
theorem scriptAbove_args {H0 : AH} (hT : Tab4 H0) (w n at' : Int) : ∃ H', FF ft [vi w, vi n, vi at'] H0 = some (vb true, H') := OC (l7 hT) w n at'
abbrev YH : Cl := ⟨4, 0, 0, 0⟩
def mnS (b b4 : Nat) (c : Cfg) (pv : Sv) (ps : List (Sv × List Cl)) (X : SP) : SP := blk b (.cells false (aK c pv.v)) * (blk b4 (.cells false (Cfg.cells c)) * (ts 1 iK pv.v (ps.map (·.1)) * (eb ps * X)))
def Mn (ps : List (Sv × List Cl)) (k i : Nat) : Prop := ps.length = k ∧ ck (ps.map (·.2)) = i ∧ ∀ l ∈ ps.map (·.2), ∀ x ∈ l, x = YH
theorem Mn.zero (k : Nat) : Mn (List.replicate k (⟨none, 0, 0⟩, [])) k 0 := by
 refine ⟨by simp, ?_, fun l hl x hx => ?_⟩
 ·rw [List.map_replicate]
  unfold ck;rw [List.map_replicate];simp
 ·rw [List.map_replicate] at hl
  rw [List.eq_of_mem_replicate hl] at hx;cases hx
theorem Mn.set {ps : List (Sv × List Cl)} {k i j : Nat} (h : Mn ps k i) (hj : j < ps.length) (s : Sv) : Mn (ps.set j (s, (ps[j]).2 ++ [YH])) k (i + 1) := by
 obtain ⟨h1, h2, h3⟩ := h;refine ⟨by rw [Ec]; exact h1, ?_, fun l hl x hx => ?_⟩
 ·have := OO (ll := ps.map fun x : Sv × List Cl => x.2) (i := j) (by simpa using hj) ((ps[j]).2 ++ [YH])
  rw [List.map_set];simp only [List.getElem_map, cT, List.length_singleton] at this;dsimp only;omega
 ·rw [List.map_set] at hl
  rcases List.mem_or_eq_of_mem_set hl with hl | rfl
  ·exact h3 l hl x hx
  ·rcases List.mem_append.1 hx with hx | hx
   ·exact h3 _ (List.mem_map.2 ⟨ps[j], tY hj, rfl⟩) x hx
   ·exact List.mem_singleton.1 hx
section
variable {X : SP} {b b4 : Nat} {Q : Value → AH → Prop}
theorem RH {sh sl wd : Int} {k un : Nat} (hk : 1 ≤ k ∧ k ≤ 6) {m : Nat} (hm : m ≤ 69) {x1 x2 : Value} (next : ∀ (pv : Sv) (ps : List (Sv × List Cl)) (H : AH), Mn ps k m → ac (mnS b b4 ⟨sh, sl, k, wd, un⟩ pv ps X) H → wp (iZ x1 x2 (vi m) (vb false) (vp b) H) Q) : ∀ (d i : Nat) (pv : Sv) (ps : List (Sv × List Cl)) (H : AH),
 i + d = m → Mn ps k i → ac (mnS b b4 ⟨sh, sl, k, wd, un⟩ pv ps X) H → wp (eR x1 x2 (vi m) (vp b4) (vb false) (vp b) (vi i) H) Q := by
 intro d
 induction d with
 | zero =>
  intro i pv ps H hi hM h;refine ae (jI _ _ _ _ _ _ _ H) ?_;refine aa (aU (by omega)) ?_;refine gs ?_;refine ae (pJ _ _ _ _ _ H) ?_
  obtain rfl : i = m := by omega
  exact next pv ps H hM h
 | succ d ih =>
  intro i pv ps H hi hM h;refine ae (jI _ _ _ _ _ _ _ H) ?_;refine aa (aW (by omega)) ?_;refine gs ?_;refine ae (sF _ _ _ _ _ _ _ H) ?_;have hps := hM.1
  have hj : i % k < ps.length := by rw [hps]; exact Nat.mod_lt _ (by omega)
  have hqm : i % k < (ps.map (·.1)).length := by simpa using hj
  obtain ⟨Rr, e1, e2⟩ := nX hj;have h' := h;unfold mnS at h';rw [e1] at h';refine k8 aj ?_;refine dK h' rfl ?_;refine k8 aj ?_;refine dK h' rfl ?_;refine aa (oV (a := i) (b := k) (by omega)) ?_;refine aL h' aj rfl ?_;refine aL h' aj rfl ?_;refine aa (oV (a := i) (b := k) (by omega)) ?_;refine bU (s := pv.v) (l := ps.map fun x : Sv × List Cl => x.1) h' hqm (v := (ps[i % k]).1.v) (by simp) ?_;refine MQ ?_;refine IP h' fun b0 H2 h2 => ?_
  have hlen : (ps[i % k]).2.length ≤ i := by
   have := gM (ll := ps.map fun x : Sv × List Cl => x.2) (i := i % k) (by simpa using hj);simp only [List.getElem_map] at this;have := hM.2.1;omega
  refine d8 (s := (ps[i % k]).1.v) (l := (ps[i % k]).2) YH h2 rfl ?_ (by omega) fun a cc H3 h3 => ?_
  ·unfold cg; omega
  refine ci h3 h' rfl ?_;refine ci h3 h' rfl ?_;refine DS (s := pv.v) (l := ps.map fun x : Sv × List Cl => x.1) (i := i % k) (⟨a, (ps[i % k]).2.length + 1, cc⟩ : Sv) h3 hqm (.inl ⟨rfl, rfl⟩) rfl (by omega) rfl rfl fun H4 h4 => ?_;refine ae (sG _ _ _ _ _ _ _ H4) ?_;refine aa (aq (by omega) (by omega)) ?_;refine ih (i + 1) pv (ps.set (i % k) (⟨a, (ps[i % k]).2.length + 1, cc⟩, (ps[i % k]).2 ++ [YH])) H4 (by omega) (hM.set hj _) ?_;unfold mnS;rw [e2, List.map_set];exact h4.to
theorem RI {x1 : Nat} (hx1 : x1 ≤ 4009) (x2 : Int) {x3 x8 x9 : Value} (next : ∀ (s : Value) (pk : List Int) (H : AH), pk.length = x1 → (∀ n ∈ pk, rk n = true) → ac (ts 1 bz s pk * X) H → wp (fq (vi x1) (vi x2) x3 x8 x9 s H) Q) : ∀ (d i : Nat) (s : Value) (pk : List Int) (H : AH),
 i + d = x1 → pk.length = x1 → (∀ n ∈ pk, rk n = true) → ac (ts 1 bz s pk * X) H → wp (eQ (vi x1) (vi x2) x3 x8 x9 s (vi i) H) Q := by
 intro d
 induction d with
 | zero =>
  intro i s pk H hi hl hk h;refine ae (jH _ _ _ _ _ _ _ H) ?_;refine aa (aU (by omega)) ?_;refine gs ?_;refine ae (pI _ _ _ _ _ _ H) ?_;exact next s pk H hl hk h
 | succ d ih =>
  intro i s pk H hi hl hk h;refine ae (jH _ _ _ _ _ _ _ H) ?_;refine aa (aW (by omega)) ?_;refine gs ?_;refine ae (sC _ _ _ _ _ _ _ H) ?_;refine aa (jT (by omega) (by omega)) ?_;refine aa (R9 (by omega)) ?_;refine aa I1 ?_;refine ah h (aN _ 64 (by omega) (by omega)) fun _ H2 h2 => ?_;have h2' : ac (ts 1 bz s pk * X) H2 := h2.to
  generalize IntKind.wrap .i64 ((i : Int) * 7 + x2.tmod 64) = y
  have hy := bV (v := y) (n := 64) (by omega);refine DS (s := s) (l := pk) (i := i) (bD y 64 : Int) h2' (by omega) (.inl ⟨rfl, rfl⟩) rfl (by omega) rfl rfl fun H3 h3 => ?_;refine ae (sD _ _ _ _ _ _ _ H3) ?_;refine aa (aq (by omega) (by omega)) ?_;refine ih (i + 1) s (pk.set i (bD y 64)) H3 (by omega) (by rw [Ec]; exact hl) (fun n hn => ?_) h3.to
  rcases List.mem_or_eq_of_mem_set hn with hn | rfl
  ·exact hk n hn
  ·unfold rk
   exact dZ (by omega)
end
theorem agD {sh sl wd : Int} {k un : Nat} (hr : dn ⟨sh, sl, k, wd, un⟩ = true) {ps : List (Sv × List Cl)} {m : Nat} (hM : Mn ps k m) {pk : List Int} : m0 ⟨sh, sl, k, wd, un⟩ (ps.map (·.2)) pk = (decide (pk.length ≤ 4000) && decide (m ≤ 60) && pk.all rk) := by
 obtain ⟨h1, h2, h3⟩ := hM
 have e1 : j0 ⟨sh, sl, k, wd, un⟩ (ps.map (·.2)) = decide (m ≤ 60) := by
  unfold j0;rw [hr, Bool.true_and];simp only [dN]
  by_cases h : m ≤ 60
  ·rw [dZ h]
   exact dZ ⟨by omega, by omega⟩
  ·rw [gm h]
   exact gm fun hh => h (by omega)
 have e2 : (ps.map (·.2)).all (·.all dC) = true := by
  simp only [List.all_eq_true];intro l hl x hx;rw [h3 l hl x hx]
  decide
 unfold m0;rw [e1, e2, Bool.true_and, Bool.and_comm (decide (m ≤ 60))]
theorem Dl {pk : List Int} {j : Nat} (hj : j < pk.length) {y : Int} (hy : rk y = false) : (pk.set j y).all rk = false := by
 cases h : (pk.set j y).all rk with
 | false => rfl
 | true =>
  have := List.all_eq_true.1 h y (List.mem_iff_getElem.2 ⟨j, by simpa using hj, List.getElem_set_self _⟩);rw [hy] at this;cases this
section
variable {H0 : AH} {b b4 : Nat}
theorem af4 (hA : Sp bB [] (cq H0) (fun _ : Unit => vb true) (fun _ => cq H0)) {sh sl wd : Int} {k un : Nat} (hr : dn ⟨sh, sl, k, wd, un⟩ = true) {m : Nat} (hm : m ≤ 69) {n : Nat} (hn : 1 ≤ n ∧ n ≤ 4009) (pick : Int) {pv : Sv} {ps : List (Sv × List Cl)} (hM : Mn ps k m) {s : Value} {pk : List Int} (hl : pk.length = n) (hk : ∀ n ∈ pk, rk n = true) {H : AH}
 (h : ac (ts 1 bz s pk * mnS b b4 ⟨sh, sl, k, wd, un⟩ pv ps (cq H0)) H) : wp (fq (vi n) (vi pick) (vi m) (vb false) (vp b) s H) fun v' _ => v' = vb true := by
 have hcc := aT.1 hr;dsimp only at hcc;have hsum := hM.2.1;have hpl := hM.1
 have hbs : ∀ l ∈ ps.map (·.2), l.length ≤ 69 := fun l hl => by
  obtain ⟨i, hi, rfl⟩ := List.getElem_of_mem hl;have := gM hi;omega
 have eok := fun pk => agD (pk := pk) hr hM;have hall : pk.all rk = true := List.all_eq_true.2 hk;refine ae (tW _ _ _ _ _ _ H) ?_
 have h0 : ac (blk b (.cells false (aK ⟨sh, sl, k, wd, un⟩ pv.v)) * (jx pv.v ps * (ts 1 bz s pk * cq H0))) H := by
  unfold mnS at h;unfold jx;exact h.to
 refine bx h0 ?_;refine ah h0 (de (P := jx pv.v ps * (ts 1 bz s pk * cq H0)) (v := pv.v) (pv := s) (ll := ps.map fun x : Sv × List Cl => x.2) (pk := pk) ⟨sh, sl, k, wd, un⟩ (by simp only [dN]; omega) (fun _ l hl => by have := hbs l hl; omega)) fun s1 H1 h1 => ?_;refine aa (v := s1) rfl ?_;refine aa (v := vi (if m0 ⟨sh, sl, k, wd, un⟩ (ps.map fun x : Sv × List Cl => x.2) pk then 0 else 1)) rfl ?_;unfold BL at h1;have e0 := eok pk;rw [hall, Bool.and_true, hl] at e0
 by_cases hn4 : n ≤ 4000
 ·by_cases hm60 : m ≤ 60
  ·-- all may be
   have ho : m0 ⟨sh, sl, k, wd, un⟩ (ps.map fun x : Sv × List Cl => x.2) pk = true := by rw [e0, dZ hn4, dZ hm60]; rfl
   rw [ho, if_pos rfl] at h1;rw [ho];have hlenB := qx ho
   generalize hB : bP ⟨sh, sl, k, wd, un⟩ (ps.map fun x : Sv × List Cl => x.2) pk = B at *
   have h1' : ac (ts 1 aG s1 B * (blk b (.cells false (aK ⟨sh, sl, k, wd, un⟩ pv.v)) * (jx pv.v ps * (ts 1 bz s pk * cq H0)))) H1 := h1.to
   clear h1 h0 h
   refine ah h1' hA fun _ H2 h2 => ?_;have h2' : ac (ts 1 aG s1 B * (blk b (.cells false (aK ⟨sh, sl, k, wd, un⟩ pv.v)) * (jx pv.v ps * (ts 1 bz s pk * cq H0)))) H2 := h2.to
   clear h1' h2
   refine gs ?_;rw [Bool.not_true];refine gs ?_;refine aa (cM rfl) ?_;refine gs ?_;refine aa (rV (by omega)) ?_;refine gs ?_;refine aa (rV (by omega)) ?_;refine gs ?_;refine aa (v := vb false) rfl ?_;refine gs ?_;refine aa (fL rfl) ?_;refine gs ?_;refine aa (fL rfl) ?_;refine gs ?_;obtain ⟨rv, H3, e3, sv', ps', pv', rfl, hps, h3⟩ := Dy (R := ts 1 aG s1 B * (blk b (.cells false (aK ⟨sh, sl, k, wd, un⟩ pv.v)) * (jx pv.v ps * (ts 1 bz s pk * cq H0)))) ho (v := s1) (by rw [hB]; infer_instance) h2';rw [e3, aB];refine aa (v := .agg (aK ⟨sh, sl, k, wd, un⟩ sv'.v).toArray) rfl ?_;refine aa (v := pv') rfl ?_;refine aa (v := vi 0) rfl ?_;refine ce h3 fun b5 H4 h4 => ?_;refine cS h4 rfl rfl fun H5 h5 => ?_;have m1 := bV (v := pick) (n := (n : Int)) (by omega);have m2 := bV (v := pick) (n := 64) (by omega);obtain ⟨j, hj, hjn⟩ : ∃ j : Nat, bD pick n = j ∧ j < n := ⟨(bD pick n).toNat, by omega, by omega⟩;refine ah h5 (aN pick n (by omega) (by omega)) fun _ H6 h6 => ?_;refine ah h6 (aN pick 64 (by omega) (by omega)) fun _ H7 h7 => ?_;rw [hj];refine aa (aq (by omega) (by omega)) ?_
   generalize bD pick 64 = q at m2
   have h7' : ac (ts 1 bz s pk * (blk b (.cells false (aK ⟨sh, sl, k, wd, un⟩ pv.v)) * (blk b5 (.cells false (aK ⟨sh, sl, k, wd, un⟩ sv'.v)) * (jx pv.v ps * (jx sv'.v ps' * (ts 1 bz pv' pk * cq H0)))))) H7 := h7.to
   clear h3 h4 h5 h6 h7 h2'
   refine DS (s := s) (l := pk) (i := j) (64 + q : Int) h7' (by omega) (.inl ⟨rfl, rfl⟩) rfl (by omega) rfl rfl fun H8 h8 => ?_;refine bx h8 ?_;refine ah h8 (de (P := jx pv.v ps * ts 1 bz s (pk.set j (64 + q))) (v := pv.v) (pv := s) (ll := ps.map fun x : Sv × List Cl => x.2) (pk := pk.set j (64 + q)) ⟨sh, sl, k, wd, un⟩ (by simp only [dN]; omega) (fun _ l hl => by have := hbs l hl; omega)) fun s2 H9 h9 => ?_
   have hb1 : m0 ⟨sh, sl, k, wd, un⟩ (ps.map fun x : Sv × List Cl => x.2) (pk.set j (64 + q)) = false := by
    rw [eok, Dl (by omega) (by unfold rk; exact gm (by omega)), Bool.and_false]
   refine aa (v := s2) rfl ?_;refine aa (v := vi (if m0 ⟨sh, sl, k, wd, un⟩ (ps.map fun x : Sv × List Cl => x.2) (pk.set j (64 + q)) then 0 else 1)) rfl ?_;unfold BL at h9;rw [hb1, if_neg (by simp), aC] at h9;rw [hb1];obtain ⟨rfl, h9b⟩ := ac.pu.1 h9;have h9' : ac (ts 1 bz s (pk.set j (64 + q)) * (blk b (.cells false (aK ⟨sh, sl, k, wd, un⟩ pv.v)) * (blk b5 (.cells false (aK ⟨sh, sl, k, wd, un⟩ sv'.v)) * (jx pv.v ps * (jx sv'.v ps' * (ts 1 bz pv' pk * cq H0)))))) H9 := h9b.to
   clear h9 h9b
   refine ah h9' (aN pick n (by omega) (by omega)) fun _ H10 h10 => ?_;refine ah h10 (aN pick 64 (by omega) (by omega)) fun _ H11 h11 => ?_;rw [hj];have m3 := bV (v := pick) (n := 64) (by omega);refine aa (vA (by omega) (by omega)) ?_
   generalize bD pick 64 = q2 at m3
   have h11' : ac (ts 1 bz s (pk.set j (64 + q)) * (blk b (.cells false (aK ⟨sh, sl, k, wd, un⟩ pv.v)) * (blk b5 (.cells false (aK ⟨sh, sl, k, wd, un⟩ sv'.v)) * (jx pv.v ps * (jx sv'.v ps' * (ts 1 bz pv' pk * cq H0)))))) H11 := h11.to
   clear h10 h11 h9' h8 h7'
   refine DS (s := s) (l := pk.set j (64 + q)) (i := j) (-1 - q2 : Int) h11' (by rw [Ec]; omega) (.inl ⟨rfl, rfl⟩) rfl (by omega) rfl rfl fun H12 h12 => ?_;refine bx h12 ?_;refine ah h12 (de (P := jx pv.v ps * ts 1 bz s ((pk.set j (64 + q)).set j (-1 - q2))) (v := pv.v) (pv := s) (ll := ps.map fun x : Sv × List Cl => x.2) (pk := (pk.set j (64 + q)).set j (-1 - q2)) ⟨sh, sl, k, wd, un⟩ (by simp only [dN]; omega) (fun _ l hl => by have := hbs l hl; omega)) fun s3 H13 h13 => ?_
   have hb2 : m0 ⟨sh, sl, k, wd, un⟩ (ps.map fun x : Sv × List Cl => x.2) ((pk.set j (64 + q)).set j (-1 - q2)) = false := by
    rw [eok, Dl (by rw [Ec]; omega) (by unfold rk; exact gm (by omega)), Bool.and_false]
   refine aa (v := s3) rfl ?_;refine aa (v := vi (if m0 ⟨sh, sl, k, wd, un⟩ (ps.map fun x : Sv × List Cl => x.2) ((pk.set j (64 + q)).set j (-1 - q2)) then 0 else 1)) rfl ?_;unfold BL at h13;rw [hb2, if_neg (by simp), aC] at h13;rw [hb2];obtain ⟨rfl, h13b⟩ := ac.pu.1 h13;have h13' : ac (blk b (.cells false (aK ⟨sh, sl, k, wd, un⟩ pv.v)) * (blk b5 (.cells false (aK ⟨sh, sl, k, wd, un⟩ sv'.v)) * (jx pv.v ps * (jx sv'.v ps' * (ts 1 bz pv' pk * cq H0))))) H13 := h13b.to
   clear h13 h13b
   refine aa (cM rfl) ?_;refine gs ?_;refine bx h13' ?_;refine gs ?_;refine bx h13' ?_;refine gs ?_
   have L2 : Ls (jx sv'.v ps') sv'.v (ps.map fun x : Sv × List Cl => x.2) := by
    have := af0 sv'.v ps';rw [hps] at this;exact this
   refine ah h13' (wv (P := jx pv.v ps * jx sv'.v ps') (v := pv.v) (v' := sv'.v) (ll := ps.map fun x : Sv × List Cl => x.2) ⟨sh, sl, k, wd, un⟩ (by simp only [dN]; omega) (fun l hl => by have := hbs l hl; omega)) fun _ H14 h14 => ?_;have h14' : ac (ts 1 bz pv' pk * cq H0) H14 := h14.to;refine gs ?_;refine gg (s := pv') (l := pk) h14' ?_;refine gs ?_;refine aa (cM (by omega)) ?_;refine gs ?_;refine aa (cM rfl) ?_;refine gs ?_;refine aa (cM rfl) ?_;refine gs ?_;exact ay rfl
  ·have ho : m0 ⟨sh, sl, k, wd, un⟩ (ps.map fun x : Sv × List Cl => x.2) pk = false := by rw [e0, gm hm60, Bool.and_false]
   rw [ho, if_neg (by simp), aC] at h1;obtain ⟨rfl, h1'⟩ := ac.pu.1 h1;rw [ho];refine ah h1' hA fun _ H2 h2 => ?_;refine gs ?_;rw [Bool.not_true];refine gs ?_;refine aa (nw (by decide)) ?_;refine gs ?_;refine aa (rV (by omega)) ?_;refine gs ?_;refine aa (tZ (by omega)) ?_;refine gs ?_;refine aa (v := vb false) rfl ?_;refine gs ?_;refine aa (DG (by decide)) ?_;refine gs ?_;refine aa (fL rfl) ?_;refine gs ?_;refine aa (DG (by decide)) ?_;refine gs ?_;refine amH ?_;refine aa (cM rfl) ?_;exact ay rfl
 ·have ho : m0 ⟨sh, sl, k, wd, un⟩ (ps.map fun x : Sv × List Cl => x.2) pk = false := by rw [e0, gm hn4, Bool.false_and]
  rw [ho, if_neg (by simp), aC] at h1;obtain ⟨rfl, h1'⟩ := ac.pu.1 h1;rw [ho];refine ah h1' hA fun _ H2 h2 => ?_;refine gs ?_;rw [Bool.not_true];refine gs ?_;refine aa (nw (by decide)) ?_;refine gs ?_;refine aa (tZ (by omega)) ?_;refine gs ?_;refine aa (v := vb false) rfl ?_;refine gs ?_;refine aa (DG (by decide)) ?_;refine gs ?_;refine aa (fL rfl) ?_;refine gs ?_;refine aa (DG (by decide)) ?_;refine gs ?_;refine amH ?_;refine aa (cM rfl) ?_;exact ay rfl
theorem Sk (hA : Sp bB [] (cq H0) (fun _ : Unit => vb true) (fun _ => cq H0)) (c : Cfg) (n0 pick calls : Int) :
 ∃ H', FF fZ [.agg (Cfg.cells c).toArray, vi n0, vi pick, vi calls] H0 = some (vb true, H') := by
 have key : wp (FF fZ [.agg (Cfg.cells c).toArray, vi n0, vi pick, vi calls] H0) fun v' _ => v' = vb true := by
  refine eD (fun r => zY _ _ _ _ H0) ?_;refine bH (jW H0) fun b4 H1 h1 => ?_;refine bx h1 ?_;refine ah h1 (uq c) fun c' H2 h2 => ?_;obtain ⟨hr, h2'⟩ := ac.pu.1 h2;obtain ⟨sh, sl, wk, wd, un⟩ := c';have hc := aT.1 hr;dsimp only at hc;obtain ⟨k, rfl⟩ : ∃ k : Nat, wk = k := ⟨wk.toNat, by omega⟩;refine cS h2' rfl rfl fun H3 h3 => ?_;refine ah h3 (aN n0 20 (by omega) (by omega)) fun _ H4 h4 => ?_;have m1 := bV (v := n0) (n := 20) (by omega);refine aa (aq (by omega) (by omega)) ?_;obtain ⟨n, hn, hn1, hn2⟩ : ∃ n : Nat, 3990 + bD n0 20 = n ∧ 1 ≤ n ∧ n ≤ 4009 := ⟨(3990 + bD n0 20).toNat, by omega, by omega, by omega⟩;rw [hn];refine ah h4 (aN calls 20 (by omega) (by omega)) fun _ H5 h5 => ?_;have m2 := bV (v := calls) (n := 20) (by omega);refine aa (aq (by omega) (by omega)) ?_;obtain ⟨m, hm, hm2⟩ : ∃ m : Nat, 50 + bD calls 20 = m ∧ m ≤ 69 := ⟨(50 + bD calls 20).toNat, by omega, by omega⟩;rw [hm];have h5' : ac (blk b4 (.cells false (Cfg.cells ⟨sh, sl, k, wd, un⟩)) * cq H0) H5 := h5.to
  clear h1 h2 h2' h3 h4 h5
  refine bx h5' ?_;refine aL h5' aj rfl ?_;refine MS (n := k) (enc := iK) (⟨none, 0, 0⟩ : Sv) h5' rfl (by unfold cg; omega) (by omega) fun bl H6 h6 => ?_;refine xW (cs := aK ⟨sh, sl, k, wd, un⟩ (vs bl k 1)) rfl ?_;refine ce h6 fun b H7 h7 => ?_;refine cS h7 rfl rfl fun H8 h8 => ?_;refine ae (tT _ _ _ _ _ _ H8) ?_;refine ae (sE _ _ _ _ _ _ _ H8) ?_
  have h8' : ac (mnS b b4 ⟨sh, sl, k, wd, un⟩ ⟨some ⟨bl, 0, none⟩, k, 1⟩ (List.replicate k (⟨none, 0, 0⟩, [])) (cq H0)) H8 := by
   unfold mnS;rw [List.map_replicate];have t : ac (eb (List.replicate k (⟨none, 0, 0⟩, [])) * _) H8 := wu h8 k;exact t.to
  refine RH (by omega) hm2 (fun pv ps H hM h => ?_) m 0 _ _ H8 (by omega) (Mn.zero k) h8';refine ae (tU _ _ _ _ _ H) ?_;refine MS (n := n) (enc := bz) (0 : Int) h rfl (by unfold cg; omega) (by omega) fun bp H9 h9 => ?_;refine ae (tV _ _ _ _ _ _ H9) ?_;refine ae (sB _ _ _ _ _ _ _ H9) ?_;refine RI hn2 pick (fun s pk H hl hk h => ?_) n 0 (vs bp n 1) (List.replicate n 0) H9 (by omega) (by simp) (fun y hy => by rw [List.eq_of_mem_replicate hy]; decide) h9;exact af4 hA hr hm2 ⟨hn1, hn2⟩ pick hM hl hk h
 obtain ⟨v', H', e, rfl⟩ := key;exact ⟨H', e⟩
end
theorem scriptMany_args {H0 : AH} (hT : Tab4 H0) {x : CfgTy.I} {cs : List Value} (h : Abs H0 CfgTy x cs) (n pick calls : Int) :
 ∃ H', FF fZ [.agg cs.toArray, vi n, vi pick, vi calls] H0 = some (vb true, H') := by
 obtain ⟨c, rfl⟩ := Kd h;exact Sk (l7 hT) c n pick calls
end Go.Proofs.YthagelbepgcolaaGreatDoor.Gst
namespace Go.Proofs.YthagelbepgcolaaGreatDoor.Gst
open Go
set_option maxRecDepth 100000
abbrev RS := Except Int (List Nat)
def agH : Except Int (Nat × List Nat) → Nat × RS
 | .ok (n, r) => (n, .ok r)
 | .error e => (0, .error e)
def jf (lo hi : Nat) : RS → Nat × RS
 | .ok L => agH (fM lo hi L)
 | .error e => (0, .error e)
def aoA (lo hi : Nat) : Except Int (Nat × List Nat) → Nat × RS
 | .ok (n, r) => if n < lo ∨ hi < n then (0, .error 11) else (n, .ok r)
 | .error e => (0, .error e)
theorem akP (lo hi : Nat) (L : List Nat) : jf lo hi (.ok L) = aoA lo hi (iI L 0 0) := by
 show agH (fM lo hi L) = _
 cases hd : iI L 0 0 with
 | ok p =>
  obtain ⟨n, r⟩ := p;unfold fM;rw [hd];show agH (if n < lo ∨ hi < n then .error 11 else .ok (n, r)) = if n < lo ∨ hi < n then (0, .error 11) else (n, .ok r)
  split <;> rfl
 | error e =>
  unfold fM;rw [hd]
  rfl
theorem Bc {lo hi : Nat} {S : RS} : (jf lo hi S).1 ≤ hi := by
 cases S with
 | ok L =>
  show (agH (fM lo hi L)).1 ≤ hi
  cases h : fM lo hi L with
  | ok p => exact (j8 h).2
  | error e => exact Nat.zero_le _
 | error e => exact Nat.zero_le _
theorem dE {lo hi : Nat} {L : List Nat} {a : Nat × RS} (h : jf lo hi (.ok L) = a) : (∃ r, a.2 = .ok r ∧ fM lo hi L = .ok (a.1, r)) ∨ ∃ e, a = (0, .error e) ∧ fM lo hi L = .error e := by
 have h' : agH (fM lo hi L) = a := h;subst h'
 cases hn : fM lo hi L with
 | ok p => exact .inl ⟨p.2, rfl, rfl⟩
 | error e => exact .inr ⟨e, rfl, rfl⟩
def PG (c : CfN) (ls : List (List nq)) (L : List Nat) : Except Int ScN := match fM 0 4000 L with
 | .ok (k, r) => (match dA (fM 0 63) k r with | .ok (pk, []) => .ok ⟨c, ls, pk⟩ | .ok (_, _ :: _) => .error 11 | .error e => .error e)
 | .error e => .error e
def Vc (c : CfN) (n : Nat) (L : List Nat) : Except Int ScN := match dG n 60 L with
 | .ok (ls, r) => PG c ls r
 | .error e => .error e
theorem Nw (L : List Nat) : bC L = match Ir L with
 | .ok (c, r) => (match fM 0 c.wk r with | .ok (n, r') => Vc c n r' | .error e => .error e)
 | .error e => .error e := by
 unfold bC OB ul Vc PG;simp only [aZ]
 cases Ir L with
 | error e => rfl
 | ok p =>
  obtain ⟨c, r⟩ := p;dsimp only
  cases fM 0 c.wk r with
  | error e => rfl
  | ok p =>
   obtain ⟨n, r'⟩ := p;dsimp only
   cases dG n 60 r' with
   | error e => rfl
   | ok p =>
    obtain ⟨ls, r2⟩ := p;dsimp only [dV]
    cases fM 0 4000 r2 with
    | error e => rfl
    | ok p =>
     obtain ⟨k, r3⟩ := p;dsimp only
     cases dA (fM 0 63) k r3 with
     | error e => rfl
     | ok p =>
      obtain ⟨pk, r4⟩ := p
      cases r4 <;> rfl
theorem W4 {L : List Nat} {a1 a2 a3 a4 a5 a6 : Nat × RS} (h1 : jf 1 4 (.ok L) = a1) (h2 : jf 1 4 a1.2 = a2) (h3 : jf 1 6 a2.2 = a3) (h4 : jf 0 40 a3.2 = a4) (h5 : jf 1 4611686018427387904 a4.2 = a5) (h6 : jf 0 a3.1 a5.2 = a6) :
 (∃ r, a6.2 = .ok r ∧ bC L = Vc ⟨a1.1, a2.1, a3.1, a4.1, a5.1⟩ a6.1 r) ∨ ∃ e, a6 = (0, .error e) ∧ bC L = .error e := by
 have er : ∀ lo hi e, jf lo hi (.error e) = (0, .error e) := fun _ _ _ => rfl;rw [Nw];unfold Ir;simp only [aZ]
 rcases dE h1 with ⟨r1, e1, n1⟩ | ⟨e, rfl, n1⟩
 case inr =>
  simp only [er] at h2; subst h2; simp only [er] at h3; subst h3; simp only [er] at h4; subst h4; simp only [er] at h5; subst h5; simp only [er] at h6; subst h6;exact .inr ⟨e, rfl, by rw [n1]⟩
 rw [n1];rw [e1] at h2
 rcases dE h2 with ⟨r2, e2, n2⟩ | ⟨e, rfl, n2⟩
 case inr =>
  simp only [er] at h3; subst h3; simp only [er] at h4; subst h4; simp only [er] at h5; subst h5; simp only [er] at h6; subst h6;exact .inr ⟨e, rfl, by dsimp only; rw [n2]⟩
 dsimp only;rw [n2];rw [e2] at h3
 rcases dE h3 with ⟨r3, e3, n3⟩ | ⟨e, rfl, n3⟩
 case inr =>
  simp only [er] at h4; subst h4; simp only [er] at h5; subst h5; simp only [er] at h6; subst h6;exact .inr ⟨e, rfl, by dsimp only; rw [n3]⟩
 dsimp only;rw [n3];rw [e3] at h4
 rcases dE h4 with ⟨r4, e4, n4⟩ | ⟨e, rfl, n4⟩
 case inr =>
  simp only [er] at h5; subst h5; simp only [er] at h6; subst h6;exact .inr ⟨e, rfl, by dsimp only; rw [n4]⟩
 dsimp only;rw [n4];rw [e4] at h5
 rcases dE h5 with ⟨r5, e5, n5⟩ | ⟨e, rfl, n5⟩
 case inr =>
  simp only [er] at h6; subst h6;exact .inr ⟨e, rfl, by dsimp only; rw [n5]⟩
 dsimp only;rw [n5];rw [e5] at h6
 rcases dE h6 with ⟨r6, e6, n6⟩ | ⟨e, rfl, n6⟩
 case inr => exact .inr ⟨e, rfl, by dsimp only [dV]; rw [n6]⟩
 exact .inl ⟨r6, e6, by dsimp only [dV]; rw [n6]⟩
theorem Pr {L : List Nat} {a1 a2 a3 a4 : Nat × RS} (h1 : jf 0 O0 (.ok L) = a1) (h2 : jf 0 O0 a1.2 = a2) (h3 : jf 0 O0 a2.2 = a3) (h4 : jf 0 O0 a3.2 = a4) :
 (∃ r, a4.2 = .ok r ∧ iG L = .ok (⟨a1.1, a2.1, a3.1, a4.1⟩, r)) ∨ ∃ e, a4.2 = .error e ∧ iG L = .error e := by
 have er : ∀ lo hi e, jf lo hi (.error e) = (0, .error e) := fun _ _ _ => rfl;unfold iG;simp only [aZ]
 rcases dE h1 with ⟨r1, e1, n1⟩ | ⟨e, rfl, n1⟩
 case inr =>
  simp only [er] at h2; subst h2; simp only [er] at h3; subst h3; simp only [er] at h4; subst h4;exact .inr ⟨e, rfl, by rw [n1]⟩
 rw [n1];rw [e1] at h2
 rcases dE h2 with ⟨r2, e2, n2⟩ | ⟨e, rfl, n2⟩
 case inr =>
  simp only [er] at h3; subst h3; simp only [er] at h4; subst h4;exact .inr ⟨e, rfl, by dsimp only; rw [n2]⟩
 dsimp only;rw [n2];rw [e2] at h3
 rcases dE h3 with ⟨r3, e3, n3⟩ | ⟨e, rfl, n3⟩
 case inr =>
  simp only [er] at h4; subst h4;exact .inr ⟨e, rfl, by dsimp only; rw [n3]⟩
 dsimp only;rw [n3];rw [e3] at h4
 rcases dE h4 with ⟨r4, e4, n4⟩ | ⟨e, rfl, n4⟩
 case inr => exact .inr ⟨e, rfl, by dsimp only; rw [n4]⟩
 exact .inl ⟨r4, e4, by dsimp only; rw [n4]; rfl⟩
end Go.Proofs.YthagelbepgcolaaGreatDoor.Gst
namespace Go.Proofs.YthagelbepgcolaaGreatDoor.Gst
open Go Go.RowKit
set_option linter.unusedSimpArgs false
set_option linter.unusedVariables false
set_option maxHeartbeats 1000000
set_option maxRecDepth 10000
def StQ (full : List Nat) : RS → Nat → Int → Prop
 | .ok L, i, e => e = 0 ∧ i ≤ full.length ∧ full.drop i = L
 | .error er, _, e => e = er ∧ (er = 11 ∨ er = 12)
def rP (rb : Nat) (v : Value) (full : List Nat) (S : RS) : SP := ex fun x : Nat × Int => pu (StQ full S x.1 x.2) * blk rb (.cells false [v, vi x.1, vi x.2])
def alF : RS → Int
 | .ok _ => 0
 | .error e => e
section
variable {rb : Nat} {v : Value} {full : List Nat} {X P R : SP} {H : AH} {S : RS} {Q : Value → AH → Prop}
theorem lW (h : ac (rP rb v full S * X) H) : ∃ i e, StQ full S i e ∧ ac (blk rb (.cells false [v, vi (i : Nat), vi e]) * X) H := by
 unfold rP at h;obtain ⟨⟨i, e⟩, h1⟩ := ac.ex.1 h;rw [aC] at h1;obtain ⟨h2, h3⟩ := ac.pu.1 h1;exact ⟨i, e, h2, h3⟩
theorem Ba {i : Nat} {e : Int} (hS : StQ full S i e) (h : ac (blk rb (.cells false [v, vi (i : Nat), vi e]) * X) H) : ac (rP rb v full S * X) H := by
 unfold rP;refine ac.ex.2 ⟨(i, e), ?_⟩;rw [aC];exact ac.pu.2 ⟨hS, h⟩
theorem StQ.e {i : Nat} {e : Int} (h : StQ full S i e) : e = alF S := by
 cases S with
 | ok L => exact h.1
 | error er => exact h.1
theorem ahM {k : Value → OV} (h : ac P H) [f : Fr P (rP rb v full S) R] (hk : wp (k (vi (alF S))) Q) : wp (ld [.n, .f 2] (vp rb) H k) Q := by
 obtain ⟨i, e, hS, h2⟩ := lW (rb := rb) (v := v) (full := full) (S := S) (X := R) h.fr;refine aL h2 bn rfl ?_;rw [hS.e];exact hk
theorem N1 (i : Nat) (e : Int) : Sp bW [vp rb, vi e] (blk rb (.cells false [v, vi i, vi 0])) (fun _ : Unit => vw 0) (fun _ => blk rb (.cells false [v, vi i, vi e])) := by
 refine gb (yQ _ _) fun R H h => ?_;refine ae (sI _ _ _ H) ?_;refine aL h bn rfl ?_;refine aa (cM rfl) ?_;refine gs ?_;refine gN h bn rfl rfl fun H2 h2 => ?_;refine ae (sJ _ H2) ?_;exact ay ⟨(), rfl, h2⟩
abbrev ah1 (rb : Nat) (v : Value) (full : List Nat) (X : SP) (a : Nat × RS) (v' : Value) (H' : AH) : Prop := v' = vu a.1 ∧ ac (rP rb v full a.2 * X) H'
theorem uj {i : Nat} {er : Int} (he : er = 11 ∨ er = 12) (h : ac (blk rb (.cells false [v, vi (i : Nat), vi 0]) * X) H) :
 wp ((FF bW [vp rb, vi er] H).bind fun r => some (r.1, r.2)) (ah1 rb v full X (0, .error er)) := by
 refine ah h (N1 (rb := rb) (v := v) i er) fun _ H2 h2 => ?_;exact ay ⟨rfl, Ba (i := i) (e := er) (S := .error er) ⟨rfl, he⟩ h2.to⟩
theorem Xy [r : Rd X v 1 aG full] (hf : ∀ y ∈ full, y < 256) (hlen : (full.length : Int) < 9223372036854775807) {lo up : Nat} {x6 : Value} : ∀ (d k i n : Nat) (H : AH), k + d = 9 → i ≤ full.length → n < 2 ^ (7 * k) → ac (blk rb (.cells false [v, vi (i : Nat), vi 0]) * X) H →
 wp (fy (vp rb) (vu lo) (vu up) x6 (vu n) (vi k) H) (ah1 rb v full X (aoA lo up (iI (full.drop i) k n))) := by
 intro d
 induction d with
 | zero =>
  intro k i n H hk hi hn h;refine ae (kW _ _ _ _ _ _ H) ?_;refine aL h bn rfl ?_;refine aL h bn rfl ?_;refine aS (s := v) (l := full) h ?_
  by_cases hc : (full.length : Int) ≤ i
  ·refine aa (ln hc) ?_
   refine gs ?_;rw [List.drop_of_length_le (by omega)];exact uj (.inr rfl) h
  ·refine aa (lm hc) ?_
   refine gs ?_;refine aa (cM (by omega)) ?_;refine gs ?_;rw [List.drop_eq_getElem_cons (by omega), iI, if_pos (by omega)];exact uj (.inl rfl) h
 | succ d ih =>
  intro k i n H hk hi hn h;refine ae (kW _ _ _ _ _ _ H) ?_;refine aL h bn rfl ?_;refine aL h bn rfl ?_;refine aS (s := v) (l := full) h ?_
  by_cases hc : (full.length : Int) ≤ i
  ·refine aa (ln hc) ?_
   refine gs ?_;rw [List.drop_of_length_le (by omega)];exact uj (.inr rfl) h
  ·refine aa (lm hc) ?_
   refine gs ?_;refine aa (nw (by omega)) ?_;refine gs ?_
   have hil : i < full.length := by omega
   rw [List.drop_eq_getElem_cons hil, iI, if_neg (by omega)];refine aL h bn rfl ?_;refine aL h bn rfl ?_;refine bU (s := v) (l := full) h hil rfl ?_;refine aL h bn rfl ?_;refine aa (aq (by omega) (by omega)) ?_;refine gN h bn rfl rfl fun H2 h2 => ?_;have hx := hf full[i] (tY hil);have hp := UZ (i := k) (by omega)
   generalize full[i] = x at hx
   refine aa (aoJ (a := x) (b := 128) (by omega)) ?_;refine aa (S3 (by omega)) ?_
   have e7 : ag .other .mul (vi 7) (vi k) = some (vi ((7 * k : Nat) : Int)) := by
    rw [jT (by omega) (by omega)]; congr 2
   refine aa e7 ?_;refine aa (cw (by omega) (by omega)) ?_;rw [N7];refine aa (I3 (n := 7 * k) (by omega)) ?_
   have hm : x % 128 * 2 ^ (7 * k) < 9223372036854775808 := by
    have : x % 128 * 2 ^ (7 * k) ≤ 127 * 72057594037927936 := Nat.mul_le_mul (by omega) hp;omega
   rw [Nat.mod_eq_of_lt (a := x % 128 * 2 ^ (7 * k)) (by omega)];refine aa (vy (by omega)) ?_;have h2' : ac (blk rb (.cells false [v, vi ((i + 1 : Nat) : Int), vi 0]) * X) H2 := h2
   by_cases h127 : (x : Int) < 128
   ·refine aa (aW h127) ?_
    refine gs ?_;rw [if_neg (by omega)];have ex : x % 128 = x := Nat.mod_eq_of_lt (by omega);rw [ex] at hm ⊢
    have fin : ∀ {b : Bool}, (b = true ↔ (n + x * 2 ^ (7 * k) < lo ∨ up < n + x * 2 ^ (7 * k))) → wp (aw (vb b) ((FF bW [vp rb, vi 11] H2).bind fun r38 => some (r38.1, r38.2)) (some (vu (n + x * 2 ^ (7 * k)), H2))) (ah1 rb v full X (aoA lo up (.ok (n + x * 2 ^ (7 * k), full.drop (i + 1))))) := by
     intro b hb;show wp _ (ah1 rb v full X (if n + x * 2 ^ (7 * k) < lo ∨ up < n + x * 2 ^ (7 * k) then (0, .error 11) else (n + x * 2 ^ (7 * k), .ok (full.drop (i + 1)))))
     cases b with
     | true =>
      rw [if_pos (hb.1 rfl)];refine gs ?_;exact uj (.inl rfl) h2'
     | false =>
      rw [if_neg (fun hh => by have := hb.2 hh; cases this)];refine gs ?_;exact ay ⟨rfl, Ba (S := .ok (full.drop (i + 1))) ⟨rfl, by omega, rfl⟩ h2'⟩
    by_cases h0 : (x : Int) = 0
    ·refine aa (cM h0) ?_
     refine gs ?_
     by_cases hk0 : (0 : Int) < k
     ·refine aa (iQ hk0) ?_
      refine gs ?_;rw [if_pos ⟨by omega, by omega⟩];exact uj (.inl rfl) h2'
     ·refine aa (iP hk0) ?_
      refine gs ?_;rw [if_neg (by omega)]
      by_cases hlo : ((n + x * 2 ^ (7 * k) : Nat) : Int) < lo
      ·refine aa (aW hlo) ?_
       refine gs ?_;exact fin (b := true) ⟨fun _ => .inl (by omega), fun _ => rfl⟩
      ·refine aa (aU hlo) ?_
       refine gs ?_
       by_cases hhi : (up : Int) < ((n + x * 2 ^ (7 * k) : Nat) : Int)
       ·refine aa (iQ hhi) ?_
        refine gs ?_;exact fin (b := true) ⟨fun _ => .inr (by omega), fun _ => rfl⟩
       ·refine aa (iP hhi) ?_
        refine gs ?_;exact fin (b := false) ⟨fun h => (by cases h), fun h => (by omega)⟩
    ·refine aa (nw h0) ?_
     refine gs ?_;rw [if_neg (by omega)]
     by_cases hlo : ((n + x * 2 ^ (7 * k) : Nat) : Int) < lo
     ·refine aa (aW hlo) ?_
      refine gs ?_;exact fin (b := true) ⟨fun _ => .inl (by omega), fun _ => rfl⟩
     ·refine aa (aU hlo) ?_
      refine gs ?_
      by_cases hhi : (up : Int) < ((n + x * 2 ^ (7 * k) : Nat) : Int)
      ·refine aa (iQ hhi) ?_
       refine gs ?_;exact fin (b := true) ⟨fun _ => .inr (by omega), fun _ => rfl⟩
      ·refine aa (iP hhi) ?_
       refine gs ?_;exact fin (b := false) ⟨fun h => (by cases h), fun h => (by omega)⟩
   ·refine aa (aU h127) ?_
    refine gs ?_;rw [if_pos (by omega)];refine ae (uL _ _ _ _ _ _ H2) ?_;refine aa (aq (by omega) (by omega)) ?_;have e : 2 ^ (7 * (k + 1)) = 128 * 2 ^ (7 * k) := aoE k;refine ih (k + 1) (i + 1) (n + x % 128 * 2 ^ (7 * k)) H2 (by omega) (by omega) ?_ h2';rw [e];have : x % 128 * 2 ^ (7 * k) ≤ 127 * 2 ^ (7 * k) := Nat.mul_le_mul_right _ (by omega);omega
theorem DJ [r : Rd P v 1 aG full] (hf : ∀ y ∈ full, y < 256) (hlen : (full.length : Int) < 9223372036854775807) (lo hi : Nat) :
 Sp f0 [vp rb, vu lo, vu hi] (rP rb v full S * P) (fun _ : Unit => vu (jf lo hi S).1) (fun _ => rP rb v full (jf lo hi S).2 * P) := by
 refine qm fun R H h => ?_;rw [aC] at h;refine eD (fun r => A9 _ _ _ H) ?_;obtain ⟨i, e, hS, h1⟩ := lW h;refine aL h1 bn rfl ?_
 cases S with
 | error er =>
  obtain ⟨rfl, he⟩ := hS
  refine aa (DG (by rcases he with rfl | rfl <;> decide)) ?_
  refine gs ?_;refine ay ⟨(), rfl, ?_⟩;rw [aC];exact h
 | ok L =>
  obtain ⟨rfl, hi', rfl⟩ := hS;refine aa (fL rfl) ?_;refine gs ?_;refine ae (uK _ _ _ _ _ _ H) ?_;rw [akP];refine Ik (fun v' H' hq => ?_) (Xy (X := P * R) hf hlen (lo := lo) (up := hi) 9 0 i 0 H rfl hi' (by decide) h1);obtain ⟨rfl, hq⟩ := hq;refine ⟨(), rfl, ?_⟩;rw [aC];exact hq
theorem dW [r : Rd P v 1 aG full] (hf : ∀ y ∈ full, y < 256) (hlen : (full.length : Int) < 9223372036854775807) (S : RS) (lo hi : Nat) (hlo : lo < 9223372036854775808) (hhi : hi < 9223372036854775808) :
 Sp aP [vp rb, vi lo, vi hi] (rP rb v full S * P) (fun _ : Unit => vi ((jf lo hi S).1 : Nat)) (fun _ => rP rb v full (jf lo hi S).2 * P) := by
 refine gb (A8 _ _ _) fun R H h => ?_;refine aa (cw (by omega) (by omega)) ?_;refine aa (cw (by omega) (by omega)) ?_;rw [N7, N7];refine ah h (DJ (P := P) (v := v) (full := full) (rb := rb) (S := S) hf hlen lo hi) fun _ H2 h2 => ?_;have := Bc (lo := lo) (hi := hi) (S := S);refine aa (EP (by omega)) ?_;exact ay ⟨(), rfl, h2.to⟩
end
end Go.Proofs.YthagelbepgcolaaGreatDoor.Gst
