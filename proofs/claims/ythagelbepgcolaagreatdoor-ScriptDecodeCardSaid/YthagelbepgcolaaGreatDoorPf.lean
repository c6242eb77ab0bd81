/- Several texts in one. -/
import Derived.Test.YthagelbepgcolaaGreatDoorPe
namespace Go.Proofs.YthagelbepgcolaaGreatDoor.Gst
open Go Go.RowKit
set_option linter.unusedSimpArgs false
set_option linter.unusedVariables false
set_option maxHeartbeats 1000000
set_option maxRecDepth 100000
theorem Ii (w : Int) : Sp ri [vi w] emp (fun x : Int => vi x) (fun _ => emp) := by
 refine gb (IQ _) fun R H h => ?_;refine aa (Hr) ?_;refine aa (Ht) ?_;exact ay ⟨_, rfl, h⟩
theorem XU (w : Int) : Sp ug [vi w] emp (fun b : Nat => vp b) (fun _ => emp) := by
 refine gb (MT _) fun R H h => ?_;refine ah h (Ii w) fun x H1 h1 => ?_;refine Bz h1 fun mb H2 h2 => ?_;refine xW rfl ?_;refine bH h2 fun b H3 h3 => ?_;exact ay ⟨b, rfl, h3.to⟩
theorem afO : Sp yF [] emp (fun b : Nat => vp b) (fun _ => emp) := by
 refine gb N6 fun R H h => ?_;refine Bz h fun mb H2 h2 => ?_;refine MQ ?_;refine bH h2 fun b H3 h3 => ?_;exact ay ⟨b, rfl, h3.to⟩
theorem XE (w : Int) : Sp ud [vi w] emp (fun b : Nat => vp b) (fun _ => emp) := by
 refine gb (ML _) fun R H h => ?_;refine ah h (XU w) fun x H1 h1 => ?_;refine ah h1 afO fun y H2 h2 => ?_;refine MQ ?_;refine bH h2 fun b H3 h3 => ?_;exact ay ⟨b, rfl, h3.to⟩
theorem akA : Sp Ct [] emp (fun b : Nat => vp b) (fun _ => emp) := by
 refine gb RK fun R H h => ?_;refine Bz h fun mb H2 h2 => ?_;refine MQ ?_;refine bH h2 fun b H3 h3 => ?_;exact ay ⟨b, rfl, h3.to⟩
theorem W5 (m : Nat) (s : Int) : Sp t7 [vp m, vi s] emp (fun b : Nat => vp b) (fun _ => emp) := by
 refine gb (Me _ _) fun R H h => ?_;refine aa (Hr) ?_;refine aa (Ht) ?_;refine Bz h fun mb H2 h2 => ?_;refine MQ ?_;refine bH h2 fun b H3 h3 => ?_;exact ay ⟨b, rfl, h3.to⟩
theorem XL (m : Nat) (s t : Int) : Sp uf [vp m, vi s, vi t] emp (fun b : Nat => vp b) (fun _ => emp) := by
 refine gb (MP _ _ _) fun R H h => ?_;refine aa (Hr) ?_;refine aa (Ht) ?_;refine aa (Hr) ?_;refine aa (Ht) ?_;refine MQ ?_;refine bH h fun b H3 h3 => ?_;exact ay ⟨b, rfl, h3.to⟩
theorem agO (m : Nat) (s : Int) : Sp yG [vp m, vi s] emp (fun b : Nat => vp b) (fun _ => emp) := by
 refine gb (Ov _ _) fun R H h => ?_;refine aa (Hr) ?_;refine aa (Ht) ?_;refine Bz h fun mb H2 h2 => ?_;refine Bz h2 fun mc H3 h3 => ?_;refine MQ ?_;refine bH h3 fun b H4 h4 => ?_;exact ay ⟨b, rfl, h4.to⟩
structure Lf where
 k : Int
 i : Int
 b : Bool
abbrev Lf.cells (x : Lf) : List Value := [vw x.k, vi x.i, vb x.b]
instance : Enc Lf.cells 3 := ⟨fun _ => rfl, fun _ => rfl, by omega⟩
def Ia (t : Nat) (lv : Value) (s : Nat) (nv : Value) (m : List Int) : SP := blk t (.cells false [lv, vi s, nv]) * ts 1 bz nv m
theorem ahD (n : Int) : Sp yI [vi n] emp (fun b : Nat => vp b) (fun _ => emp) := by
 refine gb (OS _) fun R H h => ?_;refine aa (Hr) ?_;refine aa (Ht) ?_;obtain ⟨k, hk⟩ : ∃ k : Nat, min (max n 1) 16 = k := ⟨(min (max n 1) 16).toNat, by omega⟩;rw [hk]
 have hk1 : 1 ≤ k := by omega
 have hk16 : k ≤ 16 := by omega
 refine MS (enc := Lf.cells) (⟨0, 0, false⟩ : Lf) h rfl (by unfold cg; omega) (by omega) fun lb H1 h1 => ?_;refine MQ ?_;refine bH h1 fun t H2 h2 => ?_;refine ae (Ib _ _ _ H2) ?_
 -- the nodes
 have nodes : ∀ (s : Nat) (H : AH), s ≤ 32 → ac (Ia t (vs lb k 3) s (.slice none 0 0) [] * R) H → wp (vk (.pointer none) (vp t) H) fun v' H' => ∃ b : Nat, v' = vp b ∧ ac (emp * R) H' := by
  intro s H hs h;refine ae (Ic _ _ H) ?_;unfold Ia at h;refine aL h bn rfl ?_;refine aa (jT (by omega) (by omega)) ?_;refine ae (Ie _ _ _ _ H) ?_
  have loop : ∀ (d i : Nat) (nv : Value) (m : List Int) (H : AH), i + d = 2 * s → m.length = i → ac (blk t (.cells false [vs lb k 3, vi s, nv]) * ts 1 bz nv m * R) H → wp (ow (.pointer none) (vp t) (vi (2 * (s : Int))) (vi i) H) fun v' H' => ∃ b : Nat, v' = vp b ∧ ac (emp * R) H' := by
   intro d
   induction d with
   | zero =>
    intro i nv m H hi hm h;refine ae (vl _ _ _ _ H) ?_;refine aa (aU (by omega)) ?_;refine gs ?_;refine ae (Dc _ _ H) ?_;refine ae (Id _ _ H) ?_;exact ay ⟨t, rfl, h.to⟩
   | succ d ih =>
    intro i nv m H hi hm h;refine ae (vl _ _ _ _ H) ?_;refine aa (aW (by omega)) ?_;refine gs ?_;refine ae (If _ _ _ _ H) ?_;refine aL h bn rfl ?_;refine IP h fun b0 H3 h3 => ?_;refine d8 (-1 : Int) h3 rfl ?_ (by omega) fun a c H4 h4 => ?_
    ·unfold cg; omega
    refine gN h4 bn rfl rfl fun H5 h5 => ?_;refine ae (Ig _ _ _ _ H5) ?_;refine aa (aq (by omega) (by omega)) ?_;refine ih (i + 1) (.slice a (m.length + 1) c) (m ++ [-1]) H5 (by omega) (by simp; omega) h5.to
  exact loop (2 * s) 0 (.slice none 0 0) [] H (by omega) rfl h
 -- the size
 have size : ∀ (d s : Nat) (H : AH), 16 ≤ s + d → 1 ≤ s → s ≤ 32 → ac (Ia t (vs lb k 3) s (.slice none 0 0) [] * R) H → wp (lY (vi k) (.pointer none) (vp t) H) fun v' H' => ∃ b : Nat, v' = vp b ∧ ac (emp * R) H' := by
  intro d
  induction d with
  | zero =>
   intro s H hd hs1 hs h;refine ae (sg _ _ _ H) ?_;have h' := h;unfold Ia at h';refine aL h' bn rfl ?_;refine aa (aU (by omega)) ?_;refine gs ?_;refine ae (ov _ _ H) ?_;exact nodes s H hs h
  | succ d ih =>
   intro s H hd hs1 hs h;refine ae (sg _ _ _ H) ?_;have h' := h;unfold Ia at h';refine aL h' bn rfl ?_
   by_cases hlt : (s : Int) < k
   ·refine aa (aW hlt) ?_
    refine gs ?_;refine ae (EE _ _ _ H) ?_;refine aL h' bn rfl ?_;refine aa (jT (by omega) (by omega)) ?_;refine gN h' bn rfl rfl fun H3 h3 => ?_;refine ih (s * 2) H3 (by omega) (by omega) (by omega) ?_;unfold Ia;rw [show (((s * 2 : Nat) : Int)) = (s : Int) * 2 from by omega];exact h3.to
   ·refine aa (aU hlt) ?_
    refine gs ?_;refine ae (ov _ _ H) ?_;exact nodes s H hs h
 refine size 16 1 H2 (by omega) (by omega) (by omega) ?_;unfold Ia;have h3 := fR 1 bz h2;exact h3.to
abbrev YN (b : Nat) : List Value := [vp b]
instance : Enc YN 1 := ⟨fun _ => rfl, fun _ => rfl, by omega⟩
theorem Xo (n w : Int) : Sp ua [vi n, vi w] emp (fun b : Nat => vp b) (fun _ => emp) := by
 refine gb (Mz _ _) fun R H h => ?_;refine aa (Hr) ?_;refine aa (Ht) ?_;obtain ⟨k, hk⟩ : ∃ k : Nat, min (max n 1) 16 = k := ⟨(min (max n 1) 16).toNat, by omega⟩;rw [hk]
 have hk16 : k ≤ 16 := by omega
 refine ah h (ahD k) fun tb H1 h1 => ?_;refine MQ ?_;refine bH h1 fun q H2 h2 => ?_;refine ae (Er _ _ _ _ H2) ?_;refine ae (Et _ _ _ _ _ H2) ?_
 have loop : ∀ (d i : Nat) (nv : Value) (m : List Nat) (H : AH), i + d = k → m.length = i → ac (blk q (.cells false [nv, vp tb]) * ts 1 YN nv m * R) H → wp (lU (vi w) (.pointer none) (vp q) (vi k) (vi i) H) fun v' H' => ∃ b : Nat, v' = vp b ∧ ac (emp * R) H' := by
  intro d
  induction d with
  | zero =>
   intro i nv m H hi hm h;refine ae (rZ _ _ _ _ _ H) ?_;refine aa (aU (by omega)) ?_;refine gs ?_;refine ae (Ax _ _ H) ?_;refine ae (Es _ _ H) ?_;exact ay ⟨q, rfl, h.to⟩
  | succ d ih =>
   intro i nv m H hi hm h;refine ae (rZ _ _ _ _ _ H) ?_;refine aa (aW (by omega)) ?_;refine gs ?_;refine ae (Eu _ _ _ _ _ H) ?_;refine k8 bn ?_;refine dK h rfl ?_;refine ah h (XE w) fun sb H3 h3 => ?_;refine ci h3 h rfl ?_;refine IP h3 fun b0 H4 h4 => ?_;refine d8 (sb : Nat) h4 rfl ?_ (by omega) fun a c H5 h5 => ?_
   ·unfold cg; omega
   refine gN h5 bn rfl rfl fun H6 h6 => ?_;refine ae (Ew _ _ _ _ _ H6) ?_;refine aa (aq (by omega) (by omega)) ?_;exact ih (i + 1) (.slice a (m.length + 1) c) (m ++ [sb]) H6 (by omega) (by simp; omega) h6.to
 refine loop k 0 (.slice none 0 0) [] H2 (by omega) rfl ?_;have h3 := fR 1 YN h2;exact h3.to
theorem Yu (c : Cfg) : Sp yE [.agg (Cfg.cells c).toArray] emp (fun b : Nat => vp b) (fun _ => emp) := by
 refine gb (Nt _) fun R H h => ?_;refine bH h fun cb H1 h1 => ?_;refine aL h1 aj rfl ?_;refine aL h1 aj rfl ?_;refine ah h1 (Xo c.sh c.wd) fun q H2 h2 => ?_;refine Bz h2 fun mb H3 h3 => ?_;refine Bz h3 fun mc H4 h4 => ?_;refine MQ ?_;refine bH h4 fun b H5 h5 => ?_;exact ay ⟨b, rfl, h5.to⟩
theorem Xh (c : Cfg) (hc : dn c = true) : Sp t8 [.agg (Cfg.cells c).toArray] emp (fun b : Nat => .tuple #[vp b, vi 0]) (fun _ => emp) := by
 refine gb (Mw _) fun R H h => ?_;refine bH h fun cb H1 h1 => ?_;refine bx h1 ?_;refine ah h1 (t6 c) fun _ H2 h2 => ?_;rw [hc];refine gs ?_;rw [Bool.not_true];refine gs ?_;refine ah h2 akA fun m H3 h3 => ?_;refine aL h3 aj rfl ?_;refine ah h3 (W5 m c.sh) fun ib H4 h4 => ?_;refine k8 aj ?_;refine dK h4 rfl ?_;refine ci h3 h4 rfl ?_;refine k8 aj ?_;refine dK h4 rfl ?_;refine ci h3 h4 rfl ?_;refine ah h4 (XL m c.sh c.sl) fun tb H5 h5 => ?_;refine k8 aj ?_;refine dK h5 rfl ?_;refine ci h3 h5 rfl ?_;refine ci h4 h5 rfl ?_;refine ah h5 (agO m c.wk) fun pb H6 h6 => ?_;refine bx h6 ?_;refine Ih h3 h6 rfl ?_;refine Ih h4 h6 rfl ?_;refine Ih h5 h6 rfl ?_;refine ah h6 (Yu c) fun kb H7 h7 => ?_;refine bx h7 ?_;refine Ih h3 h7 rfl ?_;refine Ih h4 h7 rfl ?_;refine Ih h5 h7 rfl ?_;refine Ih h6 h7 rfl ?_;refine Bz h7 fun mb H8 h8 => ?_;refine MQ ?_;refine bH h8 fun b H9 h9 => ?_;exact ay ⟨b, rfl, h9.to⟩
theorem MM {P : SP} {s : Sv} {l : List Cl} [r : Rd P s.v 4 Cl.cells l] (hl : l.length ≤ 1000000) : Sp cR [s.v] P (fun s' : Sv => s'.v) (fun _ => P) := by
 refine gb (jy _) fun R H h => ?_;refine aa (v := vb s.a.isNone) rfl ?_
 cases hn : s.a.isNone with
 | true =>
  refine gs ?_;exact ay ⟨⟨none, 0, 0⟩, rfl, h⟩
 | false =>
  refine gs ?_;refine Vi (cs := []) h rfl fun b H1 h1 => ?_;have h2 : ac (ts 4 Cl.cells (vs b 0 4) [] * (P * R)) H1 := rz (enc := Cl.cells) (l := []) h1;refine vo (x := s.v) (m := l) h2 (by unfold cg; simp; omega) (by omega) fun v H2 h3 => ?_
  have hv : ∃ s' : Sv, v = s'.v := by
   rcases rA (s := v) h3 with ⟨rfl, _, _⟩ | ⟨b', rfl, _⟩
   ·exact ⟨⟨none, 0, 0⟩, rfl⟩
   ·exact ⟨⟨_, _, _⟩, rfl⟩
  obtain ⟨s', rfl⟩ := hv;exact ay ⟨s', rfl, h3.to⟩
abbrev am0 (s : Sv) : List Value := [.slice s.a s.n s.c, .slice none 0 0, .nilFunc]
instance : Enc am0 3 := ⟨fun _ => rfl, fun _ => rfl, by omega⟩
section
variable {P : SP} {v : Value} {ll : List (List Cl)}
theorem XW [L : Ls P v ll] (c : Cfg) (hn : (ll.length : Int) < 9223372036854775808) (hb : ll.length ≤ 6 → ∀ l ∈ ll, l.length ≤ 140737488355328) :
 Sp uh [.agg (aK c v).toArray] P (fun x : Value => .tuple #[x, vi (if j0 c ll then 0 else 1)]) (fun _ => P) := by
 refine qm fun R H h => ?_;obtain ⟨us, hvl, r1, r2⟩ := L.out;refine eD (fun r => MW _ H) ?_;refine bH h fun b H1 h1 => ?_;refine ae (EI _ _ _ _ H1) ?_;refine aL h1 aj rfl ?_;refine aS (l := us) h1 ?_;refine ae (Dh _ _ _ _ _ _ _ H1) ?_
 have no : j0 c ll = false → wp (some (Value.tuple #[.pointer none, vi 1], H1)) fun v' H' => ∃ x : Value, v' = .tuple #[x, vi (if j0 c ll then 0 else 1)] ∧ ac (P * R) H' := by
  intro hm;rw [hm];exact ay ⟨.pointer none, rfl, h1.to⟩
 have tail : ∀ n : Int, (ck ll < 1152921504606846976 → n = ck ll) → wp (rC (vp b) (.pointer none) (vi 0) (vi n) H1) fun v' H' => ∃ x : Value, v' = .tuple #[x, vi (if j0 c ll then 0 else 1)] ∧ ac (P * R) H' := by
  intro n hnn;refine ae (EJ _ _ _ _ H1) ?_;refine xV h1 aj ?_;refine ah h1 (t6 c) fun _ H2 h2 => ?_
  have no : j0 c ll = false → wp (some (Value.tuple #[.pointer none, vi 1], H2)) fun v' H' => ∃ x : Value, v' = .tuple #[x, vi (if j0 c ll then 0 else 1)] ∧ ac (P * R) H' := by
   intro hm;rw [hm];exact ay ⟨.pointer none, rfl, h2.to⟩
  cases hr : dn c with
  | false =>
   refine gs ?_;rw [Bool.not_false];refine gs ?_;exact no (by unfold j0; rw [hr]; rfl)
  | true =>
   refine gs ?_;rw [Bool.not_true];have hc := aT.1 hr;refine gs ?_;refine aL h2 aj rfl ?_;refine gs ?_;refine gg (l := us) h2 ?_;refine gs ?_;refine aL h2 (eI (eI db)) rfl ?_;refine gs ?_
   by_cases hlw : c.wk < (us.length : Int)
   ·refine aa (iQ hlw) ?_
    refine gs ?_;refine no ?_;unfold j0;rw [hr, gm (fun h => by omega)]
    rfl
   ·refine aa (iP hlw) ?_
    refine gs ?_;have hs := HV (hb (by omega));have hs2 : ll.length * 140737488355328 ≤ 6 * 140737488355328 := Nat.mul_le_mul_right _ (by omega);have hn' := hnn (by omega)
    by_cases h60 : 60 < n
    ·refine aa (iQ h60) ?_
     refine gs ?_;refine no ?_;unfold j0;rw [hr, gm (fun h => by omega)]
     rfl
    ·refine aa (iP h60) ?_
     refine gs ?_
     have hmay : j0 c ll = true := by
      unfold j0;rw [hr, dZ ⟨by omega, by omega⟩]
      rfl
     rw [hmay];refine aL h2 (eI (eI db)) rfl ?_;obtain ⟨k, hk⟩ : ∃ k : Nat, c.wk = k := ⟨c.wk.toNat, by omega⟩;simp only [hk, Nat.zero_add, Nat.add_zero, List.getElem?_cons_zero, List.getElem?_cons_succ] at *;refine MS (enc := am0) (⟨none, 0, 0⟩ : Sv) h2 rfl (by unfold cg; omega) (by omega) fun wb H3 h3 => ?_;refine MQ ?_;refine bH h3 fun w H4 h4 => ?_;refine xV h4 aj ?_;refine ah h4 (Xh c hr) fun pb H5 h5 => ?_;refine aa (v := vp pb) rfl ?_;refine aa (v := vi 0) rfl ?_;refine gN h5 bn rfl rfl fun H6 h6 => ?_;refine ae (EK _ _ _ _ H6) ?_;refine aL h6 aj rfl ?_;refine aS (l := us) h6 ?_;refine ae (EM _ _ _ _ _ _ H6) ?_
     have loop : ∀ (d i : Nat) (rows : List Sv) (H : AH), i + d = ll.length → rows.length = k → ac (blk w (.cells false [vp pb, vs wb k 3, vi 0, vi n]) * ts 3 am0 (vs wb k 3) rows * P * R) H → wp (lZ (.pointer none) (vi 0) (vp w) v (vi us.length) (vi i) H) fun v' H' => ∃ x : Value, v' = .tuple #[x, vi 0] ∧ ac (P * R) H' := by
      intro d
      induction d with
      | zero =>
       intro i rows H hi hro h;refine ae (sj _ _ _ _ _ _ H) ?_;refine aa (aU (by omega)) ?_;refine gs ?_;refine ae (BB _ _ _ H) ?_;refine ae (EL _ _ _ H) ?_;exact ay ⟨vp w, rfl, h.to⟩
      | succ d ih =>
       intro i rows H hi hro h
       have hiv : i < us.length := by omega
       have hil : i < ll.length := by omega
       haveI := r2 i hiv hil
       refine ae (sj _ _ _ _ _ _ H) ?_;refine aa (aW (by omega)) ?_;refine gs ?_;refine ae (EN _ _ _ _ _ _ H) ?_;refine bU (l := us) h hiv rfl ?_;refine k8 bn ?_;refine dK h rfl ?_;have hle := gM hil;refine apY h (MM (s := us[i]) (l := ll[i]) (by omega)) fun s' H7 h7 => ?_;refine ci h7 h rfl ?_;refine DS (s' : Sv) h7 (i := i) (by omega) (.inr rfl) rfl (by omega) rfl rfl fun H8 h8 => ?_;refine ae (EO _ _ _ _ _ _ H8) ?_;refine aa (aq (by omega) (by omega)) ?_;exact ih (i + 1) (rows.set i s') H8 (by omega) (by simp; omega) h8.to
     refine loop ll.length 0 (List.replicate k ⟨none, 0, 0⟩) H6 (by omega) (by simp) ?_;exact h6.to
 have sum : ∀ (d i : Nat) (n : Int), i + d = ll.length → (ck ll < 1152921504606846976 → n = ck (ll.take i)) → wp (kD (vp b) (.pointer none) (vi 0) (vi n) v (vi us.length) (vi i) H1) fun v' H' => ∃ x : Value, v' = .tuple #[x, vi (if j0 c ll then 0 else 1)] ∧ ac (P * R) H' := by
  intro d
  induction d with
  | zero =>
   intro i n hi hnn;refine ae (qo _ _ _ _ _ _ _ H1) ?_;refine aa (aU (by omega)) ?_;refine gs ?_;refine ae (y9 _ _ _ _ H1) ?_;exact tail n (fun h => by rw [hnn h, ON (by omega)])
  | succ d ih =>
   intro i n hi hnn
   have hiv : i < us.length := by omega
   have hil : i < ll.length := by omega
   haveI := r2 i hiv hil
   refine ae (qo _ _ _ _ _ _ _ H1) ?_;refine aa (aW (by omega)) ?_;refine gs ?_;refine ae (Dj _ _ _ _ _ _ _ H1) ?_;refine bU (l := us) h1 hiv rfl ?_;refine aS (l := ll[i]) h1 ?_;refine aa I1 ?_;refine ae (Dk _ _ _ _ _ _ _ H1) ?_;refine aa (aq (by omega) (by omega)) ?_;refine ih (i + 1) _ (by omega) (fun hs => ?_);have e1 := Da hil;have e2 := MO (ll := ll) (i + 1);rw [hnn hs, ma (by omega) (by omega)];omega
 exact sum ll.length 0 0 (by omega) (fun _ => rfl)
end
theorem oV {cl : TCls} {a b : Nat} (h : b ≠ 0) : ag cl .rem (vi a) (vi b) = some (vi ((a % b : Nat) : Int)) := by
 simp only [ag, j9, if_true];rw [if_neg (by omega)];have h1 : (a : Int).tmod (b : Int) = ((a % b : Nat) : Int) := (Int.ofNat_tmod a b).symm;rw [h1]
theorem MF {cl : TCls} {w : Nat} (n : Nat) (h : n ≠ 0) : ag cl .rem (vu w) (.int .u64 (n : Int)) = some (vu (w % n)) := BS h
theorem Ga (b b2 : Nat) (c : Cfg) (u : Nat) (hu : 1 ≤ u ∧ u ≤ 4611686018427387904) {R : SP} {H : AH} (h : ac (blk b2 (.cells false [vi 0, vi 0, vi 0, vi 0, vw 0]) * (blk b (.cells false (Cfg.cells c)) * R)) H) :
 wp (i9 (vp b) (vp b2) (vu u) H) fun v' H' => ∃ c' : Cfg, v' = .agg (Cfg.cells c').toArray ∧ ac (pu (dn c' = true) * R) H' := by
 refine ae (Ap _ _ _ H) ?_;refine aL h aj rfl ?_;refine ah h (aN c.sh 4 (by omega) (by omega)) fun _ H1 h1 => ?_;have m1 := bV (v := c.sh) (n := 4) (by omega);refine aa (aq (by omega) (by omega)) ?_;refine k8 aj ?_;refine dK h1 rfl ?_;refine ci h h1 rfl ?_;refine ah h1 (aN c.sl 4 (by omega) (by omega)) fun _ H2 h2 => ?_;have m2 := bV (v := c.sl) (n := 4) (by omega);refine aa (aq (by omega) (by omega)) ?_;refine k8 aj ?_;refine dK h2 rfl ?_;refine ci h h2 rfl ?_;refine ci h1 h2 rfl ?_;refine ah h2 (aN c.wk 6 (by omega) (by omega)) fun _ H3 h3 => ?_;have m3 := bV (v := c.wk) (n := 6) (by omega);refine aa (aq (by omega) (by omega)) ?_;refine k8 aj ?_;refine dK h3 rfl ?_;refine ci h h3 rfl ?_;refine ci h1 h3 rfl ?_;refine ci h2 h3 rfl ?_;refine ah h3 (aN c.wd 12 (by omega) (by omega)) fun _ H4 h4 => ?_;have m4 := bV (v := c.wd) (n := 12) (by omega);refine MQ ?_;refine cS h4 rfl rfl fun H5 h5 => ?_;refine bx h5 ?_;refine ay ⟨⟨1 + bD c.sh 4, 1 + bD c.sl 4, 1 + bD c.wk 6, bD c.wd 12, u⟩, rfl, ?_⟩;exact ac.pu.2 ⟨aT.2 (by dsimp only; omega), h5.to⟩
theorem uq (c : Cfg) : Sp gC [.agg (Cfg.cells c).toArray] emp (fun c' : Cfg => .agg (Cfg.cells c').toArray) (fun c' => pu (dn c' = true)) := by
 refine qm fun R H h => ?_;rw [ee] at h;refine eD (fun r => HC _ H) ?_;refine bH h fun b H1 h1 => ?_;refine ce h1 fun b2 H2 h2 => ?_;refine aL h2 aj rfl ?_;refine aa (MF 5000 (by omega)) ?_;refine aa (vy (a := 1) (by omega)) ?_;refine ae (Ao _ _ _ H2) ?_;refine aL h2 aj rfl ?_;refine aa (MF 4 (by omega)) ?_;refine aa (iE) ?_;refine oP (fun _ => ?_) (fun _ => ?_)
 ·refine aL h2 aj rfl ?_
  refine aa (MF 4611686018427387904 (by omega)) ?_;have hm := Nat.mod_lt c.un (show 4611686018427387904 > 0 by omega)
  generalize c.un % 4611686018427387904 = u at hm
  refine aa (vy (a := 1) (by omega)) ?_;exact Ga b b2 c _ (by omega) h2
 ·have hm := Nat.mod_lt c.un (show 5000 > 0 by omega)
  exact Ga b b2 c _ (by omega) h2
section
variable {R : SP} {H : AH}
theorem Yn {b2 b3 : Nat} {y y2 : Cl} {P : SP} (h : ac (blk b3 (.cells false (Cl.cells y)) * (blk b2 (.cells false (Cl.cells y2)) * P)) H) : wp (cU (vp b2) (vp b3) H) fun v' H' => ∃ y : Cl, v' = .agg (Cl.cells y).toArray ∧ ac P H' := by
 refine ae (Ei _ _ H) ?_;refine bx h ?_;refine cS h rfl rfl fun H2 h2 => ?_;refine bx h2 ?_;exact ay ⟨y, rfl, h2.to⟩
end
theorem Xl (x : Cl) : Sp t9 [.agg (Cl.cells x).toArray] emp (fun y : Cl => .agg (Cl.cells y).toArray) (fun _ => emp) := by
 refine qm fun R H h => ?_;rw [ee] at h;refine eD (fun r => Mx _ H) ?_;refine bH h fun b1 H1 h1 => ?_;refine ce h1 fun b2 H2 h2 => ?_;refine aL h2 aj rfl ?_;refine ah h2 (aN x.flow 23 (by omega) (by omega)) fun _ H3 h3 => ?_;simp only [ee];refine aa (iE) ?_;refine oP (fun _ => ?_) (fun _ => ?_)
 ·refine bx h3 ?_
  refine cS h3 rfl rfl fun H4 h4 => ?_;refine bx h4 ?_;exact ay ⟨x, rfl, h4.to⟩
 refine aL h3 aj rfl ?_;refine ah h3 (aN x.flow 5 (by omega) (by omega)) fun _ H4 h4 => ?_;refine MQ ?_;refine ce h4 fun b3 H5 h5 => ?_;refine cS h5 rfl rfl fun H6 h6 => ?_
 -- what each kind ends with
 have fin : ∀ (y : Cl) {H7 : AH}, ac (blk b3 (.cells false (Cl.cells y)) * (blk b2 (.cells false (Cl.cells ⟨0, 0, 0, 0⟩)) * R)) H7 → wp (cU (vp b2) (vp b3) H7) fun v' H' => ∃ y : Cl, v' = .agg (Cl.cells y).toArray ∧ ac R H' := fun y {H7} h7 => Yn (y2 := ⟨0, 0, 0, 0⟩) h7;refine ae (Eh _ _ _ H6) ?_;refine aL h6 aj rfl ?_;refine ah h6 (aN x.op 10 (by omega) (by omega)) fun _ H7 h7 => ?_
 generalize bD x.op 10 = o
 refine ae (Ej _ _ _ _ H7) ?_;refine aa (iE) ?_;refine ae (Ek _ _ _ _ _ H7) ?_;refine oP (fun _ => ?_) (fun _ => ?_)
 ·refine aL h7 aj rfl ?_
  refine ah h7 (aN x.a 5 (by omega) (by omega)) fun _ H8 h8 => ?_;have m1 := bV (v := x.a) (n := 5) (by omega);refine aa (aq (by omega) (by omega)) ?_;refine k8 aj ?_;refine dK h8 rfl ?_;refine ci h7 h8 rfl ?_;refine ah h8 (aN x.b 3 (by omega) (by omega)) fun _ H9 h9 => ?_;have m2 := bV (v := x.b) (n := 3) (by omega);refine aa (aq (by omega) (by omega)) ?_;refine gN h9 aj rfl rfl fun H10 h10 => ?_;refine gN h10 aj rfl rfl fun H11 h11 => ?_;refine gN h11 aj rfl rfl fun H12 h12 => ?_;exact fin ⟨1, bD x.flow 5, 1 + bD x.a 5, 1 + bD x.b 3⟩ h12.to
 refine aa (iE) ?_;refine ae (Cy _ _ _ _ _ H7) ?_;refine oP (fun _ => ?_) (fun _ => ?_)
 ·refine gN h7 aj rfl rfl fun H8 h8 => ?_
  exact fin ⟨2, bD x.flow 5, 0, 0⟩ h8.to
 have tail : ∀ q : Bool, wp (ko (vp b1) (vp b2) (vp b3) (vi o) (vb q) H7) fun v' H' => ∃ y : Cl, v' = .agg (Cl.cells y).toArray ∧ ac R H' := by
  intro q;refine ae (Cz _ _ _ _ _ H7) ?_;refine oP (fun _ => ?_) (fun _ => ?_)
  ·refine MQ ?_
   refine cS h7 rfl rfl fun H8 h8 => ?_;exact fin ⟨4, 0, 0, 0⟩ h8.to
  refine aa (iE) ?_;refine oP (fun _ => ?_) (fun _ => ?_)
  ·refine aL h7 aj rfl ?_
   refine ah h7 (aN x.a 6 (by omega) (by omega)) fun _ H8 h8 => ?_;refine MQ ?_;refine cS h8 rfl rfl fun H9 h9 => ?_;exact fin ⟨5, 0, bD x.a 6, 0⟩ h9.to
  refine aa (iE) ?_;refine oP (fun _ => ?_) (fun _ => ?_)
  ·refine MQ ?_
   refine cS h7 rfl rfl fun H8 h8 => ?_;exact fin ⟨6, 0, 0, 0⟩ h8.to
  refine aL h7 aj rfl ?_;refine ah h7 (aN x.a 9 (by omega) (by omega)) fun _ H8 h8 => ?_;have m1 := bV (v := x.a) (n := 9) (by omega);refine aa (aq (by omega) (by omega)) ?_;refine k8 aj ?_;refine dK h8 rfl ?_;refine ci h7 h8 rfl ?_;refine ah h8 (aN x.b 1000 (by omega) (by omega)) fun _ H9 h9 => ?_;refine gN h9 aj rfl rfl fun H10 h10 => ?_;refine gN h10 aj rfl rfl fun H11 h11 => ?_;refine gN h11 aj rfl rfl fun H12 h12 => ?_;refine aL h12 aj rfl ?_;refine ah h12 (aN x.a 13 (by omega) (by omega)) fun _ H13 h13 => ?_;refine aa (iE) ?_;refine oP (fun _ => ?_) (fun _ => ?_)
  ·refine aL h13 aj rfl ?_
   refine ah h13 (aN x.a 65536 (by omega) (by omega)) fun _ H14 h14 => ?_;have m2 := bV (v := x.a) (n := 65536) (by omega);refine aa (aq (by omega) (by omega)) ?_;refine gN h14 aj rfl rfl fun H15 h15 => ?_;exact fin ⟨3, bD x.flow 5, 1 + bD x.a 65536, bD x.b 1000⟩ h15.to
  ·exact fin ⟨3, bD x.flow 5, 1 + bD x.a 9, bD x.b 1000⟩ h13.to
 refine aa (iE) ?_;refine oP (fun _ => tail _) (fun _ => ?_);refine aa (iE) ?_;exact tail _
theorem RZ : Sp q9 [vi 3] emp (fun s : Sv => s.v) (fun s => ex fun l : List Cl => pu (l.length = 3) * ts 4 Cl.cells s.v l) := by
 refine gb (IF _) fun R H h => ?_;refine ae (CG _ _ _ H) ?_;refine ae (CI _ _ _ _ H) ?_
 have loop : ∀ (d i : Nat) (s : Value) (l : List Cl) (H : AH), i + d = 3 → l.length = i → ac (ts 4 Cl.cells s l * R) H → wp (ks (vi 3) (.slice none 0 0) s (vi i) H) fun v' H' => ∃ s : Sv, v' = s.v ∧ ac ((ex fun l : List Cl => pu (l.length = 3) * ts 4 Cl.cells s.v l) * R) H' := by
  intro d
  induction d with
  | zero =>
   intro i s l H hi hl h;refine ae (pP _ _ _ _ H) ?_;refine aa (aU (by omega)) ?_;refine gs ?_;refine ae (yO _ _ H) ?_;refine ae (CH _ _ H) ?_
   have hv : ∃ s' : Sv, s = s'.v := by
    rcases rA (s := s) h with ⟨rfl, _, _⟩ | ⟨b', rfl, _⟩
    ·exact ⟨⟨none, 0, 0⟩, rfl⟩
    ·exact ⟨⟨_, _, _⟩, rfl⟩
   obtain ⟨s', rfl⟩ := hv;refine ay ⟨s', rfl, ac.ex.2 ⟨l, ?_⟩⟩;rw [aC];exact ac.pu.2 ⟨by omega, h⟩
  | succ d ih =>
   intro i s l H hi hl h;refine ae (pP _ _ _ _ H) ?_;refine aa (aW (by omega)) ?_;refine gs ?_;refine ae (CJ _ _ _ _ H) ?_;refine aa (aq (by omega) (by omega)) ?_;refine aa (oV (b := 2) (by omega)) ?_;refine aa (aq (by omega) (by omega)) ?_;refine MQ ?_;refine IP h fun b0 H3 h3 => ?_;refine d8 (⟨1, i, 1 + (i : Int), 2 + ((i % 2 : Nat) : Int)⟩ : Cl) h3 rfl ?_ (by omega) fun a c H4 h4 => ?_
   ·unfold cg; omega
   refine ae (CM _ _ _ _ H4) ?_;refine aa (aq (by omega) (by omega)) ?_;exact ih (i + 1) (.slice a (l.length + 1) c) (l ++ [⟨1, i, 1 + (i : Int), 2 + ((i % 2 : Nat) : Int)⟩]) H4 (by omega) (by simp; omega) h4.to
 rw [ee] at h;exact loop 3 0 (.slice none 0 0) [] H (by omega) rfl (fR 4 Cl.cells h)
def eb : List (Sv × List Cl) → SP
 | [] => emp
 | p :: ps => ts 4 Cl.cells p.1.v p.2 * eb ps
def jx (v : Value) (ps : List (Sv × List Cl)) : SP := ts 1 iK v (ps.map (·.1)) * eb ps
theorem nX : ∀ {ps : List (Sv × List Cl)} {i : Nat} (h : i < ps.length), ∃ R, eb ps = ts 4 Cl.cells (ps[i]).1.v (ps[i]).2 * R ∧ ∀ q : Sv × List Cl, eb (ps.set i q) = ts 4 Cl.cells q.1.v q.2 * R := by
 intro ps
 induction ps with
 | nil => intro i h; simp at h
 | cons p ps ih =>
  intro i h
  cases i with
  | zero => exact ⟨eb ps, rfl, fun q => rfl⟩
  | succ i =>
   obtain ⟨R, e1, e2⟩ := ih (i := i) (by simpa using h);refine ⟨ts 4 Cl.cells p.1.v p.2 * R, ?_, fun q => ?_⟩
   ·show ts 4 Cl.cells p.1.v p.2 * eb ps = _
    rw [e1, cC]; rfl
   ·show ts 4 Cl.cells p.1.v p.2 * eb (ps.set i q) = _
    rw [e2, cC]
theorem yR : ∀ (ps : List (Sv × List Cl)) (q : Sv × List Cl), eb (ps ++ [q]) = eb ps * ts 4 Cl.cells q.1.v q.2 := by
 intro ps
 induction ps with
 | nil => intro q; show ts _ _ _ _ * emp = emp * _; rw [ge, ee]
 | cons p ps ih => intro q; show ts 4 Cl.cells p.1.v p.2 * eb (ps ++ [q]) = ts 4 Cl.cells p.1.v p.2 * eb ps * _; rw [ih, aC]
theorem wu {R : SP} {H : AH} (h : ac R H) : ∀ k : Nat, ac (eb (List.replicate k (⟨none, 0, 0⟩, [])) * R) H := by
 intro k
 induction k with
 | zero => show ac (emp * R) H; rw [ee]; exact h
 | succ k ih =>
  show ac (ts 4 Cl.cells (.slice none 0 0) [] * eb _ * R) H;rw [aC];exact fR 4 Cl.cells ih
instance af0 (v : Value) (ps : List (Sv × List Cl)) : Ls (jx v ps) v (ps.map (·.2)) := ⟨⟨ps.map (·.1), by simp, by unfold jx; infer_instance, fun i h h' => by
 have hi : i < ps.length := by simpa using h
 obtain ⟨R, e, _⟩ := nX hi;unfold jx;rw [e];simp only [List.getElem_map]
 infer_instance⟩⟩
theorem Vd {α : Type} {e : Nat} {enc : α → List Value} {v : Value} {l : List α} {R : SP} {H : AH} (h : ac (ts e enc v l * R) H) : ∃ s : Sv, v = s.v := by
 rcases rA (s := v) h with ⟨rfl, _, _⟩ | ⟨b', rfl, _⟩
 ·exact ⟨⟨none, 0, 0⟩, rfl⟩
 ·exact ⟨⟨_, _, _⟩, rfl⟩
theorem ak2 : ∀ {l : List Nat} {i : Nat} (h : i < l.length) (x : Nat), (l.set i x).sum + l[i] = l.sum + x := by
 intro l
 induction l with
 | nil => intro i h; simp at h
 | cons a l ih =>
  intro i h x
  cases i with
  | zero => simp; omega
  | succ i =>
   have := ih (i := i) (by simpa using h) x;simp only [List.set_cons_succ, List.sum_cons, List.getElem_cons_succ];omega
theorem OO {ll : List (List Cl)} {i : Nat} (h : i < ll.length) (l : List Cl) : ck (ll.set i l) + ll[i].length = ck ll + l.length := by
 unfold ck;have := ak2 (l := ll.map List.length) (i := i) (by simpa using h) l.length;rw [List.map_set]
 simpa using this
theorem XI {ll : List (List Cl)} {l : List Cl} : ck (ll ++ [l]) = ck ll + l.length := by unfold ck; simp
instance aqK (v : Value) (ps : List (Sv × List Cl)) : Rd (jx v ps) v 1 iK (ps.map (·.1)) := by unfold jx; infer_instance
section
variable {P R : SP} {v : Value} {ll : List (List Cl)}
def IS (P R : SP) (v' : Value) (H' : AH) : Prop := ∃ y : Cfg × Sv, v' = .agg (aK y.1 y.2.v).toArray ∧ ac (ex (fun ps : List (Sv × List Cl) => pu (dn y.1 = true ∧ (ps.length : Int) = y.1.wk ∧ (∀ p ∈ ps, p.2.length ≤ 8) ∧ ck (ps.map (·.2)) ≤ 60) * jx y.2.v ps) * P * R) H'
def Oo (b4 b5 b6 : Nat) (c' : Cfg) (pv : Value) (ps : List (Sv × List Cl)) (X : SP) : SP := blk b6 (.cells false (aK c' pv)) * (ts 1 iK pv (ps.map (·.1)) * (eb ps * (blk b5 (.cells false (Cfg.cells c')) * (blk b4 (.cells false [vi 0, vi 0, vi 0, vi 0, vw 0, .slice none 0 0]) * X))))
theorem Xm [L : Ls P v ll] (c : Cfg) (hn : (ll.length : Int) < 9223372036854775808) (hb : ∀ l ∈ ll, (l.length : Int) < 9223372036854775808) :
 Sp nM [.agg (aK c v).toArray, vi 5] P (fun y : Cfg × Sv => .agg (aK y.1 y.2.v).toArray)
  (fun y => ex (fun ps : List (Sv × List Cl) => pu (dn y.1 = true ∧ (ps.length : Int) = y.1.wk ∧ (∀ p ∈ ps, p.2.length ≤ 8) ∧ ck (ps.map (·.2)) ≤ 60) * jx y.2.v ps) * P) := by
 refine qm fun R H h => ?_;show wp (FF nM [.agg (aK c v).toArray, vi 5] H) (IS P R);obtain ⟨us, hvl, r1, r2⟩ := L.out;refine eD (fun r => My _ _ H) ?_;refine bH h fun b2 H1 h1 => ?_;refine ce h1 fun b4 H2 h2 => ?_;refine xV h2 aj ?_;refine ah h2 (uq c) fun c' H3 h3 => ?_;obtain ⟨hc', h3b⟩ := ac.pu.1 h3
 clear h3
 obtain ⟨sh, sl, wk, wd, un⟩ := c';have hcc := aT.1 hc';dsimp only at hcc;obtain ⟨k, rfl⟩ : ∃ k : Nat, wk = k := ⟨wk.toNat, by omega⟩;refine ce h3b fun b5 H4 h4 => ?_;refine cS h4 rfl rfl fun H5 h5 => ?_;refine bx h5 ?_;refine MQ ?_;refine ce h5 fun b6 H6 h6 => ?_;refine cS h6 rfl rfl fun H7 h7 => ?_;refine ae (El _ _ _ _ _ _ H7) ?_;refine ae (En _ _ _ _ _ _ _ H7) ?_
 have h8 : ac (Oo b4 b5 b6 ⟨sh, sl, k, wd, un⟩ (.slice none 0 0) [] (blk b2 (.cells false (aK c v)) * (P * R))) H7 := by
  unfold Oo;rw [List.map_nil];have t : ac (ts 1 iK (.slice none 0 0) [] * (eb [] * _)) H7 := fR 1 iK (wu h7 0);exact t.to
 have outer : ∀ (d i n : Nat) (pv : Value) (ps : List (Sv × List Cl)) (H : AH), i + d = k → n ≤ 57 → ps.length = i → (∀ p ∈ ps, p.2.length ≤ 8) → ck (ps.map (·.2)) + n ≤ 60 → ac (Oo b4 b5 b6 ⟨sh, sl, k, wd, un⟩ pv ps (blk b2 (.cells false (aK c v)) * (P * R))) H →
  wp (lT (vi 5) (vp b2) (vp b4) (vp b5) (vp b6) (vi n) (vi i) H) (IS P R) := by
  intro d
  induction d with
  | zero =>
   intro i n pv ps H hi hn57 hp hps hsm h;refine ae (rX _ _ _ _ _ _ _ H) ?_;have h' := h;unfold Oo at h';refine aL h' aj rfl ?_;refine aa (aU (by dsimp only; omega)) ?_;refine gs ?_;refine ae (Aq _ _ H) ?_;refine ae (Em _ _ H) ?_;have h2' : ac (ts 1 iK pv (ps.map (·.1)) * (blk b6 (.cells false (aK ⟨sh, sl, k, wd, un⟩ pv)) * (eb ps * (blk b5 (.cells false (Cfg.cells ⟨sh, sl, k, wd, un⟩)) * (blk b4 (.cells false [vi 0, vi 0, vi 0, vi 0, vw 0, .slice none 0 0]) * (blk b2 (.cells false (aK c v)) * (P * R))))))) H := h'.to;obtain ⟨s, rfl⟩ := Vd h2';refine bx h' ?_;refine cS h' rfl rfl fun H10 h10 => ?_;refine bx h10 ?_;refine ay ⟨(⟨sh, sl, k, wd, un⟩, s), rfl, ?_⟩;rw [aC];refine ac.ex.2 ⟨ps, ?_⟩;rw [aC];refine ac.pu.2 ⟨⟨hc', by dsimp only; omega, hps, by omega⟩, ?_⟩;unfold jx;exact ac.to (A := ts 1 iK s.v (ps.map (·.1)) * eb ps * (P * R)) h10
  | succ d ih =>
   intro i n pv ps H hi hn57 hp hps hsm h;refine ae (rX _ _ _ _ _ _ _ H) ?_;have h' := h;unfold Oo at h';refine aL h' aj rfl ?_;refine aa (aW (by dsimp only; omega)) ?_;refine gs ?_;refine ae (Eo _ _ _ _ _ _ _ H) ?_;refine ae (CA _ _ _ _ _ _ _ _ H) ?_
   -- a list is laid to the others
   have lay : ∀ (n : Nat) (s : Sv) (l : List Cl) (H : AH), n ≤ 57 → l.length ≤ 8 → ck (ps.map (·.2)) + l.length + n ≤ 60 → ac (Oo b4 b5 b6 ⟨sh, sl, k, wd, un⟩ pv ps (ts 4 Cl.cells s.v l * (blk b2 (.cells false (aK c v)) * (P * R)))) H →
    wp (lh (vi 5) (vp b2) (vp b4) (vp b5) (vp b6) (vi n) (vi i) s.v H) (IS P R) := by
    intro n s l H hn57 hl hsl h;refine ae (yN _ _ _ _ _ _ _ _ H) ?_;refine ae (CC _ _ _ _ _ _ _ _ H) ?_;unfold Oo at h;refine aL h aj rfl ?_;refine IP h fun b0 H3 h3 => ?_;refine d8 (s : Sv) h3 rfl ?_ (by omega) fun a cc H4 h4 => ?_
    ·unfold cg; simp only [dN]; omega
    refine gN h4 aj rfl rfl fun H5 h5 => ?_;refine ae (Ep _ _ _ _ _ _ _ H5) ?_;refine aa (aq (by omega) (by omega)) ?_
    refine ih (i + 1) n (.slice a ((ps.map (·.1)).length + 1) cc) (ps ++ [(s, l)]) H5 (by omega) hn57 (by first | (simp; done) | (simp; omega)) (fun p hp => ?_) (by rw [Ac, List.map_singleton, XI]; omega) ?_
    ·rcases List.mem_append.1 hp with hp | hp
     ·exact hps p hp
     ·rw [List.mem_singleton.1 hp]; exact hl
    ·unfold Oo
     rw [yR, Ac, List.map_singleton];exact h5.to
   have calls : ∀ (e j n : Nat) (s : Sv) (l : List Cl) (H : AH), j + e = 5 → n ≤ 57 → l.length ≤ 3 + j → ck (ps.map (·.2)) + l.length + n ≤ 60 → ac (Oo b4 b5 b6 ⟨sh, sl, k, wd, un⟩ pv ps (ts 4 Cl.cells s.v l * (blk b2 (.cells false (aK c v)) * (P * R)))) H →
    wp (kq (vi 5) (vp b2) (vp b4) (vp b5) (vp b6) (vi n) (vi i) s.v (vi j) H) (IS P R) := by
    intro e
    induction e with
    | zero =>
     intro j n s l H hj hn57 hl hsl h;refine ae (pO _ _ _ _ _ _ _ _ _ H) ?_;have h' := h;unfold Oo at h';refine aL h' aj rfl ?_;refine aS (s := v) (l := us) h' ?_
     by_cases hil : (i : Int) < us.length
     ·have hiv : i < us.length := by omega
      have hil' : i < ll.length := by omega
      haveI := r2 i hiv hil'
      refine aa (aW hil) ?_;refine gs ?_;refine aL h' aj rfl ?_;refine gs ?_;refine bU (s := v) (l := us) h' hiv rfl ?_;refine gs ?_;refine gg (l := ll[i]'hil') h' ?_;refine gs ?_
      by_cases hjl : (j : Int) < (ll[i]'hil').length
      ·refine aa (aW hjl) ?_
       refine gs ?_;refine aa (aU (by omega)) ?_;refine gs ?_;exact lay n s l H hn57 (by omega) hsl h
      ·refine aa (aU hjl) ?_
       refine gs ?_;exact lay n s l H hn57 (by omega) hsl h
     ·refine aa (aU hil) ?_
      refine gs ?_;exact lay n s l H hn57 (by omega) hsl h
    | succ e ihe =>
     intro j n s l H hj hn57 hl hsl h;refine ae (pO _ _ _ _ _ _ _ _ _ H) ?_;have h' := h;unfold Oo at h';refine aL h' aj rfl ?_;refine aS (s := v) (l := us) h' ?_
     by_cases hil : (i : Int) < us.length
     ·have hiv : i < us.length := by omega
      have hil' : i < ll.length := by omega
      haveI := r2 i hiv hil'
      refine aa (aW hil) ?_;refine gs ?_;refine aL h' aj rfl ?_;refine gs ?_;refine bU (s := v) (l := us) h' hiv rfl ?_;refine gs ?_;refine gg (l := ll[i]'hil') h' ?_;refine gs ?_
      by_cases hjl : (j : Int) < (ll[i]'hil').length
      ·refine aa (aW hjl) ?_
       refine gs ?_;refine aa (aW (by omega)) ?_;refine gs ?_
       by_cases hn0 : 0 < (n : Int)
       ·refine aa (iQ hn0) ?_
        refine gs ?_
        have hjl' : j < (ll[i]'hil').length := by omega
        refine ae (CE _ _ _ _ _ _ _ _ _ H) ?_;refine aL h' aj rfl ?_;refine bU (s := v) (l := us) h' hiv rfl ?_;refine Df (l := ll[i]'hil') h' (i := j) hjl' ?_;refine ah h' (Xl ((ll[i]'hil')[j]'hjl')) fun y H3 h3 => ?_;refine IP h3 fun b0 H4 h4 => ?_;refine d8 (y : Cl) h4 rfl ?_ (by omega) fun a cc H5 h5 => ?_
        ·unfold cg; omega
        refine aa (vA (by omega) (by omega)) ?_;refine ae (CF _ _ _ _ _ _ _ _ _ H5) ?_;refine aa (aq (by omega) (by omega)) ?_;rw [show ((n : Nat) : Int) - 1 = ((n - 1 : Nat) : Int) from by omega]
        refine ihe (j + 1) (n - 1) ⟨a, l.length + 1, cc⟩ (l ++ [y]) H5 (by omega) (by omega) (by first | (simp; done) | (simp; omega)) (by rw [cT, List.length_singleton]; omega) ?_
        unfold Oo;exact h5.to
       ·refine aa (iP hn0) ?_
        refine gs ?_;exact lay n s l H hn57 (by omega) hsl h
      ·refine aa (aU hjl) ?_
       refine gs ?_;exact lay n s l H hn57 (by omega) hsl h
     ·refine aa (aU hil) ?_
      refine gs ?_;exact lay n s l H hn57 (by omega) hsl h
   have begin' : ∀ (s : Sv) (l : List Cl) (H : AH), l.length ≤ 3 → ck (ps.map (·.2)) + l.length + n ≤ 60 → ac (Oo b4 b5 b6 ⟨sh, sl, k, wd, un⟩ pv ps (ts 4 Cl.cells s.v l * (blk b2 (.cells false (aK c v)) * (P * R)))) H →
    wp (gI (vi 5) (vp b2) (vp b4) (vp b5) (vp b6) (vi n) (vi i) s.v H) (IS P R) := by
    intro s l H hl hsl h;refine ae (CB _ _ _ _ _ _ _ _ H) ?_;refine ae (CD _ _ _ _ _ _ _ _ _ H) ?_;exact calls 5 0 n s l H (by omega) hn57 (by omega) hsl h
   have none' : ∀ (H : AH), ac (Oo b4 b5 b6 ⟨sh, sl, k, wd, un⟩ pv ps (blk b2 (.cells false (aK c v)) * (P * R))) H → wp (gI (vi 5) (vp b2) (vp b4) (vp b5) (vp b6) (vi n) (vi i) (.slice none 0 0) H) (IS P R) := by
    intro H h;refine begin' ⟨none, 0, 0⟩ [] H (by simp) (by simpa using hsm) ?_;unfold Oo at h ⊢;have := fR 4 Cl.cells h;exact this.to
   by_cases hi0 : (i : Int) = 0
   ·refine aa (cM hi0) ?_
    refine gs ?_;refine aL h' (eI (eI db)) rfl ?_;refine ah h' (aN c.wd 4 (by omega) (by omega)) fun _ H3 h3 => ?_;refine gs ?_;refine aa (J7) ?_;refine gs ?_;refine oP (fun _ => ?_) (fun _ => ?_)
    ·refine ah h3 RZ fun s H4 h4 => ?_
     obtain ⟨l, h4b⟩ := ac.ex.1 h4
     clear h4
     rw [aC, ac.pu] at h4b;obtain ⟨hl3, h4c⟩ := h4b;refine begin' s l H4 (by omega) (by rw [show ps = [] from List.eq_nil_of_length_eq_zero (by omega)]; show 0 + l.length + n ≤ 60; omega) ?_;unfold Oo;exact h4c.to
    ·refine none' H3 ?_
     unfold Oo;exact h3.to
   ·refine aa (nw hi0) ?_
    refine gs ?_;exact none' H h
 exact outer k 0 57 (.slice none 0 0) [] H7 (by omega) (by omega) rfl (fun p hp => by cases hp) (by show 0 + 57 ≤ 60; omega) h8
end
abbrev aG (n : Nat) : List Value := [.int .u8 (n : Int)]
instance : Enc aG 1 := ⟨fun _ => rfl, fun _ => rfl, by omega⟩
theorem vF {w : Nat} : aO (some .u8) (vu w) = some (.int .u8 ((w % 256 : Nat) : Int)) := by
 simp [aO, IntKind.wrap, IntKind.bits, IntKind.signed]
theorem aoD : ∀ i : Fin 256, Go.bits .or .u8 (i.val : Int) 128 = ((i.val % 128 + 128 : Nat) : Int) := by decide +kernel
theorem apG {cl : TCls} {n : Nat} (h : n < 256) : ag cl .or (.int .u8 (n : Int)) (.int .u8 128) = some (.int .u8 ((n % 128 + 128 : Nat) : Int)) := by
 simp only [ag, j9, if_true, aoD ⟨n, h⟩]
theorem aqP {cl : TCls} {n : Nat} {k : IntKind} : ag cl .shr (vu n) (.int k 7) = some (vu (n / 128)) := VG (n := 7) (by omega)
def cfN (c : Cfg) : CfN := ⟨c.sh.toNat, c.sl.toNat, c.wk.toNat, c.wd.toNat, c.un⟩
def Yr (x : Cl) : nq := ⟨x.op.toNat, x.flow.toNat, x.a.toNat, x.b.toNat⟩
def scN (c : Cfg) (ll : List (List Cl)) (pk : List Int) : ScN := ⟨cfN c, ll.map (·.map Yr), pk.map Int.toNat⟩
def yJ (n : Int) : Bool := decide (0 ≤ n ∧ n ≤ 2147483647)
def dC (x : Cl) : Bool := yJ x.op && yJ x.flow && yJ x.a && yJ x.b
def rk (n : Int) : Bool := decide (0 ≤ n ∧ n ≤ 63)
def m0 (c : Cfg) (ll : List (List Cl)) (pk : List Int) : Bool := (j0 c ll && decide (pk.length ≤ 4000)) && (ll.all (·.all dC) && pk.all rk)
theorem jV {n : Nat} (h : n < 34359738368) : (aJ n).length ≤ 5 := by
 rw [aJ]; split
 ·simp
 rw [aJ]; split
 ·simp
 rw [aJ]; split
 ·simp
 rw [aJ]; split
 ·simp
 rw [aJ]; split
 ·simp
 omega
theorem VQ {n : Nat} (h : n < 9223372036854775808) : (aJ n).length ≤ 9 := by
 rw [aJ]; split
 ·simp
 rw [aJ]; split
 ·simp
 rw [aJ]; split
 ·simp
 rw [aJ]; split
 ·simp
 simp only [List.length_cons];have := jV (n := n / 128 / 128 / 128 / 128) (by omega);omega
theorem cj {n : Nat} (h : n < 18446744073709551616) : (aJ n).length ≤ 10 := by
 rw [aJ]; split
 ·simp
 simp only [List.length_cons];have := VQ (n := n / 128) (by omega);omega
section
variable (E R D C I G O N S J K P Q : Value) (H : AH)
noncomputable def GY (p : List Nat) : Code := Code.sub (bh Tryz.f78) p
noncomputable def zQ : KK := Gb PP (Tryz.f78).results.toList
noncomputable def aeB : KK := DQ (GY [1]) zQ bg zQ fi
noncomputable def eK : OV := aeB (ls [E, R, u, u, I] 49) H
noncomputable def Rc : KK := DQ (GY [1, 1]) zQ bg zQ fi
noncomputable def aeA : KK := bX 18014398509481964 (Rc)
noncomputable def kH : OV := Rc (ls [E, R, u, u, I] 49) H
noncomputable def aeD : KK := DQ (GY [1, 0, 1]) (aeA) bg zQ fi
noncomputable def eL : OV := aeD (ls [E, R, u, u, I, u, u, u, u, u, u, S] 42) H
noncomputable def UE : KK := DQ (GY [1, 0, 1, 2, 1, 1, 1]) (aeA) bg zQ fi
noncomputable def jX : OV := UE (ls [E, u, u, u, I, G, O] 47) H
theorem wh : af 18014398509481967 zQ := rfB
theorem aeC : af 18014398509481964 (aeB) := wC wh am wh (Dp := cY) bj
theorem GZ : af 18014398509481964 (Rc) := wC wh am wh (Dp := cY) bj
theorem aeE : af 18014398509479916 (aeD) := wC (cd (GZ)) am wh (Dp := cY) bj
theorem WY : af 18014398509481870 (UE) := wC (cd (GZ)) am wh (Dp := cY) bj
theorem iS : eL E R I S H =
 aw S
 ((ag .other .leq (vi 0) E).bind fun a =>
 (gV a true E).bind fun c =>
 (gB a true (ag .other .lss c (vi 100))).bind fun d =>
 (aE a d (vb false)).bind fun e =>
 aw e
 ((FB aX [E] H).bind fun b =>
 dO b.1 (fun f =>
 some (Value.iface 1 f, b.2)) (fun p24 =>
 some (Value.iface 0 p24, b.2)))
 (bA [(.int .u8 0), (.int .u8 0), (.int .u8 0), (.int .u8 0), (.int .u8 0), (.int .u8 0), (.int .u8 0), (.int .u8 0), (.int .u8 0), (.int .u8 0), (.int .u8 0), (.int .u8 0), (.int .u8 0), (.int .u8 0), (.int .u8 0), (.int .u8 0), (.int .u8 0), (.int .u8 0), (.int .u8 0), (.int .u8 0), (.int .u8 0), (.int .u8 0), (.int .u8 0), (.int .u8 0)] H fun g i =>
 (aO (some .u64) E).bind fun j =>
 jX E I g j i))
 (kH E R I H) :=
 (ctB rfl (GY [1, 0, 1, 2]) (GY [1, 0, 1, 3]) (.tmp 11) (xx rfl 2 (WY) (by kernel_rfl)) (by kernel_rfl))
theorem iR : eK E R I H =
 (ag .other .eql R (vi 10)).bind fun a =>
 eL E R I a H :=
 (xx rfl 0 (GZ) (xx rfl 0 (aeE) (by kernel_rfl)))
noncomputable def mj : OV := bo PP GG (bF PP GG) (GY []) (ls [E, R] 52) H zQ bg zQ fi
theorem kI {r : Value × AH} (h : (
 eK E R (.string ⟨#[]⟩) H) = some r) : FB dl [E, R] H = some r :=
 X0 (t := mj E R H) Tryz.func78 (by kernel_rfl) (Eq.trans (xx rfl 0 (aeC) (by kernel_rfl)) h)
theorem jY {r : Value × AH} (h : (
 (ag .other .eql R (vi 10)).bind fun e =>
 aw e
 ((ag .other .lss E (vw 100)).bind fun f =>
 aw f
 ((aO (some .i64) E).bind fun g =>
 (FB aX [g] H).bind fun a =>
 dO a.1 (fun i =>
 some (Value.iface 1 i, a.2)) (fun p5 =>
 some (Value.iface 0 p5, a.2)))
 (bA [(.int .u8 0), (.int .u8 0), (.int .u8 0), (.int .u8 0), (.int .u8 0), (.int .u8 0), (.int .u8 0), (.int .u8 0), (.int .u8 0), (.int .u8 0), (.int .u8 0), (.int .u8 0), (.int .u8 0), (.int .u8 0), (.int .u8 0), (.int .u8 0), (.int .u8 0), (.int .u8 0), (.int .u8 0), (.int .u8 0), (.int .u8 0), (.int .u8 0), (.int .u8 0), (.int .u8 0)] H fun l j =>
 (FB lg [E] j).bind fun c =>
 dO c.1 (fun m =>
 none) (fun p10 =>
 some (Value.iface 0 p10, c.2))))
 ((FB kQ [(.slice none 0 0), E, R, (vb false), (vb false)] H).bind fun b =>
 dO b.1 (fun d =>
 (ar d 0).bind fun n =>
 (ar d 1).bind fun k =>
 some (Value.iface 1 k, b.2)) (fun p13 =>
 some (Value.iface 0 p13, b.2)))) = some r) : FB eM [E, R] H = some r :=
 X0 Tryz.func80 (by kernel_rfl) h
theorem gh {r : Value × AH} (h : (
 (ag .other .lss E (vi 10)).bind fun a =>
 aw a
 ((ag .other .add E (vi 1)).bind fun b =>
 (rp (.string ⟨#[48, 49, 50, 51, 52, 53, 54, 55, 56, 57, 97, 98, 99, 100, 101, 102, 103, 104, 105, 106, 107, 108, 109, 110, 111, 112, 113, 114, 115, 116, 117, 118, 119, 120, 121, 122]⟩) (some E) (some b)).bind fun c =>
 some (Value.iface 1 c, H))
 ((ag .other .mul E (vi 2)).bind fun d =>
 (ag .other .mul E (vi 2)).bind fun e =>
 (ag .other .add e (vi 2)).bind fun f =>
 (rp (.string ⟨#[48, 48, 48, 49, 48, 50, 48, 51, 48, 52, 48, 53, 48, 54, 48, 55, 48, 56, 48, 57, 49, 48, 49, 49, 49, 50, 49, 51, 49, 52, 49, 53, 49, 54, 49, 55, 49, 56, 49, 57, 50, 48, 50, 49, 50, 50, 50, 51, 50, 52, 50, 53, 50, 54, 50, 55, 50, 56, 50, 57, 51, 48, 51, 49, 51, 50, 51, 51, 51, 52, 51, 53, 51, 54, 51, 55, 51, 56, 51, 57, 52, 48, 52, 49, 52, 50, 52, 51, 52, 52, 52, 53, 52, 54, 52, 55, 52, 56, 52, 57, 53, 48, 53, 49, 53, 50, 53, 51, 53, 52, 53, 53, 53, 54, 53, 55, 53, 56, 53, 57, 54, 48, 54, 49, 54, 50, 54, 51, 54, 52, 54, 53, 54, 54, 54, 55, 54, 56, 54, 57, 55, 48, 55, 49, 55, 50, 55, 51, 55, 52, 55, 53, 55, 54, 55, 55, 55, 56, 55, 57, 56, 48, 56, 49, 56, 50, 56, 51, 56, 52, 56, 53, 56, 54, 56, 55, 56, 56, 56, 57, 57, 48, 57, 49, 57, 50, 57, 51, 57, 52, 57, 53, 57, 54, 57, 55, 57, 56, 57, 57]⟩) (some d) (some f)).bind fun g =>
 some (Value.iface 1 g, H))) = some r) : FB aX [E] H = some r :=
 X0 Tryz.func98 (by kernel_rfl) h
noncomputable def iN (p : List Nat) : Code := Code.sub (bh Tryz.f53) p
noncomputable def kG : KK := Gb PP (Tryz.f53).results.toList
noncomputable def acG : KK := DQ (iN [1, 1, 1, 1, 1, 1, 1, 1, 1]) kG bg kG fi
noncomputable def jM : OV := acG (ls [E, u, D, C, I, G] 59) H
noncomputable def QP : KK := DQ (iN [1, 1, 1, 1, 1, 1, 1, 1, 1, 1]) kG bg kG fi
noncomputable def acE : KK := bX Dq (QP)
noncomputable def jN : OV := QP (ls [u, u, D, C] 61) H
noncomputable def acI : KK := DQ (iN [1, 1, 1, 1, 1, 1, 1, 1, 1, 0, 1]) (acE) bg kG fi
noncomputable def jO : OV := acI (ls [E, u, D, C, u, G, u, u, u, u, u, u, u, u, u, u, u, u, u, u, u, u, u, u, u, u, u, u, u, u, u, u, u, u, u, u, u, u, u, J, K] 24) H
noncomputable def QS : KX := BX 0 (acE) bg
noncomputable def LM : KX := iz Dq (QS)
noncomputable def QQ : KK := DLq (iN [1, 1, 1, 1, 1, 1, 1, 1, 1, 0, 1, 4, 5]) (LM) kG fi
noncomputable def acF : KK := bX Ds (QQ)
noncomputable def dL : OV := QQ (ls [E, u, D, C, u, G, u, u, u, u, u, u, u, u, u, u, u, u, u, u, u, u, u, u, u, u, u, u, u, u, u, u, u, u, u, u, u, u, u, J, K] 24) H
noncomputable def acK : KK := DQ (iN [1, 1, 1, 1, 1, 1, 1, 1, 1, 0, 1, 4, 5, 1, 1]) (acF) (LM) kG fi
noncomputable def jP : OV := acK (ls [E, u, D, C, u, G, u, u, u, u, u, u, u, u, u, u, u, u, u, u, u, u, u, u, u, u, u, u, u, u, u, u, u, u, u, u, u, u, u, J, K] 24) H
noncomputable def QR : KK := DQ (iN [1, 1, 1, 1, 1, 1, 1, 1, 1, 0, 1, 4, 5, 1, 1, 1]) (acF) (LM) kG fi
noncomputable def QO : KK := bX Ds (QR)
noncomputable def jQ : OV := QR (ls [E, u, D, C, u, G, u, u, u, u, u, u, u, u, u, u, u, u, u, u, u, u, u, u, u, u, u, u, u, u, u, u, u, u, u, u, u, u, u, J, K] 24) H
noncomputable def Uz : KX := BX 1 (QO) (LM)
noncomputable def Fh : KX := iz Ds (Uz)
noncomputable def Uw : KK := DQ (iN [1, 1, 1, 1, 1, 1, 1, 1, 1, 0, 1, 4, 5, 1, 1, 0, 4, 1, 1]) (QO) (Fh) kG fi
noncomputable def jo : OV := Uw (ls [E, u, D, C, u, G, O, N, u, u, u, u, u, u, u, u, u, u, u, u, u, u, u, u, u, u, u, u, u, u, u, u, u, u, u, u, u, u, u, J, K] 24) H
noncomputable def LI : KK := DQ (iN [1, 1, 1, 1, 1, 1, 1, 1, 1, 0, 1, 4, 5, 1, 1, 0, 4, 1, 1, 1]) (QO) (Fh) kG fi
noncomputable def Uu : KK := bX Ng (LI)
noncomputable def jp : OV := LI (ls [E, u, D, C, u, G, O, N, u, u, u, u, u, u, u, u, u, u, u, u, u, u, u, u, u, u, u, u, u, u, u, u, u, u, u, u, u, u, u, J, K] 24) H
noncomputable def Ux : KK := DQ (iN [1, 1, 1, 1, 1, 1, 1, 1, 1, 0, 1, 4, 5, 1, 1, 0, 4, 1, 1, 0, 1]) (Uu) (Fh) kG fi
noncomputable def jq : OV := Ux (ls [E, u, D, C, u, G, O, N, u, u, u, u, u, u, u, u, u, u, u, u, u, u, u, u, u, u, u, u, u, u, u, u, u, u, u, u, u, u, u, J, K, u, u, u, u, P, Q] 18) H
noncomputable def LL : KX := BX 2 (Uu) (Fh)
noncomputable def Fi : KX := iz Ng (LL)
noncomputable def LJ : KK := DLq (iN [1, 1, 1, 1, 1, 1, 1, 1, 1, 0, 1, 4, 5, 1, 1, 0, 4, 1, 1, 0, 1, 4, 5]) (Fi) kG fi
noncomputable def Uv : KK := bX FW (LJ)
noncomputable def dw : OV := LJ (ls [E, u, D, C, u, G, O, N, u, u, u, u, u, u, u, u, u, u, u, u, u, u, u, u, u, u, u, u, u, u, u, u, u, u, u, u, u, u, u, J, K, u, u, u, u, P, Q] 18) H
noncomputable def Uy : KK := DQ (iN [1, 1, 1, 1, 1, 1, 1, 1, 1, 0, 1, 4, 5, 1, 1, 0, 4, 1, 1, 0, 1, 4, 5, 1, 1]) (Uv) (Fi) kG fi
noncomputable def jr : OV := Uy (ls [E, u, D, C, u, G, O, N, u, u, u, u, u, u, u, u, u, u, u, u, u, u, u, u, u, u, u, u, u, u, u, u, u, u, u, u, u, u, u, J, K, u, u, u, u, P, Q] 18) H
noncomputable def LK : KK := DQ (iN [1, 1, 1, 1, 1, 1, 1, 1, 1, 0, 1, 4, 5, 1, 1, 0, 4, 1, 1, 0, 1, 4, 5, 1, 1, 1]) (Uv) (Fi) kG fi
noncomputable def ajK : KK := bX FW (LK)
noncomputable def jt : OV := LK (ls [E, u, D, C, u, G, O, N, u, u, u, u, u, u, u, u, u, u, u, u, u, u, u, u, u, u, u, u, u, u, u, u, u, u, u, u, u, u, u, J, K, u, u, u, u, P, Q] 18) H
noncomputable def ajL : KX := BX 3 (ajK) (Fi)
noncomputable def d7 : OV := LL 2 (ls [E, u, D, C, u, G, O, N, u, u, u, u, u, u, u, u, u, u, u, u, u, u, u, u, u, u, u, u, u, u, u, u, u, u, u, u, u, u, u, J, K] 24) H
noncomputable def iu : OV := QS 0 (ls [u, u, D, C] 61) H
theorem fp : af 36893488147419103227 kG := rfB
theorem acH : af 36893488147419103170 (acG) := wC fp am fp (Dp := cY) bj
theorem GR : af Dq (QP) := wC fp am fp (Dp := cY) bj
theorem acJ : af Ds (acI) := wC (cd (GR)) am fp (Dp := cY) bj
theorem tz : ∀ i, af Dq (QS i) := rb (cd (GR)) am
theorem zG : af Ds (QQ) := rlB (cx (tz)) fp (Dp := cY) bj
theorem acL : af Ds (acK) := wC (cd (zG)) (cx (tz)) fp (Dp := cY) bj
theorem zH : af Ds (QR) := wC (cd (zG)) (cx (tz)) fp (Dp := cY) bj
theorem px : ∀ i, af Ds (Uz i) := rb (cd (zH)) (cx (tz))
theorem WS : af Ng (Uw) := wC (cd (zH)) (cx (px)) fp (Dp := cY) bj
theorem Ca : af Ng (LI) := wC (cd (zH)) (cx (px)) fp (Dp := cY) bj
theorem WT : af FW (Ux) := wC (cd (Ca)) (cx (px)) fp (Dp := cY) bj
theorem py : ∀ i, af Ng (LL i) := rb (cd (Ca)) (cx (px))
theorem we : af FW (LJ) := rlB (cx (py)) fp (Dp := cY) bj
theorem WU : af FW (Uy) := wC (cd (we)) (cx (py)) fp (Dp := cY) bj
theorem Js : af FW (LK) := wC (cd (we)) (cx (py)) fp (Dp := cY) bj
theorem WV : ∀ i, af FW (ajL i) := rb (cd (Js)) (cx (py))
theorem oL : jN D C H =
 (aQ 6 C H).bind fun b =>
 (fT 6 D b H).bind fun a =>
 (aQ 6 D a).bind fun c => some (Value.iface 1 c, a) :=
 (by kernel_rfl)
theorem oO : jQ E D C G J K H =
 (ag .other .add K (vi 1)).bind fun a =>
 dL E D C G J a H :=
 (by kernel_rfl)
theorem ni : jp E D C G O N J K H =
 (ag .other .sub G N).bind fun b =>
 ld [.f 5] C H fun c =>
 la 1 1 [(.slice none 0 0)] [(0, O)] H fun d e =>
 (cz 1 24 c d e).bind fun a =>
 st 1 [.f 5] C a.1 a.2 fun g =>
 jQ E D C b J K g :=
 (by kernel_rfl)
theorem nl : jt E D C G O N J K P Q H =
 (ag .other .add Q (vi 1)).bind fun a =>
 dw E D C G O N J K P a H :=
 (by kernel_rfl)
theorem nk : jr E D C G O N J K P Q H =
 (FB fJ [E] H).bind fun a =>
 dO a.1 (fun c =>
 la 1 4 [(vi 0), (vi 0), (vi 0), (vi 0)] [(0, c)] a.2 fun d e =>
 (cz 4 32 O d e).bind fun b =>
 jt E D C G b.1 N J K P Q b.2) (fun p29 =>
 some (Value.iface 0 p29, a.2)) :=
 (xx rfl 0 (Js) (Yi rfl (iN [1, 1, 1, 1, 1, 1, 1, 1, 1, 0, 1, 4, 5, 1, 1, 0, 4, 1, 1, 0, 1, 4, 5, 1, 1, 0, 4]) 3 (WV) (by kernel_rfl)))
theorem dv : d7 E D C G O N J K H = jp E D C G O N J K H :=
 (by kernel_rfl)
theorem gk : dw E D C G O N J K P Q H =
 (ag .other .lss Q P).bind fun a =>
 aw a
 (jr E D C G O N J K P Q H)
 (d7 E D C G O N J K H) :=
 af1 rfl (we) (xx rfl 1 (WU) (by kernel_rfl))
theorem nj : jq E D C G O N J K P Q H =
 dw E D C G O N J K P Q H :=
 (Yi rfl (iN [1, 1, 1, 1, 1, 1, 1, 1, 1, 0, 1, 4, 5, 1, 1, 0, 4, 1, 1, 0, 1, 4]) 2 (py) (liB rfl (iN [1, 1, 1, 1, 1, 1, 1, 1, 1, 0, 1, 4, 5, 1, 1, 0, 4, 1, 1, 0, 1, 4, 5]) (we) (by kernel_rfl)))
theorem nh : jo E D C G O N J K H =
 jq E D C G O N J K N (vi 0) H :=
 (xx rfl 0 (Ca) (xx rfl 0 (WT) (by kernel_rfl)))
theorem oN : jP E D C G J K H =
 (FB az [E, (vi 0), G] H).bind fun a =>
 dO a.1 (fun b =>
 jo E D C G (.slice none 0 0) b J K a.2) (fun p36 =>
 some (Value.iface 0 p36, a.2)) :=
 (xx rfl 0 (zH) (Yi rfl (iN [1, 1, 1, 1, 1, 1, 1, 1, 1, 0, 1, 4, 5, 1, 1, 0, 4]) 1 (px) (xx rfl 1 (WS) (by kernel_rfl))))
theorem mV : iu D C H = jN D C H :=
 (by kernel_rfl)
theorem gL : dL E D C G J K H =
 (ag .other .lss K J).bind fun a =>
 aw a
 (jP E D C G J K H)
 (iu D C H) :=
 af1 rfl (zG) (xx rfl 1 (acL) (by kernel_rfl))
theorem oM : jO E D C G J K H =
 dL E D C G J K H :=
 (Yi rfl (iN [1, 1, 1, 1, 1, 1, 1, 1, 1, 0, 1, 4]) 0 (tz) (liB rfl (iN [1, 1, 1, 1, 1, 1, 1, 1, 1, 0, 1, 4, 5]) (zG) (by kernel_rfl)))
theorem oK : jM E D C I G H =
 ld [.n, .f 2] I H fun b =>
 (FB az [E, (vi 0), b] H).bind fun a =>
 dO a.1 (fun c =>
 jO E D C G c (vi 0) a.2) (fun p41 =>
 some (Value.iface 0 p41, a.2)) :=
 (xx rfl 0 (GR) (xx rfl 0 (acJ) (by kernel_rfl)))
noncomputable def yX : OV := bo PP GG (bF PP GG) (iN []) (ls [E] 64) H kG bg kG fi
theorem jR {r : Value × AH} (h : (
 bA [(vi 0), (vi 0), (vi 0), (vi 0), (vw 0), (.slice none 0 0)] H fun j k =>
 bA [(vi 0), (vi 0), (vi 0), (vi 0), (vw 0), (.slice none 0 0)] k fun i l =>
 ad [.f 0] i fun a =>
 (FB az [E, (vi 1), (vi 4)] l).bind fun b =>
 dO b.1 (fun m =>
 st 1 [.n, .f 0] a m b.2 fun o =>
 (FB az [E, (vi 1), (vi 4)] o).bind fun c =>
 dO c.1 (fun p =>
 st 1 [.n, .f 1] a p c.2 fun q =>
 (FB az [E, (vi 1), (vi 6)] q).bind fun d =>
 dO d.1 (fun s =>
 st 1 [.n, .f 2] a s d.2 fun w =>
 (FB az [E, (vi 0), (vi 40)] w).bind fun e =>
 dO e.1 (fun y =>
 st 1 [.n, .f 3] a y e.2 fun z =>
 (FB dr [E, (vw 1), (vw 4611686018427387904)] z).bind fun g =>
 dO g.1 (fun A =>
 st 1 [.n, .f 4] a A g.2 fun B =>
 jM E j i a (vi 60) B) (fun p65 =>
 some (Value.iface 0 p65, g.2))) (fun p61 =>
 some (Value.iface 0 p61, e.2))) (fun p57 =>
 some (Value.iface 0 p57, d.2))) (fun p53 =>
 some (Value.iface 0 p53, c.2))) (fun p49 =>
 some (Value.iface 0 p49, b.2))) = some r) : FB cZ [E] H = some r :=
 X0 (t := yX E H) Tryz.func53 (by kernel_rfl) (Eq.trans (xx rfl 8 (acH) (by kernel_rfl)) h)
theorem ju {r : Value × AH} (h : (
 (aO (some .u64) R).bind fun b =>
 (aO (some .u64) D).bind fun c =>
 (FB dr [E, b, c] H).bind fun a =>
 dO a.1 (fun d =>
 (aO (some .i64) d).bind fun e =>
 some (Value.iface 1 e, a.2)) (fun p4 =>
 some (Value.iface 0 p4, a.2))) = some r) : FB az [E, R, D] H = some r :=
 X0 Tryz.func54 (by kernel_rfl) h
noncomputable def ad0 (p : List Nat) : Code := Code.sub (bh Tryz.f71) p
noncomputable def GW : KK := Gb PP (Tryz.f71).results.toList
noncomputable def ad1 : KK := DQ (ad0 [1, 1]) GW bg GW fi
noncomputable def iv : OV := ad1 (ls [u, R, D, u, u, u, O, N] 12) H
noncomputable def ad3 : KK := DQ (ad0 [1, 1, 1]) GW bg GW fi
noncomputable def iw : OV := ad3 (ls [u, u, u, u, u, u, O, N] 12) H
theorem Fl : af 1048511 GW := rfB
theorem ad2 : af 1048377 (ad1) := wC Fl am Fl (Dp := cY) bj
theorem ad4 : af 1048383 (ad3) := wC Fl am Fl (Dp := cY) bj
theorem mX : iw O N H =
 some (Value.iface 1 N, H) :=
 (by kernel_rfl)
theorem mW : iv R D O N H =
 (ag .other .lss N R).bind fun a =>
 (gV a false N).bind fun b =>
 (gV a false D).bind fun c =>
 (gB a false (ag .other .gtr b c)).bind fun d =>
 (aE a (vb true) d).bind fun e =>
 aw e
 (On (.iface 32 (vi 11)) fun p7 =>
 some (Value.iface 0 p7, H))
 (iw O N H) :=
 (xx rfl 0 (ad4) (by kernel_rfl))
noncomputable def ve : OV := bo PP GG (bF PP GG) (ad0 []) (ls [E, R, D] 17) H GW bg GW fi
theorem ix {r : Value × AH} (h : (
 (FB dq [E] H).bind fun a =>
 dO a.1 (fun b =>
 iv R D (vw 0) b a.2) (fun p10 =>
 some (Value.iface 0 p10, a.2))) = some r) : FB dr [E, R, D] H = some r :=
 X0 (t := ve E R D H) Tryz.func71 (by kernel_rfl) (Eq.trans (xx rfl 1 (ad2) (by kernel_rfl)) h)
noncomputable def w5 (p : List Nat) : Code := Code.sub (bh Tryz.f72) p
noncomputable def tG : KK := Gb PP (Tryz.f72).results.toList
noncomputable def ad6 : KK := DQ (w5 [1, 1]) tG bg tG fi
noncomputable def jJ : OV := ad6 (ls [E, u, D, C] 18) H
noncomputable def Rb : KK := DQ (w5 [1, 1, 1]) tG bg tG fi
noncomputable def ad5 : KK := bX 4194291 (Rb)
noncomputable def jK : OV := Rb (ls [u, u, D, C] 18) H
noncomputable def ad8 : KK := DQ (w5 [1, 1, 0, 1]) (ad5) bg tG fi
noncomputable def jL : OV := ad8 (ls [E, u, D, C, u, G] 16) H
noncomputable def LY : KX := BX 0 (ad5) bg
noncomputable def Fm : KX := iz 4194291 (LY)
noncomputable def LW : KK := DLq (w5 [1, 1, 0, 1, 4, 5]) (Fm) tG fi
noncomputable def UC : KK := bX 4194258 (LW)
noncomputable def cF : OV := LW (ls [E, u, D, C, u, G] 16) H
noncomputable def UD : KK := DQ (w5 [1, 1, 0, 1, 4, 5, 1, 1]) (UC) (Fm) tG fi
noncomputable def jn : OV := UD (ls [E, u, D, C, u, G] 16) H
noncomputable def LX : KK := DQ (w5 [1, 1, 0, 1, 4, 5, 1, 1, 1]) (UC) (Fm) tG fi
noncomputable def ajS : KK := bX 4194258 (LX)
noncomputable def du : OV := LX (ls [E, u, D, C, u, G] 16) H
noncomputable def ajT : KX := BX 1 (ajS) (Fm)
noncomputable def gK : OV := LY 0 (ls [u, u, D, C] 18) H
theorem nE : af 4194299 tG := rfB
theorem ad7 : af 4194290 (ad6) := wC nE am nE (Dp := cY) bj
theorem GX : af 4194291 (Rb) := wC nE am nE (Dp := cY) bj
theorem ad9 : af 4194258 (ad8) := wC (cd (GX)) am nE (Dp := cY) bj
theorem pz : ∀ i, af 4194291 (LY i) := rb (cd (GX)) am
theorem wg : af 4194258 (LW) := rlB (cx (pz)) nE (Dp := cY) bj
theorem WW : af 4194258 (UD) := wC (cd (wg)) (cx (pz)) nE (Dp := cY) bj
theorem Jt : af 4194258 (LX) := wC (cd (wg)) (cx (pz)) nE (Dp := cY) bj
theorem WX : ∀ i, af 4194258 (ajT i) := rb (cd (Jt)) (cx (pz))
theorem oI : jK D C H =
 ld [.a 4 1 (vi 0)] C H fun c =>
 ld [.a 4 1 (vi 1)] C H fun d =>
 ld [.a 4 1 (vi 2)] C H fun e =>
 ld [.a 4 1 (vi 3)] C H fun f =>
 wn [(0, 1), (1, 1), (2, 1), (3, 1)] [(vi 0), (vi 0), (vi 0), (vi 0)] [(0, c), (1, d), (2, e), (3, f)] fun g =>
 (fT 4 D g H).bind fun b =>
 (aQ 4 D b).bind fun i => some (Value.iface 1 i, b) :=
 (by kernel_rfl)
theorem ng : du E D C G H =
 (ag .other .add G (vi 1)).bind fun a =>
 cF E D C a H :=
 (by kernel_rfl)
theorem nf : jn E D C G H =
 (FB az [E, (vi 0), (vi 2147483647)] H).bind fun b =>
 dO b.1 (fun c =>
 st 1 [.a 4 1 G] C c b.2 fun d =>
 du E D C G d) (fun p18 =>
 some (Value.iface 0 p18, b.2)) :=
 (xx rfl 0 (Jt) (Yi rfl (w5 [1, 1, 0, 1, 4, 5, 1, 1, 0, 4]) 1 (WX) (by kernel_rfl)))
theorem lX : gK D C H = jK D C H :=
 (by kernel_rfl)
theorem gi : cF E D C G H =
 (ag .other .lss G (vi 4)).bind fun a =>
 aw a
 (jn E D C G H)
 (gK D C H) :=
 af1 rfl (wg) (xx rfl 1 (WW) (by kernel_rfl))
theorem oJ : jL E D C G H =
 cF E D C G H :=
 (Yi rfl (w5 [1, 1, 0, 1, 4]) 0 (pz) (liB rfl (w5 [1, 1, 0, 1, 4, 5]) (wg) (by kernel_rfl)))
theorem oH : jJ E D C H =
 jL E D C (vi 0) H :=
 (xx rfl 0 (GX) (xx rfl 0 (ad9) (by kernel_rfl)))
noncomputable def yW : OV := bo PP GG (bF PP GG) (w5 []) (ls [E] 21) H tG bg tG fi
theorem sL {r : Value × AH} (h : (
 bA [(vi 0), (vi 0), (vi 0), (vi 0)] H fun a b =>
 bA [(vi 0), (vi 0), (vi 0), (vi 0)] b fun c d =>
 jJ E a c d) = some r) : FB fJ [E] H = some r :=
 X0 (t := yW E H) Tryz.func72 (by kernel_rfl) (Eq.trans (xx rfl 1 (ad7) (by kernel_rfl)) h)
noncomputable def tJ (p : List Nat) : Code := Code.sub (bh Tryz.f92) p
noncomputable def tL : KK := Gb PP (Tryz.f92).results.toList
noncomputable def aeM : KK := DQ (tJ [1, 1, 1]) tL bg tL fi
noncomputable def im : OV := aeM (ls [E, u, D, C, I] 51) H
noncomputable def aeS : KX := BX 0 tL bg
noncomputable def Rl : KX := iz 72057594037927931 (aeS)
noncomputable def Rh : KK := DLq (tJ [1, 1, 1, 4, 5]) (Rl) tL fi
noncomputable def anW : KK := bX sT (Rh)
noncomputable def dg : OV := Rh (ls [E, u, D, C, I] 51) H
noncomputable def Ri : KK := DQ (tJ [1, 1, 1, 4, 5, 1]) (anW) (Rl) tL fi
noncomputable def L3 : KK := bX sT (Ri)
noncomputable def io : OV := Ri (ls [E, u, D, C, I] 51) H
noncomputable def Rk : KX := BX 1 (L3) (Rl)
noncomputable def L4 : KX := iz sT (Rk)
noncomputable def Rj : KK := DQ (tJ [1, 1, 1, 4, 5, 0, 4, 1]) (L3) (L4) tL fi
noncomputable def anX : KK := bX sT (Rj)
noncomputable def ip : OV := Rj (ls [E, u, D, C, I] 51) H
noncomputable def aeO : KK := DQ (tJ [1, 1, 1, 4, 5, 0, 4, 1, 1, 1, 1]) (L3) (L4) tL fi
noncomputable def iq : OV := aeO (ls [E, u, D, C, I, G] 50) H
noncomputable def aeQ : KK := DQ (tJ [1, 1, 1, 4, 5, 0, 4, 1, 1, 1, 1, 1]) (L3) (L4) tL fi
noncomputable def eA : OV := aeQ (ls [E, u, D, C, I] 51) H
noncomputable def gj : OV := Rk 1 (ls [E, u, D, C, I] 51) H
noncomputable def ajV : KX := BX 2 (anX) (L4)
theorem nF : af 72057594037927931 tL := rfB
theorem aeN : af sT (aeM) := wC nF am nF (Dp := cY) bj
theorem zS : ∀ i, af 72057594037927931 (aeS i) := rb nF am
theorem G6 : af sT (Rh) := rlB (cx (zS)) nF (Dp := cY) bj
theorem tK : af sT (Ri) := wC (cd (G6)) (cx (zS)) nF (Dp := cY) bj
theorem tM : ∀ i, af sT (Rk i) := rb (cd (tK)) (cx (zS))
theorem NX : af sT (Rj) := wC (cd (tK)) (cx (tM)) nF (Dp := cY) bj
theorem aeP : af 72057594037927874 (aeO) := wC (cd (tK)) (cx (tM)) nF (Dp := cY) bj
theorem aeR : af sT (aeQ) := wC (cd (tK)) (cx (tM)) nF (Dp := cY) bj
theorem WZ : ∀ i, af sT (ajV i) := rb (cd (NX)) (cx (tM))
theorem mR : io E D C I H =
 (ag .other .add I (vi 1)).bind fun a =>
 dg E D C a H :=
 (by kernel_rfl)
theorem mU : eA E D C I H =
 ld [.n, .f 0] E H fun a =>
 (ag .other .add I (vi 1)).bind fun b =>
 (eV 1 a (some b) none).bind fun c =>
 st 1 [.n, .f 0] E c H fun d =>
 some (Value.iface 1 C, d) :=
 (by kernel_rfl)
theorem mT : iq E D C I G H =
 (ag .other .eql G (.int .u8 0)).bind fun a =>
 (gV a true I).bind fun b =>
 (gB a true (ag .other .gtr b (vi 0))).bind fun c =>
 (aE a c (vb false)).bind fun d =>
 aw d
 (On (.iface 32 (vi 11)) fun p17 =>
 some (Value.iface 0 p17, H))
 (eA E D C I H) :=
 (xx rfl 0 (aeR) (by kernel_rfl))
theorem lj : gj E D C I H = io E D C I H :=
 (by kernel_rfl)
theorem mS : ip E D C I H =
 ld [.n, .f 0] E H fun c =>
 ld [.i 1 I] c H fun a =>
 (ag .other .and a (.int .u8 127)).bind fun d =>
 (aO (some .u64) d).bind fun e =>
 (ag .other .mul (vi 7) I).bind fun g =>
 (ag .other .shl e g).bind fun j =>
 (ag .other .or C j).bind fun b =>
 (ag .other .gtr a (.int .u8 127)).bind fun k =>
 aw k
 (gj E D b I H)
 (iq E D b I a H) :=
 (xx rfl 2 (aeP) (by kernel_rfl))
theorem dJ : dg E D C I H =
 ld [.n, .f 0] E H fun a =>
 cB a fun b =>
 (ag .other .geq I b).bind fun c =>
 aw c
 (On (.iface 32 (vi 12)) fun p30 =>
 some (Value.iface 0 p30, H))
 ((ag .other .geq I (vi 9)).bind fun d =>
 aw d
 (On (.iface 32 (vi 11)) fun p32 =>
 some (Value.iface 0 p32, H))
 (ip E D C I H)) :=
 af1 rfl (G6) (xx rfl 0 (tK) (Yi rfl (tJ [1, 1, 1, 4, 5, 0, 4]) 1 (tM) (xx rfl 0 (NX) (Yi rfl (tJ [1, 1, 1, 4, 5, 0, 4, 0, 4]) 2 (WZ) (by kernel_rfl)))))
theorem fP : im E D C I H =
 dg E D C I H :=
 (Yi rfl (tJ [1, 1, 1, 4]) 0 (zS) (liB rfl (tJ [1, 1, 1, 4, 5]) (G6) (by kernel_rfl)))
noncomputable def vd : OV := bo PP GG (bF PP GG) (tJ []) (ls [E] 55) H tL bg tL fi
theorem ir {r : Value × AH} (h : (
 im E (vw 0) (vw 0) (vi 0) H) = some r) : FB dq [E] H = some r :=
 X0 (t := vd E H) Tryz.func92 (by kernel_rfl) (Eq.trans (xx rfl 2 (aeN) (by kernel_rfl)) h)
noncomputable def tl (p : List Nat) : Code := Code.sub (bh Tryz.f32) p
noncomputable def pi : KK := ed PP (Tryz.f32).results.toList
noncomputable def zz (y0 y1 y2 : Value) : KP := fun v A H => (i4 PP GG bd [y0, y1, y2] v H).bind fun H => ed PP (Tryz.f32).results.toList A H
noncomputable def ao4 (y0 y1 y2 : Value) : KK := DQ (tl [1, 1]) pi bg pi (zz y0 y1 y2)
noncomputable def ql (y0 y1 y2 : Value) (E D C I : Value) (H : AH) : OV := ao4 y0 y1 y2 (ls [E, u, D, C, I] 26) H
noncomputable def aaB (y0 y1 y2 : Value) : KK := DQ (tl [1, 1, 1, 1]) pi bg pi (zz y0 y1 y2)
noncomputable def u7 (y0 y1 y2 : Value) (D C I G : Value) (H : AH) : OV := aaB y0 y1 y2 (ls [u, u, D, C, I, G] 25) H
noncomputable def Qo (y0 y1 y2 : Value) : KK := DQ (tl [1, 1, 1, 1, 1]) pi bg pi (zz y0 y1 y2)
noncomputable def aaA (y0 y1 y2 : Value) : KK := bX 2147483587 (Qo y0 y1 y2)
noncomputable def mP (y0 y1 y2 : Value) (D C I G : Value) (H : AH) : OV := Qo y0 y1 y2 (ls [u, u, D, C, I, G] 25) H
noncomputable def aaD (y0 y1 y2 : Value) : KK := DQ (tl [1, 1, 1, 1, 1, 1]) pi bg pi (zz y0 y1 y2)
noncomputable def u9 (y0 y1 y2 : Value) (D C I : Value) (H : AH) : OV := aaD y0 y1 y2 (ls [u, u, D, C, I] 26) H
noncomputable def Ua (y0 y1 y2 : Value) : KK := DQ (tl [1, 1, 1, 1, 0, 1]) (aaA y0 y1 y2) bg pi (zz y0 y1 y2)
noncomputable def sd (y0 y1 y2 : Value) (D C I G L M : Value) (H : AH) : OV := Ua y0 y1 y2 (ls [u, u, D, C, I, G, u, u, u, u, u, u, u, L, M] 16) H
noncomputable def Ln (y0 y1 y2 : Value) : KX := BX 0 (aaA y0 y1 y2) bg
noncomputable def Fb (y0 y1 y2 : Value) : KX := iz 2147483587 (Ln y0 y1 y2)
noncomputable def Ll (y0 y1 y2 : Value) : KK := DLq (tl [1, 1, 1, 1, 0, 1, 4, 5]) (Fb y0 y1 y2) pi (zz y0 y1 y2)
noncomputable def T9 (y0 y1 y2 : Value) : KK := bX F0 (Ll y0 y1 y2)
noncomputable def gS (y0 y1 y2 : Value) (D C I G L M : Value) (H : AH) : OV := Ll y0 y1 y2 (ls [u, u, D, C, I, G, u, u, u, u, u, u, u, L, M] 16) H
noncomputable def Ub (y0 y1 y2 : Value) : KK := DQ (tl [1, 1, 1, 1, 0, 1, 4, 5, 1, 1]) (T9 y0 y1 y2) (Fb y0 y1 y2) pi (zz y0 y1 y2)
noncomputable def se (y0 y1 y2 : Value) (D C I G L M : Value) (H : AH) : OV := Ub y0 y1 y2 (ls [u, u, D, C, I, G, u, u, u, u, u, u, u, L, M] 16) H
noncomputable def Lm (y0 y1 y2 : Value) : KK := DQ (tl [1, 1, 1, 1, 0, 1, 4, 5, 1, 1, 1]) (T9 y0 y1 y2) (Fb y0 y1 y2) pi (zz y0 y1 y2)
noncomputable def ajB (y0 y1 y2 : Value) : KK := bX F0 (Lm y0 y1 y2)
noncomputable def sf (y0 y1 y2 : Value) (D C I G L M : Value) (H : AH) : OV := Lm y0 y1 y2 (ls [u, u, D, C, I, G, u, u, u, u, u, u, u, L, M] 16) H
noncomputable def ajC (y0 y1 y2 : Value) : KX := BX 1 (ajB y0 y1 y2) (Fb y0 y1 y2)
noncomputable def ou (y0 y1 y2 : Value) (D C I G : Value) (H : AH) : OV := Ln y0 y1 y2 0 (ls [u, u, D, C, I, G] 25) H
theorem kd : af 2147483619 pi := rf
theorem qC (y0 y1 y2 : Value) : ∀ v, af 2147483619 (zz y0 y1 y2 v) := fun v => JK rf
theorem aaC (y0 y1 y2 : Value) : af 2147483587 (aaB y0 y1 y2) := wC kd am kd (qC y0 y1 y2)
theorem GH (y0 y1 y2 : Value) : af 2147483587 (Qo y0 y1 y2) := wC kd am kd (qC y0 y1 y2)
theorem aaE (y0 y1 y2 : Value) : af 2147483619 (aaD y0 y1 y2) := wC kd am kd (qC y0 y1 y2)
theorem Wz (y0 y1 y2 : Value) : af F0 (Ua y0 y1 y2) := wC (cd (GH y0 y1 y2)) am kd (qC y0 y1 y2)
theorem pj (y0 y1 y2 : Value) : ∀ i, af 2147483587 (Ln y0 y1 y2 i) := rb (cd (GH y0 y1 y2)) am
theorem vY (y0 y1 y2 : Value) : af F0 (Ll y0 y1 y2) := rlB (cx (pj y0 y1 y2)) kd (qC y0 y1 y2)
theorem WA (y0 y1 y2 : Value) : af F0 (Ub y0 y1 y2) := wC (cd (vY y0 y1 y2)) (cx (pj y0 y1 y2)) kd (qC y0 y1 y2)
theorem Jo (y0 y1 y2 : Value) : af F0 (Lm y0 y1 y2) := wC (cd (vY y0 y1 y2)) (cx (pj y0 y1 y2)) kd (qC y0 y1 y2)
theorem WB (y0 y1 y2 : Value) : ∀ i, af F0 (ajC y0 y1 y2 i) := rb (cd (Jo y0 y1 y2)) (cx (pj y0 y1 y2))
theorem Bq (y0 y1 y2 : Value) (D C I : Value) (H : AH) : u9 y0 y1 y2 D C I H =
 (aQ 6 D H).bind fun c =>
 (aA C H).bind fun d =>
 (fT 6 D c H).bind fun b =>
 ic (aA C b) (aA C H) <|
 (fT 1 C d b).bind fun e =>
 (fT 1 I (vi 0) e).bind fun a =>
 (aQ 6 D a).bind fun f => (aA C a).bind fun g => (aA I a).bind fun i => some (Value.tuple #[f, g, i], a) :=
 (by kernel_rfl)
theorem Bp (y0 y1 y2 : Value) (D C I G : Value) (H : AH) : mP y0 y1 y2 D C I G H =
 ld [.n, .f 0] G H fun b =>
 cB b fun c =>
 (ag .other .gtr c (vi 0)).bind fun d =>
 aw d
 (On (.iface 32 (vi 11)) fun p14 =>
 (i4 PP GG bd [y0, y1, y2] p14 H).bind fun a =>
 (aQ 6 D a).bind fun e => (aA C a).bind fun g => (aA I a).bind fun i => some (Value.tuple #[e, g, i], a))
 (u9 y0 y1 y2 D C I H) :=
 (xx rfl 0 (aaE y0 y1 y2) (by kernel_rfl))
theorem yV (y0 y1 y2 : Value) (D C I G L M : Value) (H : AH) : sf y0 y1 y2 D C I G L M H =
 (ag .other .add M (vi 1)).bind fun a =>
 gS y0 y1 y2 D C I G L a H :=
 (by kernel_rfl)
theorem yU (y0 y1 y2 : Value) (D C I G L M : Value) (H : AH) : se y0 y1 y2 D C I G L M H =
 (aA C H).bind fun m =>
 (FB az [G, (vi 0), (vi 63)] H).bind fun c =>
 dO c.1 (fun _ =>
 (aA C H).bind fun e =>
 (FF az [G, (vi 0), (vi 63)] H).bind fun b =>
 ic (aA C b.2) (aA C H) <|
 la 1 1 [(vi 0)] [(0, b.1)] b.2 fun f g =>
 (cz 1 8 e f g).bind fun d =>
 (fT 1 C d.1 d.2).bind fun i =>
 sf y0 y1 y2 D C I G L M i) (fun p35 =>
 (i4 PP GG bd [y0, y1, y2] p35 c.2).bind fun a =>
 (aQ 6 D a).bind fun j => (aA C a).bind fun k => (aA I a).bind fun l => some (Value.tuple #[j, k, l], a)) :=
 (xx rfl 0 (Jo y0 y1 y2) (Yi rfl (tl [1, 1, 1, 1, 0, 1, 4, 5, 1, 1, 0, 4]) 1 (WB y0 y1 y2) (by kernel_rfl)))
theorem u6 (y0 y1 y2 : Value) (D C I G : Value) (H : AH) : ou y0 y1 y2 D C I G H = mP y0 y1 y2 D C I G H :=
 (by kernel_rfl)
theorem mQ (y0 y1 y2 : Value) (D C I G L M : Value) (H : AH) : gS y0 y1 y2 D C I G L M H =
 (ag .other .lss M L).bind fun a =>
 aw a
 (se y0 y1 y2 D C I G L M H)
 (ou y0 y1 y2 D C I G H) :=
 af1 rfl (vY y0 y1 y2) (xx rfl 1 (WA y0 y1 y2) (by kernel_rfl))
theorem yT (y0 y1 y2 : Value) (D C I G L M : Value) (H : AH) : sd y0 y1 y2 D C I G L M H =
 gS y0 y1 y2 D C I G L M H :=
 (Yi rfl (tl [1, 1, 1, 1, 0, 1, 4]) 0 (pj y0 y1 y2) (liB rfl (tl [1, 1, 1, 1, 0, 1, 4, 5]) (vY y0 y1 y2) (by kernel_rfl)))
theorem Bo (y0 y1 y2 : Value) (D C I G : Value) (H : AH) : u7 y0 y1 y2 D C I G H =
 (FB az [G, (vi 0), (vi 4000)] H).bind fun b =>
 dO b.1 (fun c =>
 sd y0 y1 y2 D C I G c (vi 0) b.2) (fun p35 =>
 (i4 PP GG bd [y0, y1, y2] p35 b.2).bind fun a =>
 (aQ 6 D a).bind fun d => (aA C a).bind fun e => (aA I a).bind fun f => some (Value.tuple #[d, e, f], a)) :=
 (xx rfl 0 (GH y0 y1 y2) (xx rfl 0 (Wz y0 y1 y2) (by kernel_rfl)))
theorem lN (y0 y1 y2 : Value) (E D C I : Value) (H : AH) : ql y0 y1 y2 E D C I H =
 wn [(0, 1)] [(.slice none 0 0)] [(0, E)] fun d =>
 bA (Value.cells d).toList H fun c e =>
 (FB cZ [c] e).bind fun b =>
 dO b.1 (fun f =>
 (fT 6 D f b.2).bind fun g =>
 u7 y0 y1 y2 D C I c g) (fun p45 =>
 (i4 PP GG bd [y0, y1, y2] p45 b.2).bind fun a =>
 (aQ 6 D a).bind fun i => (aA C a).bind fun j => (aA I a).bind fun k => some (Value.tuple #[i, j, k], a)) :=
 (xx rfl 1 (aaC y0 y1 y2) (by kernel_rfl))
theorem vc {r : Value × AH} (hh : eo PP bd) (h : (
 bA [(vi 0), (vi 0), (vi 0), (vi 0), (vw 0), (.slice none 0 0)] H fun a d =>
 bA [(.slice none 0 0)] d fun b e =>
 bA [(vi 0)] e fun c f =>
 ql a b c E a b c f) = some r) : FF gD [E] H = some r :=
 aqG 2147483618 2147483619 bd Tryz.func32 hh (by kernel_rfl) h
end
theorem ah4 : ∀ i : Fin 256, Go.bits .and .u8 (i.val : Int) 127 = ((i.val % 128 : Nat) : Int) := by decide +kernel
theorem amQ {cl : TCls} {n : Nat} (h : n < 256) : ag cl .and (.int .u8 (n : Int)) (.int .u8 127) = some (.int .u8 ((n % 128 : Nat) : Int)) := by
 simp only [ag, j9, if_true, ah4 ⟨n, h⟩]
theorem S3 {n : Nat} (h : n < 256) : aO (some .u64) (.int .u8 (n : Int)) = some (vu n) := by
 simp only [aO];rw [qp (by omega) (by omega)]
theorem UZ {i : Nat} (h : i ≤ 8) : 2 ^ (7 * i) ≤ 72057594037927936 := by
 have : 7 * i ≤ 56 := by omega
 exact Nat.pow_le_pow_right (by omega) this
theorem aoC {n y k : Nat} (h : n < 2 ^ k) : n ||| (y * 2 ^ k) = n + y * 2 ^ k := by
 have e := Nat.shiftLeft_add_eq_or_of_lt h y;rw [Nat.shiftLeft_eq] at e;rw [Nat.or_comm, ← e, Nat.add_comm]
def m5 {α : Type} (res : Except Int (α × List Nat)) (post : α → Value → SP) (b : Nat) (Y R : SP) (r : Value) (H' : AH) : Prop :=
 match res with
 | .ok (a, rest) => ∃ x v', r = .iface 1 x ∧ Rd R v' 1 aG rest ∧ (∀ y ∈ rest, y < 256) ∧ ac (post a x * (blk b (.cells false [v']) * (Y * R))) H'
 | .error e => ∃ v', r = .iface 0 (.iface 32 (vi e)) ∧ ac (blk b (.cells false [v']) * (Y * R)) H'
section
variable {α : Type} {Y R : SP} {b : Nat} {H : AH} {x : OV} {res : Except Int (α × List Nat)} {post : α → Value → SP} {Q : Value → AH → Prop}
theorem qn {k : Value × AH → OV} (h : wp x (m5 res post b Y R))
 (hok : ∀ a rest z v' H', res = .ok (a, rest) → Rd R v' 1 aG rest → (∀ y ∈ rest, y < 256) → ac (post a z * (blk b (.cells false [v']) * (Y * R))) H' → wp (k (.iface 1 z, H')) Q)
 (herr : ∀ e v' H', res = .error e → ac (blk b (.cells false [v']) * (Y * R)) H' → wp (k (.iface 0 (.iface 32 (vi e)), H')) Q) : wp (x.bind k) Q := by
 obtain ⟨r, H', rfl, hq⟩ := h;unfold m5 at hq
 cases res with
 | ok p =>
  obtain ⟨a, rest⟩ := p;obtain ⟨z, v', rfl, h1, h2, h3⟩ := hq;exact hok a rest z v' H' rfl h1 h2 h3
 | error e =>
  obtain ⟨v', rfl, h3⟩ := hq;exact herr e v' H' rfl h3
abbrev akB (n : Nat) (x : Value) : SP := pu (x = vu n ∧ n < 9223372036854775808)
theorem Of {L : List Nat} {v : Value} [r : Rd R v 1 aG L] (hL : ∀ y ∈ L, y < 256) (hlen : (L.length : Int) < 9223372036854775808) (x2 : Value) : ∀ (d i n : Nat) (H : AH), i + d = 10 → i ≤ L.length → n < 2 ^ (7 * i) → ac (blk b (.cells false [v]) * (Y * R)) H →
 wp (dg (vp b) x2 (vu n) (vi i) H) (m5 (iI (L.drop i) i n) akB b Y R) := by
 intro d
 induction d with
 | zero =>
  intro i n H hi hl hn h;refine ae (dJ _ _ _ _ H) ?_;refine aL h bn rfl ?_;refine aS (s := v) (l := L) h ?_
  by_cases hc : (L.length : Int) ≤ i
  ·refine aa (ln hc) ?_
   rw [List.drop_of_length_le (by omega)];exact ay ⟨v, rfl, h⟩
  ·refine aa (lm hc) ?_
   refine gs ?_;refine aa (ln (by omega)) ?_;rw [List.drop_eq_getElem_cons (by omega)];unfold iI;rw [if_pos (by omega)];exact ay ⟨v, rfl, h⟩
 | succ d ih =>
  intro i n H hi hl hn h;refine ae (dJ _ _ _ _ H) ?_;refine aL h bn rfl ?_;refine aS (s := v) (l := L) h ?_
  by_cases hc : (L.length : Int) ≤ i
  ·refine aa (ln hc) ?_
   rw [List.drop_of_length_le (by omega)];exact ay ⟨v, rfl, h⟩
  ·refine aa (lm hc) ?_
   refine gs ?_
   have hil : i < L.length := by omega
   rw [List.drop_eq_getElem_cons hil];unfold iI
   by_cases h9 : (9 : Int) ≤ i
   ·refine aa (ln h9) ?_
    rw [if_pos (by omega)];exact ay ⟨v, rfl, h⟩
   ·refine aa (lm h9) ?_
    refine gs ?_;rw [if_neg (by omega)];refine ae (mS _ _ _ _ H) ?_;refine aL h bn rfl ?_;refine bU (s := v) (l := L) h hil rfl ?_;have hx := hL L[i] (tY hil);have hp := UZ (i := i) (by omega)
    generalize L[i] = x at hx
    refine aa (amQ hx) ?_;refine aa (S3 (by omega)) ?_
    have e7 : ag .other .mul (vi 7) (vi i) = some (vi ((7 * i : Nat) : Int)) := by
     rw [jT (by omega) (by omega)]; congr 2
    refine aa e7 ?_;refine aa (I3 (n := 7 * i) (by omega)) ?_
    have hm : x % 128 * 2 ^ (7 * i) < 9223372036854775808 := by
     have : x % 128 * 2 ^ (7 * i) ≤ 127 * 72057594037927936 := Nat.mul_le_mul (by omega) hp;omega
    rw [Nat.mod_eq_of_lt (a := x % 128 * 2 ^ (7 * i)) (by omega)];refine aa (amV (by omega) (by omega)) ?_;rw [aoC hn]
    by_cases h127 : (127 : Int) < x
    ·refine aa (iQ h127) ?_
     refine gs ?_;rw [if_pos (by omega)];refine ae (lj _ _ _ _ H) ?_;refine ae (mR _ _ _ _ H) ?_;refine aa (aq (by omega) (by omega)) ?_;have e : 2 ^ (7 * (i + 1)) = 128 * 2 ^ (7 * i) := aoE i;refine ih (i + 1) (n + x % 128 * 2 ^ (7 * i)) H (by omega) (by omega) ?_ h;rw [e];have : x % 128 * 2 ^ (7 * i) ≤ 127 * 2 ^ (7 * i) := Nat.mul_le_mul_right _ (by omega);omega
    ·refine aa (iP h127) ?_
     refine gs ?_;rw [if_neg (by omega)];have ex : x % 128 = x := Nat.mod_eq_of_lt (by omega);rw [ex] at hm ⊢;refine ae (mT _ _ _ _ _ H) ?_
     have fin : wp (eA (vp b) x2 (vu (n + x * 2 ^ (7 * i))) (vi i) H) (m5 (.ok (n + x * 2 ^ (7 * i), L.drop (i + 1))) akB b Y R) := by
      refine ae (mU _ _ _ _ H) ?_;refine aL h bn rfl ?_;refine aa (aq (by omega) (by omega)) ?_;obtain ⟨v', hv', hr'⟩ := Bb (P := R) (s := v) (l := L) (lo := some (vi ((i : Int) + 1))) (hi := none) (a := i + 1) (b := L.length) h.right.right (.inr ⟨.i64, rfl⟩) (.inl ⟨rfl, rfl⟩) (by omega) (by omega) (by omega);rw [List.take_length] at hr';refine aa hv' ?_
      have hsv : ∃ s : Sv, v' = s.v := by
       obtain ⟨_, ⟨a, c, rfl, _⟩ | ⟨b, o, ro, row, rfl, _⟩⟩ := hr'.rd h.right.right
       ·exact ⟨⟨_, _, _⟩, rfl⟩
       ·exact ⟨⟨_, _, _⟩, rfl⟩
      obtain ⟨s, rfl⟩ := hsv;refine gN h bn rfl rfl fun H2 h2 => ?_;refine ay ⟨_, s.v, rfl, hr', fun y hy => hL y (List.mem_of_mem_drop hy), ?_⟩;have hb : x * 2 ^ (7 * i) ≤ 127 * 2 ^ (7 * i) := Nat.mul_le_mul_right _ (by omega);exact ac.pu.2 ⟨⟨rfl, by omega⟩, h2.to⟩
     by_cases h0 : (x : Int) = 0
     ·refine aa (cM h0) ?_
      refine gs ?_
      by_cases hi0 : (0 : Int) < i
      ·refine aa (iQ hi0) ?_
       refine gs ?_;rw [if_pos ⟨by omega, by omega⟩];exact ay ⟨v, rfl, h⟩
      ·refine aa (iP hi0) ?_
       refine gs ?_;rw [if_neg (by omega)];exact fin
     ·refine aa (nw h0) ?_
      refine gs ?_;rw [if_neg (by omega)];exact fin
theorem RO {L : List Nat} {v : Value} (r : Rd R v 1 aG L) (hL : ∀ y ∈ L, y < 256) (hlen : (L.length : Int) < 9223372036854775808) (h : ac (blk b (.cells false [v]) * (Y * R)) H) :
 wp (FB dq [vp b] H) (m5 (iI L 0 0) akB b Y R) := by
 refine eD (fun r => ir _ H) ?_;refine ae (fP _ _ _ _ H) ?_;exact Of (L := L) hL hlen _ 10 0 0 H rfl (Nat.zero_le _) (by decide) h
end
abbrev aqJ (n : Nat) (x : Value) : SP := pu (x = vi n ∧ n < 9223372036854775808)
abbrev aiI (y : nq) : List Value := [vi y.op, vi y.flow, vi y.a, vi y.b]
abbrev clP (y : nq) (x : Value) : SP := pu (x = .agg (aiI y).toArray)
theorem BA {α : Type} {post : α → Value → SP} {b : Nat} {Y R : SP} {H : AH} {a : α} {rest : List Nat} {x v' : Value} (h1 : Rd R v' 1 aG rest) (h2 : ∀ y ∈ rest, y < 256) (h : ac (post a x * (blk b (.cells false [v']) * (Y * R))) H) : wp (some (Value.iface 1 x, H)) (m5 (.ok (a, rest)) post b Y R) := ay ⟨x, v', rfl, h1, h2, h⟩
theorem eC {α : Type} {post : α → Value → SP} {b : Nat} {Y R : SP} {H : AH} {e : Int} {v' : Value} (h : ac (blk b (.cells false [v']) * (Y * R)) H) : wp (some (Value.iface 0 (.iface 32 (vi e)), H)) (m5 (.error e) post b Y R) := ay ⟨v', rfl, h⟩
section
variable {Y R : SP} {b : Nat} {H : AH} {L : List Nat} {v : Value}
theorem Ij (lo hi : Nat) (r : Rd R v 1 aG L) (hL : ∀ y ∈ L, y < 256) (hlen : (L.length : Int) < 9223372036854775808) (h : ac (blk b (.cells false [v]) * (Y * R)) H) :
 wp (FB dr [vp b, vu lo, vu hi] H) (m5 (fM lo hi L) akB b Y R) := by
 refine eD (fun r => ix _ _ _ H) ?_;refine qn (RO r hL hlen h) (fun n rest z v' H' e h1 h2 h3 => ?_) (fun e v' H' e1 h3 => ?_)
 ·obtain ⟨⟨rfl, hn⟩, h4⟩ := ac.pu.1 h3
  refine ae (mW _ _ _ _ H') ?_;unfold fM;rw [e];dsimp only
  by_cases c1 : (n : Int) < lo
  ·refine aa (aW c1) ?_
   refine gs ?_;rw [if_pos (by omega)];exact eC h4
  ·refine aa (aU c1) ?_
   refine gs ?_
   by_cases c2 : (hi : Int) < n
   ·refine aa (iQ c2) ?_
    refine gs ?_;rw [if_pos (by omega)];exact eC h4
   ·refine aa (iP c2) ?_
    refine gs ?_;rw [if_neg (by omega)];refine ae (mX _ _ H') ?_;exact BA h1 h2 (ac.pu.2 ⟨⟨rfl, hn⟩, h4⟩)
 ·unfold fM
  rw [e1];exact eC h3
theorem gf (lo hi : Nat) (h1 : lo < 9223372036854775808) (h2 : hi < 9223372036854775808) (r : Rd R v 1 aG L) (hL : ∀ y ∈ L, y < 256) (hlen : (L.length : Int) < 9223372036854775808) (h : ac (blk b (.cells false [v]) * (Y * R)) H) :
 wp (FB az [vp b, vi lo, vi hi] H) (m5 (fM lo hi L) aqJ b Y R) := by
 refine eD (fun r => ju _ _ _ H) ?_;refine aa (cw (by omega) (by omega)) ?_;refine aa (cw (by omega) (by omega)) ?_;rw [N7, N7];refine qn (Ij lo hi r hL hlen h) (fun n rest z v' H' e k1 k2 h3 => ?_) (fun e v' H' e1 h3 => ?_)
 ·obtain ⟨⟨rfl, hn⟩, h4⟩ := ac.pu.1 h3
  rw [e];dsimp only [dO];refine aa (EP (by omega)) ?_;exact BA k1 k2 (ac.pu.2 ⟨⟨rfl, hn⟩, h4⟩)
 ·rw [e1]
  exact eC h3
theorem dU {lo hi : Nat} {L : List Nat} {n : Nat} {rest : List Nat} (e : fM lo hi L = .ok (n, rest)) : rest.length < L.length := by
 have key : ∀ (L : List Nat) (i m : Nat), ∀ n rest, iI L i m = .ok (n, rest) → rest.length < L.length := by
  intro L
  induction L with
  | nil => intro i m n rest h; cases h
  | cons x L ih =>
   intro i m n rest h;unfold iI at h
   split at h
   ·cases h
   split at h
   ·have := ih _ _ _ _ h; simp; omega
   split at h
   ·cases h
   ·cases h; simp
 unfold fM at e
 split at e
 ·rename_i n' r' e'
  split at e
  ·cases e
  ·cases e; exact key _ _ _ _ _ e'
 ·cases e
theorem Gk {x3 i : Nat} (hi : i < 4) : Ft [.a 4 1 (vi i)] (vp x3) x3 i := by
 intro R' k;rw [ao3 (n := 4) (e := 1) (i := i) hi db];simp
theorem zj {x2 x3 i : Nat} {cs : List Value} {α : Type} {res : Except Int (α × List Nat)} {post : α → Value → SP} {Y' : SP} (hi : i < 4) (hc : cs.length = 4) (r : Rd R v 1 aG L) (hL : ∀ y ∈ L, y < 256) (hlen : (L.length : Int) < 9223372036854775808)
 (h : ac (blk b (.cells false [v]) * ((blk x3 (.cells false cs) * Y) * R)) H)
 (hok : ∀ n rest v' H', fM 0 O0 L = .ok (n, rest) → Rd R v' 1 aG rest → (∀ y ∈ rest, y < 256) → ac (blk b (.cells false [v']) * ((blk x3 (.cells false (cs.set i (vi n))) * Y) * R)) H' → wp (cF (vp b) (vp x2) (vp x3) (vi (i + 1 : Nat)) H') (m5 res post b Y' R))
 (herr : ∀ e v' H', fM 0 O0 L = .error e → ac (blk b (.cells false [v']) * ((blk x3 (.cells false cs) * Y) * R)) H' → wp (some (Value.iface 0 (.iface 32 (vi e)), H')) (m5 res post b Y' R)) :
 wp (cF (vp b) (vp x2) (vp x3) (vi i) H) (m5 res post b Y' R) := by
 refine ae (gi _ _ _ _ H) ?_;refine aa (aW (by omega)) ?_;refine gs ?_;refine ae (nf _ _ _ _ H) ?_;refine qn (gf 0 2147483647 (by omega) (by omega) r hL hlen h) (fun n rest z v' H' e k1 k2 h3 => ?_) (fun e v' H' e1 h3 => herr e v' H' e1 h3);obtain ⟨⟨rfl, hn⟩, h3'⟩ := ac.pu.1 h3;show wp (st 1 [.a 4 1 (vi i)] (vp x3) (vi n) H' fun H19 => du (vp b) (vp x2) (vp x3) (vi i) H19) _;have h4 : ac (blk x3 (.cells false cs) * (blk b (.cells false [v']) * (Y * R))) H' := h3'.to;unfold st;rw [Gk hi, OL (n := 1) h4 rfl (by omega) rfl, aB];have h5 := h4.set (.cells false (splice cs i [vi n]))
 have e5 : splice cs i [vi n] = cs.set i (vi n) := by
  unfold splice;rw [List.set_eq_take_append_cons_drop, if_pos (by omega)];simp
 show wp (du (vp b) (vp x2) (vp x3) (vi i) (H'.set x3 (.cells false (splice cs i [vi n])))) _;refine ae (ng _ _ _ _ _) ?_;refine aa (aq (by omega) (by omega)) ?_;rw [e5] at h5 ⊢;exact hok n rest v' _ e k1 k2 h5.to
theorem Yo (r : Rd R v 1 aG L) (hL : ∀ y ∈ L, y < 256) (hlen : (L.length : Int) < 9223372036854775808) (h : ac (blk b (.cells false [v]) * (Y * R)) H) :
 wp (FB fJ [vp b] H) (m5 (iG L) clP b Y R) := by
 refine eD (fun r => sL _ H) ?_;refine ce h fun x2 H1 h1 => ?_;refine ce h1 fun x3 H2 h2 => ?_;refine ae (oH _ _ _ H2) ?_;refine ae (oJ _ _ _ _ H2) ?_;have h3 : ac (blk b (.cells false [v]) * ((blk x3 (.cells false [vi 0, vi 0, vi 0, vi 0]) * (blk x2 (.cells false [vi 0, vi 0, vi 0, vi 0]) * Y)) * R)) H2 := h2.to;unfold iG aZ;refine zj (i := 0) (by omega) rfl r hL hlen h3 (fun n1 r1 v1 J1 e1 k1 q1 j1 => ?_) (fun e v' H' e1 h3 => by rw [e1]; dsimp only; exact eC (v' := v') h3.to);rw [e1];dsimp only;have l1 := dU e1;refine zj (i := 1) (by omega) rfl k1 q1 (by omega) j1 (fun n2 r2 v2 J2 e2 k2 q2 j2 => ?_) (fun e v' H' e1 h3 => by rw [e1]; dsimp only; exact eC (v' := v') h3.to);rw [e2];dsimp only;have l2 := dU e2;refine zj (i := 2) (by omega) rfl k2 q2 (by omega) j2 (fun n3 r3 v3 J3 e3 k3 q3 j3 => ?_) (fun e v' H' e1 h3 => by rw [e1]; dsimp only; exact eC (v' := v') h3.to);rw [e3];dsimp only;have l3 := dU e3;refine zj (i := 3) (by omega) rfl k3 q3 (by omega) j3 (fun n4 r4 v4 J4 e4 k4 q4 j4 => ?_) (fun e v' H' e1 h3 => by rw [e1]; dsimp only; exact eC (v' := v') h3.to);rw [e4];dsimp only;refine ae (gi _ _ _ _ J4) ?_;refine aa (aU (by omega)) ?_;refine gs ?_;refine ae (lX _ _ J4) ?_;refine ae (oI _ _ J4) ?_;refine aL j4 (Gk (i := 0) (by omega)) rfl ?_;refine aL j4 (Gk (i := 1) (by omega)) rfl ?_;refine aL j4 (Gk (i := 2) (by omega)) rfl ?_;refine aL j4 (Gk (i := 3) (by omega)) rfl ?_;refine xW (cs := aiI ⟨n1, n2, n3, n4⟩) rfl ?_;refine cS j4 rfl rfl fun J5 j5 => ?_;refine bx j5 ?_;exact BA (a := (⟨n1, n2, n3, n4⟩ : nq)) k4 q4 (ac.pu.2 ⟨rfl, j5.to⟩)
end
def wT (y : nq) : Cl := ⟨y.op, y.flow, y.a, y.b⟩
def lk (c : CfN) : Cfg := ⟨c.sh, c.sl, c.wk, c.wd, c.un⟩
abbrev Od (ls : List (List nq)) : List (List Cl) := ls.map (·.map wT)
def mH (p : CfN × List (List nq)) (x : Value) : SP := ex fun sp : Sv × List (Sv × List Cl) => pu (x = .agg (aK (lk p.1) sp.1.v).toArray ∧ sp.2.map (·.2) = Od p.2) * jx sp.1.v sp.2
theorem j8 {lo hi : Nat} {L : List Nat} {n : Nat} {rest : List Nat} (e : fM lo hi L = .ok (n, rest)) : lo ≤ n ∧ n ≤ hi := by
 unfold fM at e
 split at e
 ·split at e
  ·cases e
  ·cases e; omega
 ·cases e
theorem VL {L : List Nat} {a : nq} {rest : List Nat} (e : iG L = .ok (a, rest)) : rest.length ≤ L.length := by
 unfold iG aZ dV at e
 split at e
 ·rename_i n1 r1 e1
  try dsimp only at e
  split at e
  ·rename_i n2 r2 e2
   try dsimp only at e
   split at e
   ·rename_i n3 r3 e3
    try dsimp only at e
    split at e
    ·rename_i n4 r4 e4
     cases e;have := dU e1; have := dU e2; have := dU e3; have := dU e4;omega
    ·cases e
   ·cases e
  ·cases e
 ·cases e
section
variable {Y R : SP} {b : Nat}
def rdS (x2 x3 : Nat) (c : Cfg) (pv : Value) (ps : List (Sv × List Cl)) (Y : SP) : SP := blk x3 (.cells false (aK c pv)) * (blk x2 (.cells false [vi 0, vi 0, vi 0, vi 0, vw 0, .slice none 0 0]) * (ts 1 iK pv (ps.map (·.1)) * (eb ps * Y)))
theorem Pt {x2 x3 cnt : Nat} {Z : SP} {α : Type} {post : α → Value → SP} {x5 x39 x40 : Value} (hcnt : cnt ≤ 60) (g : List nq → List Nat → Except Int (α × List Nat))
 (next : ∀ (s : Sv) (ys : List nq) (v : Value) (L : List Nat) (H : AH), Rd R v 1 aG L → (∀ y ∈ L, y < 256) → (L.length : Int) < 9223372036854775808 → ys.length = cnt → ac (ts 4 Cl.cells s.v (ys.map wT) * (blk b (.cells false [v]) * (Z * R))) H → wp (d7 (vp b) (vp x2) (vp x3) x5 s.v (vi cnt) x39 x40 H) (m5 (g ys L) post b Y R))
 (bad : ∀ (e : Int) (s v : Value) (l : List Cl) (H : AH), ac (ts 4 Cl.cells s l * (blk b (.cells false [v]) * (Z * R))) H → wp (some (Value.iface 0 (.iface 32 (vi e)), H)) (m5 (.error e : Except Int (α × List Nat)) post b Y R)) :
 ∀ (e j : Nat) (s : Sv) (ys : List nq) (v : Value) (L : List Nat) (H : AH), j + e = cnt → ys.length = j → Rd R v 1 aG L → (∀ y ∈ L, y < 256) → (L.length : Int) < 9223372036854775808 → ac (ts 4 Cl.cells s.v (ys.map wT) * (blk b (.cells false [v]) * (Z * R))) H →
  wp (dw (vp b) (vp x2) (vp x3) x5 s.v (vi cnt) x39 x40 (vi cnt) (vi j) H) (m5 (match dA iG e L with | .ok (bs, r) => g (ys ++ bs) r | .error e => .error e) post b Y R) := by
 intro e
 induction e with
 | zero =>
  intro j s ys v L H hj ha r hL hlen h;refine ae (gk _ _ _ _ _ _ _ _ _ _ H) ?_;refine aa (aU (by omega)) ?_;refine gs ?_;refine ae (dv _ _ _ _ _ _ _ _ H) ?_;have := next s ys v L H r hL hlen (by omega) h;rw [dv] at this;show wp _ (m5 (g (ys ++ []) L) post b Y R);rw [List.append_nil];exact this
 | succ e ih =>
  intro j s ys v L H hj ha r hL hlen h;refine ae (gk _ _ _ _ _ _ _ _ _ _ H) ?_;refine aa (aW (by omega)) ?_;refine gs ?_;refine ae (nk _ _ _ _ _ _ _ _ _ _ H) ?_;have h2 : ac (blk b (.cells false [v]) * ((ts 4 Cl.cells s.v (ys.map wT) * Z) * R)) H := h.to;refine qn (Yo r hL hlen h2) (fun y rest z v' H' e1 k1 k2 h3 => ?_) (fun er v' H' e1 h3 => ?_)
  ·obtain ⟨hz, h4⟩ := ac.pu.1 h3
   rw [hz];dsimp only [dO];have hcl : aiI y = Cl.cells (wT y) := rfl;rw [hcl];have hr := VL e1;refine IP h4 fun b0 H5 h5 => ?_;refine d8 (s := s.v) (l := ys.map wT) (wT y) h5 rfl ?_ (by omega) fun a cc H6 h6 => ?_
   ·unfold cg; simp only [dN]; omega
   refine ae (nl _ _ _ _ _ _ _ _ _ _ H6) ?_;refine aa (aq (by omega) (by omega)) ?_
   have h7 : ac (ts 4 Cl.cells (Sv.v ⟨a, (ys.map wT).length + 1, cc⟩) ((ys ++ [y]).map wT) * (blk b (.cells false [v']) * (Z * R))) H6 := by
    rw [Ac, List.map_singleton];exact h6.to
   have := ih (j + 1) ⟨a, (ys.map wT).length + 1, cc⟩ (ys ++ [y]) v' rest H6 (by omega) (by simp; omega) k1 k2 (by omega) h7;unfold dA aZ;rw [e1];dsimp only
   cases hm : dA iG e rest with
   | ok p =>
    obtain ⟨bs, r'⟩ := p;rw [hm] at this;dsimp only at this;rw [List.append_assoc] at this;exact this
   | error er =>
    rw [hm] at this;exact this
  ·unfold dA aZ
   rw [e1];dsimp only [dO];exact bad er s.v v' (ys.map wT) H' h3.to
end
section
variable {Y R : SP} {b : Nat}
theorem RE {x2 x3 n : Nat} (hn : n ≤ 6) (c : CfN) : ∀ (d i left : Nat) (pv : Value) (ps : List (Sv × List Cl)) (acc : List (List nq)) (v : Value) (L : List Nat) (H : AH), i + d = n → left ≤ 60 → ps.length = i → ps.map (·.2) = Od acc → Rd R v 1 aG L → (∀ y ∈ L, y < 256) → (L.length : Int) < 9223372036854775808 →
 ac (blk b (.cells false [v]) * (rdS x2 x3 (lk c) pv ps Y * R)) H →
 wp (dL (vp b) (vp x2) (vp x3) (vi left) (vi n) (vi i) H) (m5 (match dG d left L with | .ok (ls, r) => .ok ((c, acc ++ ls), r) | .error e => .error e) mH b Y R) := by
 intro d
 induction d with
 | zero =>
  intro i left pv ps acc v L H hi hleft hp hps r hL hlen h;refine ae (gL _ _ _ _ _ _ H) ?_;refine aa (aU (by omega)) ?_;refine gs ?_;refine ae (mV _ _ H) ?_;refine ae (oL _ _ H) ?_;unfold rdS at h;have h1 : ac (ts 1 iK pv (ps.map (·.1)) * (blk x3 (.cells false (aK (lk c) pv)) * (blk x2 (.cells false [vi 0, vi 0, vi 0, vi 0, vw 0, .slice none 0 0]) * (eb ps * (blk b (.cells false [v]) * (Y * R)))))) H := h.to;obtain ⟨s, rfl⟩ := Vd h1;refine bx h ?_;refine cS h rfl rfl fun H5 h5 => ?_;refine bx h5 ?_;show wp _ (m5 (.ok ((c, acc ++ []), L)) mH b Y R);rw [List.append_nil];refine BA r hL ?_;unfold mH;refine ac.ex.2 ⟨(s, ps), ?_⟩;rw [aC];refine ac.pu.2 ⟨⟨rfl, hps⟩, ?_⟩;unfold jx;exact h5.to
 | succ d ih =>
  intro i left pv ps acc v L H hi hleft hp hps r hL hlen h;refine ae (gL _ _ _ _ _ _ H) ?_;refine aa (aW (by omega)) ?_;refine gs ?_;refine ae (oN _ _ _ _ _ _ H) ?_;unfold dG aZ;refine qn (gf 0 left (by omega) (by omega) r hL hlen h) (fun cnt rest z v' H' e1 k1 k2 h3 => ?_) (fun er v' H' e1 h3 => ?_)
  ·obtain ⟨⟨rfl, _⟩, h4⟩ := ac.pu.1 h3
   rw [e1];dsimp only [dO];have hc := j8 e1;have hl := dU e1;refine ae (nh _ _ _ _ _ _ _ _ H') ?_;refine ae (nj _ _ _ _ _ _ _ _ _ _ H') ?_;have h5 : ac (ts 4 Cl.cells (Sv.v ⟨none, 0, 0⟩) (([] : List nq).map wT) * (blk b (.cells false [v']) * (rdS x2 x3 (lk c) pv ps Y * R))) H' := fR 4 Cl.cells h4;have key := Pt (R := R) (b := b) (x2 := x2) (x3 := x3) (cnt := cnt) (Z := rdS x2 x3 (lk c) pv ps Y) (post := mH) (x5 := vi left) (x39 := vi n) (x40 := vi i) (by omega)
    (Y := Y) (g := fun ys r => match dG d (left - cnt) r with | .ok (ls, r') => .ok ((c, acc ++ (ys :: ls)), r') | .error e => .error e)
    (fun s ys w M J r' hM hml hys j => ?_) (fun e s w l J j => ?_) cnt 0 ⟨none, 0, 0⟩ [] v' rest H' (by omega) rfl k1 k2 (by omega) h5
   ·refine cast ?_ key
    congr 1
    congr 1
    cases dA iG cnt rest with
    | ok p =>
     obtain ⟨ys, r'⟩ := p;dsimp only [List.nil_append]
     cases dG d (left - cnt) r' with
     | ok p => obtain ⟨ls, r''⟩ := p; rfl
     | error e => rfl
    | error e => rfl
   ·refine ae (dv _ _ _ _ _ _ _ _ J) ?_
    refine ae (ni _ _ _ _ _ _ _ _ J) ?_;unfold rdS at j;refine aa (vA (by omega) (by omega)) ?_;refine aL j aj rfl ?_;refine IP j fun b0 J3 j3 => ?_;refine d8 (s : Sv) j3 rfl ?_ (by omega) fun a cc J4 j4 => ?_
    ·unfold cg; simp only [dN]; omega
    refine gN j4 aj rfl rfl fun J5 j5 => ?_;refine ae (oO _ _ _ _ _ _ J5) ?_;refine aa (aq (by omega) (by omega)) ?_;rw [show ((left : Int) - (cnt : Int)) = ((left - cnt : Nat) : Int) by omega]
    have j6 : ac (blk b (.cells false [w]) * (rdS x2 x3 (lk c) (.slice a ((ps.map (·.1)).length + 1) cc) (ps ++ [(s, ys.map wT)]) Y * R)) J5 := by
     unfold rdS;rw [yR, Ac, List.map_singleton];exact j5.to
    have := ih (i + 1) (left - cnt) (.slice a ((ps.map (·.1)).length + 1) cc) (ps ++ [(s, ys.map wT)]) (acc ++ [ys]) w M J5 (by omega) (by omega) (by simp; omega) (by rw [Ac, hps]; simp [Od]) r' hM hml j6;refine cast ?_ this
    congr 1
    congr 1
    cases dG d (left - cnt) M with
    | ok p => obtain ⟨ls, r''⟩ := p; simp
    | error e => rfl
   ·exact eC (v' := w) (by unfold rdS at j; exact j.to)
  ·rw [e1]
   dsimp only [dO];unfold rdS at h3;exact eC (v' := v') h3.to
theorem agM {H : AH} {v : Value} {L : List Nat} (r : Rd R v 1 aG L) (hL : ∀ y ∈ L, y < 256) (hlen : (L.length : Int) < 9223372036854775808) (h : ac (blk b (.cells false [v]) * (Y * R)) H) :
 wp (FB cZ [vp b] H) (m5 (ul L) mH b Y R) := by
 refine eD (fun r => jR _ H) ?_;refine ce h fun x2 H1 h1 => ?_;refine ce h1 fun x3 H2 h2 => ?_;refine k8 aj ?_;have h3 : ac (blk b (.cells false [v]) * ((blk x3 (.cells false [vi 0, vi 0, vi 0, vi 0, vw 0, .slice none 0 0]) * (blk x2 (.cells false [vi 0, vi 0, vi 0, vi 0, vw 0, .slice none 0 0]) * Y)) * R)) H2 := h2.to;unfold ul Ir aZ;have er : ∀ (e : Int) (v' : Value) (cs : List Value) (H' : AH), ac (blk b (.cells false [v']) * ((blk x3 (.cells false cs) * (blk x2 (.cells false [vi 0, vi 0, vi 0, vi 0, vw 0, .slice none 0 0]) * Y)) * R)) H' → wp (some (Value.iface 0 (.iface 32 (vi e)), H')) (m5 (.error e : Except Int ((CfN × List (List nq)) × List Nat)) mH b Y R) := fun e v' cs H' h => eC (v' := v') h.to;refine qn (gf 1 4 (by omega) (by omega) r hL hlen h3) (fun sh r1 z v1 J1 e1 k1 q1 j1 => ?_) (fun e v' H' e1 h3 => by rw [e1]; dsimp only [dO]; exact er _ _ _ _ h3);obtain ⟨⟨rfl, _⟩, j1'⟩ := ac.pu.1 j1;rw [e1];dsimp only [dO];have l1 := dU e1;refine gN j1' bn rfl rfl fun G1 g1 => ?_;refine qn (gf 1 4 (by omega) (by omega) k1 q1 (by omega) g1) (fun sl r2 z v2 J2 e2 k2 q2 j2 => ?_) (fun e v' H' e1 h3 => by rw [e1]; dsimp only [dO]; exact er _ _ _ _ h3);obtain ⟨⟨rfl, _⟩, j2'⟩ := ac.pu.1 j2;rw [e2];dsimp only [dO];have l2 := dU e2;refine gN j2' bn rfl rfl fun G2 g2 => ?_;refine qn (gf 1 6 (by omega) (by omega) k2 q2 (by omega) g2) (fun wk r3 z v3 J3 e3 k3 q3 j3 => ?_) (fun e v' H' e1 h3 => by rw [e1]; dsimp only [dO]; exact er _ _ _ _ h3);obtain ⟨⟨rfl, _⟩, j3'⟩ := ac.pu.1 j3;rw [e3];dsimp only [dO];have l3 := dU e3;have m3 := j8 e3;refine gN j3' bn rfl rfl fun G3 g3 => ?_;refine qn (gf 0 40 (by omega) (by omega) k3 q3 (by omega) g3) (fun wd r4 z v4 J4 e4 k4 q4 j4 => ?_) (fun e v' H' e1 h3 => by rw [e1]; dsimp only [dO]; exact er _ _ _ _ h3);obtain ⟨⟨rfl, _⟩, j4'⟩ := ac.pu.1 j4;rw [e4];dsimp only [dO];have l4 := dU e4;refine gN j4' bn rfl rfl fun G4 g4 => ?_;refine qn (Ij 1 4611686018427387904 k4 q4 (by omega) g4) (fun un r5 z v5 J5 e5 k5 q5 j5 => ?_) (fun e v' H' e1 h3 => by rw [e1]; dsimp only [dO]; exact er _ _ _ _ h3);obtain ⟨⟨rfl, _⟩, j5'⟩ := ac.pu.1 j5;rw [e5];dsimp only [dO, dV];have l5 := dU e5;refine gN j5' bn rfl rfl fun G5 g5 => ?_;refine ae (oK _ _ _ _ _ G5) ?_;refine aL g5 bn rfl ?_;refine qn (gf 0 wk (by omega) (by omega) k5 q5 (by omega) g5) (fun n r6 z v6 J6 e6 k6 q6 j6 => ?_) (fun e v' H' e1 h3 => by rw [e1]; dsimp only [dO]; exact er _ _ _ _ h3);obtain ⟨⟨rfl, _⟩, j6'⟩ := ac.pu.1 j6;rw [e6];dsimp only [dO];have l6 := dU e6;have m6 := j8 e6;refine ae (oM _ _ _ _ _ _ J6) ?_
 have j7 : ac (blk b (.cells false [v6]) * (rdS x2 x3 (lk ⟨sh, sl, wk, wd, un⟩) (.slice none 0 0) [] Y * R)) J6 := by
  unfold rdS;rw [List.map_nil, show aK (lk ⟨sh, sl, wk, wd, un⟩) (.slice none 0 0) = [vi sh, vi sl, vi wk, vi wd, vu un, .slice none 0 0] from rfl];have t : ac (ts 1 iK (.slice none 0 0) [] * (eb [] * _)) J6 := fR 1 iK (wu j6' 0);exact t.to
 have key := RE (R := R) (b := b) (Y := Y) (x2 := x2) (x3 := x3) (n := n) (by omega) ⟨sh, sl, wk, wd, un⟩ n 0 60 (.slice none 0 0) [] [] v6 r6 J6 (by omega) (by omega) rfl rfl k6 q6 (by omega) j7;refine cast ?_ key
 congr 1
 congr 1
 cases dG n 60 r6 with
 | ok p => obtain ⟨ls, r''⟩ := p; rfl
 | error e => rfl
end
def Gm (f : Value → Value → Bool) : List Value → List Value → Bool
 | [], [] => true
 | x :: xs, y :: ys => f x y && Gm f xs ys
 | _, _ => false
def eqV : Nat → Value → Value → Bool
 | _, .bool a, .bool b => a == b
 | _, .int k a, .int k' b => decide (k = k') && decide (a = b)
 | _, .string a, .string b => decide (a = b)
 | _, .pointer a, .pointer b => decide (a = b)
 | _, .slice a n e, .slice a' n' e' => decide (a = a') && decide (n = n') && decide (e = e')
 | _, .map a, .map b => decide (a = b)
 | _, .nilFunc, .nilFunc => true
 | _, .nilIface, .nilIface => true
 | n + 1, .agg xs, .agg ys => Gm (eqV n) xs.toList ys.toList
 | n + 1, .tuple xs, .tuple ys => Gm (eqV n) xs.toList ys.toList
 | n + 1, .func f xs zs, .func f' ys ws => decide (f = f') && Gm (eqV n) xs.toList ys.toList && Gm (eqV n) zs.toList ws.toList
 | _, _, _ => false
theorem yj {f : Value → Value → Bool} (hf : ∀ x y, f x y = true → x = y) : ∀ xs ys, Gm f xs ys = true → xs = ys := by
 intro xs
 induction xs with
 | nil => intro ys h; cases ys with | nil => rfl | cons y ys => simp [Gm] at h
 | cons x xs ih =>
  intro ys h
  cases ys with
  | nil => simp [Gm] at h
  | cons y ys =>
   simp only [Gm, Bool.and_eq_true] at h;rw [hf _ _ h.1, ih _ h.2]
theorem B0 : ∀ (n : Nat) (x y : Value), eqV n x y = true → x = y := by
 intro n
 induction n with
 | zero =>
  intro x y h
  cases x <;> cases y <;> simp_all [eqV]
 | succ n ih =>
  have hl := yj ih;intro x y h
  cases x <;> cases y <;> simp_all [eqV]
  ·exact ⟨Array.toList_inj.1 (hl _ _ h.1.2), Array.toList_inj.1 (hl _ _ h.2)⟩
  ·exact Array.toList_inj.1 (hl _ _ h)
  ·exact Array.toList_inj.1 (hl _ _ h)
def eqO : Option Value → Option Value → Bool
 | none, none => true
 | some x, some y => eqV 4 x y
 | _, _ => false
theorem VX {x y : Option Value} (h : eqO x y = true) : x = y := by
 cases x <;> cases y <;> simp_all [eqO]
 exact B0 _ _ _ h
section
variable (g d : Nat)
def Bs (b : Nat) : Nat := if b < g then b else b + d
def C7 (a : Addr) : Addr := { a with block := Bs g d a.block }
def aY : Value → Value
 | .pointer a => .pointer (a.map (C7 g d))
 | .slice a n e => .slice (a.map (C7 g d)) n e
 | .map r => .map (r.map (Bs g d))
 | .func fn f c => .func fn (f.map aY) (c.map aY)
 | .iface t v => .iface t (aY v)
 | .agg cs => .agg (cs.map aY)
 | .tuple cs => .tuple (cs.map aY)
 | v => v
end
abbrev eB (g d : Nat) (l : List Value) : List Value := l.map (aY g d)
section
variable {g d : Nat}
theorem U4 {a b : Nat} (h : Bs g d a = Bs g d b) : a = b := by unfold Bs at h; split at h <;> split at h <;> omega
@[simp] theorem U5 (b : Bool) : (aY g d) (.bool b) = .bool b := by rw [aY] <;> simp
@[simp] theorem C8 (k : IntKind) (n : Int) : (aY g d) (.int k n) = .int k n := by rw [aY] <;> simp
@[simp] theorem apS (k : FloatKind) (n : Nat) : (aY g d) (.float k n) = .float k n := by rw [aY] <;> simp
@[simp] theorem aoK (k : FloatKind) (n m : Nat) : (aY g d) (.complex k n m) = .complex k n m := by rw [aY] <;> simp
@[simp] theorem JN (b : ByteArray) : (aY g d) (.string b) = .string b := by rw [aY] <;> simp
@[simp] theorem ap5 (r : Option Nat) : (aY g d) (.chan r) = .chan r := by rw [aY] <;> simp
@[simp] theorem aoL : (aY g d) .nilFunc = .nilFunc := by rw [aY] <;> simp
@[simp] theorem amB : (aY g d) .nilIface = .nilIface := by rw [aY] <;> simp
@[simp] theorem Sw (a : Option Addr) : (aY g d) (.pointer a) = .pointer (a.map (C7 g d)) := by rw [aY]
@[simp] theorem fQ (a : Option Addr) (n e : Nat) : (aY g d) (.slice a n e) = .slice (a.map (C7 g d)) n e := by rw [aY]
@[simp] theorem MJ (r : Option Nat) : (aY g d) (.map r) = .map (r.map (Bs g d)) := by rw [aY]
@[simp] theorem apT (t : TypeId) (v : Value) : (aY g d) (.iface t v) = .iface t ((aY g d) v) := by rw [aY]
@[simp] theorem ap6 (fn : Fn) (f c : Array Value) : (aY g d) (.func fn f c) = .func fn (f.map (aY g d)) (c.map (aY g d)) := by rw [aY]
@[simp] theorem So (cs : Array Value) : (aY g d) (.agg cs) = .agg (cs.map (aY g d)) := by rw [aY]
@[simp] theorem ag6 (cs : Array Value) : (aY g d) (.tuple cs) = .tuple (cs.map (aY g d)) := by rw [aY]
@[simp] theorem vf : (aY g d) undef = undef := by simp [undef]
theorem ag0 {v : Value} (h : cO v = true) : (aY g d) v = v := by
 unfold cO at h
 split at h <;> first | (simp; done) | cases h
theorem Bt {l : List Value} (h : l.all cO = true) : eB g d l = l := by
 induction l with
 | nil => rfl
 | cons x l ih => simp only [List.all_cons, Bool.and_eq_true] at h; simp only [eB, List.map_cons, ag0 h.1]; rw [show List.map (aY g d) l = l from ih h.2]
theorem OH {v : Value} (h : BV v = true) : (aY g d) v = v := by
 unfold BV at h
 split at h
 ·rename_i cs
  rw [So]; congr 1; exact Array.toList_inj.1 (by rw [Array.toList_map]; exact Bt h)
 ·rename_i cs
  rw [ag6]; congr 1; exact Array.toList_inj.1 (by rw [Array.toList_map]; exact Bt h)
 ·exact ag0 h
theorem HN (v : Value) : ((aY g d) v).cells = v.cells.map (aY g d) := by
 cases v <;> simp [Value.cells]
theorem XB (v : Value) : ((aY g d) v).cells.toList = eB g d v.cells.toList := by rw [HN, Array.toList_map]
theorem aoM (v : Value) : Value.oneCell' ((aY g d) v) = Value.oneCell' v := by
 cases v <;> simp [Value.oneCell']
theorem U6 (l : List Value) : (eB g d l).all Value.oneCell' = l.all Value.oneCell' := by
 simp only [eB, List.all_map]; congr 1; funext v; exact aoM v
theorem MK (v : Value) : uk ((aY g d) v) = (uk v).map fun a => (Bs g d a.1, a.2) := by
 cases v with
 | pointer a =>
  cases a with
  | none => simp [uk]
  | some a =>
   obtain ⟨b, o, sp⟩ := a
   cases sp <;> simp [uk, C7]
 | _ => simp [uk]
theorem ag5 (c a b : Value) : aE ((aY g d) c) ((aY g d) a) ((aY g d) b) = (aE c a b).map (aY g d) := by
 cases c with
 | bool t => cases t <;> simp [aE]
 | _ => simp [aE]
theorem akX (v : Value) : yL ((aY g d) v) = (yL v).map (aY g d) := by
 cases v with
 | pointer a => cases a <;> simp [yL]
 | func fn f c => cases fn <;> simp [yL]
 | _ => simp [yL]
theorem akS (off : Nat) (v : Value) : IE off ((aY g d) v) = (IE off v).map (aY g d) := by
 unfold IE;rw [MK]
 cases uk v <;> simp [C7]
theorem ag4 (n : Option Nat) (off : Nat) (v : Value) : mF n off ((aY g d) v) = (mF n off v).map (aY g d) := by
 cases v with
 | agg cs => cases n <;> simp [mF]
 | _ => simp [mF]
theorem akT (e : Nat) (v i : Value) : pL e ((aY g d) v) ((aY g d) i) = (pL e v i).map (aY g d) := by
 cases v with
 | slice a n k =>
  cases a with
  | none => simp [pL]
  | some a =>
   obtain ⟨b, o, sp⟩ := a
   cases sp with
   | none =>
    cases i with
    | int k i => simp only [fQ, C8, ff, C7, pL]; split <;> simp [C7]
    | _ => simp [pL, C7]
   | some sp => simp [pL, C7]
 | _ => simp [pL]
theorem ag3 (len e : Nat) (v i : Value) : il len e ((aY g d) v) ((aY g d) i) = (il len e v i).map (aY g d) := by
 cases v with
 | pointer a =>
  cases a with
  | none => simp [il]
  | some a =>
   obtain ⟨b, o, sp⟩ := a
   cases sp with
   | none =>
    cases i with
    | int k i => simp only [Sw, C8, ff, C7, il]; split <;> simp [C7]
    | _ => simp [il, C7]
   | some sp => simp [il, C7]
 | _ => simp [il]
theorem Ss (len : Nat) (n : Option Nat) (e : Nat) (v i : Value) : eU len n e ((aY g d) v) ((aY g d) i) = (eU len n e v i).map (aY g d) := by
 cases v with
 | agg cs =>
  cases i with
  | int k i =>
   simp only [So, C8, eU]
   split
   ·cases n <;> simp
   ·rfl
  | _ => simp [eU]
 | _ => simp [eU]
theorem Sr (v i : Value) : i6 ((aY g d) v) ((aY g d) i) = (i6 v i).map (aY g d) := by
 cases v with
 | string b =>
  cases i with
  | int k i =>
   simp only [JN, C8, i6]
   split
   ·rw [Option.map_map]; congr 1; funext x; simp
   ·rfl
  | _ => simp [i6]
 | _ => simp [i6]
theorem akU (v : Value) : sH ((aY g d) v) = (sH v).map (aY g d) := by cases v <;> simp [sH]
theorem akV (l : List Value) : pM (eB g d l) = (pM l).map (aY g d) := by
 match l with
 | [] => rfl
 | [x] => simp [eB, pM]
 | [x, y] => cases x <;> cases y <;> simp [eB, pM]
 | x :: y :: z :: l => simp [eB, pM]
theorem akW (l : List Value) : pN (eB g d l) = (pN l).map (aY g d) := by
 match l with
 | [] => rfl
 | [x] => simp [eB, pN]
 | [x, y] => cases x <;> cases y <;> simp [eB, pN]
 | x :: y :: z :: l => simp [eB, pN]
theorem HO : ∀ xs ys : List Value, bm (eB g d xs) (eB g d ys) = bm xs ys := by
 intro xs
 induction xs with
 | nil => intro ys; cases ys <;> simp [eB, bm]
 | cons x xs ih =>
  intro ys
  cases ys with
  | nil => cases x <;> simp [eB, bm]
  | cons y ys =>
   have := ih ys;simp only [eB] at this
   cases x <;> cases y <;> simp [eB, bm, this]
theorem aoN (cl : TCls) (x y : Value) : rn cl ((aY g d) x) ((aY g d) y) = rn cl x y := by
 cases cl with
 | flat n =>
  cases x with
  | agg a =>
   cases y with
   | agg b =>
    simp only [So, rn, Array.size_map, Array.toList_map];rw [show bm (List.map (aY g d) a.toList) (List.map (aY g d) b.toList) = bm a.toList b.toList from HO _ _]
   | _ => simp [rn]
  | _ => cases y <;> simp [rn]
 | bool => cases x <;> cases y <;> simp [rn]
 | ptr => cases x <;> cases y <;> simp [rn] <;> (rename_i a b; cases a <;> cases b <;> simp [rn])
 | slice => cases x <;> cases y <;> simp [rn] <;> (rename_i a _ _ b _ _; cases a <;> cases b <;> simp [rn])
 | map => cases x <;> cases y <;> simp [rn] <;> (rename_i a b; cases a <;> cases b <;> simp [rn])
 | func => cases x <;> cases y <;> simp [rn]
 | other => cases x <;> cases y <;> simp [rn]
theorem akF {op : BinOp} {k : IntKind} {a b : Int} : (j9 op k a b).map (aY g d) = j9 op k a b := by
 cases op <;> simp [j9] <;> (split <;> simp)
theorem Xf {op : BinOp} {k : IntKind} {a b : Int} : (mG op k a b).map (aY g d) = mG op k a b := by
 unfold mG
 split
 ·rfl
 ·cases op <;> simp
theorem akH {op : BinOp} {a b : ByteArray} : (Xg op a b).map (aY g d) = Xg op a b := by
 cases op <;> simp [Xg]
theorem ag2 (cl : TCls) (op : BinOp) (x y : Value) : JH cl op ((aY g d) x) ((aY g d) y) = (JH cl op x y).map (aY g d) := by
 cases op <;> simp only [JH, aoN, Option.map_map, Option.map_none] <;> (congr 1; funext b; simp)
theorem akR (cl : TCls) (op : BinOp) (x y : Value) : ag cl op ((aY g d) x) ((aY g d) y) = (ag cl op x y).map (aY g d) := by
 have key := ag2 (g := g) (d := d) cl op x y
 cases x with
 | int k a =>
  cases y with
  | int k' b => cases op <;> simp only [C8, ag, Xf] <;> (split <;> simp [akF])
  | _ => simpa [ag] using key
 | string a =>
  cases y with
  | string b => simp [ag, akH]
  | _ => simpa [ag] using key
 | _ => simpa [ag] using key
theorem aoO (op : UnOp) (x : Value) : xi op ((aY g d) x) = (xi op x).map (aY g d) := by cases op <;> cases x <;> simp [xi]
theorem ag1 (k : Option IntKind) (x : Value) : aO k ((aY g d) x) = (aO k x).map (aY g d) := by cases k <;> cases x <;> simp [aO]
theorem OI (v : Value) (i : Nat) : ar ((aY g d) v) i = (ar v i).map (aY g d) := by cases v <;> simp [ar]
theorem HS (v : Value) : lH ((aY g d) v) = lH v := by cases v <;> simp [lH]
end
inductive Tr (α : Type) where
 | lf
 | nd (v : Option α) (l r : Tr α)
section
variable {α : Type}
def Tr.get : Tr α → Nat → Option α
 | .lf, _ => none
 | .nd v l r, i => match i with
  | 0 => v
  | i + 1 => match Nat.beq (i % 2) 0 with
   | true => l.get (i / 2)
   | false => r.get (i / 2)
def Tr.set (x : α) : Nat → Tr α → Nat → Option (Tr α)
 | 0, _, _ => none
 | k + 1, t, i => match i with
  | 0 => match t with
   | .lf => some (.nd (some x) .lf .lf)
   | .nd _ l r => some (.nd (some x) l r)
  | i + 1 => match Nat.beq (i % 2) 0 with
   | true => match t with
    | .lf => (Tr.set x k .lf (i / 2)).map fun l' => .nd none l' .lf
    | .nd v l r => (Tr.set x k l (i / 2)).map fun l' => .nd v l' r
   | false => match t with
    | .lf => (Tr.set x k .lf (i / 2)).map fun r' => .nd none .lf r'
    | .nd v l r => (Tr.set x k r (i / 2)).map fun r' => .nd v l r'
theorem Tr.get_set {x : α} : ∀ (k : Nat) {t t' : Tr α} {i : Nat}, Tr.set x k t i = some t' → ∀ j, t'.get j = if j = i then some x else t.get j := by
 intro k
 induction k with
 | zero => intro t t' i h; cases h
 | succ k ih =>
  intro t t' i h j
  cases i with
  | zero =>
   cases t with
   | lf => simp only [Tr.set] at h; cases h; cases j with
    | zero => rfl
    | succ j => simp only [Tr.get]; split <;> simp [Tr.get]
   | nd v l r => simp only [Tr.set] at h; cases h; cases j with
    | zero => rfl
    | succ j => simp [Tr.get]
  | succ i =>
   simp only [Tr.set] at h
   have beq : ∀ a : Nat, Nat.beq a 0 = (a == 0) := fun a => by cases a <;> simp [Nat.beq]
   have lf : ∀ j, (Tr.lf : Tr α).get j = none := fun j => by cases j <;> rfl
   cases hb : Nat.beq (i % 2) 0 with
   | true =>
    have hi : i % 2 = 0 := by rw [beq] at hb; simpa using hb
    rw [hb] at h;simp only at h
    have key : ∃ v l r l', Tr.set x k l (i / 2) = some l' ∧ t' = .nd v l' r ∧ ∀ j, t.get j = (Tr.nd v l r).get j := by
     cases t with
     | lf => obtain ⟨l', h1, e⟩ := au.1 h; exact ⟨none, .lf, .lf, l', h1, e.symm, fun j => by rw [lf]; cases j with | zero => rfl | succ j => simp only [Tr.get]; split <;> rfl⟩
     | nd v l r => obtain ⟨l', h1, e⟩ := au.1 h; exact ⟨v, l, r, l', h1, e.symm, fun j => rfl⟩
    obtain ⟨v, l, r, l', h1, rfl, hg⟩ := key;rw [hg]
    cases j with
    | zero => rfl
    | succ j =>
     simp only [Tr.get]
     cases hj : Nat.beq (j % 2) 0 with
     | true =>
      have hj' : j % 2 = 0 := by rw [beq] at hj; simpa using hj
      simp only;rw [ih h1]
      by_cases e : j / 2 = i / 2
      ·rw [if_pos e, if_pos (by omega)]
      ·rw [if_neg e, if_neg (by omega)]
     | false =>
      have hj' : j % 2 ≠ 0 := by rw [beq] at hj; simpa using hj
      simp only;rw [if_neg (by omega)]
   | false =>
    have hi : i % 2 ≠ 0 := by rw [beq] at hb; simpa using hb
    rw [hb] at h;simp only at h
    have key : ∃ v l r r', Tr.set x k r (i / 2) = some r' ∧ t' = .nd v l r' ∧ ∀ j, t.get j = (Tr.nd v l r).get j := by
     cases t with
     | lf => obtain ⟨l', h1, e⟩ := au.1 h; exact ⟨none, .lf, .lf, l', h1, e.symm, fun j => by rw [lf]; cases j with | zero => rfl | succ j => simp only [Tr.get]; split <;> rfl⟩
     | nd v l r => obtain ⟨l', h1, e⟩ := au.1 h; exact ⟨v, l, r, l', h1, e.symm, fun j => rfl⟩
    obtain ⟨v, l, r, l', h1, rfl, hg⟩ := key;rw [hg]
    cases j with
    | zero => rfl
    | succ j =>
     simp only [Tr.get]
     cases hj : Nat.beq (j % 2) 0 with
     | false =>
      have hj' : j % 2 ≠ 0 := by rw [beq] at hj; simpa using hj
      simp only;rw [ih h1]
      by_cases e : j / 2 = i / 2
      ·rw [if_pos e, if_pos (by omega)]
      ·rw [if_neg e, if_neg (by omega)]
     | true =>
      have hj' : j % 2 = 0 := by rw [beq] at hj; simpa using hj
      simp only;rw [if_neg (by omega)]
end
structure EH where
 n : Nat
 t : Tr AObj
def EH.get (E : EH) (b : Nat) : Option AObj := E.t.get b
def EH.set (E : EH) (b : Nat) (o : AObj) : Option EH := (Tr.set o 24 E.t b).map fun t => ⟨E.n, t⟩
def EH.push (E : EH) (o : AObj) : Option EH := (Tr.set o 24 E.t E.n).map fun t => ⟨E.n + 1, t⟩
section
variable (g d : Nat)
def OG (e : MapEntry) : MapEntry := { e with key := aY g d e.key, val := aY g d e.val }
def Il : AObj → AObj
 | .cells ro cs => .cells ro (eB g d cs)
 | .map es c => .map (es.map (OG g d)) c
 | .dead => .dead
structure HR (F : List AObj) (E : EH) (H : AH) : Prop where
 len : F.length = d
 le : g ≤ E.n
 size : H.size = E.n + d
 get : ∀ b, H.get (Bs g d b) = (E.get b).map (Il g d)
 out : ∀ b, E.n ≤ b → E.get b = none
 fr : ∀ b, g ≤ b → b < g + d → H.get b = F[b - g]?
end
section
variable {g d : Nat} {F : List AObj} {E E' : EH} {H : AH}
theorem HR.lt (h : HR g d F E H) {b : Nat} {o : AObj} (hb : E.get b = some o) : b < E.n := by
 rcases Nat.lt_or_ge b E.n with h1 | h1
 ·exact h1
 ·rw [h.out b h1] at hb; cases hb
theorem HR.new (h : HR g d F E H) : H.size = Bs g d E.n := by
 unfold Bs; rw [if_neg (by have := h.le; omega)]; exact h.size
theorem HR.shlt (h : HR g d F E H) {b : Nat} (hb : b < E.n) : Bs g d b < H.size := by
 rw [h.size]; unfold Bs; split <;> omega
theorem HR.set (h : HR g d F E H) {b : Nat} {o : AObj} (hb : b < E.n) (hs : E.set b o = some E') : HR g d F E' (H.set (Bs g d b) (Il g d o)) := by
 obtain ⟨t, ht, rfl⟩ := au.1 hs;have hg := Tr.get_set 24 ht;refine ⟨h.len, h.le, by rw [AH.size_set]; exact h.size, fun j => ?_, fun j hj => ?_, fun j h1 h2 => ?_⟩
 ·show _ = (t.get j).map _
  rw [hg j, AH.get_set]
  by_cases e : j = b
  ·subst e; rw [if_pos rfl, if_pos rfl, if_pos (h.shlt hb)]; rfl
  ·rw [if_neg (fun x => e (U4 x)), if_neg e]; exact h.get j
 ·show t.get j = none
  rw [hg j, if_neg (by have : E.n ≤ j := hj; omega)]; exact h.out j hj
 ·rw [AH.get_set_ne (by unfold Bs; split <;> omega)]; exact h.fr j h1 h2
theorem HR.push (h : HR g d F E H) {o : AObj} (hs : E.push o = some E') : HR g d F E' (H.push (Il g d o)) := by
 obtain ⟨t, ht, rfl⟩ := au.1 hs;have hg := Tr.get_set 24 ht;have hle := h.le;have hsz := h.size;refine ⟨h.len, by show g ≤ E.n + 1; omega, by rw [AH.size_push, hsz]; show _ = E.n + 1 + d; omega, fun j => ?_, fun j hj => ?_, fun j h1 h2 => ?_⟩
 ·show _ = (t.get j).map _
  rw [hg j, AH.get_push, h.new]
  by_cases e : j = E.n
  ·subst e; rw [if_pos rfl, if_pos rfl]; rfl
  ·rw [if_neg (fun x => e (U4 x)), if_neg e]; exact h.get j
 ·show t.get j = none
  have : E.n + 1 ≤ j := hj;rw [hg j, if_neg (by omega)]; exact h.out j (by omega)
 ·rw [AH.get_push_old (by omega)]; exact h.fr j h1 h2
end
section
variable {g d : Nat}
theorem JM (cs : List Value) (o : Nat) (xs : List Value) : splice (eB g d cs) o (eB g d xs) = eB g d (splice cs o xs) := by
 simp [splice, eB, List.map_take, List.map_drop]
theorem HQ (places : Nat → Option (Nat × Nat)) : ∀ (parts : List (Nat × Value)) (zero : List Value), cA places (eB g d zero) (parts.map fun p => (p.1, (aY g d) p.2)) = (cA places zero parts).map (eB g d) := by
 intro parts
 induction parts with
 | nil => intro zero; rfl
 | cons p parts ih =>
  intro zero;obtain ⟨i, v⟩ := p;simp only [List.map_cons, cA]
  cases places i with
  | none => rfl
  | some q =>
   simp only [aB];rw [HN, Array.size_map, Array.toList_map, show (eB g d zero).length = zero.length from dN _]
   split
   ·rw [show List.map (aY g d) v.cells.toList = eB g d v.cells.toList from rfl, JM]; exact ih _
   ·rfl
theorem XC (e : Nat) (x : Value) (lo hi : Option Value) : eV e ((aY g d) x) (lo.map (aY g d)) (hi.map (aY g d)) = (eV e x lo hi).map (aY g d) := by
 cases x with
 | slice a n e' =>
  have key : ∀ L R : Option Int, (L.bind fun l => R.bind fun h =>
   if 0 ≤ l ∧ l ≤ h ∧ h ≤ n then
    match a.map (C7 g d) with
    | none => if n = 0 ∧ e' = 0 then some (.slice none 0 0) else none
    | some ⟨b, o, none⟩ => if e' = e ∧ 0 < e then some (.slice (some ⟨b, o + l.toNat * e, none⟩) (h.toNat - l.toNat) e) else none
    | _ => none
   else none : Option Value) = (L.bind fun l => R.bind fun h =>
   if 0 ≤ l ∧ l ≤ h ∧ h ≤ n then
    match a with
    | none => if n = 0 ∧ e' = 0 then some (.slice none 0 0) else none
    | some ⟨b, o, none⟩ => if e' = e ∧ 0 < e then some (.slice (some ⟨b, o + l.toNat * e, none⟩) (h.toNat - l.toNat) e) else none
    | _ => none
   else none : Option Value).map (aY g d) := by
   intro L R
   cases L with
   | none => rfl
   | some l =>
    cases R with
    | none => rfl
    | some r =>
     simp only [aB]
     split
     ·cases a with
      | none => simp only [Option.map_none]; split <;> simp
      | some a =>
       obtain ⟨b, o, sp⟩ := a
       cases sp with
       | none => simp only [ff, C7]; split <;> simp [C7]
       | some sp => simp [C7]
     ·rfl
  cases lo with
  | none =>
   cases hi with
   | none => simp only [fQ, eV, Option.map_none]; exact key (some 0) (some n)
   | some h => simp only [fQ, eV, ff, HS]; exact key (some 0) (lH h)
  | some l =>
   cases hi with
   | none => simp only [fQ, eV, ff, HS]; exact key (lH l) (some n)
   | some h => simp only [fQ, eV, ff, HS]; exact key (lH l) (lH h)
 | _ => simp [eV]
theorem Su {x hi mx v : Value} (h : i7 x hi mx = some v) : i7 ((aY g d) x) ((aY g d) hi) ((aY g d) mx) = some ((aY g d) v) := by
 unfold i7 at h
 split at h
 ·cases h; simp [i7]
 ·cases h; simp [i7, C7]
 ·cases h
theorem agY (v : Value) : tS ((aY g d) v) = tS v := by cases v <;> simp [tS]
theorem HP (cl : KCls) (k : Value) : jB cl ((aY g d) k) = jB cl k := by
 cases cl <;> cases k <;> simp [jB]
 rename_i n cs
 congr 2
 funext v; exact agY v
theorem agZ (cl : KCls) (a b : Value) : nJ cl ((aY g d) a) ((aY g d) b) = nJ cl a b := by
 cases cl with
 | flat n =>
  cases a <;> cases b <;> simp [nJ]
  rename_i x y
  rw [show bm (List.map (aY g d) x.toList) (List.map (aY g d) y.toList) = bm x.toList y.toList from HO _ _]
 | int => cases a <;> cases b <;> simp [nJ]
 | string => cases a <;> cases b <;> simp [nJ]
theorem yY (cl : KCls) (k : Value) : ∀ (es : List MapEntry) (i : Nat), bw cl ((aY g d) k) (es.map (OG g d)) i = (bw cl k es i).map fun r => r.map fun p => (p.1, (aY g d) p.2) := by
 intro es
 induction es with
 | nil => intro i; rfl
 | cons e es ih =>
  intro i;simp only [List.map_cons, bw, OG, agZ]
  cases nJ cl k e.key with
  | none => rfl
  | some b =>
   simp only [aB]
   cases b with
   | true => simp
   | false => simp only [Bool.false_eq_true, if_false]; exact ih _
theorem Sq (v : Value) (args : List Value) : dt ((aY g d) v) (eB g d args) = (dt v args).map fun r => (r.1, eB g d r.2) := by
 cases v with
 | func fn f c => cases fn <;> simp [dt, eB]
 | _ => simp [dt]
end
def sZ (E : EH) (b : Nat) : Option (List Value) :=
 match E.get b with
 | some (.cells _ cs) => some cs
 | _ => none
def YK (v : Value) (E : EH) : Option Value := (uk v).bind fun a => (sZ E a.1).bind fun cs => cs[a.2]?
def YL (n : Nat) (v : Value) (E : EH) : Option Value :=
 (uk v).bind fun a => (sZ E a.1).bind fun cs => if a.2 + n ≤ cs.length then some (.agg ((cs.drop a.2).take n).toArray) else none
def eSt (n : Nat) (v x : Value) (E : EH) : Option EH :=
 (uk v).bind fun a => match E.get a.1 with
  | some (.cells false cs) => if x.cells.size = n ∧ a.2 + n ≤ cs.length ∧ x.cells.toList.all Value.oneCell' = true then E.set a.1 (.cells false (splice cs a.2 x.cells.toList)) else none
  | _ => none
def amZ (cs : List Value) (E : EH) : Option (Value × EH) := (E.push (.cells false cs)).map fun E' => (.pointer (some ⟨E.n, 0, none⟩), E')
def Ja (n e : Nat) (cs : List Value) (E : EH) : Option (Value × EH) := (E.push (.cells false cs)).map fun E' => (.slice (some ⟨E.n, 0, none⟩) n e, E')
def I9 (v : Value) (E : EH) : Option Value :=
 match v with
 | .map none => some (.int .i64 0)
 | .map (some b) => match E.get b with
  | some (.map es _) => some (.int .i64 es.length)
  | _ => none
 | _ => none
def VP (e : Nat) (x : Value) (E : EH) : Option (Nat × List Value) :=
 match x with
 | .slice none n _ => if n = 0 then some (0, []) else none
 | .slice (some ⟨b, o, none⟩) m _ => if m = 0 then some (0, []) else (sZ E b).bind fun cs => if o + m * e ≤ cs.length then some (m, (cs.drop o).take (m * e)) else none
 | _ => none
def amY (e bytes : Nat) (s x : Value) (E : EH) : Option (Value × EH) :=
 (VP e x E).bind fun r =>
  if r.2.all Value.oneCell' = true ∧ 0 < e then
   match s with
   | .slice none n k => if n = 0 ∧ k = 0 then (if r.1 = 0 then some (.slice none 0 0, E) else if r.1 * bytes ≤ cg ∧ r.1 ≤ cg then Ja r.1 e r.2 E else none) else none
   | .slice (some ⟨b, o, none⟩) n e' =>
    if r.1 = 0 then some (s, E)
    else if e' = 0 then (if n = 0 ∧ r.1 * bytes ≤ cg ∧ r.1 ≤ cg then Ja r.1 e r.2 E else none)
    else match E.get b with
     | some (.cells false cs) =>
      if e' = e ∧ o + n * e ≤ cs.length ∧ (n + r.1) * bytes ≤ cg ∧ n + r.1 ≤ cg then (E.set b .dead).bind fun E1 => Ja (n + r.1) e ((cs.drop o).take (n * e) ++ r.2) E1 else none
     | _ => none
   | _ => none
  else none
def YM (zero : List Value) (e bytes : Nat) (len cap : Value) (E : EH) : Option (Value × EH) :=
 match len, cap with
 | .int _ l, .int _ c => if 0 ≤ l ∧ l = c ∧ l.toNat * bytes ≤ cg ∧ l.toNat ≤ cg ∧ 0 < e ∧ zero.length = e then
  Ja l.toNat e (List.replicate l.toNat zero).flatten E else none
 | _, _ => none
def BW (v : Value) (E : EH) : Option (List MapEntry × Nat) :=
 match v with
 | .map none => some ([], 0)
 | .map (some b) => match E.get b with
  | some (.map es c) => some (es, c)
  | _ => none
 | _ => none
def EQ (fl : KCls) (zero : Value) (m k : Value) (ok : Bool) (E : EH) : Option Value :=
 if jB fl k = true then (BW m E).bind fun es => (bw fl k es.1 0).map fun r => match r with
  | some (_, v) => if ok then .tuple #[v, .bool true] else v
  | none => if ok then .tuple #[zero, .bool false] else zero
 else none
def Kk (fl : KCls) (m k x : Value) (E : EH) : Option EH :=
 if jB fl k = true then match m with
 | .map (some b) => match E.get b with
  | some (.map es c) => (bw fl k es 0).bind fun r => match r with
   | some (i, _) => E.set b (.map (es.modify i fun e => { e with key := k, val := x }) c)
   | none => E.set b (.map (es ++ [{ key := k, val := x, born := c }]) (c + 1))
  | _ => none
 | _ => none
 else none
def Kj (fl : KCls) (m k : Value) (E : EH) : Option EH :=
 if jB fl k = true then match m with
 | .map (some b) => match E.get b with
  | some (.map es c) => (bw fl k es 0).bind fun r => match r with
   | some (i, _) => E.set b (.map (es.eraseIdx i) c)
   | none => E.set b (.map es c)
  | _ => none
 | _ => none
 else none
def dP (g d : Nat) (F : List AObj) (x : Option (Value × EH)) (y : Option (Value × AH)) : Prop := ∀ v E', x = some (v, E') → ∃ H', y = some (aY g d v, H') ∧ HR g d F E' H'
def ah0 (g d : Nat) (F : List AObj) (x : Option EH) (y : Option AH) : Prop := ∀ E', x = some E' → ∃ H', y = some H' ∧ HR g d F E' H'
section
variable {g d : Nat} {F : List AObj} {E E' : EH} {H : AH}
theorem HR.cells (h : HR g d F E H) (b : Nat) : dm H (Bs g d b) = (sZ E b).map (eB g d) := by
 unfold dm sZ;rw [h.get b]
 cases E.get b with
 | none => rfl
 | some o => cases o <;> rfl
theorem HR.ld1 (h : HR g d F E H) (v : Value) : aA ((aY g d) v) H = (YK v E).map (aY g d) := by
 unfold aA YK;rw [MK]
 cases uk v with
 | none => rfl
 | some a =>
  simp only [ff, aB, h.cells]
  cases sZ E a.1 <;> simp [eB]
theorem HR.ldN (h : HR g d F E H) (n : Nat) (v : Value) : aQ n ((aY g d) v) H = (YL n v E).map (aY g d) := by
 unfold aQ YL;rw [MK]
 cases uk v with
 | none => rfl
 | some a =>
  simp only [ff, aB, h.cells]
  cases sZ E a.1 with
  | none => rfl
  | some cs =>
   simp only [ff, aB, eB, dN]
   split
   ·simp [List.map_take, List.map_drop]
   ·rfl
theorem HR.st (h : HR g d F E H) (n : Nat) (v x : Value) : ah0 g d F (eSt n v x E) (fT n ((aY g d) v) ((aY g d) x) H) := by
 intro E' he;unfold eSt at he;unfold fT;rw [MK];obtain ⟨a, ha, he⟩ := ai.1 he;rw [ha];simp only [ff, aB, h.get]
 split at he
 ·rename_i cs hcs
  split at he
  ·rename_i hc
   rw [hcs];simp only [ff, Il]
   rw [HN, Array.size_map, Array.toList_map, show (eB g d cs).length = cs.length from dN _, show (List.map (aY g d) x.cells.toList).all Value.oneCell' = x.cells.toList.all Value.oneCell' from U6 _, if_pos hc,
    show splice (eB g d cs) a.2 (List.map (aY g d) x.cells.toList) = eB g d (splice cs a.2 x.cells.toList) from JM _ _ _]
   exact ⟨_, rfl, h.set (h.lt hcs) he⟩
  ·cases he
 ·cases he
theorem HR.new' (h : HR g d F E H) (cs : List Value) : dP g d F (amZ cs E) (some (akG (eB g d cs) H)) := by
 intro v E' he;obtain ⟨E1, h1, e⟩ := au.1 he;cases e;exact ⟨H.push (Il g d (.cells false cs)), by simp [akG, h.new, C7, Il], h.push h1⟩
theorem HR.rowP (h : HR g d F E H) (n e : Nat) (cs : List Value) : dP g d F (Ja n e cs E) (some (.slice (some ⟨H.size, 0, none⟩) n e, H.push (.cells false (eB g d cs)))) := by
 intro v E' he;obtain ⟨E1, h1, e⟩ := au.1 he;cases e;exact ⟨H.push (Il g d (.cells false cs)), by simp [h.new, C7, Il], h.push h1⟩
theorem HR.lenM (h : HR g d F E H) (v : Value) : nO ((aY g d) v) H = (I9 v E).map (aY g d) := by
 cases v with
 | map r =>
  cases r with
  | none => simp [nO, I9]
  | some b =>
   simp only [MJ, ff, nO, I9, h.get]
   cases E.get b with
   | none => rfl
   | some o => cases o <;> simp [Il]
 | _ => simp [nO, I9]
theorem HR.row (h : HR g d F E H) (e : Nat) (x : Value) : nc e ((aY g d) x) H = (VP e x E).map fun r => (r.1, eB g d r.2) := by
 cases x with
 | slice a n k =>
  cases a with
  | none => simp only [fQ, Option.map_none, nc, VP]; split <;> rfl
  | some a =>
   obtain ⟨b, o, sp⟩ := a
   cases sp with
   | some sp => simp [nc, VP, C7]
   | none =>
    simp only [fQ, ff, C7, nc, VP, h.cells]
    split
    ·rfl
    ·cases sZ E b with
     | none => rfl
     | some cs =>
      simp only [ff, aB, eB, dN]
      split
      ·simp [List.map_take, List.map_drop]
      ·rfl
 | _ => simp [nc, VP]
theorem HR.mapOf (h : HR g d F E H) (v : Value) : mE ((aY g d) v) H = (BW v E).map fun r => (r.1.map (OG g d), r.2) := by
 cases v with
 | map r =>
  cases r with
  | none => simp [mE, BW]
  | some b =>
   simp only [MJ, ff, mE, BW, h.get]
   cases E.get b with
   | none => rfl
   | some o => cases o <;> simp [Il]
 | _ => simp [mE, BW]
theorem HR.lookup (h : HR g d F E H) (fl : KCls) {zero : Value} (hz : (aY g d) zero = zero) (m k : Value) (ok : Bool) : km fl zero ((aY g d) m) ((aY g d) k) ok H = (EQ fl zero m k ok E).map (aY g d) := by
 unfold km EQ;rw [HP]
 split
 ·rw [h.mapOf]
  cases BW m E with
  | none => rfl
  | some es =>
   simp only [ff, aB, yY]
   cases bw fl k es.1 0 with
   | none => rfl
   | some r =>
    cases r with
    | none => cases ok <;> simp [hz]
    | some p => cases ok <;> simp
 ·rfl
theorem HR.update (h : HR g d F E H) (fl : KCls) (m k x : Value) : ah0 g d F (Kk fl m k x E) (nP fl ((aY g d) m) ((aY g d) k) ((aY g d) x) H) := by
 intro E' he;unfold Kk at he
 split at he
 ·rename_i hk
  split at he
  ·rename_i b
   split at he
   ·rename_i es c hb
    obtain ⟨r, hr, he⟩ := ai.1 he
    have hg : H.get (Bs g d b) = some (.map (es.map (OG g d)) c) := by rw [h.get, hb]; rfl
    have hf := yY (g := g) (d := d) fl k es 0;rw [hr] at hf;simp only [MJ, ff, nP, HP, hk, if_true, hg]
    cases r with
    | some p =>
     have hf : bw fl ((aY g d) k) (es.map (OG g d)) 0 = some (some (p.1, (aY g d) p.2)) := hf;rw [hf];refine ⟨_, rfl, ?_⟩;have := h.set (h.lt hb) he;simp only [Il] at this;show HR g d F E' (H.set (Bs g d b) (.map ((es.map (OG g d)).modify p.1 fun e => { e with key := (aY g d) k, val := (aY g d) x }) c));rw [show (es.map (OG g d)).modify p.1 (fun e => { e with key := (aY g d) k, val := (aY g d) x }) = (es.modify p.1 fun e => { e with key := k, val := x }).map (OG g d) from ?_]
     ·exact this
     ·apply List.ext_getElem?
      intro i;simp only [List.getElem?_modify, W9]
      cases es[i]? with
      | none => rfl
      | some e => simp only [ff, Option.map_map]; split <;> rfl
    | none =>
     have hf : bw fl ((aY g d) k) (es.map (OG g d)) 0 = some none := hf;rw [hf];refine ⟨_, rfl, ?_⟩;have := h.set (h.lt hb) he;simp only [Il, Ac, List.map_cons, List.map_nil, OG] at this;exact this
   ·cases he
  ·cases he
 ·cases he
theorem HR.delete (h : HR g d F E H) (fl : KCls) (m k : Value) : ah0 g d F (Kj fl m k E) (nN fl ((aY g d) m) ((aY g d) k) H) := by
 intro E' he;unfold Kj at he
 split at he
 ·rename_i hk
  split at he
  ·rename_i b
   split at he
   ·rename_i es c hb
    obtain ⟨r, hr, he⟩ := ai.1 he
    have hg : H.get (Bs g d b) = some (.map (es.map (OG g d)) c) := by rw [h.get, hb]; rfl
    have hf := yY (g := g) (d := d) fl k es 0;rw [hr] at hf;simp only [MJ, ff, nN, HP, hk, if_true, hg]
    cases r with
    | some p =>
     have hf : bw fl ((aY g d) k) (es.map (OG g d)) 0 = some (some (p.1, (aY g d) p.2)) := hf;rw [hf];refine ⟨_, rfl, ?_⟩;have := h.set (h.lt hb) he;simp only [Il] at this;show HR g d F E' (H.set (Bs g d b) (.map ((es.map (OG g d)).eraseIdx p.1) c));rw [show (es.map (OG g d)).eraseIdx p.1 = (es.eraseIdx p.1).map (OG g d) from by simp [List.eraseIdx_eq_take_drop_succ, List.map_take, List.map_drop]];exact this
    | none =>
     have hf : bw fl ((aY g d) k) (es.map (OG g d)) 0 = some none := hf;rw [hf];exact ⟨_, rfl, h.set (h.lt hb) he⟩
   ·cases he
  ·cases he
 ·cases he
theorem HR.make (h : HR g d F E H) {zero : List Value} (hz : eB g d zero = zero) (e by' : Nat) (len cap : Value) : dP g d F (YM zero e by' len cap E) (mD zero e by' ((aY g d) len) ((aY g d) cap) H) := by
 intro v E' he;unfold YM at he
 split at he
 ·split at he
  ·rename_i k1 l k2 c hc
   obtain ⟨H', h1, h2⟩ := h.rowP _ _ _ v E' he;refine ⟨H', ?_, h2⟩;simp only [C8, mD];rw [if_pos hc, ← h1]
   congr 4
   rw [eB, List.map_flatten, List.map_replicate, show List.map (aY g d) zero = zero from hz]
  ·cases he
 ·cases he
theorem HR.app (h : HR g d F E H) (e by' : Nat) (x y : Value) : dP g d F (amY e by' x y E) (cz e by' ((aY g d) x) ((aY g d) y) H) := by
 intro v E' he;unfold amY at he;unfold cz;rw [h.row];obtain ⟨r, hr, he⟩ := ai.1 he;rw [hr];simp only [ff, aB];rw [show (eB g d r.2).all Value.oneCell' = r.2.all Value.oneCell' from U6 _]
 split at he
 ·rename_i hc
  rw [if_pos hc]
  split at he
  ·rename_i n k
   simp only [fQ, Option.map_none]
   split at he
   ·rename_i h0
    rw [if_pos h0]
    split at he
    ·rename_i h1
     rw [if_pos h1]; cases he; exact ⟨H, by simp, h⟩
    ·rename_i h1
     rw [if_neg h1]
     split at he
     ·rename_i h2
      rw [if_pos h2];exact h.rowP _ _ _ v E' he
     ·cases he
   ·cases he
  ·rename_i _ b o n e' _
   simp only [fQ, ff, C7]
   split at he
   ·rename_i h1
    rw [if_pos h1]; cases he; exact ⟨H, by simp [C7], h⟩
   ·rename_i h1
    rw [if_neg h1]
    split at he
    ·rename_i h2
     rw [if_pos h2]
     split at he
     ·rename_i h3
      rw [if_pos h3];exact h.rowP _ _ _ v E' he
     ·cases he
    ·rename_i h2
     rw [if_neg h2]
     split at he
     ·rename_i cs hb
      have hg : H.get (Bs g d b) = some (.cells false (eB g d cs)) := by rw [h.get, hb]; rfl
      rw [hg];simp only;rw [show (eB g d cs).length = cs.length from dN _]
      split at he
      ·rename_i h3
       rw [if_pos h3];obtain ⟨E1, h4, he⟩ := ai.1 he;have hs := h.set (h.lt hb) h4;obtain ⟨H', h5, h6⟩ := hs.rowP _ _ _ v E' he;refine ⟨H', ?_, h6⟩;rw [← h5, AH.size_set];simp [Il, eB, List.map_take, List.map_drop]
      ·cases he
     ·cases he
  ·cases he
 ·cases he
end
abbrev TF := Nat → List Value → EH → Option (Value × EH)
def HW (P : Program) (b : Builtin) (argTypes : Array TypeId) (args : List Value) (E : EH) : Option (Value × EH) :=
 match b, args with
 | .len, [x] => match (argTypes[0]?).bind fun t => P.underlying t with
  | some (.slice _) => match x with | .slice _ _ _ => (sH x).map (·, E) | _ => none
  | some .string => match x with | .string _ => (sH x).map (·, E) | _ => none
  | some (.map _ _) => (I9 x E).map (·, E)
  | _ => none
 | .max, args => (pM args).map (·, E)
 | .min, args => (pN args).map (·, E)
 | .append, [s, x] => (argTypes[0]?).bind fun t => (bN P t).bind fun el => (cm P el).bind fun e => (eY P el).bind fun by' => (bq P el).bind fun z =>
  if z.cells.size = e ∧ (argTypes[1]?).bind (fun u => bN P u) = some el then amY e by' s x E else none
 | .delete, [m, k] => (argTypes[0]?).bind fun t => (ca P t).bind fun kt => (cE P kt.1).bind fun fl => (Kj fl m k E).map fun E' => (.tuple #[], E')
 | _, _ => none
def tRd (P : Program) (ev : Operand → Value) (op : Op) (E : EH) : Option Value :=
 match op with
 | .load t a => (eG P t).bind fun g => match g with
  | some n => YL n (ev a) E
  | none => YK (ev a) E
 | .lookup t m k ok => (ca P t).bind fun kt => (cE P kt.1).bind fun fl => (bq P kt.2).bind fun z => EQ fl z (ev m) (ev k) ok E
 | .call c => match c.args.toList.map ev with
  | [x] => match (c.argTypes[0]?).bind fun t => P.underlying t with
   | some (.slice _) => match x with | .slice _ _ _ => sH x | _ => none
   | some .string => match x with | .string _ => sH x | _ => none
   | some (.map _ _) => I9 x E
   | _ => none
  | _ => none
 | _ => none
def Bw (P : Program) (call : TF) (ev : Operand → Value) (o : Oper) (E : EH) : Option (Value × EH) :=
 match o.op with
 | .move x => some (ev x, E)
 | .assign x => some (ev x, E)
 | .pick c a b => (aE (ev c) (ev a) (ev b)).map (·, E)
 | .alloc t => (bq P t).bind fun z => amZ z.cells.toList E
 | .box _ x => amZ (ev x).cells.toList E
 | .build t parts => match P.underlying t with
  | some (.struct fs) => (bq P t).bind fun z => (i8 P fs.toList).bind fun ps => (cA (ps[·]?) z.cells.toList (parts.toList.map fun p => (p.1, ev p.2))).map fun cs => (.agg cs.toArray, E)
  | some (.array _ el) => (bq P t).bind fun z => (cm P el).bind fun e => (cA (fun i => some (i * e, e)) z.cells.toList (parts.toList.map fun p => (p.1, ev p.2))).map fun cs => (.agg cs.toArray, E)
  | _ => none
 | .buildSlice t len parts => (bN P t).bind fun el => (cm P el).bind fun e => (bq P el).bind fun z =>
  if 0 < e ∧ z.cells.size = e ∧ len * e ≤ 2 ^ 24 then
   (cA (fun i => some (i * e, e)) (List.replicate len z.cells.toList).flatten (parts.toList.map fun p => (p.1, ev p.2))).bind fun cs => Ja len e cs E
  else none
 | .load t a => (eG P t).bind fun g => match g with
  | some n => (YL n (ev a) E).map (·, E)
  | none => (YK (ev a) E).map (·, E)
 | .store t a x => (cm P t).bind fun n => (eSt n (ev a) (ev x) E).map fun E' => (undef, E')
 | .nilCheck x => (yL (ev x)).map (·, E)
 | .binOp op t x y _ => (ag (Dv P t) op (ev x) (ev y)).map (·, E)
 | .unOp op _ x => (xi op (ev x)).map (·, E)
 | .convert src dst x => match P.underlying src with
  | some _ => (aO (k9 P dst) (ev x)).map (·, E)
  | none => none
 | .makeFunc fn first captured => some (.func fn (first.map ev) (captured.map ev), E)
 | .makeMap _ none => (E.push (.map [] 0)).map fun E' => (.map (some E.n), E')
 | .makeSlice t l c => (bN P t).bind fun el => (cm P el).bind fun e => (eY P el).bind fun by' => (bq P el).bind fun z => YM z.cells.toList e by' (ev l) (ev c) E
 | .slice t x lo hi none => (bN P t).bind fun el => (cm P el).bind fun e => (eV e (ev x) (lo.map ev) (hi.map ev)).map (·, E)
 | .slice t x none (some hi) (some mx) => (bN P t).bind fun el => (cm P el).bind fun _ => (i7 (ev x) (ev hi) (ev mx)).map (·, E)
 | .fieldAddr s x f => (kf P s f).bind fun f => (cm P f.type).bind fun n => if n = 0 then none else (IE f.offset (ev x)).map (·, E)
 | .field s x f => (kf P s f).bind fun f => (eG P f.type).bind fun n => (mF n f.offset (ev x)).map (·, E)
 | .indexAddr t x i => match P.underlying t with
  | some (.slice el) => (cm P el).bind fun e => (pL e (ev x) (ev i)).map (·, E)
  | some (.array len el) => (cm P el).bind fun e => (il len e (ev x) (ev i)).map (·, E)
  | _ => none
 | .index t x i => match P.underlying t with
  | some (.array len el) => (cm P el).bind fun e => (eG P el).bind fun n => (eU len n e (ev x) (ev i)).map (·, E)
  | some .string => (i6 (ev x) (ev i)).map (·, E)
  | _ => none
 | .lookup t m k ok => (ca P t).bind fun kt => (cE P kt.1).bind fun fl => (bq P kt.2).bind fun z => (EQ fl z (ev m) (ev k) ok E).map (·, E)
 | .mapUpdate t m k x => (ca P t).bind fun kt => (cE P kt.1).bind fun fl => (Kk fl (ev m) (ev k) (ev x) E).map fun E' => (undef, E')
 | .extract t i => (ar (ev t) i).map (·, E)
 | .call c => match c.callee with
  | .builtin b => HW P b c.argTypes (c.args.toList.map ev) E
  | .value f => (dt (ev f) (c.args.toList.map ev)).bind fun fa => call fa.1 fa.2 E
  | _ => none
 | _ => none
section
variable {P : Program} {g d : Nat} {F : List AObj} {E E' : EH} {H : AH}
theorem kc {t : TypeId} {z : Value} (h : bq P t = some z) : (aY g d) z = z ∧ eB g d z.cells.toList = z.cells.toList := by
 obtain ⟨i, _, _, h1, h2⟩ := cK h;exact ⟨OH h2, Bt h1⟩
theorem dP.val (h : HR g d F E H) {x y : Option Value} (e : y = x.map (aY g d)) : dP g d F (x.map (·, E)) (y.map (·, H)) := by
 intro v E' hx;obtain ⟨z, hz, e1⟩ := au.1 hx;cases e1;rw [e, hz];exact ⟨H, rfl, h⟩
theorem dP.bind {α : Type} {o : Option α} {f : α → Option (Value × EH)} {f' : α → Option (Value × AH)} (h : ∀ a, o = some a → dP g d F (f a) (f' a)) : dP g d F (o.bind f) (o.bind f') := by
 intro v E' hx;obtain ⟨a, ha, hx⟩ := ai.1 hx;rw [ha];exact h a ha v E' hx
theorem dP.no {y : Option (Value × AH)} : dP g d F none y := fun v E' h => by cases h
theorem dP.ite {c : Prop} [Decidable c] {x : Option (Value × EH)} {y : Option (Value × AH)} (h : c → dP g d F x y) : dP g d F (if c then x else none) (if c then y else none) := by
 intro v E' hx
 split at hx
 ·rename_i hc; rw [if_pos hc]; exact h hc v E' hx
 ·cases hx
theorem dP.heap {x : Option EH} {y : Option AH} (v : Value) (hv : (aY g d) v = v) (h : ah0 g d F x y) : dP g d F (x.map fun E' => (v, E')) (y.map fun H' => (v, H')) := by
 intro v' E' hx;obtain ⟨E1, h1, e⟩ := au.1 hx;cases e;obtain ⟨H', h2, h3⟩ := h E' h1;exact ⟨H', by rw [h2, hv]; rfl, h3⟩
theorem PI {ev ev' : Operand → Value} {l : List Operand} (h : ∀ x ∈ l, ev' x = (aY g d) (ev x)) : l.map ev' = eB g d (l.map ev) := by
 rw [eB, List.map_map];exact List.map_congr_left h
theorem Nj (h : HR g d F E H) (b : Builtin) (ats : Array TypeId) (args : List Value) : dP g d F (HW P b ats args E) (bY P b ats (eB g d args) H) := by
 intro v E' hx;unfold HW at hx
 split at hx
 ·rename_i x
  simp only [eB, List.map_cons, List.map_nil, bY]
  split at hx
  ·rename_i hu
   rw [hu];simp only
   split at hx
   ·simp only [fQ]
    exact dP.val h (by rw [← fQ, akU]) v E' hx
   ·cases hx
  ·rename_i hu
   rw [hu];simp only
   split at hx
   ·simp only [JN]
    exact dP.val h (by simp [sH]) v E' hx
   ·cases hx
  ·rename_i hu
   rw [hu];exact dP.val h (h.lenM _) v E' hx
  ·cases hx
 ·exact dP.val h (akV _) v E' hx
 ·exact dP.val h (akW _) v E' hx
 ·simp only [eB, List.map_cons, List.map_nil, bY]
  exact dP.bind (fun t _ => dP.bind fun el _ => dP.bind fun e _ => dP.bind fun by' _ => dP.bind fun z _ => dP.ite fun _ => h.app _ _ _ _) v E' hx
 ·simp only [eB, List.map_cons, List.map_nil, bY]
  exact dP.bind (fun t _ => dP.bind fun kt _ => dP.bind fun fl _ => dP.heap _ (by simp) (h.delete _ _ _)) v E' hx
 ·cases hx
theorem al9 (h : HR g d F E H) {ev ev' : Operand → Value} {op : Op} (hev : ∀ x, x ∈ op.operands.toList → ev' x = (aY g d) (ev x)) : FA P ev' op H = (tRd P ev op E).map (aY g d) := by
 cases op with
 | load t a =>
  simp only [FA, tRd];rw [hev a (by simp [Op.operands])]
  cases eG P t with
  | none => rfl
  | some n => cases n with
   | none => exact h.ld1 _
   | some n => exact h.ldN _ _
 | lookup t m k ok =>
  simp only [FA, tRd];rw [hev m (by simp [Op.operands]), hev k (by simp [Op.operands])]
  cases ca P t with
  | none => rfl
  | some kt =>
   simp only [aB]
   cases cE P kt.1 with
   | none => rfl
   | some fl =>
    simp only [aB]
    cases hz : bq P kt.2 with
    | none => rfl
    | some z => exact h.lookup fl (kc hz).1 _ _ _
 | call c =>
  have ha : c.args.toList.map ev' = eB g d (c.args.toList.map ev) := PI fun x hx => hev x (by simp only [Op.operands, Call.operands, Array.toList_append, List.mem_append]; exact .inr hx);simp only [FA, tRd];rw [ha]
  generalize c.args.toList.map ev = l
  match l with
  | [] => rfl
  | [x] =>
   simp only [eB, List.map_cons, List.map_nil]
   generalize (c.argTypes[0]?).bind (fun t => P.underlying t) = u
   cases u with
   | none => rfl
   | some u => cases u <;> first | rfl | exact h.lenM _ | (cases x <;> simp [sH])
  | x :: y :: l => rfl
 | _ => rfl
def lO (g d : Nat) (F : List AObj) (c : TF) (c' : aR) : Prop := ∀ (E : EH) (H : AH) f args, HR g d F E H → dP g d F (c f args E) (c' f (eB g d args) H)
theorem aoB (h : HR g d F E H) {c : TF} {c' : aR} (hc : lO g d F c c') {ev ev' : Operand → Value} {o : Oper} (hev : ∀ x, x ∈ o.op.operands.toList → ev' x = (aY g d) (ev x)) :
 dP g d F (Bw P c ev o E) (dj P c' ev' o H) := by
 obtain ⟨dst, op, type, pos, after, guard⟩ := o;simp only at hev
 have fill : ∀ (parts : Array (Nat × Operand)), (∀ x, x ∈ (parts.toList.map (·.2)) → ev' x = (aY g d) (ev x)) → (parts.toList.map fun p => (p.1, ev' p.2)) = (parts.toList.map fun p => (p.1, ev p.2)).map fun p => (p.1, (aY g d) p.2) := by
  intro parts hp;rw [List.map_map];refine List.map_congr_left fun p hpm => ?_;simp only [Function.comp];rw [hp p.2 (List.mem_map_of_mem hpm)]
 have arr : ∀ (l : Array Operand), (∀ x ∈ l.toList, ev' x = (aY g d) (ev x)) → l.map ev' = (l.map ev).map (aY g d) := by
  intro l hl;apply Array.toList_inj.1;rw [Array.toList_map, Array.toList_map, Array.toList_map];exact PI hl
 cases op
 case move x => intro v E' hx; simp only [Bw] at hx; cases hx; exact ⟨H, by simp only [dj]; rw [hev x (by simp [Op.operands])], h⟩
 case assign x => intro v E' hx; simp only [Bw] at hx; cases hx; exact ⟨H, by simp only [dj]; rw [hev x (by simp [Op.operands])], h⟩
 case pick k a b =>
  simp only [Bw, dj];rw [hev k (by simp [Op.operands]), hev a (by simp [Op.operands]), hev b (by simp [Op.operands])];exact dP.val h (ag5 _ _ _)
 case alloc t =>
  intro v E' hx;simp only [Bw] at hx;simp only [dj];obtain ⟨z, hz, hx⟩ := ai.1 hx;rw [hz];have := h.new' _ v E' hx;rw [(kc hz).2] at this;exact this
 case box t x =>
  simp only [Bw, dj];rw [hev x (by simp [Op.operands]), XB];exact h.new' _
 case build t parts =>
  have hp := fill parts fun x hx => hev x (by simpa [Op.operands] using hx);intro v E' hx;simp only [Bw] at hx;simp only [dj];rw [hp]
  split at hx
  ·rename_i fs hu
   rw [hu];simp only;obtain ⟨z, hz, hx⟩ := ai.1 hx;obtain ⟨ps, hps, hx⟩ := ai.1 hx;obtain ⟨cs, hcs, e⟩ := au.1 hx;cases e;have hf := HQ (g := g) (d := d) (ps[·]?) (parts.toList.map fun p => (p.1, ev p.2)) z.cells.toList;rw [(kc hz).2, hcs] at hf;rw [hz, hps];simp only [aB];rw [hf];exact ⟨H, by simp, h⟩
  ·rename_i el hu
   rw [hu];simp only;obtain ⟨z, hz, hx⟩ := ai.1 hx;obtain ⟨e, he, hx⟩ := ai.1 hx;obtain ⟨cs, hcs, e⟩ := au.1 hx;cases e;have hf := HQ (g := g) (d := d) (fun i => some (i * e, e)) (parts.toList.map fun p => (p.1, ev p.2)) z.cells.toList;rw [(kc hz).2, hcs] at hf;rw [hz, he];simp only [aB];rw [hf];exact ⟨H, by simp, h⟩
  ·cases hx
 case buildSlice t len parts =>
  have hp := fill parts fun x hx => hev x (by simpa [Op.operands] using hx);simp only [Bw, dj];rw [hp];refine dP.bind fun el _ => dP.bind fun e _ => dP.bind fun z hz => dP.ite fun _ => ?_;intro v E' hx;obtain ⟨cs, hcs, hx⟩ := ai.1 hx;have hf := HQ (g := g) (d := d) (fun i => some (i * e, e)) (parts.toList.map fun p => (p.1, ev p.2)) (List.replicate len z.cells.toList).flatten
  rw [hcs, show eB g d (List.replicate len z.cells.toList).flatten = (List.replicate len z.cells.toList).flatten from by
   rw [eB, List.map_flatten, List.map_replicate, show List.map (aY g d) z.cells.toList = z.cells.toList from (kc hz).2]] at hf
  rw [hf];exact h.rowP _ _ _ v E' hx
 case load t a =>
  simp only [Bw, dj];rw [hev a (by simp [Op.operands])];refine dP.bind fun n _ => ?_
  cases n with
  | none => exact dP.val h (h.ld1 _)
  | some n => exact dP.val h (h.ldN _ _)
 case store t a x =>
  simp only [Bw, dj];rw [hev a (by simp [Op.operands]), hev x (by simp [Op.operands])];exact dP.bind fun n _ => dP.heap _ vf (h.st _ _ _)
 case nilCheck x =>
  simp only [Bw, dj];rw [hev x (by simp [Op.operands])];exact dP.val h (akX _)
 case binOp op t x y z =>
  simp only [Bw, dj];rw [hev x (by simp [Op.operands]), hev y (by simp [Op.operands])];exact dP.val h (akR _ _ _ _)
 case unOp op t x =>
  simp only [Bw, dj];rw [hev x (by simp [Op.operands])];exact dP.val h (aoO _ _)
 case convert src dst x =>
  simp only [Bw, dj];rw [hev x (by simp [Op.operands])]
  split
  ·rename_i hu; rw [hu]; exact dP.val h (ag1 _ _)
  ·exact dP.no
 case makeFunc fn first captured =>
  simp only [Bw, dj];rw [arr first fun x hx => hev x (by simp only [Op.operands, Array.toList_append, List.mem_append]; exact .inl hx), arr captured fun x hx => hev x (by simp only [Op.operands, Array.toList_append, List.mem_append]; exact .inr hx)];intro v E' hx; cases hx; exact ⟨H, by simp, h⟩
 case makeMap t r =>
  cases r with
  | none =>
   intro v E' hx;simp only [Bw] at hx;simp only [dj];obtain ⟨E1, h1, e⟩ := au.1 hx;cases e;exact ⟨H.push (Il g d (.map [] 0)), by simp [h.new, Il], h.push h1⟩
  | some r => exact dP.no
 case makeSlice t l k =>
  simp only [Bw, dj];rw [hev l (by simp [Op.operands]), hev k (by simp [Op.operands])]
  exact dP.bind fun el _ => dP.bind fun e _ => dP.bind fun by' _ => dP.bind fun z hz => h.make (kc hz).2 _ _ _ _
 case slice t x lo hi mx =>
  have hx := hev x (by simp [Op.operands])
  have ho : ∀ (q : Option Operand), (∀ y ∈ q.toArray.toList, ev' y = (aY g d) (ev y)) → q.map ev' = (q.map ev).map (aY g d) := by
   intro q hq
   cases q with
   | none => rfl
   | some y => simp [hq y (by simp)]
  have hlo : lo.map ev' = (lo.map ev).map (aY g d) := ho lo fun y hy => hev y (by simp only [Op.operands, Array.toList_append, List.mem_append]; exact .inl (.inl (.inr hy)));have hhi : hi.map ev' = (hi.map ev).map (aY g d) := ho hi fun y hy => hev y (by simp only [Op.operands, Array.toList_append, List.mem_append]; exact .inl (.inr hy));have hmx : mx.map ev' = (mx.map ev).map (aY g d) := ho mx fun y hy => hev y (by simp only [Op.operands, Array.toList_append, List.mem_append]; exact .inr hy)
  cases mx with
  | none =>
   simp only [Bw, dj];rw [hx, hlo, hhi];exact dP.bind fun el _ => dP.bind fun e _ => dP.val h (XC _ _ _ _)
  | some mx =>
   cases lo with
   | some lo => cases hi <;> exact dP.no
   | none =>
    cases hi with
    | none => exact dP.no
    | some hi =>
     simp only [ff, Option.some.injEq] at hhi hmx;simp only [Bw, dj];rw [hx, hhi, hmx];refine dP.bind fun el _ => dP.bind fun e _ => ?_;intro v E' hv;obtain ⟨z, hz, e⟩ := au.1 hv;cases e;rw [Su hz];exact ⟨H, rfl, h⟩
 case fieldAddr st x f =>
  simp only [Bw, dj];rw [hev x (by simp [Op.operands])];refine dP.bind fun f _ => dP.bind fun n _ => ?_
  split
  ·exact dP.no
  ·exact dP.val h (akS _ _)
 case field st x f =>
  simp only [Bw, dj];rw [hev x (by simp [Op.operands])];exact dP.bind fun f _ => dP.bind fun n _ => dP.val h (ag4 _ _ _)
 case indexAddr t x i =>
  simp only [Bw, dj];rw [hev x (by simp [Op.operands]), hev i (by simp [Op.operands])]
  split
  ·rename_i hu; rw [hu]; exact dP.bind fun e _ => dP.val h (akT _ _ _)
  ·rename_i hu; rw [hu]; exact dP.bind fun e _ => dP.val h (ag3 _ _ _ _)
  ·exact dP.no
 case index t x i =>
  simp only [Bw, dj];rw [hev x (by simp [Op.operands]), hev i (by simp [Op.operands])]
  split
  ·rename_i hu; rw [hu]; exact dP.bind fun e _ => dP.bind fun n _ => dP.val h (Ss _ _ _ _ _)
  ·rename_i hu; rw [hu]; exact dP.val h (Sr _ _)
  ·exact dP.no
 case lookup t m k ok =>
  simp only [Bw, dj];rw [hev m (by simp [Op.operands]), hev k (by simp [Op.operands])];exact dP.bind fun kt _ => dP.bind fun fl _ => dP.bind fun z hz => dP.val h (h.lookup fl (kc hz).1 _ _ _)
 case mapUpdate t m k x =>
  simp only [Bw, dj];rw [hev m (by simp [Op.operands]), hev k (by simp [Op.operands]), hev x (by simp [Op.operands])];exact dP.bind fun kt _ => dP.bind fun fl _ => dP.heap _ vf (h.update _ _ _ _)
 case extract t i =>
  simp only [Bw, dj];rw [hev t (by simp [Op.operands])];exact dP.val h (OI _ _)
 case call k =>
  obtain ⟨callee, args, ats⟩ := k;have ha : args.toList.map ev' = eB g d (args.toList.map ev) := PI fun x hx => hev x (by simp only [Op.operands, Call.operands, Array.toList_append, List.mem_append]; exact .inr hx)
  cases callee with
  | builtin b =>
   simp only [Bw, dj];rw [ha];exact Nj h _ _ _
  | value f =>
   simp only [Bw, dj];rw [ha, hev f (by simp [Op.operands, Call.operands])];intro v E' hx;obtain ⟨q, hq, hx⟩ := ai.1 hx;rw [Sq, hq];exact hc E H _ _ h v E' hx
  | invoke r m => exact dP.no
 all_goals exact dP.no
end
end Go.Proofs.YthagelbepgcolaaGreatDoor.Gst
