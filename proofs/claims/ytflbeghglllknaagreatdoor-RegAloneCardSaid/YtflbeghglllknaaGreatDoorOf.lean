/- Several texts in one. -/
import Derived.Test.YtflbeghglllknaaGreatDoorOe
namespace Go.Proofs.YtflbeghglllknaaGreatDoor.Gst
open Go Go.RowKit
set_option linter.unusedSimpArgs false
set_option linter.unusedVariables false
set_option maxHeartbeats 1000000
set_option synthInstance.maxSize 2000
set_option synthInstance.maxHeartbeats 400000
theorem ae.keeps {P : SP} {H H' : AH} (h : ae P H) (k : ∀ i, i < H.size → H'.get i = H.get i) : ae P H' := by
 obtain ⟨x, hx, hg⟩ := h
 exact ⟨x, hx, fun i o hi => by
  have := hg i o hi
  rw [k i (AH.lt_of_get this)]; exact this⟩
theorem Z4 {H0 : AH} (hT : H0.get 0 = some (.cells true tabC)) : Hs (fix H0) 0 (.cells true tabC) := ⟨fun h => (Fx.refl H0).fx h 0 _ hT⟩
abbrev ITy : Ty := .int .i64
abbrev CfgTy : Ty := .pair ITy (.pair ITy (.pair ITy (.pair ITy (.pair (.int .u64) .unit))))
abbrev ClTy : Ty := .pair ITy (.pair ITy (.pair ITy (.pair ITy .unit)))
def ah7 (x : ClTy.I) : Cl := ⟨x.1, x.2.1, x.2.2.1, x.2.2.2.1⟩
theorem an9 {H : AH} {x : ClTy.I} {cs : List Value} (h : Abs H ClTy x cs) : cs = Cl.cells (ah7 x) := by
 obtain ⟨c1, c2, rfl, h1, c3, c4, rfl, h2, c5, c6, rfl, h3, c7, c8, rfl, h4, h5⟩ := h;have h5 : c8 = [] := h5;rw [h1.1, h2.1, h3.1, h4.1, h5]
 rfl
theorem ajQ {H : AH} {x : CfgTy.I} {cs : List Value} (h : Abs H CfgTy x cs) : ∃ c : i6, cs = i6.cells c := by
 obtain ⟨c1, c2, rfl, h1, c3, c4, rfl, h2, c5, c6, rfl, h3, c7, c8, rfl, h4, c9, c10, rfl, h5, h6⟩ := h;have h6 : c10 = [] := h6;obtain ⟨e5, hw⟩ := h5
 have : 0 ≤ x.2.2.2.2.1 ∧ x.2.2.2.2.1 ≤ 18446744073709551615 := by simpa [Lit.wf, IntKind.has, IntKind.min, IntKind.max, IntKind.bits, IntKind.signed] using hw
 refine ⟨⟨x.1, x.2.1, x.2.2.1, x.2.2.2.1, x.2.2.2.2.1.toNat⟩, ?_⟩;rw [h1.1, h2.1, h3.1, h4.1, e5, h6];show _ = [vi x.1, vi x.2.1, vi x.2.2.1, vi x.2.2.2.1, .int .u64 ((x.2.2.2.2.1.toNat : Nat) : Int)];rw [Int.toNat_of_nonneg this.1]
 rfl
theorem Ok {H0 : AH} {v : Value} {l : List ClTy.I} (h : Abs H0 (.slice ClTy) l [v]) : Rd (fix H0) v 4 Cl.cells (l.map ah7) := by
 have E : Enc (fun x : ClTy.I => Cl.cells (ah7 x)) ClTy.w := ⟨fun _ => rfl, fun _ => rfl, by decide⟩;have r := Rd.arg (t := ClTy) (enc := fun x => Cl.cells (ah7 x)) (E := E) (fun x c hx => an9 hx) h;refine ⟨fun {H} hh => ?_⟩;have := r.rd hh;rw [List.flatMap_map, tg];exact this
theorem Zu {P : SP} {H : AH} {k : Value × AH → OV} {Q : Value → AH → Prop} (h : ae P H) [i : Hs P 0 (.cells true tabC)] (hk : ∀ H', ae P H' → wp (k (vb true, H')) Q) : wp ((FF rz [] H).bind k) Q := by
 obtain ⟨H', e, _, hg⟩ := Oy (D := []) (fun j hj => by cases hj) (by decide) Lg (i.get h);have e' : FF rz [] H = some (vb true, H') := e;rw [e'];exact hk H' (h.keeps hg)
structure New (σ : aS) (k : Nat) : Prop where
 si : SI σ k
 js : ∀ l, l.1 ≠ 10 → σ.μ.V l = 0
theorem y6 {flow : Int} {obj : Nat} (h : obj < 4294967296) : dk flow obj % 4294967296 = obj := by
 unfold dk;omega
theorem New.lay {σ : aS} {k : Nat} (h : New σ k) (ho : σ.obs.length < 90) (f w most : Int) (hf : 0 ≤ f ∧ f < 1000) : New (σ.lay f w most) (k + 4) := by
 obtain ⟨⟨c, N, E, pts, V, obs, cells, slot, head⟩, js⟩ := h;obtain ⟨q1, q2, q3⟩ := s0 most
 have hsl : dk f σ.obs.length < 18446744073709551616 := by unfold dk; omega
 have hlen : (σ.lay f w most).obs.length = σ.obs.length + 1 := by simp [aS.lay, aS.make]
 refine ⟨⟨c, by simp [aS.lay, aS.make]; omega, by simp [aS.lay, aS.make]; omega, by simp [aS.lay, aS.make]; omega, fun l => ?_, by rw [hlen]; omega, fun o ho2 => ?_, fun s i => ?_, fun o => ?_⟩, fun l hl => ?_⟩
 ·show (if l = (10, f.tmod σ.c.sh, f.tdiv σ.c.sh) then dk f σ.obs.length else σ.μ.V l) < _
  split
  ·exact hsl
  ·exact V l
 ·rw [hlen] at ho2
  unfold ay;show 1 ≤ ((((σ.obs ++ [_])[o]?).map _).getD []).length ∧ ((((σ.obs ++ [_])[o]?).map _).getD []).length < 1000
  by_cases e : o < σ.obs.length
  ·rw [List.getElem?_append_left e]
   exact cells o e
  ·rw [show o = σ.obs.length from by omega, List.getElem?_append_right (bB _), Nat.sub_self]
   show 1 ≤ (List.replicate (dS most) G8).length ∧ (List.replicate (dS most) G8).length < 1000;rw [List.length_replicate];omega
 ·rw [hlen]
  show (if (10, s, i) = ((10 : Int), f.tmod σ.c.sh, f.tdiv σ.c.sh) then dk f σ.obs.length else σ.μ.V (10, s, i)) ≠ 0 → (if (10, s, i) = ((10 : Int), f.tmod σ.c.sh, f.tdiv σ.c.sh) then dk f σ.obs.length else σ.μ.V (10, s, i)) % 4294967296 < _
  split
  ·intro _
   rw [y6 (by omega)];omega
  ·intro hv
   have := slot s i hv;omega
 ·show (if ((12 : Int), (o : Int), (0 : Int)) = (10, f.tmod σ.c.sh, f.tdiv σ.c.sh) then dk f σ.obs.length else σ.μ.V (12, o, 0)) ≤ _
  rw [if_neg (by simp)];have := head o;omega
 ·show (if l = (10, f.tmod σ.c.sh, f.tdiv σ.c.sh) then dk f σ.obs.length else σ.μ.V l) = 0
  rw [if_neg (fun e => hl (by rw [e]))];exact js l hl
theorem MN (c : i6) (hc : cI c = true) : ∀ n, n ≤ 16 → New (aS.made c n) (4 * n) := by
 intro n
 induction n with
 | zero =>
  intro _;exact ⟨⟨hc, bB _, bB _, bB _, fun _ => (by show (0 : Nat) < _; omega), (by show (0 : Nat) ≤ _; omega), fun o ho => (by cases ho), fun s i h => absurd rfl h, fun o => bB _⟩, fun _ _ => rfl⟩
 | succ n ih =>
  intro hn;have h := ih (by omega);have hm := (Qa c n).2.2;unfold aS.made
  split
  ·exact h.lay (by omega) _ _ _ (by omega)
  ·exact ⟨h.si.mono (by omega), h.js⟩
theorem SI.clear {σ : aS} {k : Nat} (h : SI σ k) (s i : Int) : SI (σ.mem (σ.μ.put (10, s, i) 0)) k := by
 refine ⟨h.c, h.N, h.E, h.pts, fun x => ?_, h.obs, h.cells, fun s' i' => ?_, fun o => ?_⟩
 ·show (if x = (10, s, i) then 0 else σ.μ.V x) < _
  split
  ·omega
  ·exact h.V x
 ·show (if ((10 : Int), s', i') = (10, s, i) then 0 else σ.μ.V (10, s', i')) ≠ 0 → (if ((10 : Int), s', i') = (10, s, i) then 0 else σ.μ.V (10, s', i')) % _ < _
  split
  ·intro h; exact absurd rfl h
  ·exact h.slot s' i'
 ·show (if ((12 : Int), (o : Int), (0 : Int)) = (10, s, i) then 0 else σ.μ.V (12, o, 0)) ≤ _
  rw [if_neg (by simp)];exact h.head o
section
variable (p x : Nat) (rp : List Nat) (σ : aS) (K : Nat)
theorem Fs {P : SP} {H : AH} {Q : Value → AH → Prop} {k : Value × AH → OV} {a b : Int} (h : ae P H) (h0 : 0 < b) (h1 : b < 9223372036854775808) (hk : ∀ H', ae P H' → wp (k (vi (io a b), H')) Q) : wp ((FF bU [vi a, vi b] H).bind k) Q := by
 refine af h (ef a b h0 h1) fun _ H1 h2 => ?_;exact hk H1 h2.to
end
theorem SI.slotput {σ : aS} {k : Nat} (h : SI σ k) (s i f : Int) (o : Nat) (hf : 0 ≤ f ∧ f ≤ 1048576) (ho : o < σ.obs.length) (hk : k < 400000) : SI (σ.mem (σ.μ.put (10, s, i) (dk f o))) k := by
 have hob := h.obs
 have hsl : dk f o < 18446744073709551616 := by unfold dk; omega
 refine ⟨h.c, h.N, h.E, h.pts, fun x => ?_, h.obs, h.cells, fun s' i' => ?_, fun o' => ?_⟩
 ·show (if x = (10, s, i) then dk f o else σ.μ.V x) < _
  split
  ·exact hsl
  ·exact h.V x
 ·show (if ((10 : Int), s', i') = (10, s, i) then dk f o else σ.μ.V (10, s', i')) ≠ 0 → (if ((10 : Int), s', i') = (10, s, i) then dk f o else σ.μ.V (10, s', i')) % _ < _
  split
  ·intro _
   rw [y6 (by omega)];exact ho
  ·exact h.slot s' i'
 ·show (if ((12 : Int), (o' : Int), (0 : Int)) = (10, s, i) then dk f o else σ.μ.V (12, o', 0)) ≤ _
  rw [if_neg (by simp)];exact h.head o'
theorem SI.make {σ : aS} {k : Nat} (h : SI σ k) (who : Int) (o : Ob) : SI (σ.make who o) (k + 3) := by
 obtain ⟨c, N, E, pts, V, obs, cells, slot, head⟩ := h;obtain ⟨q1, q2, q3⟩ := s0 o.most
 have hlen : (σ.make who o).obs.length = σ.obs.length + 1 := by simp [aS.make]
 refine ⟨c, by simp [aS.make]; omega, by simp [aS.make]; omega, by simp [aS.make]; omega, V, by rw [hlen]; omega, fun o' ho2 => ?_, fun s i hv => ?_, fun o' => ?_⟩
 ·rw [hlen] at ho2
  unfold ay;show 1 ≤ ((((σ.obs ++ [_])[o']?).map _).getD []).length ∧ ((((σ.obs ++ [_])[o']?).map _).getD []).length < 1000
  by_cases e : o' < σ.obs.length
  ·rw [List.getElem?_append_left e]
   exact cells o' e
  ·rw [show o' = σ.obs.length from by omega, List.getElem?_append_right (bB _), Nat.sub_self]
   show 1 ≤ (List.replicate (dS o.most) G8).length ∧ (List.replicate (dS o.most) G8).length < 1000;rw [List.length_replicate];omega
 ·rw [hlen]
  have := slot s i hv;show σ.μ.V (10, s, i) % 4294967296 < _;omega
 ·have := head o'
  show σ.μ.V (12, o', 0) ≤ _;omega
structure KeptR (σ : aS) (t : Tk) (r : aS × Tk × Bool) (k : Nat) : Prop where
 si : SI r.1 (k + 3)
 c : r.1.c = σ.c
 obs : σ.obs.length ≤ r.1.obs.length
 ok : r.2.2 = false → mi r.1 r.2.1
 x : r.2.1.x = t.x
 who : r.2.1.who = t.who
section
variable {σ : aS} {t : Tk} {k : Nat}
theorem GX (h : SI σ k) (T : mi σ t) (hat : t.at' < 4) (hx : jN t.x = none) : KeptR σ t (fm σ t) k := by
 have hs : SI (lr σ t) (k + 3) := (h.swp t.who (8, t.s, 0) 0 1 (by omega) (by simp) (by simp)).mono (by omega)
 by_cases hw : σ.μ.V (8, t.s, 0) = 0
 ·have e : fm σ t = (lr σ t, { t with at' := 3 }, false) := by unfold fm; rw [if_pos hw]
  rw [e];exact ⟨hs, rfl, bB _, fun _ => ⟨T.s, fun _ => T.i hat, fun _ => hx, .inr (.inr (.inl rfl)), by simp, by simp, T.w⟩, rfl, rfl⟩
 ·have e : fm σ t = (lr σ t, { t with at' := 2 }, false) := by unfold fm; rw [if_neg hw]
  rw [e];exact ⟨hs, rfl, bB _, fun _ => ⟨T.s, fun _ => T.i hat, fun _ => hx, .inr (.inl rfl), by simp, by simp, T.w⟩, rfl, rfl⟩
theorem NT (h : SI σ k) : SI (iP σ t) (k + 3) := ((h.acc t.who 2 (8, t.s, 0)).put (8, t.s, 0) 0 (by omega) (by simp) (.inl (by simp))).mono (by omega)
theorem Ro (h : SI σ k) (T : mi σ t) (now : Int) (hat : t.at' = 3) : KeptR σ t (ax σ t now) k := by
 have hc := bD.1 h.c;have hx : jN t.x = none := T.x (by omega);have hi := T.i (by omega);have ha : SI (aW σ t) (k + 2) := h.acc t.who 1 (10, t.s, (t.i : Int));have hn : ∀ code, SI ((aW σ t).note now t.who code) (k + 3) := fun code => ha.note now t.who code
 by_cases hfd : (aC σ t).found = true
 ·by_cases ho : t.x.op = 1
  ·have e : ax σ t now = ((aW σ t).note now t.who 6, { aC σ t with at' := 6, code := 6 }, false) := by simp only [ax, hat]; rw [if_pos hfd, if_pos ho]
   rw [e];exact ⟨hn 6, rfl, bB _, fun _ => ⟨T.s, by simp, fun _ => hx, .inr (.inr (.inr (.inl ⟨by simp, by simp⟩))), by simp, fun hh => by simp [aC, ho] at hh, T.w⟩, rfl, rfl⟩
  ·have e : ax σ t now = (aW σ t, { aC σ t with at' := 4 }, false) := by simp only [ax, hat]; rw [if_pos hfd, if_neg ho]
   have hob : (aC σ t).obj < σ.obs.length := by
    show (if (aC σ t).found = true then σ.μ.V (10, t.s, (t.i : Int)) % 4294967296 else t.obj) < _;rw [if_pos hfd];refine h.slot t.s t.i fun h0 => ?_;have : gf (σ.μ.V (10, t.s, (t.i : Int))) t.x.flow = true := hfd;rw [h0] at this;cases this
   rw [e];exact ⟨ha.mono (by omega), rfl, bB _, fun _ => ⟨T.s, by simp, fun _ => hx, .inr (.inr (.inr (.inl ⟨by simp, by simp⟩))), fun _ hh => absurd hh ho, fun _ => hob, T.w⟩, rfl, rfl⟩
 ·have hli : (aC σ t).i = t.i + 1 := by
   show (if (aC σ t).found = true then t.i else t.i + 1) = _;rw [if_neg hfd]
  by_cases hla : bO σ (aC σ t) = true
  ·by_cases ho : t.x.op = 1
   ·by_cases hm : (aC σ t).mark < 0
    ·have e : ax σ t now = ((aW σ t).note now t.who 7, { aC σ t with at' := 6, code := 7 }, false) := by simp only [ax, hat]; rw [if_neg hfd, if_pos hla, if_pos ho, if_pos hm]
     rw [e];exact ⟨hn 7, rfl, bB _, fun _ => ⟨T.s, by simp, fun _ => hx, .inr (.inr (.inr (.inl ⟨by simp, by simp⟩))), by simp, fun hh => by simp [aC, ho] at hh, T.w⟩, rfl, rfl⟩
    ·have e : ax σ t now = (aW σ t, { aC σ t with at' := 4 }, false) := by simp only [ax, hat]; rw [if_neg hfd, if_pos hla, if_pos ho, if_neg hm]
     rw [e];exact ⟨ha.mono (by omega), rfl, bB _, fun _ => ⟨T.s, by simp, fun _ => hx, .inr (.inr (.inr (.inl ⟨by simp, by simp⟩))), fun _ _ => by show 0 ≤ (aC σ t).mark; omega, fun hh => by simp [aC, ho] at hh, T.w⟩, rfl, rfl⟩
   ·have e : ax σ t now = ((aW σ t).note now t.who 5, { aC σ t with at' := 10, code := 5 }, false) := by simp only [ax, hat]; rw [if_neg hfd, if_pos hla, if_neg ho]
    rw [e];exact ⟨hn 5, rfl, bB _, fun _ => ⟨T.s, by simp, fun _ => hx, .inr (.inr (.inr (.inr ⟨ho, by simp, by simp⟩))), by simp, by simp, T.w⟩, rfl, rfl⟩
  ·have e : ax σ t now = (aW σ t, aC σ t, false) := by simp only [ax, hat]; rw [if_neg hfd, if_neg hla]
   have hil : ((aC σ t).i : Int) < σ.c.sl := by
    have hla2 : bO σ (aC σ t) = decide (σ.c.sl ≤ ((aC σ t).i : Int)) := rfl;rw [hla2] at hla;have := of_decide_eq_false (by simpa using hla : decide (σ.c.sl ≤ ((aC σ t).i : Int)) = false);omega
   have hat' : (aC σ t).at' = 3 := hat;rw [e];exact ⟨ha.mono (by omega), rfl, bB _, fun _ => ⟨T.s, fun _ => hil, fun _ => hx, .inr (.inr (.inl hat')), by show (aC σ t).at' = 4 ∨ (aC σ t).at' = 5 → _; omega, by show (aC σ t).at' = 5 ∧ _ ∨ 4 ≤ (aC σ t).at' ∧ _ → _; omega, T.w⟩, rfl, rfl⟩
theorem E9 (now : Int) (hk : k < 300000) (h : SI σ k) (T : mi σ t) : KeptR σ t (ax σ t now) k := by
 rcases T.ats with hat | hat | hat | hat | hat
 ·cases hx : jN t.x with
  | some e =>
   have hs : ax σ t now = (σ.note now t.who e, { t with code := e }, true) := by simp only [ax, hat, hx]
   rw [hs];exact ⟨(h.note now t.who e).mono (by omega), rfl, bB _, (fun h => by cases h), rfl, rfl⟩
  | none =>
   have hs : ax σ t now = fm σ t := by simp only [ax, hat, hx]
   rw [hs];exact GX h T (by omega) hx
 ·have hs : ax σ t now = fm σ t := by simp only [ax, hat]
  rw [hs];exact GX h T (by omega) (T.x (by omega))
 ·exact Ro h T now hat
 all_goals
  have hx : jN t.x = none := T.x (by omega);have hx2 := wW hx
  have fin : ax σ t now = (iP σ t, t, true) → KeptR σ t (ax σ t now) k := fun hs => by
   rw [hs];exact ⟨NT h, rfl, bB _, (fun h => by cases h), rfl, rfl⟩
  by_cases ho : t.x.op = 1
  ·by_cases h4 : t.at' = 4
   ·have hst : ax σ t now = (σ.make t.who (obR σ t), { t with obj := σ.obs.length, at' := 5 }, false) := by rw [lP σ t now ho (by omega)]; simp only [wX, h4]
    rw [hst];exact ⟨h.make t.who (obR σ t), rfl, by simp [aS.make], fun _ => ⟨T.s, by simp, fun _ => hx, .inr (.inr (.inr (.inl ⟨by simp, by simp⟩))), fun _ _ => T.mark (.inl h4) ho, fun _ => by simp [aS.make], T.w⟩, rfl, rfl⟩
   by_cases h5 : t.at' = 5
   ·have hst : ax σ t now = ((σ.mem ((σ.μ.acc t.who 2 (10, t.s, t.mark)).put (10, t.s, t.mark) (dk t.x.flow t.obj))).note now t.who 0, { t with at' := 6, code := 0 }, false) := by rw [lP σ t now ho (by omega)]; simp only [wX, h5]
    rw [hst];have hob := T.obj (.inl ⟨h5, ho⟩);exact ⟨((h.acc t.who 2 (10, t.s, t.mark)).slotput t.s t.mark t.x.flow t.obj hx2.1 hob (by omega)).note now t.who 0, rfl, bB _, fun _ => ⟨T.s, by simp, fun _ => hx, .inr (.inr (.inr (.inl ⟨by simp, by simp⟩))), by simp, fun hh => by simp [ho] at hh, T.w⟩, rfl, rfl⟩
   have h6 : t.at' = 6 := by omega
   exact fin (by rw [lP σ t now ho (by omega)]; simp only [wX, h6])
  ·have hm : ∀ {u : Tk}, u.x = t.x → (u.at' = 4 ∨ u.at' = 5 → u.x.op = 1 → 0 ≤ u.mark) := fun e _ hh => absurd (by rw [← e]; exact hh) ho
   by_cases h4 : t.at' = 4
   ·have hob := T.obj (.inr ⟨by omega, by omega, ho⟩)
    have hS : SI (dh σ t) (k + 3) := (h.acc t.who 1 (11, (t.obj : Int), 0)).mono (by omega)
    by_cases hw : ba (σ.μ.V (11, (t.obj : Int), 0)) = 0
    ·have hst : ax σ t now = (dh σ t, { t with w := σ.μ.V (11, (t.obj : Int), 0), at' := 8 }, false) := by rw [bS σ t now ho (by omega)]; simp only [ei, h4]; rw [if_pos hw]
     rw [hst];exact ⟨hS, rfl, bB _, fun _ => ⟨T.s, by simp, fun _ => hx, .inr (.inr (.inr (.inr ⟨ho, by simp, by simp⟩))), hm rfl, fun _ => hob, h.V _⟩, rfl, rfl⟩
    ·have hst : ax σ t now = (dh σ t, { t with w := σ.μ.V (11, (t.obj : Int), 0), at' := 5 }, false) := by rw [bS σ t now ho (by omega)]; simp only [ei, h4]; rw [if_neg hw]
     rw [hst];exact ⟨hS, rfl, bB _, fun _ => ⟨T.s, by simp, fun _ => hx, .inr (.inr (.inr (.inl ⟨by simp, by simp⟩))), hm rfl, fun _ => hob, h.V _⟩, rfl, rfl⟩
   by_cases h5 : t.at' = 5
   ·have hob := T.obj (.inr ⟨by omega, by omega, ho⟩)
    have hS : SI (ez σ t) (k + 3) := (h.acc t.who 1 (2, 0, 0)).mono (by omega)
    by_cases hw : σ.μ.V (2, 0, 0) % 2 = 1
    ·have hst : ax σ t now = (ez σ t, { t with q := σ.μ.V (2, 0, 0), at' := 4 }, false) := by rw [bS σ t now ho (by omega)]; simp only [ei, h5]; rw [if_pos hw]
     rw [hst];exact ⟨hS, rfl, bB _, fun _ => ⟨T.s, by simp, fun _ => hx, .inr (.inr (.inr (.inl ⟨by simp, by simp⟩))), hm rfl, fun _ => hob, T.w⟩, rfl, rfl⟩
    ·have hst : ax σ t now = (ez σ t, { t with q := σ.μ.V (2, 0, 0), at' := 6 }, false) := by rw [bS σ t now ho (by omega)]; simp only [ei, h5]; rw [if_neg hw]
     rw [hst];exact ⟨hS, rfl, bB _, fun _ => ⟨T.s, by simp, fun _ => hx, .inr (.inr (.inr (.inl ⟨by simp, by simp⟩))), hm rfl, fun _ => hob, T.w⟩, rfl, rfl⟩
   by_cases h6 : t.at' = 6
   ·have hob := T.obj (.inr ⟨by omega, by omega, ho⟩)
    have hS : SI (dh σ t) (k + 3) := (h.acc t.who 1 (11, (t.obj : Int), 0)).mono (by omega)
    by_cases hw : ba (σ.μ.V (11, (t.obj : Int), 0)) = 0
    ·have hst : ax σ t now = (dh σ t, { t with w := σ.μ.V (11, (t.obj : Int), 0), mark := now, at' := 8 }, false) := by rw [bS σ t now ho (by omega)]; simp only [ei, h6]; rw [if_pos hw]
     rw [hst];exact ⟨hS, rfl, bB _, fun _ => ⟨T.s, by simp, fun _ => hx, .inr (.inr (.inr (.inr ⟨ho, by simp, by simp⟩))), hm rfl, fun _ => hob, h.V _⟩, rfl, rfl⟩
    ·have hst : ax σ t now = (dh σ t, { t with w := σ.μ.V (11, (t.obj : Int), 0), mark := now, at' := 7 }, false) := by rw [bS σ t now ho (by omega)]; simp only [ei, h6]; rw [if_neg hw]
     rw [hst];exact ⟨hS, rfl, bB _, fun _ => ⟨T.s, by simp, fun _ => hx, .inr (.inr (.inr (.inr ⟨ho, by simp, by simp⟩))), hm rfl, fun _ => hob, h.V _⟩, rfl, rfl⟩
   by_cases h7 : t.at' = 7
   ·have hob := T.obj (.inr ⟨by omega, by omega, ho⟩)
    have hS : SI (ez σ t) (k + 2) := h.acc t.who 1 (2, 0, 0)
    by_cases hw : σ.μ.V (2, 0, 0) = t.q
    ·have hst : ax σ t now = ((ez σ t).note t.mark t.who 8, { t with at' := 10, code := 8 }, false) := by rw [bS σ t now ho (by omega)]; simp only [ei, h7]; rw [if_pos hw]
     rw [hst];exact ⟨hS.note t.mark t.who 8, rfl, bB _, fun _ => ⟨T.s, by simp, fun _ => hx, .inr (.inr (.inr (.inr ⟨ho, by simp, by simp⟩))), hm rfl, by simp, T.w⟩, rfl, rfl⟩
    ·have hst : ax σ t now = (ez σ t, { t with at' := 4 }, false) := by rw [bS σ t now ho (by omega)]; simp only [ei, h7]; rw [if_neg hw]
     rw [hst];exact ⟨hS.mono (by omega), rfl, bB _, fun _ => ⟨T.s, by simp, fun _ => hx, .inr (.inr (.inr (.inl ⟨by simp, by simp⟩))), hm rfl, fun _ => hob, T.w⟩, rfl, rfl⟩
   by_cases h8 : t.at' = 8
   ·have hob := T.obj (.inr ⟨by omega, by omega, ho⟩)
    have hS : SI (σ.mem (σ.μ.turn t.who t.obj t.w (aY t.w 2))) (k + 2) := h.turn t.who t.obj t.w 2;have hc : (σ.mem (σ.μ.turn t.who t.obj t.w (aY t.w 2))).c = σ.c := rfl
    cases hw : fi σ.μ t.obj t.w (aY t.w 2) with
    | true =>
     have hst : ax σ t now = ((σ.mem (σ.μ.turn t.who t.obj t.w (aY t.w 2))).note now t.who 0, { t with at' := 9, code := 0 }, false) := by rw [bS σ t now ho (by omega)]; simp only [ei, h8]; rw [if_pos hw]
     rw [hst];exact ⟨hS.note now t.who 0, rfl, bB _, fun _ => ⟨T.s, by simp, fun _ => hx, .inr (.inr (.inr (.inr ⟨ho, by simp, by simp⟩))), hm rfl, fun _ => hob, T.w⟩, rfl, rfl⟩
    | false =>
     have hst : ax σ t now = (σ.mem (σ.μ.turn t.who t.obj t.w (aY t.w 2)), { t with at' := 4 }, false) := by rw [bS σ t now ho (by omega)]; simp only [ei, h8]; rw [if_neg (by rw [hw]; simp)]
     rw [hst];exact ⟨hS.mono (by omega), rfl, bB _, fun _ => ⟨T.s, by simp, fun _ => hx, .inr (.inr (.inr (.inl ⟨by simp, by simp⟩))), hm rfl, fun _ => hob, T.w⟩, rfl, rfl⟩
   by_cases h9 : t.at' = 9
   ·have hst : ax σ t now = (σ.mem ((σ.μ.acc t.who 2 (10, t.s, (t.i : Int))).put (10, t.s, (t.i : Int)) 0), { t with at' := 10 }, false) := by rw [bS σ t now ho (by omega)]; simp only [ei, h9]
    rw [hst];exact ⟨((h.acc t.who 2 (10, t.s, (t.i : Int))).clear t.s t.i).mono (by omega), rfl, bB _, fun _ => ⟨T.s, by simp, fun _ => hx, .inr (.inr (.inr (.inr ⟨ho, by simp, by simp⟩))), hm rfl, by simp, T.w⟩, rfl, rfl⟩
   have h10 : t.at' = 10 := by omega
   exact fin (by rw [bS σ t now ho (by omega)]; simp only [ei, h10])
end
theorem mi.new {σ : aS} (hc : cI σ.c = true) (who : Int) (x : Cl) : mi σ (Tk.newR σ.c who x) := by
 have := bD.1 hc;exact ⟨rfl, fun _ => by simp; omega, by simp, .inl rfl, by simp, by simp, by simp⟩
theorem mi.mono {σ σ' : aS} {t : Tk} (T : mi σ t) (hc : σ'.c = σ.c) (ho : σ.obs.length ≤ σ'.obs.length) : mi σ' t :=
 ⟨by rw [hc]; exact T.s, by rw [hc]; exact T.i, T.x, T.ats, T.mark, fun h => Nat.lt_of_lt_of_le (T.obj h) ho, T.w⟩
theorem ia.mono' {σ σ' : aS} {t : Tk} (T : ia σ t) (hc : σ'.c = σ.c) (ho : σ.obs.length ≤ σ'.obs.length) : ia σ' t :=
 ⟨fun h => Nat.lt_of_lt_of_le (T.obj h) ho, by rw [hc]; exact T.s, by rw [hc]; exact T.i, T.w, T.c5, T.c0, T.ats⟩
theorem Vp (σ : aS) (t : Tk) (now : Int) : (aj σ t now).2.1.x = t.x := by
 unfold aj;dsimp only
 repeat' split
 all_goals rfl
theorem Ze (σ : aS) (t : Tk) (now : Int) : (aj σ t now).1.obs.length = σ.obs.length := by
 unfold aj;dsimp only
 repeat' split
 all_goals first | rfl | exact jn σ t
def bx (σ : aS) (t : Tk) (now : Int) : aS × Tk × Bool := if t.x.op = 3 then aj σ t now else ax σ t now
def aT (e p : Nat) (rp : List Nat) (t : Tk) : SP := if t.x.op = 3 then eT e p rp t else rT e p rp t
def zT (xb x : Nat) (t : Tk) : SP := if t.x.op = 3 then xT xb x t else yT xb x t
def aU (e p : Nat) (rp : List Nat) (r : aS × Tk × Bool) : SP := if r.2.2 = true then emp else aT e p rp r.2.1
def zU (xb x : Nat) (r : aS × Tk × Bool) : SP := if r.2.1.x.op = 3 then xU xb x r else yU xb x r
structure Ia (σ : aS) (t : Tk) : Prop where
 e : t.x.op = 3 → ia σ t
 r : t.x.op ≠ 3 → mi σ t
def Tk.newA (c : i6) (who : Int) (x : Cl) : Tk := if x.op = 3 then Tk.new c who x else Tk.newR c who x
abbrev tkV (op : Int) (e xb : Nat) : List Value := [if op = 3 then vp e else .pointer none, if op = 3 then .pointer none else vp e, vp xb]
theorem ah5 {op : Int} {e xb : Nat} (ho : op = 3) : tkV op e xb = [vp e, .pointer none, vp xb] := by simp [tkV, ho]
theorem ah6 {op : Int} {e xb : Nat} (ho : op ≠ 3) : tkV op e xb = [.pointer none, vp e, vp xb] := by simp [tkV, ho]
structure KeptA (σ : aS) (t : Tk) (r : aS × Tk × Bool) (k : Nat) : Prop where
 si : SI r.1 (k + 3)
 c : r.1.c = σ.c
 obs : σ.obs.length ≤ r.1.obs.length
 ok : r.2.2 = false → Ia r.1 r.2.1
 x : r.2.1.x = t.x
theorem E8 {σ : aS} {t : Tk} {k : Nat} (now : Int) (hk : k < 300000) (h : SI σ k) (T : Ia σ t) : KeptA σ t (bx σ t now) k := by
 by_cases ho : t.x.op = 3
 ·rw [show bx σ t now = aj σ t now from if_pos ho]
  have K := Zj now hk h (T.e ho);have hx := Vp σ t now;exact ⟨K.si, K.c, Nat.le_of_eq (Ze σ t now).symm, fun hf => ⟨fun _ => K.ok hf, fun hn => absurd (by rw [hx]; exact ho) hn⟩, hx⟩
 ·rw [show bx σ t now = ax σ t now from if_neg ho]
  have K := E9 now hk h (T.r ho);exact ⟨K.si, K.c, K.obs, fun hf => ⟨fun hn => absurd (by rw [K.x] at hn; exact hn) ho, fun _ => K.ok hf⟩, K.x⟩
theorem Ia.new {σ : aS} (hc : cI σ.c = true) (who : Int) (x : Cl) : Ia σ (Tk.newA σ.c who x) := by
 by_cases ho : x.op = 3
 ·rw [show Tk.newA σ.c who x = Tk.new σ.c who x from if_pos ho]
  exact ⟨fun _ => ia.new hc who x, fun h => absurd ho h⟩
 ·rw [show Tk.newA σ.c who x = Tk.newR σ.c who x from if_neg ho]
  exact ⟨fun h => absurd h ho, fun _ => mi.new hc who x⟩
theorem Ia.mono {σ σ' : aS} {t : Tk} (T : Ia σ t) (hc : σ'.c = σ.c) (ho : σ.obs.length ≤ σ'.obs.length) : Ia σ' t := ⟨fun h => (T.e h).mono' hc ho, fun h => (T.r h).mono hc ho⟩
theorem ao0 (c : i6) (who : Int) (x : Cl) : (Tk.newA c who x).x = x := by unfold Tk.newA; split <;> rfl
theorem ah8 (xb x : Nat) (t : Tk) (C : Xk → Prop) (d : Bool) (c : Int) (hC : d = true → ∀ k, C k → k.code = c) (c' : Int) (hc' : c' = if d = true then c else 0) :
 Sp pG [vp xb, vb d] (ex fun k : Xk => pu (C k) * xB xb x t k) (fun _ : Unit => .agg (gm c').toArray) (fun _ => ex fun k : Xk => pu (C k) * xB xb x t k) := by
 subst hc';refine aK fun R H h => ?_;obtain ⟨k, h1⟩ := ae.ex.1 h;rw [ak, ae.pu] at h1;obtain ⟨hk, h1⟩ := h1;refine bm (fun r => MI _ _ H) ?_;refine br h1 fun b H2 h2 => ?_;have back : ∀ {H' : AH}, ae (xB xb x t k * R) H' → ae ((ex fun k : Xk => pu (C k) * xB xb x t k) * R) H' := fun h => ae.ex.2 ⟨k, by rw [ak]; exact ae.pu.2 ⟨hk, h⟩⟩;cases d
 ·refine gs ?_
  refine je ?_;refine ej h2 rfl rfl fun H3 h3 => ?_;refine aR h3 ?_;exact aq ⟨(), rfl, back h3.to⟩
 ·refine gs ?_
  have hk2 := hC rfl k hk;refine HV h2 ac ?_;rw [hk2];refine ej h2 rfl rfl fun H3 h3 => ?_;refine aR h3 ?_;exact aq ⟨(), rfl, back h3.to⟩
theorem apS (xb x : Nat) (r : aS × Tk × Bool) : Sp pG [vp xb, vb r.2.2] (zU xb x r) (fun _ : Unit => .agg (gm (if r.2.2 = true then r.2.1.code else 0)).toArray) (fun _ => zU xb x r) := by
 unfold zU
 split
 ·exact ah8 xb x r.2.1 _ r.2.2 r.2.1.code (fun hd k hk => by rw [if_pos hd] at hk; exact hk) _ rfl
 ·exact ah8 xb x r.2.1 _ r.2.2 r.2.1.code (fun hd k hk => by rw [if_pos hd] at hk; exact hk) _ rfl
theorem aoJ (d : Bool) : ai .bool .eql (vb d) (vb d) = some (vb true) := by cases d <;> rfl
section
variable (p x : Nat) (rp : List Nat)
theorem HS {pb b6 b9 tb xb : Nat} {x0 x1 : Value} {c : Int} {σ : aS} {r : aS × Tk × Bool} {x7 x8 : Value} {R : SP} {H : AH} (hc : c = if r.2.2 = true then r.2.1.code else 0)
 (h : ae (blk tb (.cells false [x0, x1, vp xb]) * (blk pb (.cells false [vp p, vp x]) * (blk b6 (.cells false [vi 0, .slice none 0 0, vi 0, vw 0]) * (blk b9 (.cells false (gm c)) * (zU xb x r * (bk p rp σ * (aM x σ * R))))))) H) :
 wp (gS (vp tb) (vp pb) (vp b6) x7 x8 (vp b9) (vb r.2.2) (vb r.2.2) H) fun v' H' => v' = .tuple #[.agg (gm c).toArray, vb r.2.2, vb true] ∧ ae (zU xb x r * (bk p rp σ * (aM x σ * R))) H' := by
 refine ah (tf ..) ?_;refine aR h ?_;refine aa (aoJ _) ?_;refine gs ?_;refine aR h ?_;refine gs ?_;refine ap h aE rfl ?_;refine gs ?_;refine af h (apS xb x r) fun _ H1 h1 => ?_;rw [← hc];refine dZ h1 h rfl ?_;refine dZ h1 h rfl ?_;refine gs ?_;refine af h1 (MD c) fun _ H2 h2 => ?_;refine dZ h2 h rfl ?_;refine gs ?_;refine ap h2 aE rfl ?_;refine gs ?_;obtain ⟨g, hrp, hg, k1⟩ := dY (p := p) (rp := rp) (σ := σ) (R := aM x σ * (blk b9 (.cells false (gm c)) * (blk b6 (.cells false [vi 0, .slice none 0 0, vi 0, vw 0]) * (blk pb (.cells false [vp p, vp x]) * (zU xb x r * R))))) (H := H2) h2.to;obtain ⟨gx, hgx, l1⟩ := fc (p := x) (σ := σ) (R := aD p g σ * (blk b9 (.cells false (gm c)) * (blk b6 (.cells false [vi 0, .slice none 0 0, vi 0, vw 0]) * (blk pb (.cells false [vp p, vp x]) * (zU xb x r * R))))) (H := H2) k1.to;obtain ⟨kv, vv, ev, Z, m1, back⟩ := G7 (x := x) (g := gx) (σ := σ) (R := aD p g σ * (blk b9 (.cells false (gm c)) * (blk b6 (.cells false [vi 0, .slice none 0 0, vi 0, vw 0]) * (blk pb (.cells false [vp p, vp x]) * (zU xb x r * R))))) (H := H2) l1.to;refine gs ?_;refine ap m1 ac rfl ?_;refine gs ?_;have bl : Sp kq [vp g.m] (aD p g σ) (fun _ : Unit => vi σ.μ.E.length) (fun _ => aD p g σ) := ZN (p := p) (g := g) (σ := σ) (alI g.m σ.μ);refine af m1 bl fun _ H3 m2 => ?_;refine dZ m2 h rfl ?_;refine kW ?_;refine bE aE ?_;refine gs ?_;refine aQ m2 rfl ?_;refine aJ m1 m2 (by rfl) ?_;refine kW ?_;refine bE ac ?_;refine gs ?_;refine aQ m2 rfl ?_;refine aJ m1 m2 (by rfl) ?_;refine kW ?_;refine bE ac ?_;refine gs ?_;refine aQ m2 rfl ?_;refine aJ m1 m2 (by rfl) ?_;refine gs ?_;refine BO (s := ev) (l := σ.μ.E) m2 ?_;refine HU ?_;refine gs ?_;refine aa (bo rfl) ?_;refine gs ?_;refine ej m2 rfl rfl fun H4 m4 => ?_;refine aJ m4 m2 (by rfl) ?_;refine aJ m4 m2 (by rfl) ?_;refine aJ m4 m2 (by rfl) ?_;refine HU ?_;refine aR m4 ?_;have m3 := back (R' := aD p g σ * (zU xb x r * R)) (H' := H4) m4.to;have n4 := dc (p := x) (σ := σ) (R := aD p g σ * (zU xb x r * R)) gx hgx m3;have n5 := bG (p := p) (rp := rp) (σ := σ) (R := aM x σ * (zU xb x r * R)) (H := H4) g hrp hg n4.to;exact aq ⟨rfl, n5.to⟩
theorem Zs (e xb : Nat) (σ : aS) (t : Tk) (now : Int) (K : Nat) (S : SI σ K) (hK : K < 290000) (T : Ia σ t) :
 Sp lg [.agg (tkV t.x.op e xb).toArray, .agg [vp p, vp x].toArray, vi now] (aT e p rp t * (bk p rp σ * (zT xb x t * aM x σ)))
  (fun _ : List Nat => .tuple #[.agg (gm (if (bx σ t now).2.2 = true then (bx σ t now).2.1.code else 0)).toArray, vb (bx σ t now).2.2, vb true])
  (fun rp' => pu (rp <+: rp') * (aU e p rp' (bx σ t now) * (zU xb x (bx σ t now) * (bk p rp' (bx σ t now).1 * aM x (bx σ t now).1)))) := by
 refine aK fun R H h => ?_
 by_cases ho : t.x.op = 3
 ·have hA : bx σ t now = aj σ t now := if_pos ho
  have hx3 : (aj σ t now).2.1.x.op = 3 := by rw [Vp]; exact ho
  rw [hA, ah5 ho];refine bm (fun r => oJ _ _ _ H) ?_;refine aX (l := [vp e, .pointer none, vp xb]) h fun tb H1 h1 => ?_;refine aX (l := [vp p, vp x]) h1 fun pb H2 h2 => ?_;refine br h2 fun b6 H3 h3 => ?_;refine br h3 fun b9 H4 h4 => ?_;refine ah (lq ..) ?_;refine ap h4 aE rfl ?_;refine aa (v := vb true) rfl ?_;refine gs ?_;refine ap h4 aE rfl ?_
  have h5 : ae (eP e p rp σ t * (xP xb x σ t * (blk tb (.cells false [vp e, .pointer none, vp xb]) * (blk pb (.cells false [vp p, vp x]) * (blk b6 (.cells false [vi 0, .slice none 0 0, vi 0, vw 0]) * (blk b9 (.cells false [vi 0, .slice none 0 0, vi 0, vw 0]) * R)))))) H4 := by
   rw [aaZ, arB];unfold aT zT at h4;rw [if_pos ho, if_pos ho] at h4;exact h4.to
  refine af h5 (aa1 e p rp σ t now (S.ok (by omega)) (T.e ho)) fun _ H5 h6 => ?_;refine aa (v := .agg (gm (if (aj σ t now).2.2 = true then (aj σ t now).2.1.code else 0)).toArray) rfl ?_;refine aa (v := vb (aj σ t now).2.2) rfl ?_;refine ej h6 rfl rfl fun H7 h7 => ?_;refine ap h7 aE rfl ?_;refine af h7 (ZE xb x σ t now (S.ok (by omega)) (T.e ho)) fun _ H8 h8 => ?_;rw [arC, aqL] at h8;refine pS ?_ (HS p x rp (xb := xb) (x0 := vp e) (x1 := .pointer none) (pb := pb) (tb := tb) (b6 := b6) (b9 := b9) (σ := (aj σ t now).1) (r := aj σ t now) (R := eU e p rp (aj σ t now) * R) (H := H8) rfl (by unfold zU; rw [if_pos hx3]; exact h8.to))
  rintro v' H' ⟨rfl, h9⟩
  refine ⟨rp, rfl, ?_⟩;rw [ak, ae.pu];refine ⟨kQ _, ?_⟩
  have ea : aU e p rp (aj σ t now) = eU e p rp (aj σ t now) := by
   unfold aU eU aT;rw [if_pos hx3]
  rw [ea];exact h9.to
 ·have hA : bx σ t now = ax σ t now := if_neg ho
  have KR := E9 now (by omega) S (T.r ho)
  have hx3 : ¬ (ax σ t now).2.1.x.op = 3 := by rw [KR.x]; exact ho
  rw [hA, ah6 ho];refine bm (fun r => oJ _ _ _ H) ?_;refine aX (l := [.pointer none, vp e, vp xb]) h fun tb H1 h1 => ?_;refine aX (l := [vp p, vp x]) h1 fun pb H2 h2 => ?_;refine br h2 fun b6 H3 h3 => ?_;refine br h3 fun b9 H4 h4 => ?_;refine ah (lq ..) ?_;refine ap h4 aE rfl ?_;refine aa (v := vb false) rfl ?_;refine gs ?_;refine ap h4 aE rfl ?_;refine aa (v := vb true) rfl ?_;refine gs ?_;refine ap h4 aE rfl ?_
  have h5 : ae (rT e p rp t * (bk p rp σ * (yT xb x t * (aM x σ * (blk tb (.cells false [.pointer none, vp e, vp xb]) * (blk pb (.cells false [vp p, vp x]) * (blk b6 (.cells false [vi 0, .slice none 0 0, vi 0, vw 0]) * (blk b9 (.cells false [vi 0, .slice none 0 0, vi 0, vw 0]) * R)))))))) H4 := by
   unfold aT zT at h4;rw [if_neg ho, if_neg ho] at h4;exact h4.to
  refine af h5 (agW e p rp σ t now (S.ok (by omega)) (T.r ho)) fun rp' H5 h6 => ?_;unfold rQ at h6;rw [ak, ae.pu] at h6;obtain ⟨hpre, h6⟩ := h6;refine aa (v := .agg (gm (if (ax σ t now).2.2 = true then (ax σ t now).2.1.code else 0)).toArray) rfl ?_;refine aa (v := vb (ax σ t now).2.2) rfl ?_;refine ej h6 rfl rfl fun H7 h7 => ?_;refine ap h7 aE rfl ?_;refine af h7 (ZH xb x σ t now (S.ok (by omega)) (T.r ho)) fun _ H8 h8 => ?_;refine pS ?_ (HS p x rp' (xb := xb) (x0 := .pointer none) (x1 := vp e) (pb := pb) (tb := tb) (b6 := b6) (b9 := b9) (σ := (ax σ t now).1) (r := ax σ t now) (R := rU e p rp' (ax σ t now) * R) (H := H8) rfl (by unfold zU; rw [if_neg hx3]; exact h8.to))
  rintro v' H' ⟨rfl, h9⟩
  refine ⟨rp', rfl, ?_⟩;rw [ak, ae.pu];refine ⟨hpre, ?_⟩
  have ea : aU e p rp' (ax σ t now) = rU e p rp' (ax σ t now) := by
   unfold aU rU aT;rw [if_neg hx3]
  rw [ea];exact h9.to
theorem VR (σ : aS) (hc : cI σ.c = true) (hN : σ.μ.N < 1000000) (who place : Int) (c : Cl) :
 Sp rA [.agg [vp p, vp x].toArray, vi who, vi place, .agg (Cl.cells c).toArray] (bk p rp σ * aM x σ) (fun g : Nat × Nat => .agg (tkV c.op g.1 g.2).toArray)
  (fun g => aT g.1 p rp (Tk.newA σ.c who c) * (zT g.2 x (Tk.newA σ.c who c) * (bk p rp (σ.begin who place) * aM x (σ.begin who place)))) := by
 refine bh (JJ _ _ _ _) fun R H h => ?_;refine aX (l := [vp p, vp x]) h fun pb H1 h1 => ?_;refine aX h1 fun cb H2 h2 => ?_;refine br h2 fun b3 H3 h3 => ?_;refine aR h3 ?_;refine af h3 (Qk p x rp σ who place hN) fun _ H4 h4 => ?_;refine ap h4 aE rfl ?_;refine aR h4 ?_;have hcb : cI (σ.begin who place).c = true := hc
 by_cases ho : c.op = 3
 ·refine af h4 (Ng x (σ.begin who place) who c 0) fun xb H5 h5 => ?_
  refine je ?_;refine br h5 fun b5 H6 h6 => ?_;refine ej h6 rfl rfl fun H7 h7 => ?_;refine ah (p9 ..) ?_;refine ap h7 aE rfl ?_;refine aa (bo ho) ?_;refine gs ?_;refine ap h7 aE rfl ?_;refine aR h7 ?_;refine af h7 (aa0 p rp (σ.begin who place) hcb who c) fun e H8 h8 => ?_;refine bj h8 aE rfl rfl fun H9 h9 => ?_;refine ah (qa ..) ?_;refine aR h9 ?_;refine ej h9 rfl rfl fun HA hA => ?_;refine aR hA ?_;refine aq ⟨(e, xb), by rw [ah5 ho], ?_⟩;rw [show Tk.newA σ.c who c = Tk.new σ.c who c from if_pos ho];rw [show aT (e, xb).1 p rp (Tk.new σ.c who c) = eT e p rp (Tk.new σ.c who c) from if_pos ho, show zT (e, xb).2 x (Tk.new σ.c who c) = xT xb x (Tk.new σ.c who c) from if_pos ho];exact hA.to
 ·have nt : Sp kw [vp x, vi who, .agg (Cl.cells c).toArray] emp (fun b : Nat => vp b) (fun b => yT b x (Tk.newR σ.c who c)) := by
   refine bh (rR _ _ _) fun R H h => ?_;refine aX h fun b H1 h1 => ?_;refine aR h1 ?_;refine je ?_;refine aX h1 fun xb H2 h2 => ?_;refine aq ⟨xb, rfl, ?_⟩;unfold yT;refine ae.ex.2 ⟨⟨0, 0, -1, false, 0, 0, 0, 0, 0, 0, 0⟩, ?_⟩;rw [ak, ae.pu];exact ⟨BR rfl (by simp) ⟨rfl, rfl⟩, h2.to⟩
  refine af h4 nt fun xb H5 h5 => ?_;refine je ?_;refine br h5 fun b5 H6 h6 => ?_;refine ej h6 rfl rfl fun H7 h7 => ?_;refine ah (p9 ..) ?_;refine ap h7 aE rfl ?_;refine aa (aG ho) ?_;refine gs ?_;refine ap h7 aE rfl ?_;refine aR h7 ?_;refine af h7 (agU p rp (σ.begin who place) hcb who c) fun e H8 h8 => ?_;refine bj h8 aE rfl rfl fun H9 h9 => ?_;refine ah (qa ..) ?_;refine aR h9 ?_;refine ej h9 rfl rfl fun HA hA => ?_;refine aR hA ?_;refine aq ⟨(e, xb), by rw [ah6 ho], ?_⟩;rw [show Tk.newA σ.c who c = Tk.newR σ.c who c from if_neg ho];rw [show aT (e, xb).1 p rp (Tk.newR σ.c who c) = rT e p rp (Tk.newR σ.c who c) from if_neg ho, show zT (e, xb).2 x (Tk.newR σ.c who c) = yT xb x (Tk.newR σ.c who c) from if_neg ho];exact hA.to
end

abbrev Wk := Option (Nat × Nat × Tk)
def WkR (σ : aS) (q : Wk) : Prop := match q with
 | none => True
 | some q => Ia σ q.2.2
structure WsR (σ : aS) (ws : List Wk) (ats : List Nat) : Prop where
 l : ws.length = 4
 al : ats.length = 4
 r : ∀ w (h : w < 4), WkR σ (ws[w]'(by omega))
theorem WkR.mono {σ σ' : aS} {q : Wk} (h : WkR σ q) (hc : σ'.c = σ.c) (ho : σ.obs.length ≤ σ'.obs.length) : WkR σ' q := by
 cases q with
 | none => trivial
 | some q => exact Ia.mono (show Ia σ q.2.2 from h) hc ho
theorem WsR.mono {σ σ' : aS} {ws : List Wk} {ats : List Nat} (h : WsR σ ws ats) (hc : σ'.c = σ.c) (ho : σ.obs.length ≤ σ'.obs.length) : WsR σ' ws ats :=
 ⟨h.l, h.al, fun w hw => (h.r w hw).mono hc ho⟩
theorem WsR.set {σ : aS} {ws : List Wk} {ats : List Nat} (h : WsR σ ws ats) {w : Nat} (hw : w < 4) {q : Wk} (a : Nat) (hq : WkR σ q) : WsR σ (ws.set w q) (ats.set w a) := by
 refine ⟨by simp [h.l], by simp [h.al], fun w' hw' => ?_⟩;rw [List.getElem_set]
 by_cases e : w = w'
 ·rw [if_pos e]; exact hq
 ·rw [if_neg e]; exact h.r w' hw'
abbrev SlT := Option Addr × Nat × Nat
abbrev slv (x : SlT) : Value := .slice x.1 x.2.1 x.2.2
abbrev aqM (x : SlT) : List Value := [slv x]
instance : Enc aqM 1 := ⟨fun _ => rfl, fun _ => rfl, by omega⟩
theorem aaT (c : Cl) (mark : Int) : Sp ur [.agg (Cl.cells c).toArray, vi mark] emp (fun y : Cl => .agg (Cl.cells y).toArray) (fun _ => emp) := by
 refine bh (MJ _ _) fun R H h => ?_;refine aX h fun b1 H1 h1 => ?_;refine br h1 fun b2 H2 h2 => ?_;refine aR h2 ?_;refine af h2 (Yj c) fun y H3 h3 => ?_;refine br h3 fun b4 H4 h4 => ?_;refine ej h4 rfl rfl fun H5 h5 => ?_;refine ah (D5 ..) ?_;refine ap h5 aE rfl ?_;refine Fs h5 (by omega) (by omega) fun H6 h6 => ?_
 have out : ∀ (z : Cl) {H : AH}, ae (blk b4 (.cells false (Cl.cells z)) * (blk b2 (.cells false [vi 0, vi 0, vi 0, vi 0]) * R)) H → wp (ja (vp b2) (vp b4) H) fun v' H' => ∃ y : Cl, v' = .agg (Cl.cells y).toArray ∧ ae (emp * R) H' := by
  intro z H h;refine ah (D6 ..) ?_;refine aR h ?_;refine ej h rfl rfl fun H2 h2 => ?_;refine aR h2 ?_;exact aq ⟨z, rfl, h2.to⟩
 refine ah (D7 ..) ?_
 have r1 : wp (kP (vi mark) (vp b1) (vp b2) (vp b4) (vi (io c.op 5)) (vb true) H6) fun v' H' => ∃ y : Cl, v' = .agg (Cl.cells y).toArray ∧ ae (emp * R) H' := by
  refine ah (rn ..) ?_;refine gs ?_;refine bj h6 aE rfl rfl fun H7 h7 => ?_;refine ap h7 aE rfl ?_;refine Fs h7 (by omega) (by omega) fun H8 h8 => ?_
  by_cases hg : 0 < io c.a 4
  ·refine aa (kN hg) ?_
   refine gs ?_;refine ap h8 aE rfl ?_;refine Fs h8 (by omega) (by omega) fun H9 h9 => ?_;have m5 := iG (v := c.a) (n := 5) (by omega);refine aa (aH (by omega) (by omega)) ?_;refine bE aE ?_;refine aQ h9 rfl ?_;refine aJ h8 h9 (by rfl) ?_;refine Fs h9 (by omega) (by omega) fun HA hA => ?_;have m3 := iG (v := c.b) (n := 3) (by omega);refine aa (aH (by omega) (by omega)) ?_;refine bj hA aE rfl rfl fun HB hB => ?_;refine bj hB aE rfl rfl fun HC hC => ?_;exact out ⟨1, y.flow, 1 + io c.a 5, 1 + io c.b 3⟩ hC.to
  ·refine aa (fQ hg) ?_
   refine gs ?_;exact out ⟨1, y.flow, y.a, y.b⟩ h8.to
 have k21 : ∀ b : Bool, wp (lJ (vi mark) (vp b2) (vp b4) (vb b) H6) fun v' H' => ∃ y : Cl, v' = .agg (Cl.cells y).toArray ∧ ae (emp * R) H' := by
  intro b;refine ah (Ai ..) ?_;cases b
  ·refine gs ?_
   refine bj h6 aE rfl rfl fun H7 h7 => ?_;refine bj h7 aE rfl rfl fun H8 h8 => ?_;exact out ⟨3, y.flow, y.a, mark⟩ h8.to
  ·refine gs ?_
   refine bj h6 aE rfl rfl fun H7 h7 => ?_;exact out ⟨2, y.flow, y.a, y.b⟩ h7.to
 have r2 : wp (kP (vi mark) (vp b1) (vp b2) (vp b4) (vi (io c.op 5)) (vb false) H6) fun v' H' => ∃ y : Cl, v' = .agg (Cl.cells y).toArray ∧ ae (emp * R) H' := by
  refine ah (rn ..) ?_;refine gs ?_
  by_cases h2 : io c.op 5 = 2
  ·refine aa (bo h2) ?_
   refine gs ?_;exact k21 true
  ·refine aa (aG h2) ?_
   refine gs ?_
   by_cases h3 : io c.op 5 = 3
   ·refine aa (bo h3) ?_
    exact k21 true
   ·refine aa (aG h3) ?_
    exact k21 false
 by_cases h0 : io c.op 5 = 0
 ·refine aa (bo h0) ?_
  refine gs ?_;exact r1
 ·refine aa (aG h0) ?_
  refine gs ?_
  by_cases h1 : io c.op 5 = 1
  ·refine aa (bo h1) ?_
   exact r1
  ·refine aa (aG h1) ?_
   exact r2
structure AfterR (σ σ' : aS) (k : Nat) : Prop where
 si : SI σ' k
 c : σ'.c = σ.c
 obs : σ'.obs.length = σ.obs.length
section
variable (p x : Nat) (rp : List Nat) (σ : aS) (K : Nat)
end
instance {c : Bool} {e1 : Option Value} {k : Value → OV} : Gd ((G3 (yv undef) c e1 (some undef)).bind k) (k undef) := ⟨fun h => by cases c <;> exact h⟩
theorem arG {xb x : Nat} {r : aS × Tk × Bool} (h : r.2.2 = false) : zU xb x r = zT xb x r.2.1 := by
 unfold zU zT
 split
 ·exact arD h
 ·unfold yU yT
  simp only [h]
  rfl
theorem aqF {e p : Nat} {rp : List Nat} {r : aS × Tk × Bool} (h : r.2.2 = false) : aU e p rp r = aT e p rp r.2.1 := by
 unfold aU;rw [if_neg (by rw [h]; simp)]
section
variable (p x pb tb ab : Nat) (lb : Nat) (LL : List (SlT × List Cl)) (pv : Value) (picks : List Int) (blows : Bool) (most : Nat)
variable (I : aS → List Wk → Prop)
variable (x10 x11 : Value) (Z : SP)
variable (hL : LL.length = 4) (hQ : ∀ q ∈ LL, q.2.length ≤ 1000) (hm : most ≤ 500) [hP : Rd Z pv 1 lH picks]
variable (hIs : ∀ (σ : aS) (ws : List Wk) (w : Nat) (q : Nat × Nat × Tk) (now : Int) (K : Nat), K < 20000 → SI σ K → ws.length = 4 → ws[w]? = some (some q) → Ia σ q.2.2 → I σ ws →
 I (bx σ q.2.2 now).1 (ws.set w (if (bx σ q.2.2 now).2.2 = true then none else some (q.1, q.2.1, (bx σ q.2.2 now).2.1))))
variable (hIb : ∀ (σ : aS) (ws : List Wk) (w e xk : Nat) (place : Int) (c : Cl), cI σ.c = true → ws.length = 4 → ws[w]? = some none → I σ ws → I (σ.begin w place) (ws.set w (some (e, xk, Tk.newA σ.c w c))))
variable (hIt : blows = true → ∀ (σ σ' : aS) (ws : List Wk) (k : Nat), AfterR σ σ' k → I σ ws → I σ' ws)
include hL hm hP hIs hIb hIt
end

def jg : Nat → aS → Tk → Int → Option (aS × Tk × Int)
 | 0, _, _, _ => none
 | n + 1, σ, t, now => if (bx σ t now).2.2 = true then some ((bx σ t now).1, (bx σ t now).2.1, now + 1) else jg n (bx σ t now).1 (bx σ t now).2.1 (now + 1)
theorem Lb : ∀ (n : Nat) (σ : aS) (t : Tk) (now : Int) (k : Nat) (res : aS × Tk × Int), SI σ k → Ia σ t → k + 3 * n < 300000 → jg n σ t now = some res → SI res.1 (k + 3 * n) ∧ res.1.c = σ.c ∧ now < res.2.2 ∧ res.2.2 ≤ now + n := by
 intro n
 induction n with
 | zero => intro σ t now k res _ _ _ h; cases h
 | succ n ih =>
  intro σ t now k res S T hk h;have K := E8 now (by omega) S T;unfold jg at h
  by_cases hd : (bx σ t now).2.2 = true
  ·rw [if_pos hd] at h
   obtain rfl := iu h;exact ⟨K.si.mono (by omega), K.c, by show now < now + 1; omega, by show now + 1 ≤ _; omega⟩
  ·rw [if_neg hd] at h
   obtain ⟨h1, h2, h3, h4⟩ := ih _ _ _ _ _ K.si (K.ok (by simpa using hd)) (by omega) h;exact ⟨h1.mono (by omega), h2.trans K.c, by omega, by omega⟩
theorem Ld : ∀ (n m : Nat) (σ : aS) (t : Tk) (now : Int) (res : aS × Tk × Int), n ≤ m → jg n σ t now = some res → jg m σ t now = some res := by
 intro n
 induction n with
 | zero => intro m σ t now res _ h; cases h
 | succ n ih =>
  intro m σ t now res hm h;obtain ⟨m, rfl⟩ : ∃ m', m = m' + 1 := ⟨m - 1, by omega⟩;unfold jg at h ⊢
  by_cases hd : (bx σ t now).2.2 = true
  ·rw [if_pos hd] at h ⊢; exact h
  ·rw [if_neg hd] at h ⊢; exact ih m _ _ _ _ (by omega) h
abbrev upd (V : cO → Nat) (l : cO) (v : Nat) : cO → Nat := fun x => if x = l then v else V x
section
variable {V : cO → Nat} {l x : cO} {v : Nat}
theorem upd_ne (h : x ≠ l) : upd V l v x = V x := if_neg h
theorem KM : upd V l v l = v := if_pos rfl
theorem sq (h : V l = 0) (u : Nat) : upd (upd V l u) l 0 = V := by
 funext z
 show (if z = l then 0 else if z = l then u else V z) = V z
 by_cases e : z = l
 ·rw [if_pos e, e, h]
 ·rw [if_neg e, if_neg e]
end
theorem pR {μ : Mu} {who : Int} {l : cO} {was now : Nat} (h : μ.V l = was) : (μ.swp who l was now).V = upd μ.V l now := by
 show (μ.swap who l was now).V = _;unfold Mu.swap;rw [if_pos h]
def kE (n : Nat) (σ : aS) (t : Tk) (now : Int) (P : aS → Int → Prop) : Prop := ∃ res, jg n σ t now = some res ∧ P res.1 res.2.1.code
structure Sm (σ σ' : aS) : Prop where
 c : σ'.c = σ.c
 V : σ'.μ.V = σ.μ.V
 obs : σ'.obs = σ.obs
theorem Sm.rfl' {σ : aS} : Sm σ σ := ⟨rfl, rfl, rfl⟩
theorem Sm.trans {σ σ1 σ2 : aS} (a : Sm σ σ1) (b : Sm σ1 σ2) : Sm σ σ2 := ⟨b.c.trans a.c, b.V.trans a.V, b.obs.trans a.obs⟩
section
variable {n m : Nat} {σ σ1 : aS} {t t1 : Tk} {now : Int} {P P' : aS → Int → Prop}
theorem kE.step (h : bx σ t now = (σ1, t1, false)) (k : kE n σ1 t1 (now + 1) P) : kE (n + 1) σ t now P := by
 obtain ⟨res, h1, h2⟩ := k;refine ⟨res, ?_, h2⟩;unfold jg;rw [h, if_neg (by simp)];exact h1
theorem kE.last (h : bx σ t now = (σ1, t1, true)) (p : P σ1 t1.code) : kE (n + 1) σ t now P := by
 refine ⟨(σ1, t1, now + 1), ?_, p⟩;unfold jg;rw [h, if_pos rfl]
theorem kE.mono (h : n ≤ m) (k : kE n σ t now P) : kE m σ t now P := by
 obtain ⟨res, h1, h2⟩ := k;exact ⟨res, Ld _ _ _ _ _ _ h h1, h2⟩
theorem kE.congr (h : bx σ t now = bx σ t1 now) (k : kE n σ t1 now P) : kE n σ t now P := by
 obtain ⟨res, h1, h2⟩ := k
 cases n with
 | zero => cases h1
 | succ n =>
  refine ⟨res, ?_, h2⟩;unfold jg at h1 ⊢;rw [h];exact h1
end
theorem cq {σ : aS} {t : Tk} {now : Int} (hx : t.x.op = 3) : bx σ t now = aj σ t now := if_pos hx
theorem dV {σ : aS} {t : Tk} {now : Int} (hx : ¬ t.x.op = 3) : bx σ t now = ax σ t now := if_neg hx
section
variable (who s : Int) (x : Cl) (i o : Nat) (f : Bool) (w q : Nat) (mk : Int) (tp : Nat) (cd : Int) (σ : aS) (now : Int) (hx : x.op = 3)
include hx
theorem e0e {e : Int} (h : dd x = some e) : bx σ ⟨who, x, s, 0, i, o, f, w, q, mk, tp, cd⟩ now = (σ.note now who e, ⟨who, x, s, 0, i, o, f, w, q, mk, tp, e⟩, true) := by
 rw [cq hx]; simp only [aj, h]
theorem e0 (h : dd x = none) : bx σ ⟨who, x, s, 0, i, o, f, w, q, mk, tp, cd⟩ now = bx σ ⟨who, x, s, 2, i, o, f, w, q, mk, tp, cd⟩ now := by
 rw [cq hx, cq hx]; simp only [aj, h]; rfl
theorem e2h (h : gf (σ.μ.V (10, s, (i : Int))) x.flow = true) : bx σ ⟨who, x, s, 2, i, o, f, w, q, mk, tp, cd⟩ now = (σ.mem (σ.μ.acc who 1 (10, s, (i : Int))), ⟨who, x, s, 6, i + 1, σ.μ.V (10, s, (i : Int)) % 4294967296, true, w, q, mk, tp, cd⟩, false) := by
 rw [cq hx]; simp only [aj, aN, h]; rfl
theorem e2m (h : gf (σ.μ.V (10, s, (i : Int))) x.flow = false) (hl : ((i + 1 : Nat) : Int) < σ.c.sl) : bx σ ⟨who, x, s, 2, i, o, f, w, q, mk, tp, cd⟩ now = (σ.mem (σ.μ.acc who 1 (10, s, (i : Int))), ⟨who, x, s, 2, i + 1, o, false, w, q, mk, tp, cd⟩, false) := by
 have e : bO σ ⟨who, x, s, 2, i + 1, o, false, w, q, mk, tp, cd⟩ = false := d6 (by show ¬ σ.c.sl ≤ ((i + 1 : Nat) : Int); omega);rw [cq hx]; simp only [aj, aN, h];show (aW σ _, (⟨_, _, _, (if bO σ ⟨who, x, s, 2, i + 1, o, false, w, q, mk, tp, cd⟩ = true then 3 else 2), _, _, _, _, _, _, _, _⟩ : Tk), false) = _;rw [e]; rfl
theorem e2l (h : gf (σ.μ.V (10, s, (i : Int))) x.flow = false) (hl : σ.c.sl ≤ ((i + 1 : Nat) : Int)) : bx σ ⟨who, x, s, 2, i, o, f, w, q, mk, tp, cd⟩ now = (σ.mem (σ.μ.acc who 1 (10, s, (i : Int))), ⟨who, x, s, 3, i + 1, o, false, w, q, mk, tp, cd⟩, false) := by
 have e : bO σ ⟨who, x, s, 2, i + 1, o, false, w, q, mk, tp, cd⟩ = true := d4 hl;rw [cq hx]; simp only [aj, aN, h];show (aW σ _, (⟨_, _, _, (if bO σ ⟨who, x, s, 2, i + 1, o, false, w, q, mk, tp, cd⟩ = true then 3 else 2), _, _, _, _, _, _, _, _⟩ : Tk), false) = _;rw [e]; rfl
theorem e3 (h : σ.μ.V (8, s, 0) = 0) : bx σ ⟨who, x, s, 3, i, o, f, w, q, mk, tp, cd⟩ now = (σ.mem (σ.μ.swp who (8, s, 0) 0 1), ⟨who, x, s, 4, 0, o, f, w, q, mk, tp, cd⟩, false) := by
 rw [cq hx]; simp only [aj]; rw [if_pos h]
theorem e4m (h : gf (σ.μ.V (10, s, (i : Int))) x.flow = false) (hl : ((i + 1 : Nat) : Int) < σ.c.sl) : bx σ ⟨who, x, s, 4, i, o, f, w, q, mk, tp, cd⟩ now = (σ.mem (σ.μ.acc who 1 (10, s, (i : Int))), ⟨who, x, s, 4, i + 1, o, false, w, q, mk, tp, cd⟩, false) := by
 have e : bO σ ⟨who, x, s, 4, i + 1, o, false, w, q, mk, tp, cd⟩ = false := d6 (by show ¬ σ.c.sl ≤ ((i + 1 : Nat) : Int); omega);rw [cq hx]; simp only [aj, aN, h];show (if bO σ ⟨who, x, s, 4, i + 1, o, false, w, q, mk, tp, cd⟩ = true then _ else (aW σ _, (⟨who, x, s, 4, i + 1, o, false, w, q, mk, tp, cd⟩ : Tk), false)) = _;rw [e]; rfl
theorem e4l (h : gf (σ.μ.V (10, s, (i : Int))) x.flow = false) (hl : σ.c.sl ≤ ((i + 1 : Nat) : Int)) : bx σ ⟨who, x, s, 4, i, o, f, w, q, mk, tp, cd⟩ now = ((σ.mem (σ.μ.acc who 1 (10, s, (i : Int)))).note now who 5, ⟨who, x, s, 5, i + 1, o, false, w, q, mk, tp, 5⟩, false) := by
 have e : bO σ ⟨who, x, s, 4, i + 1, o, false, w, q, mk, tp, cd⟩ = true := d4 hl;rw [cq hx]; simp only [aj, aN, h];show (if bO σ ⟨who, x, s, 4, i + 1, o, false, w, q, mk, tp, cd⟩ = true then ((aW σ _).note now who 5, (⟨who, x, s, 5, i + 1, o, false, w, q, mk, tp, 5⟩ : Tk), false) else _) = _;rw [e]; rfl
theorem e5 : bx σ ⟨who, x, s, 5, i, o, false, w, q, mk, tp, cd⟩ now = (σ.mem ((σ.μ.acc who 2 (8, s, 0)).put (8, s, 0) 0), ⟨who, x, s, 6, i, o, false, w, q, mk, tp, cd⟩, true) := by
 rw [cq hx]; simp only [aj]; rfl
theorem e6 : bx σ ⟨who, x, s, 6, i, o, f, w, q, mk, tp, cd⟩ now = (σ.mem (σ.μ.acc who 5 (13, (o : Int), 0)), ⟨who, x, s, 7, i, o, f, w, q, mk, tp, cd⟩, false) := by
 rw [cq hx]; simp only [aj]
theorem e7 (h : ba (σ.μ.V (11, (o : Int), 0)) ≠ 2) : bx σ ⟨who, x, s, 7, i, o, f, w, q, mk, tp, cd⟩ now = (σ.mem (σ.μ.acc who 1 (11, (o : Int), 0)), ⟨who, x, s, 8, i, o, f, σ.μ.V (11, (o : Int), 0), q, mk, tp, cd⟩, false) := by
 rw [cq hx]; simp only [aj]; rw [if_neg h]
theorem e8f (h : gq w (σ.μ.V (12, (o : Int), 0)) (ay σ o).length = true) : bx σ ⟨who, x, s, 8, i, o, f, w, q, mk, tp, cd⟩ now = (σ.mem (σ.μ.acc who 1 (12, (o : Int), 0)), ⟨who, x, s, 15, i, o, f, w, q, mk, tp, cd⟩, false) := by
 have h' : jP σ ⟨who, x, s, 8, i, o, f, w, q, mk, tp, cd⟩ = true := h;rw [cq hx]; simp only [aj]; rw [if_pos h']
theorem e8a (h : gq w (σ.μ.V (12, (o : Int), 0)) (ay σ o).length = false) (h1 : ba w = 1) : bx σ ⟨who, x, s, 8, i, o, f, w, q, mk, tp, cd⟩ now = (σ.mem (σ.μ.acc who 1 (12, (o : Int), 0)), ⟨who, x, s, 9, i, o, f, w, q, mk, tp, cd⟩, false) := by
 have h' : jP σ ⟨who, x, s, 8, i, o, f, w, q, mk, tp, cd⟩ = false := h;rw [cq hx]; simp only [aj]; rw [if_neg (by rw [h']; simp), if_pos h1]
theorem e8r (h : gq w (σ.μ.V (12, (o : Int), 0)) (ay σ o).length = false) (h1 : ba w ≠ 1) : bx σ ⟨who, x, s, 8, i, o, f, w, q, mk, tp, cd⟩ now = (σ.mem (σ.μ.acc who 1 (12, (o : Int), 0)), ⟨who, x, s, 12, i, o, f, w, q, mk, tp, cd⟩, false) := by
 have h' : jP σ ⟨who, x, s, 8, i, o, f, w, q, mk, tp, cd⟩ = false := h;rw [cq hx]; simp only [aj]; rw [if_neg (by rw [h']; simp), if_neg h1]
omit hx in
theorem tu {μ : Mu} {v : Nat} {how : Nat} (hn : aY w how = some v) (hw : μ.V (11, (o : Int), 0) = w) : fi μ o w (aY w how) = true := by
 rw [hn]; show (true && decide (μ.V (11, (o : Int), 0) = w)) = true; rw [d4 hw]; rfl
theorem e9 {v : Nat} (hn : aY w 0 = some v) (hw : σ.μ.V (11, (o : Int), 0) = w) : bx σ ⟨who, x, s, 9, i, o, f, w, q, mk, tp, cd⟩ now = ((σ.mem (σ.μ.swp who (11, (o : Int), 0) w v)).note now who 0, ⟨who, x, s, 10, i, o, f, w, q, mk, tp, 0⟩, false) := by
 rw [cq hx]; simp only [aj]; rw [if_pos (tu o w hn hw), hn]
theorem e10 : bx σ ⟨who, x, s, 10, i, o, f, w, q, mk, tp, cd⟩ now = (rr σ ⟨who, x, s, 10, i, o, f, w, q, mk, tp, cd⟩, ⟨who, x, s, 11, i, o, f, w, q, mk, tp, cd⟩, false) := by
 rw [cq hx]; simp only [aj]
theorem e11 : bx σ ⟨who, x, s, 11, i, o, f, w, q, mk, tp, cd⟩ now = (sd σ ⟨who, x, s, 11, i, o, f, w, q, mk, tp, cd⟩, ⟨who, x, s, 11, i, o, f, w, q, mk, tp, cd⟩, true) := by
 rw [cq hx]; simp only [aj]
theorem e12 : bx σ ⟨who, x, s, 12, i, o, f, w, q, mk, tp, cd⟩ now = (σ.mem (σ.μ.cnt who (3, 0, 0) 4294967296), ⟨who, x, s, 13, i, o, f, w, q, mk, tp, cd⟩, false) := by
 rw [cq hx]; simp only [aj]
theorem e13 {v : Nat} (hn : aY w 0 = some v) (hw : σ.μ.V (11, (o : Int), 0) = w) : bx σ ⟨who, x, s, 13, i, o, f, w, q, mk, tp, cd⟩ now = ((σ.mem (σ.μ.swp who (11, (o : Int), 0) w v)).note now who 0, ⟨who, x, s, 14, i, o, f, w, q, mk, tp, 0⟩, false) := by
 rw [cq hx]; simp only [aj]; rw [if_pos (tu o w hn hw), hn]
theorem e14 : bx σ ⟨who, x, s, 14, i, o, f, w, q, mk, tp, cd⟩ now = (rr σ ⟨who, x, s, 14, i, o, f, w, q, mk, tp, cd⟩, ⟨who, x, s, 21, i, o, f, w, q, mk, tp, cd⟩, false) := by
 rw [cq hx]; simp only [aj]
theorem e15 (h : ¬ σ.μ.V (2, 0, 0) % 2 = 1) : bx σ ⟨who, x, s, 15, i, o, f, w, q, mk, tp, cd⟩ now = (σ.mem (σ.μ.acc who 1 (2, 0, 0)), ⟨who, x, s, 16, i, o, f, w, σ.μ.V (2, 0, 0), mk, tp, cd⟩, false) := by
 rw [cq hx]; simp only [aj]; rw [if_neg h]
theorem e16 (h : ba (σ.μ.V (11, (o : Int), 0)) ≠ 2) : bx σ ⟨who, x, s, 16, i, o, f, w, q, mk, tp, cd⟩ now = (σ.mem (σ.μ.acc who 1 (11, (o : Int), 0)), ⟨who, x, s, 17, i, o, f, σ.μ.V (11, (o : Int), 0), q, mk, tp, cd⟩, false) := by
 rw [cq hx]; simp only [aj]; rw [if_neg h]
theorem e17 (h : gq w (σ.μ.V (12, (o : Int), 0)) (ay σ o).length = true) : bx σ ⟨who, x, s, 17, i, o, f, w, q, mk, tp, cd⟩ now = (σ.mem (σ.μ.acc who 1 (12, (o : Int), 0)), ⟨who, x, s, 18, i, o, f, w, q, now, tp, cd⟩, false) := by
 have h' : jP σ ⟨who, x, s, 17, i, o, f, w, q, mk, tp, cd⟩ = true := h;rw [cq hx]; simp only [aj]; rw [if_pos h']
theorem e18 (h : σ.μ.V (2, 0, 0) = q) : bx σ ⟨who, x, s, 18, i, o, f, w, q, mk, tp, cd⟩ now = ((σ.mem (σ.μ.acc who 1 (2, 0, 0))).note mk who 9, ⟨who, x, s, 18, i, o, f, w, q, mk, tp, 9⟩, true) := by
 rw [cq hx]; simp only [aj]; rw [if_pos h]
theorem e21 : bx σ ⟨who, x, s, 21, i, o, f, w, q, mk, tp, cd⟩ now = (sd σ ⟨who, x, s, 21, i, o, f, w, q, mk, tp, cd⟩, ⟨who, x, s, 22, i, o, f, w, q, mk, tp, cd⟩, false) := by
 rw [cq hx]; simp only [aj]
theorem e22 : bx σ ⟨who, x, s, 22, i, o, f, w, q, mk, tp, cd⟩ now = (σ.mem (σ.μ.acc who 1 (9, s, 0)), ⟨who, x, s, 23, i, o, f, w, q, mk, σ.μ.V (9, s, 0), cd⟩, false) := by
 rw [cq hx]; simp only [aj]
theorem e23 : bx σ ⟨who, x, s, 23, i, o, f, w, q, mk, tp, cd⟩ now = ({ σ with μ := σ.μ.acc who 6 (14, (o : Int), 0), nx := fun k => if k = (o : Int) then some tp else σ.nx k }, ⟨who, x, s, 24, i, o, f, w, q, mk, tp, cd⟩, false) := by
 rw [cq hx]; simp only [aj]
theorem e24 (h : σ.μ.V (9, s, 0) = tp) : bx σ ⟨who, x, s, 24, i, o, f, w, q, mk, tp, cd⟩ now = (σ.mem (σ.μ.swp who (9, s, 0) tp (o + 1)), ⟨who, x, s, 25, i, o, f, w, q, mk, tp, cd⟩, false) := by
 rw [cq hx]; simp only [aj]; rw [if_pos h]
theorem e25 : bx σ ⟨who, x, s, 25, i, o, f, w, q, mk, tp, cd⟩ now = (σ.mem (σ.μ.cnt who (3, 0, 0) 1), ⟨who, x, s, 25, i, o, f, w, q, mk, tp, cd⟩, true) := by
 rw [cq hx]; simp only [aj]
end
structure Od (σ σ' : aS) (o : Nat) (x : Cl) : Prop where
 c : σ'.c = σ.c
 w : σ'.μ.V (11, (o : Int), 0) = aL (σ.μ.V (11, (o : Int), 0)) + 1 + 2305843009213693952
 V : ∀ l : cO, l ≠ (11, (o : Int), 0) → l.1 ≠ 3 → l.1 ≠ 9 → l.1 ≠ 15 → σ'.μ.V l = σ.μ.V l
 obs : σ'.obs = σ.obs.modify o fun p => (p.1, p.2.set (aL (σ.μ.V (11, (o : Int), 0)) % (ay σ o).length) ⟨x.flow, x.a, x.b⟩)
theorem KH (σ : aS) (t : Tk) : (sd σ t).μ.V = upd σ.μ.V (15, (t.obj : Int), ((aL t.w % (ay σ t.obj).length : Nat) : Int)) (aL t.w + 1) := rfl
theorem Sh (μ : Mu) (who : Int) (l : cO) (n : Nat) : (μ.cnt who l n).V = upd μ.V l ((μ.V l + n) % 18446744073709551616) := rfl
section
variable {who s : Int} {x : Cl} {σ : aS} {P : aS → Int → Prop}
theorem ajY (hx : x.op = 3) (i o : Nat) (f : Bool) (w q : Nat) (mk : Int) (tp : Nat) (cd now : Int) (k : ∀ σ', σ'.c = σ.c → (∀ l : cO, l.1 ≠ 3 → l.1 ≠ 9 → σ'.μ.V l = σ.μ.V l) → σ'.obs = σ.obs → P σ' cd) :
 kE 4 σ ⟨who, x, s, 22, i, o, f, w, q, mk, tp, cd⟩ now P := by
 refine .step (e22 _ _ _ _ _ _ _ _ _ _ _ _ _ hx) ?_;refine .step (e23 _ _ _ _ _ _ _ _ _ _ _ _ _ hx) ?_;refine .step (e24 _ _ _ _ _ _ _ _ _ _ _ _ _ hx rfl) ?_;refine .last (e25 _ _ _ _ _ _ _ _ _ _ _ _ _ hx) (k _ rfl (fun l a2 a3 => ?_) rfl);refine Eq.trans (congrFun (Sh _ _ _ _) _) (Eq.trans (upd_ne (fun e => a2 (by rw [e]))) ?_);refine Eq.trans (congrFun (pR (μ := (σ.μ.acc who 1 (9, s, 0)).acc who 6 (14, (o : Int), 0)) (l := (9, s, 0)) rfl) _) ?_;exact upd_ne (l := (9, s, 0)) (x := l) (fun e => a3 (by rw [e]))
theorem OQ (hx : x.op = 3) (i o : Nat) (f : Bool) (w q : Nat) (mk : Int) (tp : Nat) (cd now : Int) (hr : cS (σ.μ.V (11, (o : Int), 0)) = true) (h2 : ba (σ.μ.V (11, (o : Int), 0)) ≠ 2) (hc : aL (σ.μ.V (11, (o : Int), 0)) < 2305843009213693951) (hq : σ.μ.V (2, 0, 0) = 0)
 (hf : gq (σ.μ.V (11, (o : Int), 0)) (σ.μ.V (12, (o : Int), 0)) (ay σ o).length = true → ∀ σ', Sm σ σ' → P σ' 9)
 (hn : gq (σ.μ.V (11, (o : Int), 0)) (σ.μ.V (12, (o : Int), 0)) (ay σ o).length = false → ∀ σ', Od σ σ' o x → P σ' 0) :
 kE 11 σ ⟨who, x, s, 6, i, o, f, w, q, mk, tp, cd⟩ now P := by
 refine .step (e6 _ _ _ _ _ _ _ _ _ _ _ _ _ hx) ?_;refine .step (e7 _ _ _ _ _ _ _ _ _ _ _ _ _ hx h2) ?_;obtain ⟨W, hW⟩ : ∃ W, W = σ.μ.V (11, (o : Int), 0) := ⟨_, rfl⟩;have hv : aY W 0 = some (aL W + 1 + 2305843009213693952) := aiF ⟨by rw [hW]; exact hr, by rw [hW]; exact h2, by rw [hW]; exact hc⟩
 cases hfu : gq (σ.μ.V (11, (o : Int), 0)) (σ.μ.V (12, (o : Int), 0)) (ay σ o).length with
 | true =>
  refine .step (e8f _ _ _ _ _ _ _ _ _ _ _ _ _ hx hfu) ?_;refine .step (e15 _ _ _ _ _ _ _ _ _ _ _ _ _ hx (by show ¬ σ.μ.V (2, 0, 0) % 2 = 1; rw [hq]; omega)) ?_;refine .step (e16 _ _ _ _ _ _ _ _ _ _ _ _ _ hx h2) ?_;refine .step (e17 _ _ _ _ _ _ _ _ _ _ _ _ _ hx hfu) ?_;exact .last (e18 _ _ _ _ _ _ _ _ _ _ _ _ _ hx rfl) (hf hfu _ ⟨rfl, rfl, rfl⟩)
 | false =>
  by_cases h1 : ba (σ.μ.V (11, (o : Int), 0)) = 1
  ·refine .step (e8a _ _ _ _ _ _ _ _ _ _ _ _ _ hx hfu h1) ?_
   rw [← hW];refine .step (e9 _ _ _ _ _ _ _ _ _ _ _ _ _ hx hv hW.symm) ?_;refine .step (e10 _ _ _ _ _ _ _ _ _ _ _ _ _ hx) ?_;have sv := pR (μ := ((σ.μ.acc who 5 (13, (o : Int), 0)).acc who 1 (11, (o : Int), 0)).acc who 1 (12, (o : Int), 0)) (who := who) (l := (11, (o : Int), 0)) (was := W) (now := aL W + 1 + 2305843009213693952) hW.symm;refine .last (e11 _ _ _ _ _ _ _ _ _ _ _ _ _ hx) (hn hfu _ ⟨rfl, ?_, fun l a1 a2 a3 a4 => ?_, ?_⟩)
   ·refine Eq.trans (congrFun (KH _ _) _) (Eq.trans (upd_ne ?_) ?_)
    ·simp
    refine Eq.trans (congrFun sv _) ?_;rw [KM, hW]
   ·refine Eq.trans (congrFun (KH _ _) _) (Eq.trans (upd_ne (fun e => a4 (by rw [e]))) ?_)
    refine Eq.trans (congrFun sv _) ?_;exact upd_ne (l := (11, (o : Int), 0)) (x := l) a1
   ·subst hW; rfl
  ·refine .step (e8r _ _ _ _ _ _ _ _ _ _ _ _ _ hx hfu h1) ?_
   rw [← hW];refine .step (e12 _ _ _ _ _ _ _ _ _ _ _ _ _ hx) ?_;refine .step (e13 _ _ _ _ _ _ _ _ _ _ _ _ _ hx hv (Eq.trans (congrFun (Sh _ _ _ _) _) (Eq.trans (upd_ne (by simp)) hW.symm))) ?_;refine .step (e14 _ _ _ _ _ _ _ _ _ _ _ _ _ hx) ?_;refine .step (e21 _ _ _ _ _ _ _ _ _ _ _ _ _ hx) ?_;have sv := pR (μ := (((σ.μ.acc who 5 (13, (o : Int), 0)).acc who 1 (11, (o : Int), 0)).acc who 1 (12, (o : Int), 0)).cnt who (3, 0, 0) 4294967296) (who := who) (l := (11, (o : Int), 0)) (was := W) (now := aL W + 1 + 2305843009213693952) (Eq.trans (congrFun (Sh _ _ _ _) _) (Eq.trans (upd_ne (by simp)) hW.symm));refine ajY hx _ _ _ _ _ _ _ _ _ fun σ' c' V' O' => hn hfu σ' ⟨c', ?_, fun l a1 a2 a3 a4 => ?_, ?_⟩
   ·refine Eq.trans (V' (11, (o : Int), 0) (by simp) (by simp)) ?_
    refine Eq.trans (congrFun (KH _ _) _) (Eq.trans (upd_ne ?_) ?_)
    ·simp
    refine Eq.trans (congrFun sv _) ?_;rw [KM, hW]
   ·refine Eq.trans (V' l a2 a3) ?_
    refine Eq.trans (congrFun (KH _ _) _) (Eq.trans (upd_ne (fun e => a4 (by rw [e]))) ?_);refine Eq.trans (congrFun sv _) (Eq.trans (upd_ne a1) ?_);exact Eq.trans (congrFun (Sh _ _ _ _) _) (upd_ne (fun e => a2 (by rw [e])))
   ·subst hW; exact O'
theorem Od.of_sm {σ1 σ' : aS} {o : Nat} (a : Sm σ σ1) (h : Od σ1 σ' o x) : Od σ σ' o x := by
 obtain ⟨c, V, obs⟩ := a
 have e : ay σ1 o = ay σ o := by unfold ay; rw [obs]
 refine ⟨h.c.trans c, by rw [h.w, V], fun l a1 a2 a3 a4 => by rw [h.V l a1 a2 a3 a4, V], by rw [h.obs, obs, V, e]⟩
theorem DI (p : Nat → Bool) : ∀ N : Nat, (∀ i, i < N → p i = false) ∨ ∃ j, j < N ∧ p j = true ∧ ∀ i, i < j → p i = false := by
 intro N
 induction N with
 | zero => exact .inl fun i h => by omega
 | succ N ih =>
  rcases ih with h | ⟨j, h1, h2, h3⟩
  ·cases e : p N with
   | true => exact .inr ⟨N, by omega, e, h⟩
   | false =>
    refine .inl fun i hi => ?_
    by_cases hN : i = N
    ·rw [hN]; exact e
    ·exact h i (by omega)
  ·exact .inr ⟨j, by omega, h2, h3⟩
abbrev ge (σ : aS) (s flow : Int) (i : Nat) : Bool := gf (σ.μ.V (10, s, (i : Int))) flow
theorem NB (hx : x.op = 3) (n j : Nat) (w q : Nat) (mk : Int) (tp : Nat) (cd : Int) (o : Nat) : ∀ (d i : Nat) (f : Bool) (σ : aS) (now : Int), i + d = j → (j : Int) < σ.c.sl → (∀ i', i ≤ i' → i' < j → ge σ s x.flow i' = false) →
 (∀ σ' now' f', Sm σ σ' → kE n σ' ⟨who, x, s, 2, j, o, f', w, q, mk, tp, cd⟩ now' P) → kE (n + d) σ ⟨who, x, s, 2, i, o, f, w, q, mk, tp, cd⟩ now P := by
 intro d
 induction d with
 | zero =>
  intro i f σ now hi hj hm k
  obtain rfl : i = j := by omega
  exact k σ now f Sm.rfl'
 | succ d ih =>
  intro i f σ now hi hj hm k;refine kE.step (n := n + d) (e2m _ _ _ _ _ _ _ _ _ _ _ _ _ hx (hm i (by omega) (by omega)) (by omega)) ?_;exact ih (i + 1) false _ _ (by omega) hj (fun i' h1 h2 => hm i' (by omega) h2) fun σ' now' f' a => k σ' now' f' (Sm.trans (σ1 := σ.mem (σ.μ.acc who 1 (10, s, (i : Int)))) ⟨rfl, rfl, rfl⟩ a)
theorem ahL (hx : x.op = 3) (n j : Nat) (w q : Nat) (mk : Int) (tp : Nat) (cd : Int) (o : Nat) : ∀ (d i : Nat) (f : Bool) (σ : aS) (now : Int), i + d = j → (j : Int) < σ.c.sl → (∀ i', i ≤ i' → i' < j → ge σ s x.flow i' = false) →
 (∀ σ' now' f', Sm σ σ' → kE n σ' ⟨who, x, s, 4, j, o, f', w, q, mk, tp, cd⟩ now' P) → kE (n + d) σ ⟨who, x, s, 4, i, o, f, w, q, mk, tp, cd⟩ now P := by
 intro d
 induction d with
 | zero =>
  intro i f σ now hi hj hm k
  obtain rfl : i = j := by omega
  exact k σ now f Sm.rfl'
 | succ d ih =>
  intro i f σ now hi hj hm k;refine kE.step (n := n + d) (e4m _ _ _ _ _ _ _ _ _ _ _ _ _ hx (hm i (by omega) (by omega)) (by omega)) ?_;exact ih (i + 1) false _ _ (by omega) hj (fun i' h1 h2 => hm i' (by omega) h2) fun σ' now' f' a => k σ' now' f' (Sm.trans (σ1 := σ.mem (σ.μ.acc who 1 (10, s, (i : Int)))) ⟨rfl, rfl, rfl⟩ a)
abbrev dt (σ : aS) (s : Int) (j : Nat) : Nat := σ.μ.V (10, s, (j : Int)) % 4294967296
theorem aoF (hx : x.op = 3) (now : Int) (hc : cI σ.c = true) (hq : σ.μ.V (2, 0, 0) = 0) (h8 : σ.μ.V (8, s, 0) = 0)
 (hw : ∀ j, j < σ.c.sl.toNat → ge σ s x.flow j = true → cS (σ.μ.V (11, (dt σ s j : Nat), 0)) = true ∧ ba (σ.μ.V (11, (dt σ s j : Nat), 0)) ≠ 2 ∧ aL (σ.μ.V (11, (dt σ s j : Nat), 0)) < 2305843009213693951)
 (hr : ∀ e, dd x = some e → ∀ σ', Sm σ σ' → P σ' e)
 (hm : dd x = none → (∀ i, i < σ.c.sl.toNat → ge σ s x.flow i = false) → ∀ σ', Sm σ σ' → P σ' 5)
 (hf : dd x = none → ∀ j, j < σ.c.sl.toNat → ge σ s x.flow j = true → (∀ i, i < j → ge σ s x.flow i = false) → gq (σ.μ.V (11, (dt σ s j : Nat), 0)) (σ.μ.V (12, (dt σ s j : Nat), 0)) (ay σ (dt σ s j)).length = true → ∀ σ', Sm σ σ' → P σ' 9)
 (hn : dd x = none → ∀ j, j < σ.c.sl.toNat → ge σ s x.flow j = true → (∀ i, i < j → ge σ s x.flow i = false) → gq (σ.μ.V (11, (dt σ s j : Nat), 0)) (σ.μ.V (12, (dt σ s j : Nat), 0)) (ay σ (dt σ s j)).length = false → ∀ σ', Od σ σ' (dt σ s j) x → P σ' 0) :
 kE (σ.c.sl.toNat + 11) σ ⟨who, x, s, 0, 0, 0, false, 0, 0, 0, 0, 0⟩ now P := by
 have hsl := bD.1 hc;obtain ⟨N, hN⟩ : ∃ N, N = σ.c.sl.toNat := ⟨_, rfl⟩;rw [← hN] at hw hm hf hn ⊢
 cases hx2 : dd x with
 | some e => exact .last (e0e _ _ _ _ _ _ _ _ _ _ _ _ _ hx hx2) (hr e hx2 _ ⟨rfl, rfl, rfl⟩)
 | none =>
  refine .congr (e0 _ _ _ _ _ _ _ _ _ _ _ _ _ hx hx2) ?_
  rcases DI (ge σ s x.flow) N with hmiss | ⟨j, hj, hh, hb⟩
  ·refine .mono (n := ((((1 + 1) + (N - 1)) + 1) + 1) + (N - 1)) (by omega) ?_
   refine NB hx _ (N - 1) _ _ _ _ _ _ (N - 1) 0 _ σ now (by omega) (by omega) (fun i' _ h2 => hmiss i' (by omega)) fun σ2 now2 f2 a2 => ?_;obtain ⟨c2, V2, O2⟩ := a2;refine .step (e2l _ _ _ _ _ _ _ _ _ _ _ _ _ hx (by rw [V2]; exact hmiss _ (by omega)) (by rw [c2]; omega)) ?_;refine .step (e3 _ _ _ _ _ _ _ _ _ _ _ _ _ hx (by show σ2.μ.V (8, s, 0) = 0; rw [V2]; exact h8)) ?_
   have sv : ((σ2.μ.acc who 1 (10, s, ((N - 1 : Nat) : Int))).swp who (8, s, 0) 0 1).V = upd σ.μ.V (8, s, 0) 1 := by
    rw [pR (by show σ2.μ.V (8, s, 0) = 0; rw [V2]; exact h8)];show upd σ2.μ.V _ _ = _;rw [V2]
   refine ahL hx _ (N - 1) _ _ _ _ _ _ (N - 1) 0 _ _ _ (by omega) (by show ((N - 1 : Nat) : Int) < σ2.c.sl; rw [c2]; omega) (fun i' _ h2 => ?_) fun σ4 now4 f4 a4 => ?_
   ·show gf (((σ2.μ.acc who 1 (10, s, ((N - 1 : Nat) : Int))).swp who (8, s, 0) 0 1).V (10, s, (i' : Int))) x.flow = false
    rw [sv, upd_ne (by simp)];exact hmiss i' (by omega)
   obtain ⟨c4, V4, O4⟩ := a4;have V4' : σ4.μ.V = upd σ.μ.V (8, s, 0) 1 := V4.trans sv;refine .step (e4l _ _ _ _ _ _ _ _ _ _ _ _ _ hx (by rw [V4', upd_ne (by simp)]; exact hmiss _ (by omega)) (by rw [c4]; show σ2.c.sl ≤ _; rw [c2]; omega)) ?_;refine .last (e5 _ _ _ _ _ _ _ _ _ _ _ _ hx) (hm hx2 hmiss _ ⟨c4.trans c2, ?_, O4.trans O2⟩);show upd σ4.μ.V (8, s, 0) 0 = σ.μ.V;rw [V4'];exact sq h8 1
  ·refine .mono (n := (11 + 1) + j) (by omega) ?_
   refine NB hx _ j _ _ _ _ _ _ j 0 _ σ now (by omega) (by omega) (fun i' _ h2 => hb i' h2) fun σ2 now2 f2 a2 => ?_;obtain ⟨c2, V2, O2⟩ := a2
   have hh2 : gf (σ2.μ.V (10, s, (j : Int))) x.flow = true := by rw [V2]; exact hh
   refine .step (e2h _ _ _ _ _ _ _ _ _ _ _ _ _ hx hh2) ?_;obtain ⟨w1, w2, w3⟩ := hw j hj hh
   have eo : σ2.μ.V (10, s, (j : Int)) % 4294967296 = dt σ s j := by rw [V2]
   have ec : ay σ2 (dt σ s j) = ay σ (dt σ s j) := by unfold ay; rw [O2]
   rw [eo];have am : Sm σ (σ2.mem (σ2.μ.acc who 1 (10, s, (j : Int)))) := ⟨c2, V2, O2⟩
   refine OQ (σ := σ2.mem (σ2.μ.acc who 1 (10, s, (j : Int)))) hx _ _ _ _ _ _ _ _ _ (by show cS (σ2.μ.V _) = true; rw [V2]; exact w1) (by show ba (σ2.μ.V _) ≠ 2; rw [V2]; exact w2) (by show aL (σ2.μ.V _) < _; rw [V2]; exact w3) (by show σ2.μ.V _ = 0; rw [V2]; exact hq) (fun g σ' a => hf hx2 j hj hh hb (by
    have g' : gq (σ2.μ.V (11, (dt σ s j : Nat), 0)) (σ2.μ.V (12, (dt σ s j : Nat), 0)) (ay σ2 (dt σ s j)).length = true := g;rw [ec, V2] at g'
    exact g') σ' (am.trans a)) (fun g σ' a => hn hx2 j hj hh hb (by
    have g' : gq (σ2.μ.V (11, (dt σ s j : Nat), 0)) (σ2.μ.V (12, (dt σ s j : Nat), 0)) (ay σ2 (dt σ s j)).length = false := g;rw [ec, V2] at g'
    exact g') σ' (Od.of_sm am a))
end
section
variable (who s : Int) (x : Cl) (i o : Nat) (f : Bool) (w q : Nat) (mk : Int) (tp : Nat) (cd : Int) (σ : aS) (now : Int) (hx : ¬ x.op = 3)
include hx
theorem r0e {e : Int} (h : jN x = some e) : bx σ ⟨who, x, s, 0, i, o, f, w, q, mk, tp, cd⟩ now = (σ.note now who e, ⟨who, x, s, 0, i, o, f, w, q, mk, tp, e⟩, true) := by
 rw [dV hx]; simp only [ax, h]
theorem r0 (h : jN x = none) (h0 : σ.μ.V (8, s, 0) = 0) : bx σ ⟨who, x, s, 0, i, o, f, w, q, mk, tp, cd⟩ now = (σ.mem (σ.μ.swp who (8, s, 0) 0 1), ⟨who, x, s, 3, i, o, f, w, q, mk, tp, cd⟩, false) := by
 rw [dV hx]; simp only [ax, h, fm]; rw [if_pos h0]
def Eg (σ : aS) (s : Int) (i : Nat) (mk : Int) : Int := if σ.μ.V (10, s, (i : Int)) = 0 ∧ mk < 0 then (i : Int) else mk
theorem r3m (h : gf (σ.μ.V (10, s, (i : Int))) x.flow = false) (hl : ((i + 1 : Nat) : Int) < σ.c.sl) : bx σ ⟨who, x, s, 3, i, o, f, w, q, mk, tp, cd⟩ now = (σ.mem (σ.μ.acc who 1 (10, s, (i : Int))), ⟨who, x, s, 3, i + 1, o, false, w, q, Eg σ s i mk, tp, cd⟩, false) := by
 have e : bO σ ⟨who, x, s, 3, i + 1, o, false, w, q, Eg σ s i mk, tp, cd⟩ = false := d6 (by show ¬ σ.c.sl ≤ ((i + 1 : Nat) : Int); omega);rw [dV hx]; simp only [ax, aC, h];show (if bO σ ⟨who, x, s, 3, i + 1, o, false, w, q, Eg σ s i mk, tp, cd⟩ = true then _ else (aW σ _, (⟨who, x, s, 3, i + 1, o, false, w, q, Eg σ s i mk, tp, cd⟩ : Tk), false)) = _;rw [e]; rfl
theorem r3h (h : gf (σ.μ.V (10, s, (i : Int))) x.flow = true) (ho : x.op = 1) : bx σ ⟨who, x, s, 3, i, o, f, w, q, mk, tp, cd⟩ now = ((σ.mem (σ.μ.acc who 1 (10, s, (i : Int)))).note now who 6, ⟨who, x, s, 6, i, σ.μ.V (10, s, (i : Int)) % 4294967296, true, w, q, Eg σ s i mk, tp, 6⟩, false) := by
 rw [dV hx]; simp only [ax, aC, h];rw [if_pos ho]; rfl
theorem c3h (h : gf (σ.μ.V (10, s, (i : Int))) x.flow = true) (ho : ¬ x.op = 1) : bx σ ⟨who, x, s, 3, i, o, f, w, q, mk, tp, cd⟩ now = (σ.mem (σ.μ.acc who 1 (10, s, (i : Int))), ⟨who, x, s, 4, i, σ.μ.V (10, s, (i : Int)) % 4294967296, true, w, q, Eg σ s i mk, tp, cd⟩, false) := by
 rw [dV hx]; simp only [ax, aC, h];rw [if_neg ho]; rfl
theorem r3n (h : gf (σ.μ.V (10, s, (i : Int))) x.flow = false) (hl : σ.c.sl ≤ ((i + 1 : Nat) : Int)) (ho : x.op = 1) (hk : Eg σ s i mk < 0) : bx σ ⟨who, x, s, 3, i, o, f, w, q, mk, tp, cd⟩ now = ((σ.mem (σ.μ.acc who 1 (10, s, (i : Int)))).note now who 7, ⟨who, x, s, 6, i + 1, o, false, w, q, Eg σ s i mk, tp, 7⟩, false) := by
 have e : bO σ ⟨who, x, s, 3, i + 1, o, false, w, q, Eg σ s i mk, tp, cd⟩ = true := d4 hl;rw [dV hx]; simp only [ax, aC, h];show (if bO σ ⟨who, x, s, 3, i + 1, o, false, w, q, Eg σ s i mk, tp, cd⟩ = true then (if x.op = 1 then (if Eg σ s i mk < 0 then _ else _) else _) else _) = _;rw [if_pos e, if_pos ho, if_pos hk]; rfl
theorem r3f (h : gf (σ.μ.V (10, s, (i : Int))) x.flow = false) (hl : σ.c.sl ≤ ((i + 1 : Nat) : Int)) (ho : x.op = 1) (hk : ¬ Eg σ s i mk < 0) : bx σ ⟨who, x, s, 3, i, o, f, w, q, mk, tp, cd⟩ now = (σ.mem (σ.μ.acc who 1 (10, s, (i : Int))), ⟨who, x, s, 4, i + 1, o, false, w, q, Eg σ s i mk, tp, cd⟩, false) := by
 have e : bO σ ⟨who, x, s, 3, i + 1, o, false, w, q, Eg σ s i mk, tp, cd⟩ = true := d4 hl;rw [dV hx]; simp only [ax, aC, h];show (if bO σ ⟨who, x, s, 3, i + 1, o, false, w, q, Eg σ s i mk, tp, cd⟩ = true then (if x.op = 1 then (if Eg σ s i mk < 0 then _ else _) else _) else _) = _;rw [if_pos e, if_pos ho, if_neg hk]; rfl
theorem c3n (h : gf (σ.μ.V (10, s, (i : Int))) x.flow = false) (hl : σ.c.sl ≤ ((i + 1 : Nat) : Int)) (ho : ¬ x.op = 1) : bx σ ⟨who, x, s, 3, i, o, f, w, q, mk, tp, cd⟩ now = ((σ.mem (σ.μ.acc who 1 (10, s, (i : Int)))).note now who 5, ⟨who, x, s, 10, i + 1, o, false, w, q, Eg σ s i mk, tp, 5⟩, false) := by
 have e : bO σ ⟨who, x, s, 3, i + 1, o, false, w, q, Eg σ s i mk, tp, cd⟩ = true := d4 hl;rw [dV hx]; simp only [ax, aC, h];show (if bO σ ⟨who, x, s, 3, i + 1, o, false, w, q, Eg σ s i mk, tp, cd⟩ = true then (if x.op = 1 then _ else _) else _) = _;rw [if_pos e, if_neg ho]; rfl
theorem r4 (ho : x.op = 1) : bx σ ⟨who, x, s, 4, i, o, f, w, q, mk, tp, cd⟩ now = (σ.make who ⟨x.flow, x.b, max (σ.c.un / x.a.toNat) 1⟩, ⟨who, x, s, 5, i, σ.obs.length, f, w, q, mk, tp, cd⟩, false) := by
 rw [dV hx]; simp only [ax]; rw [if_pos ho]; simp only [wX]
theorem r5 (ho : x.op = 1) : bx σ ⟨who, x, s, 5, i, o, f, w, q, mk, tp, cd⟩ now = ((σ.mem ((σ.μ.acc who 2 (10, s, mk)).put (10, s, mk) (dk x.flow o))).note now who 0, ⟨who, x, s, 6, i, o, f, w, q, mk, tp, 0⟩, false) := by
 rw [dV hx]; simp only [ax]; rw [if_pos ho]; simp only [wX]
theorem r6 (ho : x.op = 1) : bx σ ⟨who, x, s, 6, i, o, f, w, q, mk, tp, cd⟩ now = (σ.mem ((σ.μ.acc who 2 (8, s, 0)).put (8, s, 0) 0), ⟨who, x, s, 6, i, o, f, w, q, mk, tp, cd⟩, true) := by
 rw [dV hx]; simp only [ax]; rw [if_pos ho]; simp only [wX]
theorem c4s (ho : ¬ x.op = 1) (h : ba (σ.μ.V (11, (o : Int), 0)) = 0) : bx σ ⟨who, x, s, 4, i, o, f, w, q, mk, tp, cd⟩ now = (σ.mem (σ.μ.acc who 1 (11, (o : Int), 0)), ⟨who, x, s, 8, i, o, f, σ.μ.V (11, (o : Int), 0), q, mk, tp, cd⟩, false) := by
 rw [dV hx]; simp only [ax]; rw [if_neg ho]; simp only [ei]; rw [if_pos h]
theorem c4b (ho : ¬ x.op = 1) (h : ¬ ba (σ.μ.V (11, (o : Int), 0)) = 0) : bx σ ⟨who, x, s, 4, i, o, f, w, q, mk, tp, cd⟩ now = (σ.mem (σ.μ.acc who 1 (11, (o : Int), 0)), ⟨who, x, s, 5, i, o, f, σ.μ.V (11, (o : Int), 0), q, mk, tp, cd⟩, false) := by
 rw [dV hx]; simp only [ax]; rw [if_neg ho]; simp only [ei]; rw [if_neg h]
theorem c5 (ho : ¬ x.op = 1) (h : ¬ σ.μ.V (2, 0, 0) % 2 = 1) : bx σ ⟨who, x, s, 5, i, o, f, w, q, mk, tp, cd⟩ now = (σ.mem (σ.μ.acc who 1 (2, 0, 0)), ⟨who, x, s, 6, i, o, f, w, σ.μ.V (2, 0, 0), mk, tp, cd⟩, false) := by
 rw [dV hx]; simp only [ax]; rw [if_neg ho]; simp only [ei]; rw [if_neg h]
theorem c6 (ho : ¬ x.op = 1) (h : ¬ ba (σ.μ.V (11, (o : Int), 0)) = 0) : bx σ ⟨who, x, s, 6, i, o, f, w, q, mk, tp, cd⟩ now = (σ.mem (σ.μ.acc who 1 (11, (o : Int), 0)), ⟨who, x, s, 7, i, o, f, σ.μ.V (11, (o : Int), 0), q, now, tp, cd⟩, false) := by
 rw [dV hx]; simp only [ax]; rw [if_neg ho]; simp only [ei]; rw [if_neg h]
theorem c7 (ho : ¬ x.op = 1) (h : σ.μ.V (2, 0, 0) = q) : bx σ ⟨who, x, s, 7, i, o, f, w, q, mk, tp, cd⟩ now = ((σ.mem (σ.μ.acc who 1 (2, 0, 0))).note mk who 8, ⟨who, x, s, 10, i, o, f, w, q, mk, tp, 8⟩, false) := by
 rw [dV hx]; simp only [ax]; rw [if_neg ho]; simp only [ei]; rw [if_pos h]
theorem c8 (ho : ¬ x.op = 1) {v : Nat} (hn : aY w 2 = some v) (hw : σ.μ.V (11, (o : Int), 0) = w) : bx σ ⟨who, x, s, 8, i, o, f, w, q, mk, tp, cd⟩ now = ((σ.mem (σ.μ.swp who (11, (o : Int), 0) w v)).note now who 0, ⟨who, x, s, 9, i, o, f, w, q, mk, tp, 0⟩, false) := by
 have tu : fi σ.μ o w (aY w 2) = true := by
  rw [hn]; show (true && decide (σ.μ.V (11, (o : Int), 0) = w)) = true; rw [d4 hw]; rfl
 rw [dV hx]; simp only [ax]; rw [if_neg ho]; simp only [ei]; rw [if_pos tu, hn]
theorem c9 (ho : ¬ x.op = 1) : bx σ ⟨who, x, s, 9, i, o, f, w, q, mk, tp, cd⟩ now = (σ.mem ((σ.μ.acc who 2 (10, s, (i : Int))).put (10, s, (i : Int)) 0), ⟨who, x, s, 10, i, o, f, w, q, mk, tp, cd⟩, false) := by
 rw [dV hx]; simp only [ax]; rw [if_neg ho]; simp only [ei]
theorem c10 (ho : ¬ x.op = 1) : bx σ ⟨who, x, s, 10, i, o, f, w, q, mk, tp, cd⟩ now = (σ.mem ((σ.μ.acc who 2 (8, s, 0)).put (8, s, 0) 0), ⟨who, x, s, 10, i, o, f, w, q, mk, tp, cd⟩, true) := by
 rw [dV hx]; simp only [ax]; rw [if_neg ho]; simp only [ei]
end
def MkI (V : cO → Nat) (s : Int) (i : Nat) (mk : Int) : Prop := mk < 0 ∧ (∀ i', i' < i → V (10, s, ((i' : Nat) : Int)) ≠ 0) ∨ ∃ m : Nat, m < i ∧ mk = (m : Int) ∧ V (10, s, (m : Int)) = 0 ∧ ∀ i', i' < m → V (10, s, ((i' : Nat) : Int)) ≠ 0
theorem MkI.next {σ : aS} {s : Int} {i : Nat} {mk : Int} (h : MkI σ.μ.V s i mk) : MkI σ.μ.V s (i + 1) (Eg σ s i mk) := by
 unfold Eg
 rcases h with ⟨h1, h2⟩ | ⟨m, h1, h2, h3, h4⟩
 ·by_cases h0 : σ.μ.V (10, s, (i : Int)) = 0
  ·rw [if_pos ⟨h0, h1⟩]
   exact .inr ⟨i, by omega, rfl, h0, h2⟩
  ·rw [if_neg (fun h => h0 h.1)]
   refine .inl ⟨h1, fun i' hi => ?_⟩
   by_cases e : i' = i
   ·rw [e]; exact h0
   ·exact h2 i' (by omega)
 ·rw [if_neg (by omega)]
  exact .inr ⟨m, by omega, h2, h3, h4⟩
section
variable {who s : Int} {x : Cl} {σ : aS} {P : aS → Int → Prop}
theorem xg (hx : ¬ x.op = 3) (n j : Nat) (w q : Nat) (tp : Nat) (cd : Int) (o : Nat) : ∀ (d i : Nat) (f : Bool) (mk : Int) (σ : aS) (now : Int), i + d = j → (j : Int) < σ.c.sl → (∀ i', i ≤ i' → i' < j → ge σ s x.flow i' = false) → MkI σ.μ.V s i mk →
 (∀ σ' now' f' mk', Sm σ σ' → MkI σ'.μ.V s j mk' → kE n σ' ⟨who, x, s, 3, j, o, f', w, q, mk', tp, cd⟩ now' P) → kE (n + d) σ ⟨who, x, s, 3, i, o, f, w, q, mk, tp, cd⟩ now P := by
 intro d
 induction d with
 | zero =>
  intro i f mk σ now hi hj hm hk k
  obtain rfl : i = j := by omega
  exact k σ now f mk Sm.rfl' hk
 | succ d ih =>
  intro i f mk σ now hi hj hm hk k;refine kE.step (n := n + d) (r3m _ _ _ _ _ _ _ _ _ _ _ _ _ hx (hm i (by omega) (by omega)) (by omega)) ?_;exact ih (i + 1) false _ _ _ (by omega) hj (fun i' h1 h2 => hm i' (by omega) h2) hk.next fun σ' now' f' mk' a => k σ' now' f' mk' (Sm.trans (σ1 := σ.mem (σ.μ.acc who 1 (10, s, (i : Int)))) ⟨rfl, rfl, rfl⟩ a)
structure Newly (σ σ' : aS) (s : Int) (m : Nat) (x : Cl) : Prop where
 c : σ'.c = σ.c
 V : σ'.μ.V = upd σ.μ.V (10, s, (m : Int)) (dk x.flow σ.obs.length)
 obs : σ'.obs = σ.obs ++ [((⟨x.flow, x.b, max (σ.c.un / x.a.toNat) 1⟩ : Ob), List.replicate (dS x.b) G8)]
theorem aiD {V : cO → Nat} {s : Int} {l : cO} {v : Nat} (h8 : V (8, s, 0) = 0) (hl : l ≠ (8, s, 0)) : upd (upd (upd V (8, s, 0) 1) l v) (8, s, 0) 0 = upd V l v := by
 funext z
 show (if z = (8, s, 0) then 0 else if z = l then v else if z = (8, s, 0) then 1 else V z) = if z = l then v else V z
 by_cases e : z = (8, s, 0)
 ·rw [if_pos e, if_neg (fun h => hl (h.symm.trans e)), e, h8]
 ·rw [if_neg e, if_neg e]
theorem aoG (hx : x.op = 1) (now : Int) (hc : cI σ.c = true) (h8 : σ.μ.V (8, s, 0) = 0)
 (hr : ∀ e, jN x = some e → ∀ σ', Sm σ σ' → P σ' e)
 (hh : jN x = none → ∀ j, j < σ.c.sl.toNat → ge σ s x.flow j = true → (∀ i, i < j → ge σ s x.flow i = false) → ∀ σ', Sm σ σ' → P σ' 6)
 (hf : jN x = none → (∀ i, i < σ.c.sl.toNat → ge σ s x.flow i = false) → (∀ i, i < σ.c.sl.toNat → σ.μ.V (10, s, ((i : Nat) : Int)) ≠ 0) → ∀ σ', Sm σ σ' → P σ' 7)
 (hn : jN x = none → (∀ i, i < σ.c.sl.toNat → ge σ s x.flow i = false) → ∀ m, m < σ.c.sl.toNat → σ.μ.V (10, s, ((m : Nat) : Int)) = 0 → (∀ i, i < m → σ.μ.V (10, s, ((i : Nat) : Int)) ≠ 0) → ∀ σ', Newly σ σ' s m x → P σ' 0) :
 kE (σ.c.sl.toNat + 11) σ ⟨who, x, s, 0, 0, 0, false, 0, 0, -1, 0, 0⟩ now P := by
 have hsl := bD.1 hc
 have hx3 : ¬ x.op = 3 := by omega
 obtain ⟨N, hN⟩ : ∃ N, N = σ.c.sl.toNat := ⟨_, rfl⟩;rw [← hN] at hh hf hn ⊢
 cases hx2 : jN x with
 | some e => exact .last (r0e _ _ _ _ _ _ _ _ _ _ _ _ _ hx3 hx2) (hr e hx2 _ ⟨rfl, rfl, rfl⟩)
 | none =>
  have sv : (σ.μ.swp who (8, s, 0) 0 1).V = upd σ.μ.V (8, s, 0) 1 := pR h8
  have hl : ∀ j : Nat, ge (σ.mem (σ.μ.swp who (8, s, 0) 0 1)) s x.flow j = ge σ s x.flow j := fun j => by
   show gf ((σ.μ.swp who (8, s, 0) 0 1).V (10, s, (j : Int))) x.flow = _;rw [sv, upd_ne (by simp)]
  have mk0 : MkI (σ.mem (σ.μ.swp who (8, s, 0) 0 1)).μ.V s 0 (-1) := .inl ⟨by omega, fun i' h => by omega⟩
  rcases DI (ge σ s x.flow) N with hmiss | ⟨j, hj, hjh, hb⟩
  ·refine .mono (n := (((1 + 1 + 1) + 1) + (N - 1)) + 1) (by omega) ?_
   refine .step (r0 _ _ _ _ _ _ _ _ _ _ _ _ _ hx3 hx2 h8) ?_;refine xg hx3 _ (N - 1) _ _ _ _ _ (N - 1) 0 _ _ _ _ (by omega) (by show ((N - 1 : Nat) : Int) < σ.c.sl; omega) (fun i' _ h2 => by rw [hl]; exact hmiss i' (by omega)) mk0 fun σ2 now2 f2 mk2 a2 k2 => ?_;obtain ⟨c2, V2, O2⟩ := a2;have V2' : σ2.μ.V = upd σ.μ.V (8, s, 0) 1 := V2.trans sv
   have hm2 : gf (σ2.μ.V (10, s, ((N - 1 : Nat) : Int))) x.flow = false := by rw [V2', upd_ne (by simp)]; exact hmiss _ (by omega)
   have cl : σ2.c = σ.c := c2
   have hlast : σ2.c.sl ≤ ((N - 1 + 1 : Nat) : Int) := by rw [cl]; omega
   have k3 := k2.next;rw [show N - 1 + 1 = N from by omega] at k3
   have ve : ∀ i : Nat, σ2.μ.V (10, s, (i : Int)) = σ.μ.V (10, s, (i : Int)) := fun i => by rw [V2']; exact upd_ne (by simp)
   by_cases hk : Eg σ2 s (N - 1) mk2 < 0
   ·refine .step (r3n _ _ _ _ _ _ _ _ _ _ _ _ _ hx3 hm2 hlast hx hk) ?_
    refine .last (r6 _ _ _ _ _ _ _ _ _ _ _ _ _ hx3 hx) (hf hx2 hmiss (fun i hi => ?_) _ ⟨cl, ?_, O2⟩)
    ·rcases k3 with ⟨_, k4⟩ | ⟨m, _, k4, _⟩
     ·rw [← ve]; exact k4 i hi
     ·omega
    ·show upd σ2.μ.V (8, s, 0) 0 = σ.μ.V
     rw [V2'];exact sq h8 1
   ·refine .step (r3f _ _ _ _ _ _ _ _ _ _ _ _ _ hx3 hm2 hlast hx hk) ?_
    refine .step (r4 _ _ _ _ _ _ _ _ _ _ _ _ _ hx3 hx) ?_;refine .step (r5 _ _ _ _ _ _ _ _ _ _ _ _ _ hx3 hx) ?_
    rcases k3 with ⟨k4, _⟩ | ⟨m, k5, k4, k6, k7⟩
    ·exact absurd k4 hk
    have O2' : σ2.obs = σ.obs := O2;refine .last (r6 _ _ _ _ _ _ _ _ _ _ _ _ _ hx3 hx) (hn hx2 hmiss m k5 (by rw [← ve]; exact k6) (fun i hi => by rw [← ve]; exact k7 i hi) _ ⟨cl, ?_, ?_⟩)
    ·show upd (upd σ2.μ.V (10, s, Eg σ2 s (N - 1) mk2) (dk x.flow σ2.obs.length)) (8, s, 0) 0 = _
     rw [V2', k4, O2'];exact aiD h8 (by simp)
    ·show σ2.obs ++ [((⟨x.flow, x.b, max (σ2.c.un / x.a.toNat) 1⟩ : Ob), List.replicate (dS x.b) G8)] = _
     rw [O2', cl]
  ·refine .mono (n := ((1 + 1) + j) + 1) (by omega) ?_
   refine .step (r0 _ _ _ _ _ _ _ _ _ _ _ _ _ hx3 hx2 h8) ?_;refine xg hx3 _ j _ _ _ _ _ j 0 _ _ _ _ (by omega) (by show (j : Int) < σ.c.sl; omega) (fun i' _ h2 => by rw [hl]; exact hb i' h2) mk0 fun σ2 now2 f2 mk2 a2 k2 => ?_;obtain ⟨c2, V2, O2⟩ := a2;have V2' : σ2.μ.V = upd σ.μ.V (8, s, 0) 1 := V2.trans sv
   have hm2 : gf (σ2.μ.V (10, s, (j : Int))) x.flow = true := by rw [V2', upd_ne (by simp)]; exact hjh
   refine .step (r3h _ _ _ _ _ _ _ _ _ _ _ _ _ hx3 hm2 hx) ?_;refine .last (r6 _ _ _ _ _ _ _ _ _ _ _ _ _ hx3 hx) (hh hx2 j hj hjh hb _ ⟨c2, ?_, O2⟩);show upd σ2.μ.V (8, s, 0) 0 = σ.μ.V;rw [V2'];exact sq h8 1
structure Closed (σ σ' : aS) (s : Int) (j : Nat) : Prop where
 c : σ'.c = σ.c
 V : σ'.μ.V = upd (upd σ.μ.V (11, ((dt σ s j : Nat) : Int), 0) (aL (σ.μ.V (11, ((dt σ s j : Nat) : Int), 0)) + 4611686018427387904)) (10, s, (j : Int)) 0
 obs : σ'.obs = σ.obs
theorem Zt {V : cO → Nat} {s : Int} {l l2 : cO} {v v2 : Nat} (h8 : V (8, s, 0) = 0) (hl : l ≠ (8, s, 0)) (hl2 : l2 ≠ (8, s, 0)) : upd (upd (upd (upd V (8, s, 0) 1) l v) l2 v2) (8, s, 0) 0 = upd (upd V l v) l2 v2 := by
 funext z
 show (if z = (8, s, 0) then 0 else if z = l2 then v2 else if z = l then v else if z = (8, s, 0) then 1 else V z) = if z = l2 then v2 else if z = l then v else V z
 by_cases e : z = (8, s, 0)
 ·rw [if_pos e, if_neg (fun h => hl2 (h.symm.trans e)), if_neg (fun h => hl (h.symm.trans e)), e, h8]
 ·rw [if_neg e, if_neg e]
theorem aoE (hx : ¬ x.op = 3) (hx1 : ¬ x.op = 1) (now : Int) (hc : cI σ.c = true) (hq : σ.μ.V (2, 0, 0) = 0) (h8 : σ.μ.V (8, s, 0) = 0)
 (hr : ∀ e, jN x = some e → ∀ σ', Sm σ σ' → P σ' e)
 (hm : jN x = none → (∀ i, i < σ.c.sl.toNat → ge σ s x.flow i = false) → ∀ σ', Sm σ σ' → P σ' 5)
 (hb : jN x = none → ∀ j, j < σ.c.sl.toNat → ge σ s x.flow j = true → (∀ i, i < j → ge σ s x.flow i = false) → ¬ ba (σ.μ.V (11, (dt σ s j : Nat), 0)) = 0 → ∀ σ', Sm σ σ' → P σ' 8)
 (hn : jN x = none → ∀ j, j < σ.c.sl.toNat → ge σ s x.flow j = true → (∀ i, i < j → ge σ s x.flow i = false) → ba (σ.μ.V (11, (dt σ s j : Nat), 0)) = 0 → ∀ σ', Closed σ σ' s j → P σ' 0) :
 kE (σ.c.sl.toNat + 11) σ ⟨who, x, s, 0, 0, 0, false, 0, 0, -1, 0, 0⟩ now P := by
 have hsl := bD.1 hc;obtain ⟨N, hN⟩ : ∃ N, N = σ.c.sl.toNat := ⟨_, rfl⟩;rw [← hN] at hm hb hn ⊢
 cases hx2 : jN x with
 | some e => exact .last (r0e _ _ _ _ _ _ _ _ _ _ _ _ _ hx hx2) (hr e hx2 _ ⟨rfl, rfl, rfl⟩)
 | none =>
  have sv : (σ.μ.swp who (8, s, 0) 0 1).V = upd σ.μ.V (8, s, 0) 1 := pR h8
  have hl : ∀ j : Nat, ge (σ.mem (σ.μ.swp who (8, s, 0) 0 1)) s x.flow j = ge σ s x.flow j := fun j => by
   show gf ((σ.μ.swp who (8, s, 0) 0 1).V (10, s, (j : Int))) x.flow = _;rw [sv, upd_ne (by simp)]
  have mk0 : MkI (σ.mem (σ.μ.swp who (8, s, 0) 0 1)).μ.V s 0 (-1) := .inl ⟨by omega, fun i' h => by omega⟩
  rcases DI (ge σ s x.flow) N with hmiss | ⟨j, hj, hjh, hbf⟩
  ·refine .mono (n := ((1 + 1) + (N - 1)) + 1) (by omega) ?_
   refine .step (r0 _ _ _ _ _ _ _ _ _ _ _ _ _ hx hx2 h8) ?_;refine xg hx _ (N - 1) _ _ _ _ _ (N - 1) 0 _ _ _ _ (by omega) (by show ((N - 1 : Nat) : Int) < σ.c.sl; omega) (fun i' _ h2 => by rw [hl]; exact hmiss i' (by omega)) mk0 fun σ2 now2 f2 mk2 a2 k2 => ?_;obtain ⟨c2, V2, O2⟩ := a2;have V2' : σ2.μ.V = upd σ.μ.V (8, s, 0) 1 := V2.trans sv
   have hm2 : gf (σ2.μ.V (10, s, ((N - 1 : Nat) : Int))) x.flow = false := by rw [V2', upd_ne (by simp)]; exact hmiss _ (by omega)
   have cl : σ2.c = σ.c := c2;refine .step (c3n _ _ _ _ _ _ _ _ _ _ _ _ _ hx hm2 (by rw [cl]; omega) hx1) ?_;refine .last (c10 _ _ _ _ _ _ _ _ _ _ _ _ _ hx hx1) (hm hx2 hmiss _ ⟨cl, ?_, O2⟩);show upd σ2.μ.V (8, s, 0) 0 = σ.μ.V;rw [V2'];exact sq h8 1
  ·refine .mono (n := (((((1 + 1) + 1) + 1) + 1) + 1 + j) + 1) (by omega) ?_
   refine .step (r0 _ _ _ _ _ _ _ _ _ _ _ _ _ hx hx2 h8) ?_;refine xg hx _ j _ _ _ _ _ j 0 _ _ _ _ (by omega) (by show (j : Int) < σ.c.sl; omega) (fun i' _ h2 => by rw [hl]; exact hbf i' h2) mk0 fun σ2 now2 f2 mk2 a2 k2 => ?_;obtain ⟨c2, V2, O2⟩ := a2;have V2' : σ2.μ.V = upd σ.μ.V (8, s, 0) 1 := V2.trans sv
   have ev : σ2.μ.V (10, s, (j : Int)) = σ.μ.V (10, s, (j : Int)) := by rw [V2', upd_ne (by simp)]
   have hm2 : gf (σ2.μ.V (10, s, (j : Int))) x.flow = true := by rw [ev]; exact hjh
   refine .step (c3h _ _ _ _ _ _ _ _ _ _ _ _ _ hx hm2 hx1) ?_;rw [show σ2.μ.V (10, s, (j : Int)) % 4294967296 = dt σ s j from by rw [ev]]
   have ew : σ2.μ.V (11, ((dt σ s j : Nat) : Int), 0) = σ.μ.V (11, ((dt σ s j : Nat) : Int), 0) := by rw [V2', upd_ne (by simp)]
   by_cases hs0 : ba (σ.μ.V (11, (dt σ s j : Nat), 0)) = 0
   ·refine .step (c4s _ _ _ _ _ _ _ _ _ _ _ _ _ hx hx1 (by show ba (σ2.μ.V _) = 0; rw [ew]; exact hs0)) ?_
    obtain ⟨W, hW⟩ : ∃ W, W = σ.μ.V (11, ((dt σ s j : Nat) : Int), 0) := ⟨_, rfl⟩;have hv : aY W 2 = some (aL W + 4611686018427387904) := aiG (by rw [hW]; exact hs0);have eW : σ2.μ.V (11, ((dt σ s j : Nat) : Int), 0) = W := ew.trans hW.symm;rw [show (σ2.mem (σ2.μ.acc who 1 (10, s, (j : Int)))).μ.V (11, ((dt σ s j : Nat) : Int), 0) = W from eW];refine .step (c8 _ _ _ _ _ _ _ _ _ _ _ _ _ hx hx1 hv eW) ?_;refine .step (c9 _ _ _ _ _ _ _ _ _ _ _ _ _ hx hx1) ?_;have sv2 := pR (μ := (σ2.μ.acc who 1 (10, s, (j : Int))).acc who 1 (11, ((dt σ s j : Nat) : Int), 0)) (who := who) (l := (11, ((dt σ s j : Nat) : Int), 0)) (was := W) (now := aL W + 4611686018427387904) eW;refine .last (c10 _ _ _ _ _ _ _ _ _ _ _ _ _ hx hx1) (hn hx2 j hj hjh hbf hs0 _ ⟨c2, ?_, O2⟩);show upd (upd (((σ2.μ.acc who 1 (10, s, (j : Int))).acc who 1 (11, ((dt σ s j : Nat) : Int), 0)).swp who (11, ((dt σ s j : Nat) : Int), 0) W (aL W + 4611686018427387904)).V (10, s, (j : Int)) 0) (8, s, 0) 0 = _;rw [sv2];show upd (upd (upd σ2.μ.V _ _) _ _) _ _ = _;rw [V2', Zt h8 (by simp) (by simp), hW]
   ·refine .step (c4b _ _ _ _ _ _ _ _ _ _ _ _ _ hx hx1 (by show ¬ ba (σ2.μ.V _) = 0; rw [ew]; exact hs0)) ?_
    have eq0 : σ2.μ.V (2, 0, 0) = 0 := by rw [V2', upd_ne (by simp)]; exact hq
    refine .step (c5 _ _ _ _ _ _ _ _ _ _ _ _ _ hx hx1 (by show ¬ σ2.μ.V (2, 0, 0) % 2 = 1; rw [eq0]; omega)) ?_;refine .step (c6 _ _ _ _ _ _ _ _ _ _ _ _ _ hx hx1 (by show ¬ ba (σ2.μ.V _) = 0; rw [ew]; exact hs0)) ?_;refine .step (c7 _ _ _ _ _ _ _ _ _ _ _ _ _ hx hx1 rfl) ?_;refine .last (c10 _ _ _ _ _ _ _ _ _ _ _ _ _ hx hx1) (hb hx2 j hj hjh hbf hs0 _ ⟨c2, ?_, O2⟩);show upd σ2.μ.V (8, s, 0) 0 = σ.μ.V;rw [V2'];exact sq h8 1
end
structure QS (σ : aS) (k : Nat) : Prop where
 seq : σ.μ.V (2, 0, 0) = 0
 mx : ∀ s : Int, σ.μ.V (8, s, 0) = 0
 word : ∀ s i : Int, σ.μ.V (10, s, i) ≠ 0 → cS (σ.μ.V (11, ((σ.μ.V (10, s, i) % 4294967296 : Nat) : Int), 0)) = true ∧ ba (σ.μ.V (11, ((σ.μ.V (10, s, i) % 4294967296 : Nat) : Int), 0)) ≠ 2 ∧ aL (σ.μ.V (11, ((σ.μ.V (10, s, i) % 4294967296 : Nat) : Int), 0)) ≤ k
 uniq : ∀ s i s' i' : Int, σ.μ.V (10, s, i) ≠ 0 → σ.μ.V (10, s', i') ≠ 0 → σ.μ.V (10, s, i) % 4294967296 = σ.μ.V (10, s', i') % 4294967296 → s = s' ∧ i = i'
 fresh : ∀ o : Nat, σ.obs.length ≤ o → σ.μ.V (11, (o : Int), 0) = 0
section
variable {σ σ' : aS} {k : Nat}
theorem QS.mono {k' : Nat} (h : QS σ k) (hk : k ≤ k') : QS σ k' := ⟨h.seq, h.mx, fun s i hv => ⟨(h.word s i hv).1, (h.word s i hv).2.1, fT (h.word s i hv).2.2 hk⟩, h.uniq, h.fresh⟩
theorem QS.sm (h : QS σ k) (a : Sm σ σ') : QS σ' k := by
 obtain ⟨c, V, O⟩ := a;refine ⟨by rw [V]; exact h.seq, fun s => by rw [V]; exact h.mx s, fun s i => by rw [V]; exact h.word s i, fun s i s' i' => by rw [V]; exact h.uniq s i s' i', fun o ho => by rw [V]; rw [O] at ho; exact h.fresh o ho⟩
theorem QS.begin (h : QS σ k) (who place : Int) : QS (σ.begin who place) k := ⟨h.seq, h.mx, h.word, h.uniq, h.fresh⟩
theorem JK {k : Int} {a b : Nat} (h : ((k, (a : Int), (0 : Int)) : cO) = (k, (b : Int), 0)) : a = b := by
 have h2 : (a : Int) = (b : Int) := congrArg (fun l : cO => l.2.1) h;omega
theorem al5 (op : Int) (e xb : Nat) : (tkV op e xb).all Value.oneCell' = true := by
 by_cases ho : op = 3
 ·rw [ah5 ho]; rfl
 ·rw [ah6 ho]; rfl
theorem aiQ {n : Nat} (hn : n < 2305843009213693951) : cS (n + 1 + 2305843009213693952) = true ∧ ba (n + 1 + 2305843009213693952) ≠ 2 ∧ aL (n + 1 + 2305843009213693952) = n + 1 := by
 have h1 : (n + 1 + 2305843009213693952) / 2305843009213693952 = 1 := by omega
 have h2 : (n + 1 + 2305843009213693952) % 2305843009213693952 = n + 1 := by omega
 have hr : cS (n + 1 + 2305843009213693952) = true := by rw [cS, h1]; rfl
 refine ⟨hr, ?_, ?_⟩
 ·rw [ba, if_pos hr, h1]; decide
 ·rw [aL, if_pos hr, h2]
theorem QS.laid {o : Nat} {x : Cl} (h : QS σ k) (hk : k < 2305843009213693950) (ho : o < σ.obs.length) (hw : ∃ s i : Int, σ.μ.V (10, s, i) ≠ 0 ∧ σ.μ.V (10, s, i) % 4294967296 = o) (a : Od σ σ' o x) : QS σ' (k + 1) := by
 obtain ⟨c, w, V, O⟩ := a;have v10 : ∀ s i : Int, σ'.μ.V (10, s, i) = σ.μ.V (10, s, i) := fun s i => V _ (by simp) (by simp) (by simp) (by simp)
 have hl : σ'.obs.length = σ.obs.length := by rw [O]; simp
 refine ⟨by rw [V _ (by simp) (by simp) (by simp) (by simp)]; exact h.seq, fun s => by rw [V _ (by simp) (by simp) (by simp) (by simp)]; exact h.mx s, fun s i hv => ?_, fun s i s' i' => by rw [v10, v10]; exact h.uniq s i s' i', fun z hz => ?_⟩
 ·rw [v10] at hv ⊢
  by_cases e : σ.μ.V (10, s, i) % 4294967296 = o
  ·rw [e, w]
   obtain ⟨q1, q2, q3⟩ := h.word s i hv;rw [e] at q3;obtain ⟨z1, z2, z3⟩ := aiQ (n := aL (σ.μ.V (11, (o : Int), 0))) (by omega);exact ⟨z1, z2, by rw [z3]; omega⟩
  ·rw [V _ (fun q => e (JK q)) (by simp) (by simp) (by simp)]
   exact ⟨(h.word s i hv).1, (h.word s i hv).2.1, fT (h.word s i hv).2.2 (by omega)⟩
 ·rw [hl] at hz
  rw [V _ (fun q => by have := JK q; omega) (by simp) (by simp) (by simp)];exact h.fresh z hz
theorem QS.fill {s m f : Int} (h : QS σ k) (hs : ∀ s i, σ.μ.V (10, s, i) ≠ 0 → σ.μ.V (10, s, i) % 4294967296 < σ.obs.length) (hl : σ.obs.length < 4294967296) (V : σ'.μ.V = upd σ.μ.V (10, s, m) (dk f σ.obs.length)) (hlen : σ'.obs.length = σ.obs.length + 1) : QS σ' k := by
 have v11 : ∀ o : Int, σ'.μ.V (11, o, 0) = σ.μ.V (11, o, 0) := fun o => by rw [V]; exact upd_ne (by simp)
 have vm : σ'.μ.V (10, s, m) % 4294967296 = σ.obs.length := by rw [V, KM]; exact y6 hl
 have vo : ∀ a b : Int, ¬ (a = s ∧ b = m) → σ'.μ.V (10, a, b) = σ.μ.V (10, a, b) := fun a b hab => by
  rw [V]; exact upd_ne (fun q => hab (by simpa using q))
 have f0 := h.fresh σ.obs.length (bB _);refine ⟨by rw [V]; exact (upd_ne (by simp)).trans h.seq, fun s' => by rw [V]; exact (upd_ne (by simp)).trans (h.mx s'), fun a b hv => ?_, fun a b a' b' hv hv' he => ?_, fun z hz => ?_⟩
 ·rw [v11]
  by_cases e : a = s ∧ b = m
  ·obtain ⟨rfl, rfl⟩ := e
   rw [vm, f0];exact ⟨rfl, by decide, Nat.zero_le _⟩
  ·rw [vo a b e] at hv ⊢
   exact h.word a b hv
 ·by_cases e : a = s ∧ b = m
  ·obtain ⟨rfl, rfl⟩ := e
   by_cases e' : a' = a ∧ b' = b
   ·exact ⟨e'.1.symm, e'.2.symm⟩
   ·rw [vm, vo a' b' e'] at he
    rw [vo a' b' e'] at hv';have := hs a' b' hv';omega
  ·by_cases e' : a' = s ∧ b' = m
   ·obtain ⟨rfl, rfl⟩ := e'
    rw [vm, vo a b e] at he;rw [vo a b e] at hv;have := hs a b hv;omega
   ·rw [vo a b e, vo a' b' e'] at he
    rw [vo a b e] at hv;rw [vo a' b' e'] at hv';exact h.uniq a b a' b' hv hv' he
 ·rw [v11]
  exact h.fresh z (by omega)
theorem QS.newly {s : Int} {m : Nat} {x : Cl} (h : QS σ k) (hs : ∀ s i, σ.μ.V (10, s, i) ≠ 0 → σ.μ.V (10, s, i) % 4294967296 < σ.obs.length) (hl : σ.obs.length < 4294967296) (a : Newly σ σ' s m x) : QS σ' k :=
 h.fill hs hl a.V (by rw [a.obs]; simp)
theorem QS.closed {s : Int} {j : Nat} (h : QS σ k) (hj : σ.μ.V (10, s, (j : Int)) ≠ 0) (hs : dt σ s j < σ.obs.length) (a : Closed σ σ' s j) : QS σ' k := by
 obtain ⟨c, V, O⟩ := a
 have vm : σ'.μ.V (10, s, (j : Int)) = 0 := by rw [V, KM]
 have vo : ∀ a b : Int, ¬ (a = s ∧ b = j) → σ'.μ.V (10, a, b) = σ.μ.V (10, a, b) := fun a b hab => by
  rw [V]; exact (upd_ne (fun q => hab (by simpa using q))).trans (upd_ne (by simp))
 have v11 : ∀ o : Nat, o ≠ dt σ s j → σ'.μ.V (11, (o : Int), 0) = σ.μ.V (11, (o : Int), 0) := fun o ho => by
  rw [V]; exact (upd_ne (by simp)).trans (upd_ne (fun q => ho (JK q)))
 have no : ∀ a b : Int, σ'.μ.V (10, a, b) ≠ 0 → ¬ (a = s ∧ b = j) := fun a b hv e => by
  obtain ⟨rfl, rfl⟩ := e;exact hv vm
 refine ⟨by rw [V]; exact (upd_ne (by simp)).trans ((upd_ne (by simp)).trans h.seq), fun s' => by rw [V]; exact (upd_ne (by simp)).trans ((upd_ne (by simp)).trans (h.mx s')), fun a b hv => ?_, fun a b a' b' hv hv' he => ?_, fun z hz => ?_⟩
 ·have e := no a b hv
  rw [vo a b e] at hv ⊢;rw [v11 _ (fun q => e (h.uniq a b s j hv hj q))];exact h.word a b hv
 ·have e := no a b hv
  have e' := no a' b' hv';rw [vo a b e, vo a' b' e'] at he;rw [vo a b e] at hv;rw [vo a' b' e'] at hv';exact h.uniq a b a' b' hv hv' he
 ·rw [O] at hz
  rw [v11 z (by omega)];exact h.fresh z hz
theorem DV {v : Nat} {flow : Int} (h : gf v flow = true) : v ≠ 0 := (of_decide_eq_true h).1
theorem aoD {K : Nat} (h : QS σ k) (hk : k < 1000000) (S : SI σ K) (hK : K < 1000000) (who : Int) (c : Cl) (now : Int) : kE (σ.c.sl.toNat + 11) σ (Tk.newA σ.c who c) now fun σ' _ => QS σ' (k + 1) := by
 have sm : ∀ σ', Sm σ σ' → QS σ' (k + 1) := fun σ' a => (h.sm a).mono (by omega)
 by_cases ho : c.op = 3
 ·rw [show Tk.newA σ.c who c = Tk.new σ.c who c from if_pos ho]
  refine aoF ho now S.c h.seq (h.mx _) (fun j _ hj => ?_) (fun _ _ σ' a => sm σ' a) (fun _ _ σ' a => sm σ' a) (fun _ _ _ _ _ _ σ' a => sm σ' a) (fun _ j _ hj _ _ σ' a => ?_)
  ·obtain ⟨q1, q2, q3⟩ := h.word _ _ (DV hj)
   exact ⟨q1, q2, Nat.lt_of_le_of_lt q3 (by omega)⟩
  ·exact h.laid (by omega) (S.slot _ _ (DV hj)) ⟨_, _, DV hj, rfl⟩ a
 ·rw [show Tk.newA σ.c who c = Tk.newR σ.c who c from if_neg ho]
  by_cases h1 : c.op = 1
  ·exact aoG h1 now S.c (h.mx _) (fun _ _ σ' a => sm σ' a) (fun _ _ _ _ _ σ' a => sm σ' a) (fun _ _ _ σ' a => sm σ' a) (fun _ _ m _ hm _ σ' a => (h.newly S.slot (by have := S.obs; omega) a).mono (by omega))
  ·exact aoE ho h1 now S.c h.seq (h.mx _) (fun _ _ σ' a => sm σ' a) (fun _ _ σ' a => sm σ' a) (fun _ _ _ _ _ _ σ' a => sm σ' a) (fun _ j _ hj _ _ σ' a => (h.closed (DV hj) (S.slot _ _ (DV hj)) a).mono (by omega))
end
section
variable (p x : Nat)
theorem Lc (now most : Int) (pb rb tb e xb : Nat) (op : Int) (x13 x14 : Value) (res : aS × Tk × Int) (hnow : 0 ≤ now ∧ now < 1000000) (hm : most < 1000) {R : SP} :
 ∀ (fuel k K : Nat) (rp : List Nat) (σ : aS) (t : Tk) (H : AH), (k : Int) + fuel = most → jg fuel σ t (now + k) = some res → SI σ K → Ia σ t → t.x.op = op → K + 3 * fuel < 280000 →
  ae (blk pb (.cells false [vp p, vp x]) * (blk rb (.cells false [vi 0, .slice none 0 0, vi 0, vw 0]) * (blk tb (.cells false (tkV op e xb)) * (aT e p rp t * (bk p rp σ * (zT xb x t * (aM x σ * R))))))) H →
  wp (lK (vi now) (vi most) (vp pb) (vp rb) x13 x14 (vp tb) (vi (k : Int)) H) fun v' H' => ∃ rp' : List Nat, v' = .tuple #[.agg (gm res.2.1.code).toArray, vi res.2.2, vb true] ∧ ae (bk p rp' res.1 * aM x res.1 * R) H' := by
 intro fuel
 induction fuel with
 | zero => intro k K rp σ t H _ h; cases h
 | succ fuel ih =>
  intro k K rp σ t H hk ha S T ho hK h;subst ho;have K1 := E8 (now + k) (by omega) S T;unfold jg at ha;refine ah (Am ..) ?_;refine aa (cz (by omega)) ?_;refine gs ?_;refine ah (An ..) ?_;refine aR h ?_;refine aR h ?_;refine aa (aH (by omega) (by omega)) ?_;have law := Zs p x rp e xb σ t (now + k) K S (by omega) T;obtain ⟨r, hr⟩ : ∃ r, r = bx σ t (now + k) := ⟨_, rfl⟩;rw [← hr] at law ha K1;refine af h law fun rp' H2 h3 => ?_;rw [ak, ae.pu] at h3;obtain ⟨hpre, h3⟩ := h3;refine aa (v := .agg (gm (if r.2.2 = true then r.2.1.code else 0)).toArray) rfl ?_;refine aa (v := vb r.2.2) rfl ?_;refine aa (v := vb true) rfl ?_;refine br h3 fun qb H3 h4 => ?_;refine ej h4 rfl rfl fun H4 h5 => ?_;refine gs ?_;rw [Bool.not_true];refine gs ?_;cases hd : r.2.2
  ·rw [hd] at ha
   rw [if_neg (by simp)] at ha;refine gs ?_;refine ah (Ao ..) ?_;refine aa (aH (by omega) (by omega)) ?_;rw [show ((k : Nat) : Int) + 1 = ((k + 1 : Nat) : Int) from by omega];rw [aqF hd, arG hd] at h5;refine ih (k + 1) (K + 3) rp' _ _ H4 (by omega) (by rw [← ha]; congr 1; omega) K1.si (K1.ok hd) (by rw [K1.x]) (by omega) h5.to
  ·rw [hd, if_pos rfl] at ha
   obtain rfl := iu ha;rw [hd, if_pos rfl] at h5;refine gs ?_;refine aR h5 ?_;refine aa (aH (by omega) (by omega)) ?_;refine aa (aH (by omega) (by omega)) ?_;refine ej h5 rfl rfl fun HA hA => ?_;refine aR hA ?_;exact aq ⟨rp', rfl, hA.to⟩
theorem VO (rp : List Nat) (σ : aS) (K : Nat) (S : SI σ K) (who place : Int) (c : Cl) (now : Int) (fuel : Nat) (hnow : 0 ≤ now ∧ now < 1000000) (hm : fuel < 1000) (hK : K + 1 + 3 * fuel < 280000) (res : aS × Tk × Int)
 (ha : jg fuel (σ.begin who place) (Tk.newA σ.c who c) now = some res) :
 Sp ry [.agg [vp p, vp x].toArray, vi who, vi place, .agg (Cl.cells c).toArray, vi now, vi (fuel : Int)] (bk p rp σ * aM x σ) (fun _ : List Nat => .tuple #[.agg (gm res.2.1.code).toArray, vi res.2.2, vb true]) (fun rp' => bk p rp' res.1 * aM x res.1) := by
 have S1 := S.begin who place;refine bh (JI _ _ _ _ _ _) fun R H h => ?_;refine aX (l := [vp p, vp x]) h fun pb H1 h1 => ?_;refine aX h1 fun cb H2 h2 => ?_;refine br h2 fun rb H3 h3 => ?_;refine aR h3 ?_;refine aR h3 ?_;refine af h3 (VR p x rp σ S.c (by have := S.N; omega) who place c) fun g H4 h4 => ?_;obtain ⟨e, xb⟩ := g;dsimp only at h4 ⊢;refine br h4 fun tb H5 h5 => ?_;refine ej (l := tkV c.op e xb) (cs' := tkV c.op e xb) h5 rfl (al5 _ _ _) fun H6 h6 => ?_;refine ah (Ak ..) ?_;refine ah (Al ..) ?_;exact Lc p x now fuel pb rb tb e xb c.op (vi 0) (vb false) res hnow (by omega) (R := R) fuel 0 (K + 1) rp (σ.begin who place) (Tk.newA σ.c who c) H6 (by omega) (by rw [← ha]; congr 1; omega) S1 (Ia.new (σ := σ.begin who place) S.c who c) (by rw [ao0]) (by omega) h6.to
end
theorem Ia.new' {σ : aS} (hc : cI σ.c = true) (who place : Int) (x : Cl) : Ia (σ.begin who place) (Tk.newA σ.c who x) := Ia.new (σ := σ.begin who place) hc who x
theorem Z0 {σ : aS} {k K : Nat} (h : QS σ k) (hk : k < 1000000) (S : SI σ K) (who place : Int) (c : Cl) (now : Int) (n : Nat) (hn : σ.c.sl.toNat + 11 ≤ n) (hK : K + 1 + 3 * n < 280000) :
 ∃ res, jg n (σ.begin who place) (Tk.newA σ.c who c) now = some res ∧ QS res.1 (k + 1) ∧ SI res.1 (K + 1 + 3 * n) ∧ res.1.c = σ.c ∧ now < res.2.2 ∧ res.2.2 ≤ now + n := by
 obtain ⟨res, h1, h2⟩ := (aoD (σ := σ.begin who place) (h.begin who place) hk (S.begin who place) (by omega) who c now).mono hn;obtain ⟨q1, q2, q3, q4⟩ := Lb n _ _ now (K + 1) res (S.begin who place) (Ia.new' S.c who place c) (by omega) h1;exact ⟨res, h1, h2, q1, q2, q3, q4⟩
theorem QS.made (c : i6) (hc : cI c = true) : ∀ n, n ≤ 16 → QS (aS.made c n) 0 := by
 intro n
 induction n with
 | zero => exact fun _ => ⟨rfl, fun _ => rfl, fun s i h => absurd rfl h, fun s i s' i' h => absurd rfl h, fun _ _ => rfl⟩
 | succ n ih =>
  intro hn;have h := ih (by omega);have M := MN c hc n (by omega);have hm := (Qa c n).2.2;unfold aS.made
  split
  ·exact h.fill M.si.slot (by omega) rfl (by simp [aS.lay, aS.make])
  ·exact h
theorem agQ {H0 : AH} (hT : H0.get 0 = some (.cells true tabC)) (c : i6) (s : Value) (L : List Cl) [hR : Rd (fix H0) s 4 Cl.cells L] (flows : Int) :
 ∃ H', FF jq [.agg (i6.cells c).toArray, s, vi flows] H0 = some (vb true, H') := by
 have key : wp (FF jq [.agg (i6.cells c).toArray, s, vi flows] H0) fun v' _ => v' = vb true := by
  haveI := Z4 hT
  refine bm (fun r => Aj _ _ _ H0) ?_;refine aX (l := i6.cells c) (XT H0) fun b1 H1 h1 => ?_;refine aR h1 ?_;refine Fs h1 (by omega) (by omega) fun H2 h2 => ?_;have m5 := iG (v := flows) (n := 5) (by omega);obtain ⟨n, hn⟩ : ∃ n : Nat, (n : Int) = io flows 5 := ⟨(io flows 5).toNat, by omega⟩
  have hn5 : n < 5 := by omega
  rw [← hn];refine dZ h2 h1 rfl ?_;refine af h2 (ae1 c n (by omega)) fun q H3 h3 => ?_;obtain ⟨p, x, c'⟩ := q;dsimp only at h3 ⊢;rw [ak, ae.pu] at h3;obtain ⟨hc, h3⟩ := h3;refine aa (v := .agg [vp p, vp x].toArray) rfl ?_;refine aa (v := vb true) rfl ?_;refine br h3 fun pb H4 h4 => ?_;refine ej h4 rfl rfl fun H5 h5 => ?_;refine Zu h5 fun H6 h6 => ?_;refine gs ?_;rw [Bool.not_true];refine gs ?_;rw [Bool.not_true];refine gs ?_;refine ah (ue ..) ?_;refine ah (ug ..) ?_;have M := MN c' hc n (by omega);have M16 : SI (aS.made c' n) 16 := M.si.mono (by omega);obtain ⟨rp, h7⟩ := af5 (p := p) (σ := aS.made c' n) (R := blk pb (.cells false [vp p, vp x]) * (aM x (aS.made c' n) * (blk b1 (.cells false (i6.cells c)) * fix H0))) (H := H6) h6.to;have loop : ∀ (d i K : Nat) (now : Int) (rp : List Nat) (σ : aS) (H : AH), i + d = min L.length 30 → SI σ K → QS σ i → K ≤ 16 + 130 * i → 0 ≤ now → now ≤ 40 * i → ae (bk p rp σ * (blk pb (.cells false [vp p, vp x]) * (aM x σ * (blk b1 (.cells false (i6.cells c)) * fix H0)))) H →
   wp (iF s (vb false) (vp pb) (vi now) (vi (i : Int)) H) fun v' _ => v' = vb true := by
   intro d
   induction d with
   | zero =>
    intro i K now rp σ H hi S J hK h0 hn h;refine ah (mz ..) ?_;refine i0 (s := s) (l := L) h ?_
    have fin : wp (jm (vb false) (vp pb) H) fun v' _ => v' = vb true := by
     refine ah (rq ..) ?_;refine ah (uf ..) ?_;refine aR h ?_;refine af h (Yg p x rp σ (by have := S.E; omega) (by have := S.pts; omega)) fun _ H8 h8 => ?_;exact aq rfl
    by_cases hl : i < L.length
    ·refine aa (cz (by omega)) ?_
     refine gs ?_;refine aa (bW (by omega)) ?_;refine gs ?_;exact fin
    ·refine aa (bW (by omega)) ?_
     refine gs ?_;exact fin
   | succ d ih =>
    intro i K now rp σ H hi S J hK h0 hn h
    have hil : i < L.length := by omega
    refine ah (mz ..) ?_;refine i0 (s := s) (l := L) h ?_;refine aa (cz (by omega)) ?_;refine gs ?_;refine aa (cz (by omega)) ?_;refine gs ?_;refine ah (uh ..) ?_;refine aR h ?_;refine aa (uX (by omega)) ?_;refine y9 (s := s) (l := L) h hil ?_;refine af h (aaT L[i] i) fun y H8 h8 => ?_;refine dZ h8 h rfl ?_;have hsl := bD.1 S.c;obtain ⟨res, ha, hJ, k1, k2, k3, k4⟩ := Z0 J (by omega) S ((i : Int).tmod 3) i y now 40 (by omega) (by omega);refine af h8 (VO p x rp σ K S ((i : Int).tmod 3) i y now 40 (by omega) (by omega) (by omega) res ha) fun rp' H12 h12 => ?_;refine aa (v := .agg (gm res.2.1.code).toArray) rfl ?_;refine aa (v := vi res.2.2) rfl ?_;refine aa (v := vb true) rfl ?_;refine gs ?_;rw [Bool.not_true];refine gs ?_;refine ah (ui ..) ?_;refine aa (aH (by omega) (by omega)) ?_;exact ih (i + 1) (K + 1 + 3 * 40) res.2.2 rp' res.1 H12 (by omega) k1 hJ (by omega) (by omega) (by omega) h12.to
  exact loop (min L.length 30) 0 16 0 rp (aS.made c' n) H6 (by omega) M16 (QS.made c' hc n (by omega)) (by omega) (by omega) (by omega) h7
 obtain ⟨v, H', e, rfl⟩ := key;exact ⟨H', e⟩
theorem regAlone_args {H0 : AH} (hT : H0.get 0 = some (.cells true tabC)) {xc : CfgTy.I} {cc : List Value} (hc : Abs H0 CfgTy xc cc) {l : List ClTy.I} {v : Value} (hl : Abs H0 (.slice ClTy) l [v]) (flows : Int) :
 ∃ H', FF jq [.agg cc.toArray, v, vi flows] H0 = some (vb true, H') := by
 obtain ⟨c, rfl⟩ := ajQ hc
 haveI := Ok hl
 exact agQ hT c v (l.map ah7) flows
end Go.Proofs.YtflbeghglllknaaGreatDoor.Gst
