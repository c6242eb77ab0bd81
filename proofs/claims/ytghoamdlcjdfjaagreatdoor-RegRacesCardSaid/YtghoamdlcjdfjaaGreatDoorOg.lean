/- Several texts in one. -/
import Derived.Test.YtghoamdlcjdfjaaGreatDoorOf
namespace Go.Proofs.YtghoamdlcjdfjaaGreatDoor.Gst
open Go Go.RowKit
set_option linter.unusedSimpArgs false
set_option linter.unusedVariables false
set_option maxHeartbeats 1000000
set_option synthInstance.maxSize 2000
set_option synthInstance.maxHeartbeats 400000
def je (c : List Int) (i : Nat) : Int := (c[i]?).getD 0
def M3 (a b : List Int) : Prop := ∀ i, je a i ≤ je b i
theorem M3.refl (a : List Int) : M3 a a := fun _ => Int.le_refl _
theorem M3.trans {a b c : List Int} (h : M3 a b) (k : M3 b c) : M3 a c := fun i => Int.le_trans (h i) (k i)
structure o5 (c : List Int) (n : Nat) : Prop where
 len : c.length ≤ 64
 v : ∀ x ∈ c, 0 ≤ x ∧ x ≤ n
theorem o5.mono {c : List Int} {n m : Nat} (h : o5 c n) (k : n ≤ m) : o5 c m := ⟨h.len, fun x hx => ⟨(h.v x hx).1, by have := (h.v x hx).2; omega⟩⟩
theorem o5.nil (n : Nat) : o5 [] n := ⟨Nat.zero_le _, fun x h => by cases h⟩
theorem o5.at {c : List Int} {n : Nat} (h : o5 c n) (i : Nat) : 0 ≤ je c i ∧ je c i ≤ n := by
 unfold je
 cases e : c[i]? with
 | none => exact ⟨Int.le_refl _, by show (0 : Int) ≤ _; omega⟩
 | some x => exact h.v x (List.mem_of_getElem? e)
theorem tM {c : List Int} {i : Nat} (h : i < c.length) : je c i = c[i] := by unfold je; rw [cB h]; rfl
theorem tL {c : List Int} {i : Nat} (h : c.length ≤ i) : je c i = 0 := by unfold je; rw [List.getElem?_eq_none h]; rfl
def ckJ (a b : List Int) : List Int := (List.range (max a.length b.length)).map fun i => max (je a i) (je b i)
theorem apB {a b : List Int} (ha : ∀ i, 0 ≤ je a i) (hb : ∀ i, 0 ≤ je b i) (i : Nat) : je (ckJ a b) i = max (je a i) (je b i) := by
 unfold ckJ
 rcases Nat.lt_or_ge i (max a.length b.length) with h | h
 ·rw [tM (by simpa using h), List.getElem_map, List.getElem_range]
 ·rw [tL (by simpa using h), tL (c := a) (by omega), tL (c := b) (by omega)]
  rfl
section
variable {P : SP} {H : AH} {Q : Value → AH → Prop}
theorem am2 (P : SP) : Rd P (.slice none 0 0) 1 cr ([] : List Int) := ⟨fun {H} _ => ⟨(Nat.zero_mul 1).symm, .inl ⟨none, 0, rfl, rfl, fun _ => rfl, fun x hx => by cases hx⟩⟩⟩
theorem abM {s : Value} {c : List Int} (i : Nat) (h : ac P H) [r : Rd P s 1 cr c] {k : Value × AH → OV} (hk : wp (k (vi (je c i), H)) Q) : wp ((FF sN [s, vi (i : Int)] H).bind k) Q := by
 have law : wp (FF sN [s, vi (i : Int)] H) fun v' H' => v' = vi (je c i) ∧ H' = H := by
  refine bm (fun r => Zy _ _ H) ?_;refine aa (bP (by omega)) ?_;refine gs ?_;refine ii (s := s) (l := c) h ?_;refine gs ?_
  by_cases hi : i < c.length
  ·refine aa (il (by omega)) ?_
   refine gs ?_;refine eF (s := s) (l := c) (v := vi c[i]) h hi rfl ?_;exact am ⟨by rw [tM hi], rfl⟩
  ·refine aa (jV (by omega)) ?_
   refine gs ?_;exact am ⟨by rw [tL (by omega)], rfl⟩
 obtain ⟨v, H', e, rfl, rfl⟩ := law;rw [e];exact hk
end
theorem amM {P : SP} {sa sb : Value} {a b : List Int} [ra : Rd P sa 1 cr a] [rb : Rd P sb 1 cr b] (hab : M3 a b) (hla : a.length ≤ 64) (hlb : b.length ≤ 64) : Sp Av [sa, sb] P (fun _ : Unit => vb true) (fun _ => P) := by
 refine bh (RE _ _) fun R H h => ?_;refine ah (Ie ..) ?_;refine ah (Ig ..) ?_
 have loop : ∀ (d i : Nat), i + d = max a.length b.length → wp (qD sa sb (vb false) (vi (i : Int)) H) fun v' H' => ∃ _x : Unit, v' = vb true ∧ ac (P * R) H' := by
  intro d
  induction d with
  | zero =>
   intro i hi;refine ah (u6 ..) ?_;refine de (s := sa) (l := a) h ?_;refine de (s := sb) (l := b) h ?_;refine aa (gL) ?_;refine aa (bP (by omega)) ?_;refine gs ?_;refine ah (C6 ..) ?_;refine ah (If ..) ?_;exact am ⟨(), rfl, h⟩
  | succ d ih =>
   intro i hi;refine ah (u6 ..) ?_;refine de (s := sa) (l := a) h ?_;refine de (s := sb) (l := b) h ?_;refine aa (gL) ?_;refine aa (cE (by omega)) ?_;refine gs ?_;refine ah (Ih ..) ?_;refine abM i h ?_;refine abM i h ?_;refine aa (fV (by have := hab i; omega)) ?_;refine gs ?_;refine ah (Ii ..) ?_;refine aa (aS (by omega) (by omega)) ?_;rw [show ((i : Nat) : Int) + 1 = ((i + 1 : Nat) : Int) from by omega];exact ih (i + 1) (by omega)
 exact loop (max a.length b.length) 0 (by omega)
theorem agK {P : SP} {sa sb : Value} {a b : List Int} [ra : Rd P sa 1 cr a] [rb : Rd P sb 1 cr b] {n : Nat} (ha : o5 a n) (hb : o5 b n) (hn : n < 1000000) :
 Sp qw [sa, sb] P (fun v : Value => v) (fun v => ts 1 cr v (ckJ a b) * P) := by
 refine bh (Ot _ _) fun R H h => ?_;refine ah (Gg ..) ?_;refine ah (Gj ..) ?_;have hla := ha.len;have hlb := hb.len;have full : (List.range (max a.length b.length)).take (max a.length b.length) = List.range (max a.length b.length) := List.take_of_length_le (by simp);have loop : ∀ (d i : Nat) (s : Value) (H : AH), i + d = max a.length b.length → ac (ts 1 cr s (((List.range (max a.length b.length)).take i).map fun i => max (je a i) (je b i)) * (P * R)) H →
  wp (ox sa sb (.slice none 0 0) s (vi (i : Int)) H) fun v' H' => ∃ x : Value, v' = x ∧ ac (ts 1 cr x (ckJ a b) * P * R) H' := by
  intro d
  induction d with
  | zero =>
   intro i s H hi h;refine ah (s4 ..) ?_;refine de (s := sa) (l := a) h ?_;refine de (s := sb) (l := b) h ?_;refine aa (gL) ?_;refine aa (bP (by omega)) ?_;refine gs ?_;refine ah (AO ..) ?_;refine ah (Gi ..) ?_;rw [show i = max a.length b.length from by omega, full] at h;exact am ⟨s, rfl, by rw [ai]; exact h⟩
  | succ d ih =>
   intro i s H hi h
   have hir : i < (List.range (max a.length b.length)).length := by simp; omega
   have hnx : ∀ v : Int, v = max (je a i) (je b i) → wp ((wL 1 1 [(vi 0)] [(0, vi v)] H fun v14 H15 => (dS 1 8 s v14 H15).bind fun r16 => lr sa sb (.slice none 0 0) r16.1 (vi (i : Int)) r16.2)) fun v' H' => ∃ x : Value, v' = x ∧ ac (ts 1 cr x (ckJ a b) * P * R) H' := by
    intro v hv;refine MS h fun rb H2 h2 => ?_;refine f5 (s := s) (l := ((List.range (max a.length b.length)).take i).map fun i => max (je a i) (je b i)) (v : Int) h2 rfl ?_ (by omega) fun q cc H3 h3 => ?_
    ·unfold room; simp; omega
    refine ah (Gl ..) ?_;refine aa (aS (by omega) (by omega)) ?_;rw [show ((i : Nat) : Int) + 1 = ((i + 1 : Nat) : Int) from by omega];refine ih (i + 1) _ H3 (by omega) ?_;rw [List.take_succ_eq_append_getElem hir, HV, List.getElem_range];rw [hv] at h3;show ac (ts 1 cr _ (((List.range (max a.length b.length)).take i).map (fun i => max (je a i) (je b i)) ++ [max (je a i) (je b i)]) * (P * R)) H3;exact h3.to
   have pa := (ha.at i).1;have pb := (hb.at i).1;refine ah (s4 ..) ?_;refine de (s := sa) (l := a) h ?_;refine de (s := sb) (l := b) h ?_;refine aa (gL) ?_;refine aa (cE (by omega)) ?_;refine gs ?_;refine ah (Gk ..) ?_;refine de (s := sa) (l := a) h ?_
   by_cases hia : i < a.length
   ·refine aa (il (by omega)) ?_
    refine gs ?_;refine de (s := sb) (l := b) h ?_
    by_cases hib : i < b.length
    ·refine aa (il (by omega)) ?_
     refine gs ?_;refine eF (s := sa) (l := a) (v := vi a[i]) h hia rfl ?_;refine eF (s := sb) (l := b) (v := vi b[i]) h hib rfl ?_;refine aa (gL) ?_;exact hnx _ (by rw [tM hia, tM hib])
    ·refine aa (jV (by omega)) ?_
     refine gs ?_;refine eF (s := sa) (l := a) (v := vi a[i]) h hia rfl ?_;refine aa (gL) ?_;exact hnx _ (by rw [tM hia, tL (c := b) (by omega)])
   ·refine aa (jV (by omega)) ?_
    refine gs ?_
    have hib : i < b.length := by omega
    refine eF (s := sb) (l := b) (v := vi b[i]) h hib rfl ?_;refine aa (gL) ?_;exact hnx _ (by rw [tL (c := a) (by omega), tM hib]; omega)
 exact loop (max a.length b.length) 0 (.slice none 0 0) H (by omega) (by have := dL 1 cr h; exact this)
theorem apC {a b : List Int} {n : Nat} (ha : o5 a n) (hb : o5 b n) : o5 (ckJ a b) n ∧ M3 a (ckJ a b) ∧ M3 b (ckJ a b) := by
 have e := apB (a := a) (b := b) (fun i => (ha.at i).1) (fun i => (hb.at i).1);refine ⟨⟨?_, fun x hx => ?_⟩, fun i => by rw [e]; omega, fun i => by rw [e]; omega⟩
 ·unfold ckJ
  have := ha.len;have := hb.len;simp;omega
 ·unfold ckJ at hx
  rw [List.mem_map] at hx;obtain ⟨i, _, rfl⟩ := hx;have := ha.at i;have := hb.at i;omega
structure Ticked (a c : List Int) (n : Nat) : Prop where
 ok : o5 c (n + 1)
 le : M3 a c
theorem ai8 {P : SP} {sa : Value} {a : List Int} [ra : Rd P sa 1 cr a] (w : Nat) (hw : w < 64) {n : Nat} (ha : o5 a n) (hn : n < 1000000) :
 Sp vP [sa, vi (w : Int)] P (fun g : (Option Addr × Nat × Nat) × List Int => jT g.1) (fun g => pu (Ticked a g.2 n) * (ts 1 cr (jT g.1) g.2 * P)) := by
 have hla := ha.len;refine bh (Ou _ _) fun R H h => ?_;have h1 := dL 1 cr h;refine Hr (s := .slice none 0 0) (l := ([] : List Int)) (m := a) h1 ?_ (by omega) fun v H2 h2 => ?_
 ·unfold room; simp; omega
 rw [List.nil_append] at h2;refine aa (bP (by omega)) ?_;refine gs ?_;refine aa (fV (by omega)) ?_;refine gs ?_;refine ah (Gu ..) ?_;have loop : ∀ (d : Nat) (s : Value) (c : List Int) (H : AH), w + 1 - c.length = d → o5 c n → M3 a c → ac (ts 1 cr s c * (P * R)) H →
  wp (oy (vi (w : Int)) (.slice none 0 0) s H) fun v' H' => ∃ g : (Option Addr × Nat × Nat) × List Int, v' = jT g.1 ∧ ac (pu (Ticked a g.2 n) * (ts 1 cr (jT g.1) g.2 * P) * R) H' := by
  intro d
  induction d with
  | zero =>
   intro s c H hd hc hle h
   have hwc : w < c.length := by omega
   refine ah (s5 ..) ?_;refine de (s := s) (l := c) h ?_;refine aa (Vt (by omega)) ?_;refine gs ?_;refine ah (AP ..) ?_;refine ah (Gv ..) ?_;refine eF (s := s) (l := c) (v := vi c[w]) h hwc rfl ?_;have hcw := hc.v _ (FX hwc);refine aa (aS (by omega) (by omega)) ?_;refine JU (s := s) (l := c) (i := w) (c[w] + 1 : Int) h hwc (.inl ⟨rfl, rfl⟩) rfl (by omega) rfl rfl fun H3 h3 => ?_
   obtain ⟨a4, n4, c4, rfl⟩ : ∃ a n c, s = .slice a n c := by
    rcases mp (s := s) (enc := cr) h with ⟨e, _⟩ | ⟨b, e, _⟩ <;> exact ⟨_, _, _, e⟩
   refine am ⟨((a4, n4, c4), c.set w (c[w] + 1)), rfl, ?_⟩;rw [ai];refine ac.pu.2 ⟨⟨⟨by rw [N6]; exact hc.len, fun x hx => ?_⟩, hle.trans fun i => ?_⟩, (by rw [ai]; exact (show ac (ts 1 cr (.slice a4 n4 c4) (c.set w (c[w] + 1)) * (P * R)) H3 from h3.to))⟩
   ·rcases List.mem_or_eq_of_mem_set hx with hx | rfl
    ·have := hc.v x hx; omega
    ·omega
   ·unfold je
    rw [List.getElem?_set]
    split
    ·rename_i e
     subst e;rw [cB hwc];show c[w] ≤ c[w] + 1;omega
    ·exact Int.le_refl _
  | succ d ih =>
   intro s c H hd hc hle h;refine ah (s5 ..) ?_;refine de (s := s) (l := c) h ?_;refine aa (Vu (by omega)) ?_;refine gs ?_;refine ah (Gw ..) ?_;refine MS h fun rb H3 h3 => ?_;refine f5 (s := s) (l := c) (0 : Int) h3 rfl ?_ (by omega) fun q cc H4 h4 => ?_
   ·unfold room; have := hc.len; omega
   refine ih _ (c ++ [0]) H4 (by simp; omega) ⟨by simp; omega, fun x hx => ?_⟩ (hle.trans fun i => ?_) h4.to
   ·rcases List.mem_append.1 hx with hx | hx
    ·exact hc.v x hx
    ·rw [List.mem_singleton] at hx; omega
   ·unfold je
    rcases Nat.lt_or_ge i c.length with hi | hi
    ·rw [List.getElem?_append_left hi]; exact Int.le_refl _
    ·rw [List.getElem?_eq_none hi, List.getElem?_append_right hi]
     cases i - c.length with
     | zero => exact Int.le_refl _
     | succ k => exact Int.le_refl _
 exact loop (w + 1 - a.length) v a H2 rfl ha (M3.refl a) h2.to
def ev (E : List Ev) (k : Nat) : Ev := (E[k]?).getD ⟨0, 0, (0, 0, 0)⟩
theorem E3 {E : List Ev} {k : Nat} (h : k < E.length) : ev E k = E[k] := by unfold ev; rw [cB h]; rfl
structure EvR (x : Ev) : Prop where
 who : 0 ≤ x.who ∧ x.who ≤ 63
 kind : 1 ≤ x.kind ∧ x.kind ≤ 6
structure vh (E : List Ev) (k j : Nat) : Prop where
 lt : k < j
 jl : j < E.length
 who : (ev E k).who = (ev E j).who
 no : ∀ m, k < m → m < j → (ev E m).who ≠ (ev E j).who
def sto (x : Ev) : Prop := x.kind = 2 ∨ x.kind = 3
structure pZ (E : List Ev) (k j : Nat) : Prop where
 lt : k < j
 jl : j < E.length
 kind : (ev E j).kind = 1 ∨ (ev E j).kind = 3 ∨ (ev E j).kind = 4
 loc : (ev E k).loc = (ev E j).loc
 sto : sto (ev E k)
 no : ∀ m, k < m → m < j → ¬ ((ev E m).loc = (ev E j).loc ∧ Gst.sto (ev E m))
inductive HB (E : List Ev) : Nat → Nat → Prop
 | refl (i : Nat) : HB E i i
 | own {i k j : Nat} : HB E i k → vh E k j → HB E i j
 | fnd {i k j : Nat} : HB E i k → pZ E k j → HB E i j
def wri (x : Ev) : Prop := x.kind = 2 ∨ x.kind = 3 ∨ x.kind = 6
def Cf (a b : Ev) : Prop := a.who ≠ b.who ∧ a.loc = b.loc ∧ (5 ≤ a.kind ∨ 5 ≤ b.kind) ∧ (wri a ∨ wri b)
section
variable {E l : List Ev} {i j k : Nat} {x : Ev}
theorem d5 (h : k < E.length) : ev (E ++ l) k = ev E k := by unfold ev; rw [List.getElem?_append_left h]
theorem gU : ev (E ++ [x]) E.length = x := by unfold ev; rw [List.getElem?_append_right (bv _), Nat.sub_self]; rfl
theorem vh.app (h : vh E k j) : vh (E ++ l) k j := by
 have hj := h.jl;have hk := h.lt;refine ⟨hk, by rw [qr]; omega, ?_, fun m h1 h2 => ?_⟩
 ·rw [d5 (by omega), d5 hj]; exact h.who
 ·rw [d5 (by omega), d5 hj]; exact h.no m h1 h2
theorem pZ.app (h : pZ E k j) : pZ (E ++ l) k j := by
 have hj := h.jl;have hk := h.lt;refine ⟨hk, by rw [qr]; omega, ?_, ?_, ?_, fun m h1 h2 => ?_⟩
 ·rw [d5 hj]; exact h.kind
 ·rw [d5 (by omega), d5 hj]; exact h.loc
 ·rw [d5 (by omega)]; exact h.sto
 ·rw [d5 (by omega), d5 hj]; exact h.no m h1 h2
theorem HB.app (h : HB E i j) : HB (E ++ l) i j := by
 induction h with
 | refl => exact .refl _
 | own _ o ih => exact .own ih o.app
 | fnd _ o ih => exact .fnd ih o.app
theorem HB.le (h : HB E i j) : i ≤ j := by
 induction h with
 | refl => exact bv _
 | own _ o ih => have := o.lt; omega
 | fnd _ o ih => have := o.lt; omega
theorem HB.same (h : HB E i k) : ∀ (d j : Nat), j = k + d → j < E.length → (ev E k).who = (ev E j).who → HB E i j := by
 intro d
 induction d using Nat.strongRecOn with
 | ind d ih =>
  intro j hj hl hw
  by_cases hd : d = 0
  ·subst hd; subst hj; exact h
  have last : ∀ n, k + n < j → (∀ m, k + n < m → m < j → (ev E m).who ≠ (ev E j).who) → ∃ m, k ≤ m ∧ vh E m j := by
   intro n
   induction n with
   | zero => exact fun h1 h2 => ⟨k, bv _, by omega, hl, hw, fun m h3 h4 => h2 m (by omega) h4⟩
   | succ n ihn =>
    intro h1 h2
    by_cases he : (ev E (k + (n + 1))).who = (ev E j).who
    ·exact ⟨_, by omega, h1, hl, he, fun m h3 h4 => h2 m h3 h4⟩
    ·refine ihn (by omega) fun m h3 h4 => ?_
     by_cases hm : m = k + (n + 1)
     ·rw [hm]; exact he
     ·exact h2 m (by omega) h4
  obtain ⟨m, hkm, ho⟩ := last (d - 1) (by omega) (fun m h1 h2 => by omega);have hmj := ho.lt;exact .own (ih (m - k) (by omega) m (by omega) (by omega) (by rw [hw]; exact ho.who.symm)) ho
end
structure zN where
 md : Nat → Nat
 cl : Nat → Nat → Option Int
 lk : Nat → Option Int
def zN.claim (G : zN) (o k : Nat) (who : Int) : zN := { G with cl := fun a b => if a = o ∧ b = k then some who else G.cl a b }
def zN.link (G : zN) (o : Nat) (who : Int) : zN := { G with lk := fun a => if a = o then some who else G.lk a }
def zN.make (G : zN) (o k : Nat) : zN := { G with md := fun a => if a = o then k else G.md a }
def HG (G : zN) (E : List Ev) (n : Nat) (who : Int) (o : Nat) : Prop := o < n ∧ ∃ k, k < E.length ∧ (ev E k).who = who ∧ HB E (G.md o) k
structure RG (G : zN) (E : List Ev) (V : cA → Nat) (n : Nat) : Prop where
 kd : ∀ x ∈ E, EvR x
 pl : ∀ x ∈ E, x.loc.1 ≠ 13 → x.loc.1 ≠ 14 → x.loc.1 ≠ 16 → x.kind < 5
 ob : ∀ j, j < E.length → (ev E j).loc.1 = 13 → ∃ o : Nat, o < n ∧ (ev E j).loc = (13, (o : Int), 0) ∧ ((ev E j).kind = 5 ∨ j = G.md o) ∧ HB E (G.md o) j
 sl : ∀ s i, V (10, s, i) ≠ 0 → V (10, s, i) % 4294967296 < n ∧ ∃ st, st < E.length ∧ (ev E st).loc = (10, s, i) ∧ sto (ev E st) ∧ (∀ m, st < m → m < E.length → ¬ ((ev E m).loc = (10, s, i) ∧ sto (ev E m))) ∧ HB E (G.md (V (10, s, i) % 4294967296)) st
 ln : ∀ x ∈ E, x.loc.1 = 14 → ∃ o : Nat, x.loc = (14, (o : Int), 0) ∧ G.lk o = some x.who
 ce : ∀ x ∈ E, x.loc.1 = 16 → ∃ o k : Nat, x.loc = (16, (o : Int), (k : Int)) ∧ G.cl o k = some x.who
 wc : ∀ o k : Nat, G.cl o k ≠ none → k < aG (V (11, (o : Int), 0))
 wl : ∀ o : Nat, G.lk o ≠ none → aN (V (11, (o : Int), 0)) ≠ 0
 hd : ∀ o : Nat, V (12, (o : Int), 0) = 0
theorem RG.no_race {G : zN} {E : List Ev} {V : cA → Nat} {n : Nat} (h : RG G E V n) : ∀ i j, i < j → j < E.length → Cf (ev E i) (ev E j) → HB E i j := by
 intro i j hij hj hc;obtain ⟨c1, c2, c3, c4⟩ := hc
 have hi : i < E.length := by omega
 have mi : ev E i ∈ E := by rw [E3 hi]; exact FX hi
 have mj : ev E j ∈ E := by rw [E3 hj]; exact FX hj
 by_cases q13 : (ev E j).loc.1 = 13
 ·obtain ⟨o, _, o2, o3, o4⟩ := h.ob j hj q13
  obtain ⟨o', _, p2, p3, p4⟩ := h.ob i hi (by rw [c2]; exact q13)
  have hoo : o' = o := by
   rw [c2, o2] at p2
   injection p2 with _ p2
   injection p2 with p2 _
   omega
  subst hoo
  rcases o3 with o3 | o3
  ·have wi : wri (ev E i) := by
    rcases c4 with c4 | c4
    ·exact c4
    ·unfold wri at c4; omega
   rcases p3 with p3 | p3
   ·unfold wri at wi; omega
   ·rw [p3]; exact o4
  ·have := p4.le
   omega
 by_cases q14 : (ev E j).loc.1 = 14
 ·obtain ⟨o, o1, o2⟩ := h.ln _ mj q14
  obtain ⟨o', p1, p2⟩ := h.ln _ mi (by rw [c2]; exact q14);rw [c2, o1] at p1
  injection p1 with _ p1
  injection p1 with p1 _
  have : o' = o := by omega
  subst this;rw [o2] at p2;exact absurd (gD p2).symm c1
 by_cases q16 : (ev E j).loc.1 = 16
 ·obtain ⟨o, k, o1, o2⟩ := h.ce _ mj q16
  obtain ⟨o', k', p1, p2⟩ := h.ce _ mi (by rw [c2]; exact q16);rw [c2, o1] at p1
  injection p1 with _ p1
  injection p1 with p1 p3
  have : o' = o := by omega
  subst this
  have : k' = k := by omega
  subst this;rw [o2] at p2;exact absurd (gD p2).symm c1
 have a := h.pl _ mj q13 q14 q16;have b := h.pl _ mi (by rw [c2]; exact q13) (by rw [c2]; exact q14) (by rw [c2]; exact q16);omega
section
variable {G : zN} {E l : List Ev} {V V' : cA → Nat} {n n' o k : Nat} {x : Ev} {who : Int}
theorem HG.app (h : HG G E n who o) : HG G (E ++ l) n who o := by
 obtain ⟨h0, k, h1, h2, h3⟩ := h;exact ⟨h0, k, by rw [qr]; omega, by rw [d5 h1]; exact h2, h3.app⟩
theorem HG.last (h : HG G E n x.who o) : HB (E ++ [x]) (G.md o) E.length := by
 obtain ⟨h0, k, h1, h2, h3⟩ := h;exact h3.app.same (E.length - k) E.length (by omega) (by simp) (by rw [d5 h1, gU]; exact h2)
theorem RG.ev (h : RG G E V n) (r : EvR x) (pl : x.loc.1 ≠ 13 → x.loc.1 ≠ 14 → x.loc.1 ≠ 16 → x.kind < 5)
 (ob : x.loc.1 = 13 → ∃ o : Nat, x.loc = (13, (o : Int), 0) ∧ x.kind = 5 ∧ HG G E n x.who o)
 (ln : x.loc.1 = 14 → ∃ o : Nat, x.loc = (14, (o : Int), 0) ∧ G.lk o = some x.who)
 (ce : x.loc.1 = 16 → ∃ o k : Nat, x.loc = (16, (o : Int), (k : Int)) ∧ G.cl o k = some x.who)
 (hs : ∀ s i, V' (10, s, i) ≠ 0 → (V' (10, s, i) = V (10, s, i) ∧ ¬ (x.loc = (10, s, i) ∧ sto x)) ∨ (x.loc = (10, s, i) ∧ sto x ∧ HG G E n x.who (V' (10, s, i) % 4294967296)))
 (h11 : ∀ o : Nat, aG (V (11, (o : Int), 0)) ≤ aG (V' (11, (o : Int), 0)) ∧ (aN (V (11, (o : Int), 0)) ≠ 0 → aN (V' (11, (o : Int), 0)) ≠ 0))
 (h12 : ∀ o : Nat, V' (12, (o : Int), 0) = V (12, (o : Int), 0)) : RG G (E ++ [x]) V' n := by
 have hm : ∀ {y : Ev}, y ∈ E ++ [x] → y ∈ E ∨ y = x := fun hy => by
  rcases List.mem_append.1 hy with h | h
  ·exact .inl h
  ·exact .inr (List.mem_singleton.1 h)
 have hlen : (E ++ [x]).length = E.length + 1 := by simp
 refine ⟨fun y hy => ?_, fun y hy => ?_, fun j hj hl => ?_, fun s i hv => ?_, fun y hy => ?_, fun y hy => ?_, fun o k hc => ?_, fun o hc => ?_, fun o => ?_⟩
 ·rcases hm hy with hy | rfl
  ·exact h.kd y hy
  ·exact r
 ·rcases hm hy with hy | rfl
  ·exact h.pl y hy
  ·exact pl
 ·rcases Nat.lt_or_ge j E.length with hj2 | hj2
  ·rw [d5 hj2] at hl ⊢
   obtain ⟨o, o1, o2, o3, o4⟩ := h.ob j hj2 hl;exact ⟨o, o1, o2, o3, o4.app⟩
  ·have : j = E.length := by omega
   subst this;rw [gU] at hl ⊢;obtain ⟨o, o1, o2, o3⟩ := ob hl;exact ⟨o, o3.1, o1, .inl o2, o3.last⟩
 ·rcases hs s i hv with ⟨h1, h2⟩ | ⟨h1, h2, h3⟩
  ·rw [h1] at hv ⊢
   obtain ⟨q1, st, q2, q3, q4, q5, q6⟩ := h.sl s i hv;refine ⟨q1, st, by omega, by rw [d5 q2]; exact q3, by rw [d5 q2]; exact q4, fun m m1 m2 => ?_, q6.app⟩
   rcases Nat.lt_or_ge m E.length with hm2 | hm2
   ·rw [d5 hm2]; exact q5 m m1 hm2
   ·have : m = E.length := by omega
    subst this;rw [gU]; exact h2
  ·exact ⟨h3.1, E.length, by omega, by rw [gU]; exact h1, by rw [gU]; exact h2, fun m m1 m2 => by omega, h3.last⟩
 ·rcases hm hy with hy | rfl
  ·exact h.ln y hy
  ·exact ln
 ·rcases hm hy with hy | rfl
  ·exact h.ce y hy
  ·exact ce
 ·have := h.wc o k hc
  have := (h11 o).1;omega
 ·exact (h11 o).2 (h.wl o hc)
 ·rw [h12]; exact h.hd o
theorem RG.claim (h : RG G E V n) (o k : Nat) (who : Int) (hn : G.cl o k = none) (hk : k < aG (V (11, (o : Int), 0))) : RG (G.claim o k who) E V n := by
 refine ⟨h.kd, h.pl, h.ob, h.sl, h.ln, fun x hx hl => ?_, fun a b hc => ?_, h.wl, h.hd⟩
 ·obtain ⟨a, b, h1, h2⟩ := h.ce x hx hl
  refine ⟨a, b, h1, ?_⟩;show (if a = o ∧ b = k then some who else G.cl a b) = _;rw [if_neg (fun q => by rw [q.1, q.2, hn] at h2; cases h2)];exact h2
 ·by_cases q : a = o ∧ b = k
  ·rw [q.1, q.2]; exact hk
  ·refine h.wc a b fun hh => hc ?_
   show (if a = o ∧ b = k then some who else G.cl a b) = _;rw [if_neg q];exact hh
theorem RG.link (h : RG G E V n) (o : Nat) (who : Int) (hn : G.lk o = none) (hk : aN (V (11, (o : Int), 0)) ≠ 0) : RG (G.link o who) E V n := by
 refine ⟨h.kd, h.pl, h.ob, h.sl, fun x hx hl => ?_, h.ce, h.wc, fun a hc => ?_, h.hd⟩
 ·obtain ⟨a, h1, h2⟩ := h.ln x hx hl
  refine ⟨a, h1, ?_⟩;show (if a = o then some who else G.lk a) = _;rw [if_neg (fun q => by rw [q, hn] at h2; cases h2)];exact h2
 ·by_cases q : a = o
  ·rw [q]; exact hk
  ·refine h.wl a fun hh => hc ?_
   show (if a = o then some who else G.lk a) = _;rw [if_neg q];exact hh
theorem RG.make (h : RG G E V n) (who : Int) (hw : 0 ≤ who ∧ who ≤ 3) : RG (G.make n E.length) (E ++ [⟨who, 6, (13, (n : Int), 0)⟩]) V (n + 1) := by
 have hm : ∀ {y : Ev}, y ∈ E ++ [⟨who, 6, (13, (n : Int), 0)⟩] → y ∈ E ∨ y = ⟨who, 6, (13, (n : Int), 0)⟩ := fun hy => by
  rcases List.mem_append.1 hy with h | h
  ·exact .inl h
  ·exact .inr (List.mem_singleton.1 h)
 have hlen : (E ++ [(⟨who, 6, (13, (n : Int), 0)⟩ : Ev)]).length = E.length + 1 := by simp
 have hg : ∀ o, o < n → (G.make n E.length).md o = G.md o := fun o ho => by
  show (if o = n then _ else _) = _;rw [if_neg (by omega)]
 have hgn : (G.make n E.length).md n = E.length := if_pos rfl;refine ⟨fun y hy => ?_, fun y hy => ?_, fun j hj hl => ?_, fun s i hv => ?_, fun y hy => ?_, fun y hy => ?_, h.wc, h.wl, h.hd⟩
 ·rcases hm hy with hy | rfl
  ·exact h.kd y hy
  ·exact ⟨⟨hw.1, by show who ≤ 63; omega⟩, ⟨by show (1 : Int) ≤ 6; omega, by show (6 : Int) ≤ 6; omega⟩⟩
 ·rcases hm hy with hy | rfl
  ·exact h.pl y hy
  ·exact fun q => absurd rfl q
 ·rcases Nat.lt_or_ge j E.length with hj2 | hj2
  ·rw [d5 hj2] at hl ⊢
   obtain ⟨o, o1, o2, o3, o4⟩ := h.ob j hj2 hl;exact ⟨o, by omega, o2, by rw [hg o o1]; exact o3, by rw [hg o o1]; exact o4.app⟩
  ·have : j = E.length := by omega
   subst this;rw [gU];exact ⟨n, by omega, rfl, .inr hgn.symm, by rw [hgn]; exact .refl _⟩
 ·obtain ⟨q1, st, q2, q3, q4, q5, q6⟩ := h.sl s i hv
  refine ⟨by omega, st, by omega, by rw [d5 q2]; exact q3, by rw [d5 q2]; exact q4, fun m m1 m2 => ?_, by rw [hg _ q1]; exact q6.app⟩
  rcases Nat.lt_or_ge m E.length with hm2 | hm2
  ·rw [d5 hm2]; exact q5 m m1 hm2
  ·have : m = E.length := by omega
   subst this;rw [gU]
   exact fun q => by simp at q
 ·rcases hm hy with hy | rfl
  ·exact h.ln y hy
  ·exact fun q => by simp at q
 ·rcases hm hy with hy | rfl
  ·exact h.ce y hy
  ·exact fun q => by simp at q
end
theorem aqK {w m : Nat} (h : aP w 0 = some m) : aN w ≠ 2 ∧ aN w ≠ -1 ∧ aG m = aG w + 1 ∧ aN m = 1 := by
 have h : (if dd w ∧ aN w ≠ 2 ∧ aG w < 2305843009213693951 then some (aG w + 1 + 2305843009213693952) else none) = some m := h
 split at h
 ·rename_i hc
  obtain ⟨c1, c2, c3⟩ := hc;have e := gD h
  have hr : dd m = true := by
   unfold dd;refine eu ?_;omega
  refine ⟨c2, ?_, ?_, ?_⟩
  ·unfold aN; rw [if_pos c1]; omega
  ·rw [aG, if_pos hr]; omega
  ·rw [aN, if_pos hr]; omega
 ·cases h
theorem aqL {w m : Nat} (h : aP w 2 = some m) : aG m = aG w ∧ aN m = 2 := by
 have h : (if aN w = 0 then some (aG w + 4611686018427387904) else none) = some m := h
 split at h
 ·have hl : aG w < 2305843009213693952 := by
   unfold aG
   split
   ·exact Nat.mod_lt _ (by omega)
   ·omega
  have e := gD h
  have hr : dd m = true := by
   unfold dd;refine eu ?_;omega
  refine ⟨?_, ?_⟩
  ·rw [aG, if_pos hr]; omega
  ·rw [aN, if_pos hr]; omega
 ·cases h
theorem mO {E : List Ev} {i : Nat} (h : i < E.length) (j : Nat) : (Ev.cells E[i])[j]? = (Ev.cells (ev E i))[j]? := by rw [E3 h]
theorem Jc (a b : cA) : aj (.flat 3) .eql (.agg (#[vi a.1, vi a.2.1, vi a.2.2] : Array Value)) (.agg (#[vi b.1, vi b.2.1, vi b.2.2] : Array Value)) = some (vb (decide (a = b))) := by
 show (qy (.flat 3) (.agg #[vi a.1, vi a.2.1, vi a.2.2]) (.agg #[vi b.1, vi b.2.1, vi b.2.2])).map (fun b => Value.bool b) = _;simp only [qy];rw [if_pos ⟨rfl, rfl⟩];obtain ⟨a1, a2, a3⟩ := a;obtain ⟨b1, b2, b3⟩ := b
 by_cases h1 : a1 = b1 <;> by_cases h2 : a2 = b2 <;> by_cases h3 : a3 = b3 <;> simp [bM, h1, h2, h3]
section
variable {P : SP} {s : Value} {E : List Ev} [r : Rd P s 5 Ev.cells E] (hE : E.length < 100000)
include hE
theorem amV (i : Nat) (hi : i < E.length) : Sp Aw [s, vi (i : Int)] P (fun n : Int => vi n) (fun n => pu (n = -1 ∧ (∀ k, ¬ vh E k i) ∨ ∃ k : Nat, n = (k : Int) ∧ vh E k i) * P) := by
 refine bh (RF _ _) fun R H h => ?_;refine ah (Ij ..) ?_;refine aa (gS (by omega) (by omega)) ?_;refine ah (Il ..) ?_
 have loop : ∀ n : Nat, n ≤ i → (∀ m, n ≤ m → m < i → (ev E m).who ≠ (ev E i).who) → wp (qF s (vi (i : Int)) (vi 0) (vi ((n : Int) - 1)) H) fun v' H' => ∃ x : Int, v' = vi x ∧ ac (pu (x = -1 ∧ (∀ k, ¬ vh E k i) ∨ ∃ k : Nat, x = (k : Int) ∧ vh E k i) * P * R) H' := by
  intro n
  induction n with
  | zero =>
   intro _ hm;refine ah (u9 ..) ?_;refine aa (il (by omega)) ?_;refine gs ?_;refine ah (Dd ..) ?_;refine ah (Ik ..) ?_;refine am ⟨-1, rfl, ?_⟩;rw [ai];exact ac.pu.2 ⟨.inl ⟨rfl, fun k hk => hm k (Nat.zero_le _) hk.lt hk.who⟩, h⟩
  | succ n ih =>
   intro hn hm
   have hnl : n < E.length := by omega
   rw [show ((n + 1 : Nat) : Int) - 1 = (n : Int) from by omega];refine ah (u9 ..) ?_;refine aa (jV (by omega)) ?_;refine gs ?_;refine ah (Im ..) ?_;refine jO (s := s) (l := E) (g := 0) (v := vi (ev E n).who) h hnl (by omega) (by rw [mO hnl]; rfl) ?_;refine jO (s := s) (l := E) (g := 0) (v := vi (ev E i).who) h hi (by omega) (by rw [mO hi]; rfl) ?_
   by_cases hw : (ev E n).who = (ev E i).who
   ·refine aa (bg hw) ?_
    refine gs ?_;refine am ⟨(n : Int), rfl, ?_⟩;rw [ai];exact ac.pu.2 ⟨.inr ⟨n, rfl, by omega, hi, hw, fun m h1 h2 => hm m (by omega) h2⟩, h⟩
   ·refine aa (aE hw) ?_
    refine gs ?_;refine ah (In ..) ?_;refine aa (gS (by omega) (by omega)) ?_;refine ih (by omega) fun m h1 h2 => ?_
    by_cases e : m = n
    ·subst e; exact hw
    ·exact hm m (by omega) h2
 exact loop i (bv _) fun m h1 h2 => by omega
theorem Y5 (i : Nat) (hi : i < E.length) (hk : (ev E i).kind = 1 ∨ (ev E i).kind = 3 ∨ (ev E i).kind = 4) : Sp od [s, vi (i : Int)] P (fun n : Int => vi n) (fun n => pu (n = -1 ∧ (∀ k, ¬ pZ E k i) ∨ ∃ k : Nat, n = (k : Int) ∧ pZ E k i) * P) := by
 refine bh (Ml _ _) fun R H h => ?_;refine ah (C8 ..) ?_;refine aa (gS (by omega) (by omega)) ?_;refine ah (Da ..) ?_
 have loop : ∀ n : Nat, n ≤ i → (∀ m, n ≤ m → m < i → ¬ ((ev E m).loc = (ev E i).loc ∧ sto (ev E m))) → wp (ml s (vi (i : Int)) (vi 0) (vi ((n : Int) - 1)) H) fun v' H' => ∃ x : Int, v' = vi x ∧ ac (pu (x = -1 ∧ (∀ k, ¬ pZ E k i) ∨ ∃ k : Nat, x = (k : Int) ∧ pZ E k i) * P * R) H' := by
  intro n
  induction n with
  | zero =>
   intro _ hm;refine ah (re ..) ?_;refine aa (il (by omega)) ?_;refine gs ?_;refine ah (yY ..) ?_;refine ah (C9 ..) ?_;refine am ⟨-1, rfl, ?_⟩;rw [ai];exact ac.pu.2 ⟨.inl ⟨rfl, fun k hk => hm k (Nat.zero_le _) hk.lt ⟨hk.loc, hk.sto⟩⟩, h⟩
  | succ n ih =>
   intro hn hm
   have hnl : n < E.length := by omega
   rw [show ((n + 1 : Nat) : Int) - 1 = (n : Int) from by omega];refine ah (re ..) ?_;refine aa (jV (by omega)) ?_;refine gs ?_;refine ah (Db ..) ?_;refine MU (s := s) (l := E) (g := 2) (n := 3) (cs := [vi (ev E n).loc.1, vi (ev E n).loc.2.1, vi (ev E n).loc.2.2]) h hnl (by omega) (by rw [← E3 hnl]; rfl) ?_;refine MU (s := s) (l := E) (g := 2) (n := 3) (cs := [vi (ev E i).loc.1, vi (ev E i).loc.2.1, vi (ev E i).loc.2.2]) h hi (by omega) (by rw [← E3 hi]; rfl) ?_;refine aa (Jc _ _) ?_
   have next : ¬ ((ev E n).loc = (ev E i).loc ∧ sto (ev E n)) → wp (qE s (vi (i : Int)) (vi 0) (vi (n : Int)) H) fun v' H' => ∃ x : Int, v' = vi x ∧ ac (pu (x = -1 ∧ (∀ k, ¬ pZ E k i) ∨ ∃ k : Nat, x = (k : Int) ∧ pZ E k i) * P * R) H' := by
    intro hne;refine ah (Dc ..) ?_;refine aa (gS (by omega) (by omega)) ?_;refine ih (by omega) fun m h1 h2 => ?_
    by_cases e : m = n
    ·subst e; exact hne
    ·exact hm m (by omega) h2
   have got : (ev E n).loc = (ev E i).loc → sto (ev E n) → wp (some (vi (n : Int), H)) fun v' H' => ∃ x : Int, v' = vi x ∧ ac (pu (x = -1 ∧ (∀ k, ¬ pZ E k i) ∨ ∃ k : Nat, x = (k : Int) ∧ pZ E k i) * P * R) H' := by
    intro hl hs;refine am ⟨(n : Int), rfl, ?_⟩;rw [ai];exact ac.pu.2 ⟨.inr ⟨n, rfl, by omega, hi, hk, hl, hs, fun m h1 h2 => hm m (by omega) h2⟩, h⟩
   by_cases hl : (ev E n).loc = (ev E i).loc
   ·rw [eu hl]
    refine gs ?_;refine jO (s := s) (l := E) (g := 1) (v := vi (ev E n).kind) h hnl (by omega) (by rw [mO hnl]; rfl) ?_;refine gs ?_
    by_cases k2 : (ev E n).kind = 2
    ·refine aa (bg k2) ?_
     refine gs ?_;exact got hl (.inl k2)
    ·refine aa (aE k2) ?_
     refine gs ?_;refine jO (s := s) (l := E) (g := 1) (v := vi (ev E n).kind) h hnl (by omega) (by rw [mO hnl]; rfl) ?_;refine gs ?_
     by_cases k3 : (ev E n).kind = 3
     ·refine aa (bg k3) ?_
      refine gs ?_;exact got hl (.inr k3)
     ·refine aa (aE k3) ?_
      refine gs ?_
      exact next fun q => by rcases q.2 with q | q; exact k2 q; exact k3 q
   ·rw [d4 hl]
    refine gs ?_;exact next fun q => hl q.1
 exact loop i (bv _) fun m h1 h2 => by omega
theorem ZV (hR : ∀ x ∈ E, EvR x) : Sp jx [s] P (fun _ : Unit => vb true) (fun _ => P) := by
 refine bh (vZ _) fun R H h => ?_;refine ah (rE ..) ?_;refine ah (rG ..) ?_
 have loop : ∀ (d i : Nat), i + d = E.length → wp (f4 s (vb false) (vi (i : Int)) H) fun v' H' => ∃ _x : Unit, v' = vb true ∧ ac (P * R) H' := by
  intro d
  induction d with
  | zero =>
   intro i hi;refine ah (jW ..) ?_;refine de (s := s) (l := E) h ?_;refine aa (bP (by omega)) ?_;refine gs ?_;refine ah (pQ ..) ?_;refine ah (rF ..) ?_;exact am ⟨(), rfl, h⟩
  | succ d ih =>
   intro i hi
   have hil : i < E.length := by omega
   obtain ⟨⟨w1, w2⟩, k1, k2⟩ := hR _ (FX hil);refine ah (jW ..) ?_;refine de (s := s) (l := E) h ?_;refine aa (cE (by omega)) ?_;refine gs ?_;refine ah (rH ..) ?_;refine jO (s := s) (l := E) (g := 0) (v := vi E[i].who) h hil (by omega) rfl ?_;refine aa (bP (by omega)) ?_;refine gs ?_;refine jO (s := s) (l := E) (g := 0) (v := vi E[i].who) h hil (by omega) rfl ?_;refine gs ?_;refine aa (fV (by omega)) ?_;refine gs ?_;refine jO (s := s) (l := E) (g := 1) (v := vi E[i].kind) h hil (by omega) rfl ?_;refine gs ?_;refine aa (bP (by omega)) ?_;refine gs ?_;refine jO (s := s) (l := E) (g := 1) (v := vi E[i].kind) h hil (by omega) rfl ?_;refine gs ?_;refine aa (fV (by omega)) ?_;refine gs ?_;refine ah (rI ..) ?_;refine aa (aS (by omega) (by omega)) ?_;rw [show ((i : Nat) : Int) + 1 = ((i + 1 : Nat) : Int) from by omega];exact ih (i + 1) (by omega)
 exact loop E.length 0 (by omega)
end
theorem Hw (x : Ev) : Sp g8 [.agg (Ev.cells x).toArray] emp (fun b : Bool => vb b) (fun b => pu (b = true ↔ wri x)) := by
 refine bh (Io _) fun R H h => ?_;refine ba (l := Ev.cells x) h fun b H1 h1 => ?_;refine ak h1 aD rfl ?_
 by_cases k2 : x.kind = 2
 ·refine aa (bg k2) ?_
  refine gs ?_;exact am ⟨true, rfl, ac.pu.2 ⟨⟨fun _ => .inl k2, fun _ => rfl⟩, h1.to⟩⟩
 ·refine aa (aE k2) ?_
  refine gs ?_;refine ak h1 aD rfl ?_;refine gs ?_
  by_cases k3 : x.kind = 3
  ·refine aa (bg k3) ?_
   refine gs ?_;exact am ⟨true, rfl, ac.pu.2 ⟨⟨fun _ => .inr (.inl k3), fun _ => rfl⟩, h1.to⟩⟩
  ·refine aa (aE k3) ?_
   refine gs ?_;refine ak h1 aD rfl ?_;refine gs ?_
   by_cases k6 : x.kind = 6
   ·refine aa (bg k6) ?_
    refine gs ?_;exact am ⟨true, rfl, ac.pu.2 ⟨⟨fun _ => .inr (.inr k6), fun _ => rfl⟩, h1.to⟩⟩
   ·refine aa (aE k6) ?_
    refine gs ?_
    exact am ⟨false, rfl, ac.pu.2 ⟨⟨(fun q => by cases q), (fun q => by rcases q with q | q | q; exact absurd q k2; exact absurd q k3; exact absurd q k6)⟩, h1.to⟩⟩
theorem J8 (a b : Ev) : Sp nj [.agg (Ev.cells a).toArray, .agg (Ev.cells b).toArray] emp (fun c : Bool => vb c) (fun c => pu (c = true → Cf a b)) := by
 refine bh (CZ _ _) fun R H h => ?_;refine ba (l := [vi a.who, vi a.kind, vi a.loc.1, vi a.loc.2.1, vi a.loc.2.2]) h fun b1 H1 h1 => ?_;refine ba (l := [vi b.who, vi b.kind, vi b.loc.1, vi b.loc.2.1, vi b.loc.2.2]) h1 fun b2 H2 h2 => ?_;have no : ∀ {H : AH}, ac R H → ∃ c : Bool, vb false = vb c ∧ ac (pu (c = true → Cf a b) * R) H := fun h => ⟨false, rfl, ac.pu.2 ⟨(fun q => by cases q), h⟩⟩;refine ak h2 aD rfl ?_
 have rest : ∀ (pl : Bool) (_hp : pl = true → 5 ≤ a.kind ∨ 5 ≤ b.kind), wp (ld [.f 0] (vp b1) H2 fun v9 =>
 ld [.f 0] (vp b2) H2 fun v10 =>
 (aj .other .neq v9 v10).bind fun v11 =>
 pz v11 true  3 [.f 2] (vp b1) H2 fun v12 =>
 pz v11 true  3 [.f 2] (vp b2) H2 fun v13 =>
 (gB v11 true (aj (.flat 3) .eql v12 v13)).bind fun v14 =>
 (aK v11 v14 (vb false)).bind fun v15 =>
 (gV v15 true (vb pl)).bind fun v16 =>
 (aK v15 v16 (vb false)).bind fun v17 =>
 (gB v17 true (ax 5 (vp b1) H2)).bind fun v18 =>
 (gE v17 true H2 (FF g8 [v18] H2)).bind fun r19 =>
 (gV v17 true r19.1).bind fun v20 =>
 (gB v20 false (ax 5 (vp b2) r19.2)).bind fun v21 =>
 (gE v20 false r19.2 (FF g8 [v21] r19.2)).bind fun r22 =>
 (gB v17 true (aK v20 (vb true) r22.1)).bind fun v23 =>
 (aK v17 v23 (vb false)).bind fun v24 =>
 some (v24, r22.2)) fun v' H' => ∃ c : Bool, v' = vb c ∧ ac (pu (c = true → Cf a b) * R) H' := by
  intro pl hp;refine ak h2 aD rfl ?_;refine ak h2 aD rfl ?_
  by_cases hw : a.who = b.who
  ·refine aa (BJ hw) ?_
   refine gs ?_;exact am (no h2.to)
  ·refine aa (Jm hw) ?_
   refine gs ?_;refine JT (l := [vi a.loc.1, vi a.loc.2.1, vi a.loc.2.2]) h2 aD ?_;refine gs ?_;refine JT (l := [vi b.loc.1, vi b.loc.2.1, vi b.loc.2.2]) h2 aD ?_;refine gs ?_;refine aa (Jc a.loc b.loc) ?_
   by_cases hl : a.loc = b.loc
   ·rw [eu hl]
    refine gs ?_
    cases pl with
    | false =>
     refine gs ?_;exact am (no h2.to)
    | true =>
     refine gs ?_;refine aZ h2 ?_;refine gs ?_;refine af h2 (Hw a) fun c1 H3 h3 => ?_;rw [ac.pu] at h3;obtain ⟨hc1, h3⟩ := h3
     cases c1 with
     | true =>
      refine gs ?_;exact am ⟨true, rfl, ac.pu.2 ⟨fun _ => ⟨hw, hl, hp rfl, .inl (hc1.1 rfl)⟩, h3.to⟩⟩
     | false =>
      refine gs ?_;refine aZ h3 ?_;refine gs ?_;refine af h3 (Hw b) fun c2 H4 h4 => ?_;rw [ac.pu] at h4;obtain ⟨hc2, h4⟩ := h4
      cases c2 with
      | true =>
       refine gs ?_;exact am ⟨true, rfl, ac.pu.2 ⟨fun _ => ⟨hw, hl, hp rfl, .inr (hc2.1 rfl)⟩, h4.to⟩⟩
      | false =>
       refine gs ?_;exact am (no h4.to)
   ·rw [d4 hl]
    refine gs ?_;exact am (no h2.to)
 by_cases ka : 5 ≤ a.kind
 ·refine aa (jV ka) ?_
  refine gs ?_;exact rest true fun _ => .inl ka
 ·refine aa (il ka) ?_
  refine gs ?_;refine ak h2 aD rfl ?_;refine gs ?_
  by_cases kb : 5 ≤ b.kind
  ·refine aa (jV kb) ?_
   refine gs ?_;exact rest true fun _ => .inr kb
  ·refine aa (il kb) ?_
   refine gs ?_
   exact rest false fun q => by cases q
abbrev Ck := zL × List Int
def iS : List Ck → SP
 | [] => emp
 | q :: l => ts 1 cr (jT q.1) q.2 * iS l
abbrev cC (CC : List Ck) : List zL := CC.map fun q : Ck => q.1
theorem WR : ∀ (CC : List Ck) (g : Ck), iS (CC ++ [g]) = iS CC * ts 1 cr (jT g.1) g.2 := by
 intro CC
 induction CC with
 | nil => intro g; show ts 1 cr (jT g.1) g.2 * emp = emp * _; rw [fA, ft]
 | cons q CC ih => intro g; show ts 1 cr (jT q.1) q.2 * iS (CC ++ [g]) = ts 1 cr (jT q.1) q.2 * iS CC * _; rw [ih, ai]
theorem DH : ∀ {CC : List Ck} {i : Nat} (h : i < CC.length), Rd (iS CC) (jT CC[i].1) 1 cr CC[i].2 := by
 intro CC
 induction CC with
 | nil => intro i h; simp at h
 | cons q CC ih =>
  intro i h
  cases i with
  | zero =>
   show Rd (ts 1 cr (jT q.1) q.2 * iS CC) (jT q.1) 1 cr q.2
   infer_instance
  | succ i =>
   have h' : i < CC.length := by simpa using h
   haveI := ih h'
   show Rd (_ * iS CC) (jT CC[i].1) 1 cr CC[i].2
   infer_instance
structure CkE (E : List Ev) (CC : List Ck) : Prop where
 ok : ∀ (j : Nat) (h : j < CC.length), o5 CC[j].2 (j + 1)
 edge : ∀ (j : Nat) (h : j < CC.length) (k : Nat) (hk : k < j), vh E k j ∨ pZ E k j → M3 CC[k].2 CC[j].2
theorem vh.uniq {E : List Ev} {k k' j : Nat} (h : vh E k j) (h' : vh E k' j) : k = k' := by
 rcases Nat.lt_trichotomy k k' with q | q | q
 ·exact absurd h'.who (h.no k' q h'.lt)
 ·exact q
 ·exact absurd h.who (h'.no k q h.lt)
theorem pZ.uniq {E : List Ev} {k k' j : Nat} (h : pZ E k j) (h' : pZ E k' j) : k = k' := by
 rcases Nat.lt_trichotomy k k' with q | q | q
 ·exact absurd ⟨h'.loc, h'.sto⟩ (h.no k' q h'.lt)
 ·exact q
 ·exact absurd ⟨h.loc, h.sto⟩ (h'.no k q h.lt)
theorem CkE.hb {E : List Ev} {CC : List Ck} (h : CkE E CC) (hl : CC.length = E.length) {i j : Nat} (b : HB E i j) : ∀ (hj : j < CC.length), ∃ hi : i < CC.length, M3 CC[i].2 CC[j].2 := by
 induction b with
 | refl => exact fun hj => ⟨hj, M3.refl _⟩
 | own b o ih =>
  intro hj;have hk := o.lt;obtain ⟨hi, le⟩ := ih (by omega);exact ⟨hi, le.trans (h.edge _ hj _ hk (.inl o))⟩
 | fnd b o ih =>
  intro hj;have hk := o.lt;obtain ⟨hi, le⟩ := ih (by omega);exact ⟨hi, le.trans (h.edge _ hj _ hk (.inr o))⟩
section
variable {P : SP} {s : Value} {E : List Ev} [r : Rd P s 5 Ev.cells E] (hE : E.length < 100000) (hR : ∀ x ∈ E, EvR x)
include hE hR
theorem PG : Sp qv [s] P (fun g : zL × List Ck => jT g.1) (fun g => pu (g.2.length = E.length ∧ CkE E g.2) * (ts 1 cO (jT g.1) (cC g.2) * (iS g.2 * P))) := by
 refine bh (Id _) fun R H h => ?_;refine af h (ZV (P := P) hE hR) fun _ H1 h1 => ?_;refine gs ?_;rw [Bool.not_true];refine gs ?_;refine ah (AF ..) ?_;refine ah (AI ..) ?_;have loop : ∀ (d i : Nat) (o : Value) (CC : List Ck) (H : AH), i + d = E.length → CC.length = i → CkE E CC → ac (ts 1 cO o (cC CC) * (iS CC * (P * R))) H →
  wp (kN s (.slice none 0 0) o (vi (i : Int)) H) fun v' H' => ∃ g : zL × List Ck, v' = jT g.1 ∧ ac (pu (g.2.length = E.length ∧ CkE E g.2) * (ts 1 cO (jT g.1) (cC g.2) * (iS g.2 * P)) * R) H' := by
  intro d
  induction d with
  | zero =>
   intro i o CC H hi hl hC h;refine ah (pO ..) ?_;refine de (s := s) (l := E) h ?_;refine aa (bP (by omega)) ?_;refine gs ?_;refine ah (vX ..) ?_;refine ah (AG ..) ?_
   obtain ⟨a4, n4, c4, rfl⟩ : ∃ a n c, o = .slice a n c := by
    rcases mp (s := o) (enc := cO) h with ⟨e, _⟩ | ⟨b, e, _⟩ <;> exact ⟨_, _, _, e⟩
   refine am ⟨((a4, n4, c4), CC), rfl, ?_⟩;rw [ai];exact ac.pu.2 ⟨⟨(show CC.length = _ from by omega), hC⟩, (show ac (ts 1 cO (.slice a4 n4 c4) (cC CC) * (iS CC * P) * R) H from h.to)⟩
  | succ d ih =>
   intro i o CC H hi hl hC h
   have hil : i < E.length := by omega
   have hev := hR _ (FX hil);obtain ⟨w, hw⟩ : ∃ w : Nat, E[i].who = (w : Int) := ⟨E[i].who.toNat, by have := hev.who; omega⟩
   have hw64 : w < 64 := by have := hev.who; omega
   -- with the clock that is made
   have k11 : ∀ (P1 : SP) (x5 : Value) (c : List Int) (H1 : AH) (_r1 : Rd (P1 * (ts 1 cO o (cC CC) * (iS CC * (P * R)))) x5 1 cr c), o5 c i → (∀ (k : Nat) (hk : k < CC.length), vh E k i ∨ pZ E k i → M3 CC[k].2 c) → ac (P1 * (ts 1 cO o (cC CC) * (iS CC * (P * R)))) H1 →
    wp (dA s (.slice none 0 0) o (vi (i : Int)) x5 H1) fun v' H' => ∃ g : zL × List Ck, v' = jT g.1 ∧ ac (pu (g.2.length = E.length ∧ CkE E g.2) * (ts 1 cO (jT g.1) (cC g.2) * (iS g.2 * P)) * R) H' := by
    intro P1 x5 c H1 _r1 hc hedge h1;refine ah (yN ..) ?_;refine jO (s := s) (l := E) (g := 0) (v := vi (w : Int)) h1 hil (by omega) (by rw [← hw]; rfl) ?_;refine af h1 (ai8 (P := P1 * (ts 1 cO o (cC CC) * (iS CC * (P * R)))) w hw64 hc (by omega)) fun g H2 h2 => ?_;rw [ai, ac.pu] at h2;obtain ⟨hT, h2⟩ := h2;refine MS h2 fun rb H3 h3 => ?_;refine f5 (s := o) (l := cC CC) (g.1 : zL) h3 rfl ?_ (by omega) fun q cc H4 h4 => ?_
    ·unfold room; simp; omega
    refine ah (AK ..) ?_;refine aa (aS (by omega) (by omega)) ?_;rw [show ((i : Nat) : Int) + 1 = ((i + 1 : Nat) : Int) from by omega];refine ih (i + 1) _ (CC ++ [g]) H4 (by omega) (by simp; omega) ⟨fun j hj => ?_, fun j hj k hk he => ?_⟩ ?_
    ·rcases Nat.lt_or_ge j CC.length with h5 | h5
     ·rw [List.getElem_append_left h5]; exact hC.ok j h5
     ·have : j = CC.length := by rw [qr, List.length_singleton] at hj; omega
      subst this;rw [List.getElem_append_right (bv _)];simp only [Nat.sub_self, List.getElem_cons_zero];rw [hl];exact hT.ok
    ·rcases Nat.lt_or_ge j CC.length with h5 | h5
     ·rw [List.getElem_append_left h5, List.getElem_append_left (by omega)]; exact hC.edge j h5 k hk he
     ·have : j = CC.length := by rw [qr, List.length_singleton] at hj; omega
      subst this;rw [List.getElem_append_right (bv _), List.getElem_append_left hk];simp only [Nat.sub_self, List.getElem_cons_zero];rw [hl] at he;exact (hedge k hk he).trans hT.le
    ·rw [WR]
     have e : cC (CC ++ [g]) = cC CC ++ [g.1] := by simp [cC]
     rw [e];exact h4.to
   -- with the clock of its own access ahead
   have k10 : ∀ (x5 : Value) (c : List Int) (H1 : AH) (_r1 : Rd (iS CC) x5 1 cr c), o5 c i → (∀ (k : Nat) (hk : k < CC.length), vh E k i → M3 CC[k].2 c) → ac (ts 1 cO o (cC CC) * (iS CC * (P * R))) H1 →
    wp (jI s (.slice none 0 0) o (vi (i : Int)) x5 H1) fun v' H' => ∃ g : zL × List Ck, v' = jT g.1 ∧ ac (pu (g.2.length = E.length ∧ CkE E g.2) * (ts 1 cO (jT g.1) (cC g.2) * (iS g.2 * P)) * R) H' := by
    intro x5 c H1 _r1 hc hedge h1
    have plain : (∀ k, ¬ pZ E k i) → ∀ H2, ac (ts 1 cO o (cC CC) * (iS CC * (P * R))) H2 → wp (dA s (.slice none 0 0) o (vi (i : Int)) x5 H2) fun v' H' => ∃ g : zL × List Ck, v' = jT g.1 ∧ ac (pu (g.2.length = E.length ∧ CkE E g.2) * (ts 1 cO (jT g.1) (cC g.2) * (iS g.2 * P)) * R) H' := by
     intro hno H2 h2
     exact k11 emp x5 c H2 inferInstance hc (fun k hk he => by
      rcases he with he | he
      ·exact hedge k hk he
      ·exact absurd he (hno k)) (by rw [ft]; exact h2)
    have look : (ev E i).kind = 1 ∨ (ev E i).kind = 3 ∨ (ev E i).kind = 4 → wp ((FF od [s, vi (i : Int)] H1).bind fun r29 =>
     (aj .other .geq r29.1 (vi 0)).bind fun v30 =>
     av v30
     (ld [.i 1 r29.1] o r29.2 fun v31 =>
     (FF qw [x5, v31] r29.2).bind fun r32 =>
     dA s (.slice none 0 0) o (vi (i : Int)) r32.1 r32.2)
     (dA s (.slice none 0 0) o (vi (i : Int)) x5 r29.2)) fun v' H' => ∃ g : zL × List Ck, v' = jT g.1 ∧ ac (pu (g.2.length = E.length ∧ CkE E g.2) * (ts 1 cO (jT g.1) (cC g.2) * (iS g.2 * P)) * R) H' := by
     intro hk;refine af h1 (Y5 (P := P) hE i hil hk) fun n H2 h2 => ?_;rw [ai, ac.pu] at h2;obtain ⟨hn, h2⟩ := h2
     rcases hn with ⟨rfl, hno⟩ | ⟨k, rfl, hf⟩
     ·refine aa (il (by omega)) ?_
      refine gs ?_;exact plain hno H2 h2.to
     ·have hkl : k < CC.length := by have := hf.lt; omega
      refine aa (jV (by omega)) ?_;refine gs ?_;have h3 : ac (ts 1 cO o (cC CC) * (iS CC * (P * R))) H2 := h2.to;refine eF (s := o) (l := cC CC) (v := jT CC[k].1) h3 (by simpa using hkl) (by simp [cC]) ?_
      haveI := DH hkl
      have hck : o5 CC[k].2 i := (hC.ok k hkl).mono (by have := hf.lt; omega);refine af h3 (agK (P := iS CC) hc hck (by omega)) fun v H4 h4 => ?_;obtain ⟨j1, j2, j3⟩ := apC hc hck;refine k11 (ts 1 cr v (ckJ c CC[k].2)) v (ckJ c CC[k].2) H4 inferInstance j1 (fun k' hk' he => ?_) h4.to
      rcases he with he | he
      ·exact (hedge k' hk' he).trans j2
      ·have := he.uniq hf
       subst this;exact j3
    have nok : ¬ ((ev E i).kind = 1 ∨ (ev E i).kind = 3 ∨ (ev E i).kind = 4) → ∀ k, ¬ pZ E k i := fun hn k he => hn he.kind;refine ah (yM ..) ?_;have c1 : ∀ H2, ac (ts 1 cO o (cC CC) * (iS CC * (P * R))) H2 → True := fun _ _ => trivial;refine jO (s := s) (l := E) (g := 1) (v := vi (ev E i).kind) h1 hil (by omega) (by rw [mO hil]; rfl) ?_
    by_cases q1 : (ev E i).kind = 1
    ·refine aa (bg q1) ?_
     refine gs ?_;exact look (.inl q1)
    ·refine aa (aE q1) ?_
     refine gs ?_;refine jO (s := s) (l := E) (g := 1) (v := vi (ev E i).kind) h1 hil (by omega) (by rw [mO hil]; rfl) ?_;refine gs ?_
     by_cases q3 : (ev E i).kind = 3
     ·refine aa (bg q3) ?_
      refine gs ?_;exact look (.inr (.inl q3))
     ·refine aa (aE q3) ?_
      refine gs ?_;refine jO (s := s) (l := E) (g := 1) (v := vi (ev E i).kind) h1 hil (by omega) (by rw [mO hil]; rfl) ?_;refine gs ?_
      by_cases q4 : (ev E i).kind = 4
      ·refine aa (bg q4) ?_
       refine gs ?_;exact look (.inr (.inr q4))
      ·refine aa (aE q4) ?_
       refine gs ?_
       exact plain (nok (fun q => by rcases q with q | q | q; exact q1 q; exact q3 q; exact q4 q)) H1 h1
   refine ah (pO ..) ?_;refine de (s := s) (l := E) h ?_;refine aa (cE (by omega)) ?_;refine gs ?_;refine ah (AJ ..) ?_;refine ah (AL ..) ?_;refine af h (amV (P := P) hE i hil) fun n H2 h2 => ?_;rw [ai, ac.pu] at h2;obtain ⟨hn, h2⟩ := h2;have h3 : ac (ts 1 cO o (cC CC) * (iS CC * (P * R))) H2 := h2.to
   rcases hn with ⟨rfl, hno⟩ | ⟨k, rfl, ho⟩
   ·refine aa (il (by omega)) ?_
    refine gs ?_;exact k10 (.slice none 0 0) [] H2 (am2 _) (o5.nil _) (fun k hk he => absurd he (hno k)) h3
   ·have hkl : k < CC.length := by have := ho.lt; omega
    refine aa (jV (by omega)) ?_;refine gs ?_;refine eF (s := o) (l := cC CC) (v := jT CC[k].1) h3 (by simpa using hkl) (by simp [cC]) ?_;refine k10 (jT CC[k].1) CC[k].2 H2 (DH hkl) ((hC.ok k hkl).mono (by have := ho.lt; omega)) (fun k' hk' he => ?_) h3;have := he.uniq ho;subst this;exact M3.refl _
 refine loop E.length 0 (.slice none 0 0) [] H1 (by omega) rfl ⟨fun j h => by simp at h, fun j h => by simp at h⟩ ?_;have h2 := dL 1 cO h1;show ac (ts 1 cO (.slice none 0 0) [] * (emp * (P * R))) H1;rw [ft];exact h2.to
theorem Y1 (hno : ∀ i j, i < j → j < E.length → Cf (ev E i) (ev E j) → HB E i j) : Sp sO [s] P (fun _ : Unit => .tuple #[vi 0, vi 0, vb false]) (fun _ => P) := by
 refine bh (Mk _) fun R H h => ?_;refine af h (PG (P := P) hE hR) fun g H1 h1 => ?_;rw [ai, ac.pu] at h1;obtain ⟨⟨hl, hC⟩, h1⟩ := h1;refine ah (C0 ..) ?_;refine ah (C2 ..) ?_
 have loop : ∀ (d j : Nat) (H : AH), j + d = E.length → ac (ts 1 cO (jT g.1) (cC g.2) * (iS g.2 * (P * R))) H → wp (mh s (vi 0) (vi 0) (vb false) (jT g.1) (vi (j : Int)) H) fun v' H' => ∃ _x : Unit, v' = .tuple #[vi 0, vi 0, vb false] ∧ ac (P * R) H' := by
  intro d
  induction d with
  | zero =>
   intro j H hj h;refine ah (q9 ..) ?_;refine de (s := jT g.1) (l := cC g.2) h ?_;refine aa (bP (by simp; omega)) ?_;refine gs ?_;refine ah (yO ..) ?_;refine ah (C1 ..) ?_;exact am ⟨(), rfl, h.to⟩
  | succ d ih =>
   intro j H hj h
   have hjl : j < E.length := by omega
   refine ah (q9 ..) ?_;refine de (s := jT g.1) (l := cC g.2) h ?_;refine aa (cE (by simp; omega)) ?_;refine gs ?_;refine ah (C3 ..) ?_;refine ah (C5 ..) ?_
   have inner : ∀ (e i : Nat) (H : AH), i + e = j → ac (ts 1 cO (jT g.1) (cC g.2) * (iS g.2 * (P * R))) H → wp (kO s (vi 0) (vi 0) (vb false) (jT g.1) (vi (j : Int)) (vi (i : Int)) H) fun v' H' => ∃ _x : Unit, v' = .tuple #[vi 0, vi 0, vb false] ∧ ac (P * R) H' := by
    intro e
    induction e with
    | zero =>
     intro i H hi h;refine ah (pP ..) ?_;refine aa (bP (by omega)) ?_;refine gs ?_;refine ah (vY ..) ?_;refine ah (C4 ..) ?_;refine aa (aS (by omega) (by omega)) ?_;rw [show ((j : Nat) : Int) + 1 = ((j + 1 : Nat) : Int) from by omega];exact ih (j + 1) H (by omega) h
    | succ e ihe =>
     intro i H hi h
     have hil : i < E.length := by omega
     refine ah (pP ..) ?_;refine aa (cE (by omega)) ?_;refine gs ?_;refine ah (AM ..) ?_;refine Ht (s := s) (l := E) h hil ?_;refine Ht (s := s) (l := E) h hjl ?_;refine af h (J8 E[i] E[j]) fun c H2 h2 => ?_;rw [ac.pu] at h2;obtain ⟨hc, h2⟩ := h2;have h3 : ac (ts 1 cO (jT g.1) (cC g.2) * (iS g.2 * (P * R))) H2 := h2.to
     have next : ∀ H', ac (ts 1 cO (jT g.1) (cC g.2) * (iS g.2 * (P * R))) H' → wp (oY s (vi 0) (vi 0) (vb false) (jT g.1) (vi (j : Int)) (vi (i : Int)) H') fun v' H' => ∃ _x : Unit, v' = .tuple #[vi 0, vi 0, vb false] ∧ ac (P * R) H' := by
      intro H' h';refine ah (AN ..) ?_;refine aa (aS (by omega) (by omega)) ?_;rw [show ((i : Nat) : Int) + 1 = ((i + 1 : Nat) : Int) from by omega];exact ihe (i + 1) H' (by omega) h'
     cases c with
     | false =>
      refine gs ?_;exact next H2 h3
     | true =>
      refine gs ?_
      have hig : i < g.2.length := by omega
      have hjg : j < g.2.length := by omega
      have hb := hno i j (by omega) hjl (by rw [E3 hil, E3 hjl]; exact hc rfl);obtain ⟨_, le⟩ := hC.hb hl hb hjg;refine eF (s := jT g.1) (l := cC g.2) (v := jT g.2[i].1) h3 (by simpa using hig) (by simp [cC]) ?_;refine gs ?_;refine eF (s := jT g.1) (l := cC g.2) (v := jT g.2[j].1) h3 (by simpa using hjg) (by simp [cC]) ?_;refine gs ?_
      haveI := DH hig
      haveI := DH hjg
      refine af h3 (amM (P := iS g.2) le (hC.ok i hig).len (hC.ok j hjg).len) fun _ H4 h4 => ?_;refine gs ?_;rw [Bool.not_true];refine gs ?_;exact next H4 h4.to
   exact inner j 0 H (by omega) h
 exact loop E.length 0 H1 (by omega) h1.to
end
def gc (σ : aM) (o : Nat) : Nat := (az σ o).length
structure TE (G : zN) (E : List Ev) (len : Nat → Nat) (n : Nat) (t : Tk) : Prop where
 fnd : 6 ≤ t.at' ∨ t.at' = 5 ∧ t.found = true → HG G E n t.who t.obj
 room : t.at' = 9 ∨ t.at' = 10 ∨ t.at' = 12 ∨ t.at' = 13 ∨ t.at' = 14 → aG t.w < len t.obj
 rest : t.at' = 12 ∨ t.at' = 13 → aN t.w ≠ 1
 mine : t.at' = 10 ∨ t.at' = 14 → G.cl t.obj (aG t.w) = some t.who
 link : t.at' = 14 ∨ 21 ≤ t.at' ∧ t.at' < 25 → G.lk t.obj = some t.who
def TK (G : zN) (E : List Ev) (len : Nat → Nat) (n : Nat) (t : Tk) : Prop :=
 (t.x.op = 3 → TE G E len n t) ∧ (t.x.op = 1 → t.at' = 5 → HG G E n t.who t.obj)
structure GLe (G : zN) (E : List Ev) (len : Nat → Nat) (n : Nat) (G' : zN) (E' : List Ev) (len' : Nat → Nat) (n' : Nat) : Prop where
 ee : ∃ l, E' = E ++ l
 nn : n ≤ n'
 md : ∀ o, o < n → G'.md o = G.md o
 ll : ∀ o, o < n → len' o = len o
 cl : ∀ o k, G.cl o k ≠ none → G'.cl o k = G.cl o k
 lk : ∀ o, G.lk o ≠ none → G'.lk o = G.lk o
section
variable {G G' : zN} {E E' : List Ev} {len len' : Nat → Nat} {n n' o : Nat} {who : Int} {t : Tk} {x : Ev} {l : List Ev}
theorem HG.mono (h : HG G E n who o) (g : GLe G E len n G' E' len' n') : HG G' E' n' who o := by
 obtain ⟨l, rfl⟩ := g.ee;obtain ⟨h0, k, h1, h2, h3⟩ := h.app (l := l);exact ⟨Nat.lt_of_lt_of_le h0 g.nn, k, h1, h2, by rw [g.md o h0]; exact h3⟩
theorem TK.mono (h : TK G E len n t) (g : GLe G E len n G' E' len' n') : TK G' E' len' n' t := by
 refine ⟨fun h3 => ?_, fun h1 h5 => (h.2 h1 h5).mono g⟩;have T := h.1 h3;refine ⟨fun q => (T.fnd q).mono g, fun q => ?_, T.rest, fun q => ?_, fun q => ?_⟩
 ·rw [g.ll _ (T.fnd (by omega)).1]; exact T.room q
 ·have := T.mine q
  rw [g.cl _ _ (by rw [this]; simp)]; exact this
 ·have := T.link q
  rw [g.lk _ (by rw [this]; simp)]; exact this
theorem GLe.refl : GLe G E len n G E len n := ⟨⟨[], by simp⟩, bv _, fun _ _ => rfl, fun _ _ => rfl, fun _ _ _ => rfl, fun _ _ => rfl⟩
theorem GLe.app (hl : ∀ o, len' o = len o) : GLe G E len n G (E ++ l) len' n := ⟨⟨l, rfl⟩, bv _, fun _ _ => rfl, fun o _ => hl o, fun _ _ _ => rfl, fun _ _ => rfl⟩
theorem TE.low (h : t.at' < 5 ∨ t.at' = 5 ∧ t.found = false) : TE G E len n t :=
 ⟨fun q => False.elim (by
  rcases h with h | ⟨h, h2⟩
  ·omega
  ·rcases q with q | ⟨_, q⟩
   ·omega
   ·rw [h2] at q; cases q), fun q => by omega, fun q => by omega, fun q => by omega, fun q => by omega⟩
theorem TE.mid (h : HG G E n t.who t.obj) (hn : t.at' ≠ 9 ∧ t.at' ≠ 10 ∧ t.at' ≠ 12 ∧ t.at' ≠ 13 ∧ t.at' ≠ 14 ∧ (t.at' < 21 ∨ 25 ≤ t.at')) : TE G E len n t :=
 ⟨fun _ => h, fun q => by omega, fun q => by omega, fun q => by omega, fun q => by omega⟩
theorem TE.rm (h : HG G E n t.who t.obj) (hr : aG t.w < len t.obj) (h2 : t.at' = 12 ∨ t.at' = 13 → aN t.w ≠ 1) (hn : t.at' ≠ 10 ∧ t.at' ≠ 14 ∧ t.at' < 21) : TE G E len n t :=
 ⟨fun _ => h, fun _ => hr, h2, fun q => by omega, fun q => by omega⟩
theorem TE.lnk (h : HG G E n t.who t.obj) (hl : G.lk t.obj = some t.who) (hn : 21 ≤ t.at') : TE G E len n t :=
 ⟨fun _ => h, fun q => by omega, fun q => by omega, fun q => by omega, fun _ => hl⟩
theorem TE.own (h : HG G E n t.who t.obj) (hr : aG t.w < len t.obj) (hc : G.cl t.obj (aG t.w) = some t.who) (hl : t.at' = 14 → G.lk t.obj = some t.who) (hn : t.at' = 10 ∨ t.at' = 14) : TE G E len n t :=
 ⟨fun _ => h, fun _ => hr, fun q => by omega, fun _ => hc, fun q => hl (by omega)⟩
end
def J0 (σ : aM) (t : Tk) (r : aM × Tk × Bool) : Prop :=
 ∀ G, RG G σ.μ.E σ.μ.V σ.obs.length → TK G σ.μ.E (gc σ) σ.obs.length t →
  ∃ G', RG G' r.1.μ.E r.1.μ.V r.1.obs.length ∧ GLe G σ.μ.E (gc σ) σ.obs.length G' r.1.μ.E (gc r.1) r.1.obs.length ∧ r.2.1.who = t.who ∧ (r.2.2 = false → TK G' r.1.μ.E (gc r.1) r.1.obs.length r.2.1)
structure Pla (x : Ev) (V V' : cA → Nat) : Prop where
 r : EvR x
 k : x.kind < 5
 l : x.loc.1 ≠ 13 ∧ x.loc.1 ≠ 14 ∧ x.loc.1 ≠ 16
 s : ∀ s i, V' (10, s, i) ≠ 0 → V' (10, s, i) = V (10, s, i) ∧ ¬ (x.loc = (10, s, i) ∧ sto x)
 w : ∀ o : Nat, V' (11, (o : Int), 0) = V (11, (o : Int), 0)
 h : ∀ o : Nat, V' (12, (o : Int), 0) = V (12, (o : Int), 0)
section
variable {G : zN} {E : List Ev} {V V' : cA → Nat} {n : Nat} {x : Ev} {who : Int}
theorem RG.pla (h : RG G E V n) (p : Pla x V V') : RG G (E ++ [x]) V' n :=
 h.ev p.r (fun _ _ _ => p.k) (fun q => absurd q p.l.1) (fun q => absurd q p.l.2.1) (fun q => absurd q p.l.2.2) (fun s i q => .inl (p.s s i q)) (fun o => by rw [p.w]; exact ⟨bv _, fun q => q⟩) p.h
theorem evr (hw : 0 ≤ who ∧ who ≤ 3) (k : Int) (l : cA) (hk : 1 ≤ k ∧ k ≤ 6) : EvR ⟨who, k, l⟩ := ⟨⟨hw.1, by show who ≤ 63; omega⟩, hk⟩
theorem uf (hw : 0 ≤ who ∧ who ≤ 3) (k : Int) (l : cA) (hk : k = 1 ∨ k = 4 ∨ (k = 2 ∨ k = 3) ∧ l.1 ≠ 10) (hl : l.1 ≠ 13 ∧ l.1 ≠ 14 ∧ l.1 ≠ 16) : Pla ⟨who, k, l⟩ V V :=
 ⟨evr hw k l (by omega), (by show k < 5; omega), hl, fun s i _ => ⟨rfl, fun q => by
  have e : l = (10, s, i) := q.1
  have e2 : l.1 = 10 := by rw [e]
  have q2 : k = 2 ∨ k = 3 := q.2
  omega⟩, fun _ => rfl, fun _ => rfl⟩
theorem ow (hw : 0 ≤ who ∧ who ≤ 3) (k : Int) (l : cA) (v : Nat) (hk : k = 2 ∨ k = 3) (hl : l.1 ≠ 13 ∧ l.1 ≠ 14 ∧ l.1 ≠ 16) (h10 : l.1 ≠ 10) (h11 : l.1 ≠ 11) (h12 : l.1 ≠ 12) : Pla ⟨who, k, l⟩ V (fun z => if z = l then v else V z) :=
 ⟨evr hw k l (by omega), (by show k < 5; omega), hl, fun s i _ => ⟨if_neg (fun e => h10 (by rw [← e])), fun q => by
  have e : l = (10, s, i) := q.1
  exact h10 (by rw [e])⟩, fun _ => if_neg (fun e => h11 (by rw [← e])), fun _ => if_neg (fun e => h12 (by rw [← e]))⟩
theorem Zr (hw : 0 ≤ who ∧ who ≤ 3) (s i : Int) : Pla ⟨who, 2, (10, s, i)⟩ V (fun z => if z = (10, s, i) then 0 else V z) := by
 refine ⟨evr hw 2 _ (by omega), (by show (2 : Int) < 5; omega), ⟨by simp, by simp, by simp⟩, fun s' i' q => ?_, fun _ => if_neg (by simp), fun _ => if_neg (by simp)⟩;have q : (if ((10 : Int), s', i') = (10, s, i) then 0 else V (10, s', i')) ≠ 0 := q
 by_cases e : ((10 : Int), s', i') = (10, s, i)
 ·rw [if_pos e] at q; exact absurd rfl q
 ·exact ⟨if_neg e, fun q2 => e q2.1.symm⟩
end
section
variable {σ : aM} {t : Tk} {r : aM × Tk × Bool}
theorem LY {σ' : aM} (h : σ'.obs = σ.obs) : ∀ o, gc σ' o = gc σ o := fun o => by unfold gc az; rw [h]
theorem MO (hμ : r.1.μ = σ.μ) (ho : r.1.obs = σ.obs) (hw : r.2.1.who = t.who) (hT : r.2.2 = false → ∀ {G : zN}, TK G σ.μ.E (gc σ) σ.obs.length t → TK G σ.μ.E (gc σ) σ.obs.length r.2.1) : J0 σ t r := by
 intro G R T;have hl : gc r.1 = gc σ := funext (LY ho);rw [hμ, hl, ho];exact ⟨G, R, .refl, hw, fun h => hT h T⟩
theorem lK (who' kd : Int) (l : cA) (hE : r.1.μ.E = σ.μ.E ++ [⟨who', kd, l⟩]) (p : Pla ⟨who', kd, l⟩ σ.μ.V r.1.μ.V) (ho : r.1.obs = σ.obs) (hw : r.2.1.who = t.who)
 (hT : r.2.2 = false → ∀ {G : zN}, RG G σ.μ.E σ.μ.V σ.obs.length → TK G σ.μ.E (gc σ) σ.obs.length t → TK G (σ.μ.E ++ [⟨who', kd, l⟩]) (gc σ) σ.obs.length r.2.1) : J0 σ t r := by
 intro G R T;have hl : gc r.1 = gc σ := funext (LY ho);rw [hE, hl, ho];exact ⟨G, R.pla p, .app fun _ => rfl, hw, fun h => hT h R T⟩
theorem zD (μ : Mu) (who : Int) (l : cA) (a b : Nat) : (μ.swp who l a b).E = μ.E ++ [⟨who, if μ.V l = a then 3 else 4, l⟩] := by
 unfold Mu.swp Mu.swap
 split <;> rfl
theorem Wc (μ : Mu) (who : Int) (l : cA) (a b : Nat) : (μ.swp who l a b).V = if μ.V l = a then (fun z => if z = l then b else μ.V z) else μ.V := by
 unfold Mu.swp Mu.swap
 split <;> rfl
theorem yz {who : Int} (hw : 0 ≤ who ∧ who ≤ 3) (μ : Mu) (l : cA) (a b : Nat) (hl : l.1 ≠ 13 ∧ l.1 ≠ 14 ∧ l.1 ≠ 16) (h10 : l.1 ≠ 10) (h11 : l.1 ≠ 11) (h12 : l.1 ≠ 12) : Pla ⟨who, if μ.V l = a then 3 else 4, l⟩ μ.V (μ.swp who l a b).V := by
 rw [Wc]
 split
 ·exact ow hw 3 l b (.inr rfl) hl h10 h11 h12
 ·exact uf hw 4 l (.inr (.inl rfl)) hl
theorem amJ {G : zN} (R : RG G σ.μ.E σ.μ.V σ.obs.length) (s i : Int) (who : Int) (hv : σ.μ.V (10, s, i) ≠ 0) : HG G (σ.μ.E ++ [⟨who, 1, (10, s, i)⟩]) σ.obs.length who (σ.μ.V (10, s, i) % 4294967296) := by
 obtain ⟨q1, st, q2, q3, q4, q5, q6⟩ := R.sl s i hv;refine ⟨q1, σ.μ.E.length, by simp, by rw [gU], .fnd q6.app ⟨q2, by simp, by rw [gU]; exact .inl rfl, by rw [d5 q2, gU]; exact q3, by rw [d5 q2]; exact q4, fun m h1 h2 => ?_⟩⟩;rw [d5 h2, gU];exact q5 m h1 h2
theorem aiN (h : (aL σ t).found = true) : σ.μ.V (10, t.s, (t.i : Int)) ≠ 0 ∧ (aL σ t).obj = σ.μ.V (10, t.s, (t.i : Int)) % 4294967296 := by
 have h2 : qn (σ.μ.V (10, t.s, (t.i : Int))) t.x.flow = true := h;refine ⟨(fun q => by rw [q] at h2; cases h2), ?_⟩;show (if qn (σ.μ.V (10, t.s, (t.i : Int))) t.x.flow = true then _ else _) = _;rw [if_pos h2]
end
section
variable {σ : aM} {t : Tk}
theorem zx (hw : 0 ≤ t.who ∧ t.who ≤ 3) (ho : t.x.op = 3) (r : aM × Tk × Bool) (at1 : Nat) (hat : at1 < 5 ∨ (aL σ t).found = true ∨ at1 = 5 ∧ (aL σ t).found = false) (hlo : at1 < 5 ∨ at1 = 5 ∨ at1 = 6) (c : Int)
 (hμ : r.1.μ = (aY σ t).μ) (hob : r.1.obs = σ.obs) (he : r.2.1 = { aL σ t with at' := at1, code := c }) : J0 σ t r := by
 refine lK t.who 1 (10, t.s, (t.i : Int)) (by rw [hμ]) (by rw [hμ]; exact uf hw 1 _ (.inl rfl) ⟨by simp, by simp, by simp⟩) hob (by rw [he]; rfl) fun _ G R T => ?_;rw [he];refine ⟨fun _ => ?_, fun h1 => absurd (ho.symm.trans h1) (by simp)⟩
 by_cases hf : (aL σ t).found = true
 ·obtain ⟨h1, h2⟩ := aiN hf
  by_cases h5 : at1 < 5
  ·exact TE.low (.inl h5)
  ·refine TE.mid ?_ (by dsimp only; omega)
   show HG G _ _ t.who (aL σ t).obj;rw [h2];exact amJ R _ _ _ h1
 ·refine TE.low ?_
  rcases hat with h | h | ⟨h, h2⟩
  ·exact .inl h
  ·exact absurd h hf
  ·exact .inr ⟨h, h2⟩
theorem Sy {μ : Mu} {i w m : Nat} : dT μ i w (some m) = decide (μ.V (11, (i : Int), 0) = w) := by unfold dT; simp
theorem Zd (o : Nat) : gc (iv σ t) o = gc σ o := by
 unfold gc az iv;dsimp only;rw [List.getElem?_modify]
 split
 ·rename_i h
  subst h
  cases σ.obs[t.obj]? <;> simp
 ·cases σ.obs[o]? <;> simp
theorem ajH (hw : 0 ≤ t.who ∧ t.who ≤ 3) (ho : t.x.op = 3) (at1 at0 : Nat) (h9 : t.at' = 9 ∧ at1 = 10 ∨ t.at' = 13 ∧ at1 = 14) (h0 : at0 = 7 ∨ at0 = 20) (now : Int) (c : Int) :
 J0 σ t (if dT σ.μ t.obj t.w (aP t.w 0) = true then ((σ.mem (σ.μ.turn t.who t.obj t.w (aP t.w 0))).note now t.who 0, { t with at' := at1, code := c }, false) else (σ.mem (σ.μ.turn t.who t.obj t.w (aP t.w 0)), { t with at' := at0 }, false)) := by
 cases e : aP t.w 0 with
 | none =>
  rw [if_neg (by unfold dT; simp)];refine MO rfl rfl rfl fun _ G T => ⟨fun h3 => ?_, fun h1 => absurd (ho.symm.trans h1) (by simp)⟩;exact TE.mid ((T.1 ho).fnd (by omega)) (by dsimp only; omega)
 | some m =>
  obtain ⟨m1, m2, m3, m4⟩ := aqK e;rw [Sy]
  by_cases hv : σ.μ.V (11, (t.obj : Int), 0) = t.w
  ·rw [if_pos (eu hv)]
   intro G R T;have T3 := T.1 ho;have hf := T3.fnd (by omega);have hr := T3.room (by omega)
   have hcn : G.cl t.obj (aG t.w) = none := by
    cases hc : G.cl t.obj (aG t.w) with
    | none => rfl
    | some a =>
     have := R.wc _ _ (by rw [hc]; simp);rw [hv] at this;omega
   -- the access
   have eE : (σ.μ.swp t.who (11, (t.obj : Int), 0) t.w m).E = σ.μ.E ++ [⟨t.who, 3, (11, (t.obj : Int), 0)⟩] := by rw [zD, if_pos hv]
   have eV : (σ.μ.swp t.who (11, (t.obj : Int), 0) t.w m).V = fun z => if z = (11, (t.obj : Int), 0) then m else σ.μ.V z := by rw [Wc, if_pos hv]
   have R1 : RG G (σ.μ.E ++ [⟨t.who, 3, (11, (t.obj : Int), 0)⟩]) (fun z => if z = (11, (t.obj : Int), 0) then m else σ.μ.V z) σ.obs.length := by
    refine R.ev (evr hw 3 _ (by omega)) (fun _ _ _ => (by show (3 : Int) < 5; omega)) (fun q => by simp at q) (fun q => by simp at q) (fun q => by simp at q) (fun s i q => .inl ⟨if_neg (by simp), fun q => by simp at q⟩) (fun o => ?_) (fun o => if_neg (by simp));show aG (σ.μ.V (11, (o : Int), 0)) ≤ aG (if ((11 : Int), (o : Int), (0 : Int)) = (11, (t.obj : Int), 0) then m else σ.μ.V (11, (o : Int), 0)) ∧ (_ → aN (if ((11 : Int), (o : Int), (0 : Int)) = (11, (t.obj : Int), 0) then m else σ.μ.V (11, (o : Int), 0)) ≠ 0)
    by_cases q : ((11 : Int), (o : Int), (0 : Int)) = (11, (t.obj : Int), 0)
    ·rw [if_pos q, q, hv]
     exact ⟨by omega, fun _ => by omega⟩
    ·rw [if_neg q]
     exact ⟨bv _, fun q => q⟩
   have Vo : (fun z => if z = ((11 : Int), (t.obj : Int), (0 : Int)) then m else σ.μ.V z) (11, (t.obj : Int), 0) = m := if_pos rfl;have R2 := R1.claim t.obj (aG t.w) t.who hcn (Nat.lt_of_lt_of_eq (Nat.lt_succ_self _) (m3.symm.trans (congrArg aG Vo.symm)));have ccl : (G.claim t.obj (aG t.w) t.who).cl t.obj (aG t.w) = some t.who := if_pos ⟨rfl, rfl⟩;have cle : ∀ o k, G.cl o k ≠ none → (G.claim t.obj (aG t.w) t.who).cl o k = G.cl o k := fun o k q => if_neg (fun p => q (by rw [p.1, p.2]; exact hcn));show ∃ G', RG G' (σ.μ.swp t.who (11, (t.obj : Int), 0) t.w m).E (σ.μ.swp t.who (11, (t.obj : Int), 0) t.w m).V σ.obs.length ∧ GLe G σ.μ.E (gc σ) σ.obs.length G' (σ.μ.swp t.who (11, (t.obj : Int), 0) t.w m).E (gc σ) σ.obs.length ∧ t.who = t.who ∧ (false = false → TK G' (σ.μ.swp t.who (11, (t.obj : Int), 0) t.w m).E (gc σ) σ.obs.length { t with at' := at1, code := c });rw [eE, eV];have hf' : HG G (σ.μ.E ++ [⟨t.who, 3, (11, (t.obj : Int), 0)⟩]) σ.obs.length t.who t.obj := hf.app
   rcases h9 with ⟨a1, rfl⟩ | ⟨a1, rfl⟩
   ·exact ⟨_, R2, ⟨⟨_, rfl⟩, bv _, fun _ _ => rfl, fun _ _ => rfl, cle, fun _ _ => rfl⟩, rfl, fun _ => ⟨fun _ => TE.own hf' hr ccl (fun q => by simp at q) (.inl rfl), fun h1 => absurd (ho.symm.trans h1) (by simp)⟩⟩
   ·have hst : aN t.w = 0 := by
     have := T3.rest (.inr a1)
     have q : aN t.w = -1 ∨ aN t.w = 0 ∨ aN t.w = 1 ∨ aN t.w = 2 := by
      unfold aN
      split
      ·rename_i hr
       have := of_decide_eq_true hr;omega
      ·exact .inl rfl
     omega
    have hln : G.lk t.obj = none := by
     cases hc : G.lk t.obj with
     | none => rfl
     | some a =>
      have := R.wl _ (by rw [hc]; simp);rw [hv] at this;exact absurd hst this
    have R3 := R2.link t.obj t.who hln (fun q => by have q := (congrArg aN Vo).symm.trans q; rw [m4] at q; cases q);have clk : ((G.claim t.obj (aG t.w) t.who).link t.obj t.who).lk t.obj = some t.who := if_pos rfl;refine ⟨_, R3, ⟨⟨_, rfl⟩, bv _, fun _ _ => rfl, fun _ _ => rfl, cle, fun o q => ?_⟩, rfl, fun _ => ⟨fun _ => TE.own hf' hr ccl (fun _ => clk) (.inr rfl), fun h1 => absurd (ho.symm.trans h1) (by simp)⟩⟩;exact if_neg (fun p => q (by rw [p]; exact hln))
  ·rw [if_neg (by rw [d4 hv]; simp)]
   refine lK t.who 4 (11, (t.obj : Int), 0) (by show (σ.μ.swp t.who (11, (t.obj : Int), 0) t.w m).E = _; rw [zD, if_neg hv]) (by show Pla _ _ (σ.μ.swp t.who (11, (t.obj : Int), 0) t.w m).V; rw [Wc, if_neg hv]; exact uf hw 4 _ (.inr (.inl rfl)) ⟨by simp, by simp, by simp⟩) rfl rfl fun _ G R T => ⟨fun h3 => ?_, fun h1 => absurd (ho.symm.trans h1) (by simp)⟩;exact TE.mid ((T.1 ho).fnd (by omega)).app (by dsimp only; omega)
theorem aoE (hw : 0 ≤ t.who ∧ t.who ≤ 3) (ho : t.x.op = 3) (at1 : Nat) (h9 : t.at' = 10 ∧ at1 = 11 ∨ t.at' = 14 ∧ at1 = 21) : J0 σ t (iv σ t, { t with at' := at1 }, false) := by
 intro G R T;have T3 := T.1 ho;have hf := T3.fnd (by omega);have hr := T3.room (by omega);have hc := T3.mine (by omega);have hl : gc (iv σ t) = gc σ := funext Zd;have hk : aG t.w % (az σ t.obj).length = aG t.w := Nat.mod_eq_of_lt hr
 have hE : (iv σ t).μ.E = σ.μ.E ++ [⟨t.who, 6, (16, (t.obj : Int), ((aG t.w : Nat) : Int))⟩] := by
  unfold iv;dsimp only;rw [hk]
 have ho' : (iv σ t).obs.length = σ.obs.length := by unfold iv; simp
 have hV : (iv σ t).μ.V = σ.μ.V := rfl;show ∃ G', RG G' (iv σ t).μ.E (iv σ t).μ.V (iv σ t).obs.length ∧ GLe G σ.μ.E (gc σ) σ.obs.length G' (iv σ t).μ.E (gc (iv σ t)) (iv σ t).obs.length ∧ t.who = t.who ∧ (false = false → TK G' (iv σ t).μ.E (gc (iv σ t)) (iv σ t).obs.length { t with at' := at1 });rw [hE, hl, ho', hV];refine ⟨G, R.ev (evr hw 6 _ (by omega)) (fun _ _ q => absurd rfl q) (fun q => by simp at q) (fun q => by simp at q) (fun _ => ⟨t.obj, aG t.w, rfl, hc⟩) (fun s i q => .inl ⟨rfl, fun q => by simp at q⟩) (fun o => ⟨bv _, fun q => q⟩) (fun o => rfl), .app fun _ => rfl, rfl, fun _ => ⟨fun _ => ?_, fun h1 => absurd (ho.symm.trans h1) (by simp)⟩⟩
 rcases h9 with ⟨a1, rfl⟩ | ⟨a1, rfl⟩
 ·exact TE.mid hf.app (by simp)
 ·exact TE.lnk hf.app (T3.link (.inl a1)) (by simp)
end
section
variable {σ : aM} {t : Tk}
theorem tk3 {G : zN} {E : List Ev} {len : Nat → Nat} {n : Nat} {t' : Tk} (ho : t'.x.op = 3) (h : TE G E len n t') : TK G E len n t' := ⟨fun _ => h, fun h1 => absurd (ho.symm.trans h1) (by simp)⟩
theorem qK (ho : t.x.op = 3) {r : aM × Tk × Bool} (kd : Int) (l : cA) (hE : r.1.μ.E = σ.μ.E ++ [⟨t.who, kd, l⟩]) (p : Pla ⟨t.who, kd, l⟩ σ.μ.V r.1.μ.V) (hob : r.1.obs = σ.obs) (hw : r.2.1.who = t.who) (hx : r.2.1.x = t.x) (hj : r.2.1.obj = t.obj)
 (h6 : 6 ≤ t.at' ∨ t.at' = 5 ∧ t.found = true) (hn : r.2.2 = false → r.2.1.at' ≠ 9 ∧ r.2.1.at' ≠ 10 ∧ r.2.1.at' ≠ 12 ∧ r.2.1.at' ≠ 13 ∧ r.2.1.at' ≠ 14 ∧ (r.2.1.at' < 21 ∨ 25 ≤ r.2.1.at')) : J0 σ t r :=
 lK t.who kd l hE p hob hw fun hd G R T => tk3 (by rw [hx]; exact ho) (TE.mid (by rw [hw, hj]; exact ((T.1 ho).fnd h6).app) (hn hd))
theorem MN (ho : t.x.op = 3) {r : aM × Tk × Bool} (kd : Int) (l : cA) (hE : r.1.μ.E = σ.μ.E ++ [⟨t.who, kd, l⟩]) (p : Pla ⟨t.who, kd, l⟩ σ.μ.V r.1.μ.V) (hob : r.1.obs = σ.obs) (hw : r.2.1.who = t.who) (hx : r.2.1.x = t.x)
 (hn : r.2.1.at' < 5) : J0 σ t r :=
 lK t.who kd l hE p hob hw fun hd G R T => tk3 (by rw [hx]; exact ho) (TE.low (.inl hn))
theorem Sm (ho : t.x.op = 3) {r : aM × Tk × Bool} (kd : Int) (l : cA) (hE : r.1.μ.E = σ.μ.E ++ [⟨t.who, kd, l⟩]) (p : Pla ⟨t.who, kd, l⟩ σ.μ.V r.1.μ.V) (hob : r.1.obs = σ.obs) (hw : r.2.1.who = t.who) (hx : r.2.1.x = t.x) (hj : r.2.1.obj = t.obj)
 (h6 : 21 ≤ t.at' ∧ t.at' < 25) (hn : 21 ≤ r.2.1.at') : J0 σ t r :=
 lK t.who kd l hE p hob hw fun hd G R T => tk3 (by rw [hx]; exact ho) (TE.lnk (by rw [hw, hj]; exact ((T.1 ho).fnd (by omega)).app) (by rw [hw, hj]; exact (T.1 ho).link (.inr h6)) hn)
theorem aoQ (ho : t.x.op = 3) {r : aM × Tk × Bool} (kd : Int) (l : cA) (hE : r.1.μ.E = σ.μ.E ++ [⟨t.who, kd, l⟩]) (p : Pla ⟨t.who, kd, l⟩ σ.μ.V r.1.μ.V) (hob : r.1.obs = σ.obs) (hw : r.2.1.who = t.who) (hx : r.2.1.x = t.x) (hj : r.2.1.obj = t.obj) (hww : r.2.1.w = t.w)
 (h6 : 6 ≤ t.at') (hr : ∀ {G : zN}, RG G σ.μ.E σ.μ.V σ.obs.length → TE G σ.μ.E (gc σ) σ.obs.length t → aG t.w < gc σ t.obj) (h2 : ∀ {G : zN}, TE G σ.μ.E (gc σ) σ.obs.length t → r.2.1.at' = 12 ∨ r.2.1.at' = 13 → aN t.w ≠ 1) (hn : r.2.1.at' ≠ 10 ∧ r.2.1.at' ≠ 14 ∧ r.2.1.at' < 21) : J0 σ t r :=
 lK t.who kd l hE p hob hw fun hd G R T => tk3 (by rw [hx]; exact ho) (TE.rm (by rw [hw, hj]; exact ((T.1 ho).fnd (.inl h6)).app) (by rw [hww, hj]; exact hr R (T.1 ho)) (by rw [hww]; exact h2 (T.1 ho)) hn)
theorem ai1 (hw : 0 ≤ t.who ∧ t.who ≤ 3) (ho : t.x.op = 3) (now : Int) : J0 σ t (ap σ t now) := by
 have L : ∀ (l : cA), l.1 ≠ 13 ∧ l.1 ≠ 14 ∧ l.1 ≠ 16 → Pla ⟨t.who, 1, l⟩ σ.μ.V σ.μ.V := fun l hl => uf hw 1 l (.inl rfl) hl;have n3 : ∀ {a b c : Int}, a ≠ 13 → a ≠ 14 → a ≠ 16 → ((a, b, c) : cA).1 ≠ 13 ∧ ((a, b, c) : cA).1 ≠ 14 ∧ ((a, b, c) : cA).1 ≠ 16 := fun h1 h2 h3 => ⟨h1, h2, h3⟩;unfold ap;dsimp only
 split
 ·rename_i hat
  split
  ·exact MO rfl rfl rfl fun h => by cases h
  ·refine zx hw ho _ (if (aL σ t).found = true then 6 else if cn σ (aL σ t) = true then 3 else 2) ?_ ?_ t.code rfl rfl rfl
   ·split
    ·exact .inr (.inl (by assumption))
    ·left; split <;> omega
   ·split
    ·exact .inr (.inr rfl)
    ·left; split <;> omega
 ·refine zx hw ho _ (if (aL σ t).found = true then 6 else if cn σ (aL σ t) = true then 3 else 2) ?_ ?_ t.code rfl rfl rfl
  ·split
   ·exact .inr (.inl (by assumption))
   ·left; split <;> omega
  ·split
   ·exact .inr (.inr rfl)
   ·left; split <;> omega
 ·rename_i hat
  by_cases h0 : σ.μ.V (8, t.s, 0) = 0
  ·rw [if_pos h0]
   exact MN ho _ _ (zD ..) (yz hw σ.μ _ 0 1 (n3 (by omega) (by omega) (by omega)) (by simp) (by simp) (by simp)) rfl rfl rfl (by simp)
  ·rw [if_neg h0]
   exact MN ho _ _ (zD ..) (yz hw σ.μ _ 0 1 (n3 (by omega) (by omega) (by omega)) (by simp) (by simp) (by simp)) rfl rfl rfl (by show t.at' < 5; omega)
 ·rename_i hat
  split
  ·rename_i hf
   exact zx hw ho _ 5 (.inr (.inl hf)) (.inr (.inl rfl)) t.code rfl rfl rfl
  ·rename_i hf
   split
   ·exact zx hw ho _ 5 (.inr (.inr ⟨rfl, by simpa using hf⟩)) (.inr (.inl rfl)) 5 rfl rfl rfl
   ·exact zx hw ho _ 4 (.inl (by omega)) (.inl (by omega)) t.code rfl rfl (by rw [show (aL σ t) = { aL σ t with at' := (aL σ t).at', code := (aL σ t).code } from rfl, show (aL σ t).at' = 4 from hat]; rfl)
 ·rename_i hat
  refine lK t.who 2 (8, t.s, 0) rfl (ow hw 2 _ 0 (.inl rfl) (n3 (by omega) (by omega) (by omega)) (by simp) (by simp) (by simp)) rfl rfl fun hd G R T => tk3 ho (TE.mid ((T.1 ho).fnd (.inr ⟨hat, by simpa using hd⟩)).app (by simp))
 ·rename_i hat
  intro G R T;have hf := (T.1 ho).fnd (.inl (by omega));exact ⟨G, R.ev (evr hw 5 _ (by omega)) (fun q => absurd rfl q) (fun _ => ⟨t.obj, rfl, rfl, hf⟩) (fun q => by simp at q) (fun q => by simp at q) (fun s i q => .inl ⟨rfl, fun q => by simp at q⟩) (fun o => ⟨bv _, fun q => q⟩) (fun o => rfl), .app fun _ => rfl, rfl, fun _ => tk3 ho (TE.mid hf.app (by simp))⟩
 ·rename_i hat
  by_cases h2 : aN (σ.μ.V (11, (t.obj : Int), 0)) = 2
  ·rw [if_pos h2]
   exact MN ho 1 _ rfl (L _ (n3 (by omega) (by omega) (by omega))) rfl rfl rfl (by simp)
  ·rw [if_neg h2]
   exact qK ho 1 _ rfl (L _ (n3 (by omega) (by omega) (by omega))) rfl rfl rfl rfl (by omega) (by simp)
 ·rename_i hat
  by_cases hfu : jU σ t = true
  ·rw [if_pos hfu]
   exact qK ho 1 _ rfl (L _ (n3 (by omega) (by omega) (by omega))) rfl rfl rfl rfl (by omega) (by simp)
  ·rw [if_neg hfu]
   refine aoQ ho 1 _ rfl (L _ (n3 (by omega) (by omega) (by omega))) rfl rfl rfl rfl rfl (by omega) (fun R _ => ?_) ?_ ?_
   ·have hq : jU σ t = false := by simpa using hfu
    unfold jU n6 at hq;have hq := of_decide_eq_false hq;rw [R.hd] at hq;unfold gc;omega
   ·dsimp only
    split
    ·intro _ q; omega
    ·exact fun _ _ => by assumption
   ·dsimp only
    split <;> omega
 ·rename_i hat
  exact ajH hw ho 10 7 (.inl ⟨hat, rfl⟩) (.inl rfl) now 0
 ·rename_i hat
  exact aoE hw ho 11 (.inl ⟨hat, rfl⟩)
 ·exact lK t.who 2 _ rfl (ow hw 2 _ _ (.inl rfl) (n3 (by omega) (by omega) (by omega)) (by simp) (by simp) (by simp)) rfl rfl (fun h => by cases h)
 ·rename_i hat
  exact aoQ ho 3 _ rfl (ow hw 3 _ _ (.inr rfl) (n3 (by omega) (by omega) (by omega)) (by simp) (by simp) (by simp)) rfl rfl rfl rfl rfl (by omega) (fun _ T => T.room (by omega)) (fun T _ => T.rest (.inl hat)) (by simp)
 ·rename_i hat
  exact ajH hw ho 14 20 (.inr ⟨hat, rfl⟩) (.inr rfl) now 0
 ·rename_i hat
  exact aoE hw ho 21 (.inr ⟨hat, rfl⟩)
 ·rename_i hat
  refine qK ho 1 _ rfl (L _ (n3 (by omega) (by omega) (by omega))) rfl rfl rfl rfl (by omega) fun _ => ?_;dsimp only
  split <;> omega
 ·rename_i hat
  by_cases h2 : aN (σ.μ.V (11, (t.obj : Int), 0)) = 2
  ·rw [if_pos h2]
   exact MN ho 1 _ rfl (L _ (n3 (by omega) (by omega) (by omega))) rfl rfl rfl (by simp)
  ·rw [if_neg h2]
   exact qK ho 1 _ rfl (L _ (n3 (by omega) (by omega) (by omega))) rfl rfl rfl rfl (by omega) (by simp)
 ·rename_i hat
  by_cases hfu : jU σ t = true
  ·rw [if_pos hfu]
   exact qK ho 1 _ rfl (L _ (n3 (by omega) (by omega) (by omega))) rfl rfl rfl rfl (by omega) (by simp)
  ·rw [if_neg hfu]
   exact qK ho 1 _ rfl (L _ (n3 (by omega) (by omega) (by omega))) rfl rfl rfl rfl (by omega) (by simp)
 ·rename_i hat
  split
  ·exact lK t.who 1 _ rfl (L _ (n3 (by omega) (by omega) (by omega))) rfl rfl (fun h => by cases h)
  ·exact qK ho 1 _ rfl (L _ (n3 (by omega) (by omega) (by omega))) rfl rfl rfl rfl (by omega) (by simp)
 ·rename_i hat
  exact qK ho 3 _ rfl (ow hw 3 _ _ (.inr rfl) (n3 (by omega) (by omega) (by omega)) (by simp) (by simp) (by simp)) rfl rfl rfl rfl (by omega) (by simp)
 ·rename_i hat
  exact Sm ho 2 _ rfl (ow hw 2 _ _ (.inl rfl) (n3 (by omega) (by omega) (by omega)) (by simp) (by simp) (by simp)) rfl rfl rfl rfl (by omega) (by simp)
 ·rename_i hat
  exact Sm ho 1 _ rfl (L _ (n3 (by omega) (by omega) (by omega))) rfl rfl rfl rfl (by omega) (by simp)
 ·rename_i hat
  intro G R T;have hf := (T.1 ho).fnd (.inl (by omega));have hl := (T.1 ho).link (.inr (by omega));exact ⟨G, R.ev (evr hw 6 _ (by omega)) (fun _ q => absurd rfl q) (fun q => by simp at q) (fun _ => ⟨t.obj, rfl, hl⟩) (fun q => by simp at q) (fun s i q => .inl ⟨rfl, fun q => by simp at q⟩) (fun o => ⟨bv _, fun q => q⟩) (fun o => rfl), .app fun _ => rfl, rfl, fun _ => tk3 ho (TE.lnk hf.app hl (by simp))⟩
 ·rename_i hat
  by_cases h0 : σ.μ.V (9, t.s, 0) = t.top
  ·rw [if_pos h0]
   exact qK ho _ _ (zD ..) (yz hw σ.μ _ _ _ (n3 (by omega) (by omega) (by omega)) (by simp) (by simp) (by simp)) rfl rfl rfl rfl (by omega) (by simp)
  ·rw [if_neg h0]
   exact Sm ho _ _ (zD ..) (yz hw σ.μ _ _ _ (n3 (by omega) (by omega) (by omega)) (by simp) (by simp) (by simp)) rfl rfl rfl rfl (by omega) (by simp)
 ·exact lK t.who 3 _ rfl (ow hw 3 _ _ (.inr rfl) (n3 (by omega) (by omega) (by omega)) (by simp) (by simp) (by simp)) rfl rfl (fun h => by cases h)
theorem tk0 {G : zN} {E : List Ev} {len : Nat → Nat} {n : Nat} {t' : Tk} (ho : t'.x.op ≠ 3) (h : t'.x.op = 1 → t'.at' ≠ 5) : TK G E len n t' := ⟨fun h3 => absurd h3 ho, fun h1 h5 => absurd h5 (h h1)⟩
theorem MP (ho : t.x.op ≠ 3) {r : aM × Tk × Bool} (kd : Int) (l : cA) (hE : r.1.μ.E = σ.μ.E ++ [⟨t.who, kd, l⟩]) (p : Pla ⟨t.who, kd, l⟩ σ.μ.V r.1.μ.V) (hob : r.1.obs = σ.obs) (hw : r.2.1.who = t.who) (hx : r.2.1.x = t.x)
 (hn : t.x.op = 1 → r.2.1.at' ≠ 5) : J0 σ t r :=
 lK t.who kd l hE p hob hw fun hd G R T => tk0 (by rw [hx]; exact ho) (by rw [hx]; exact hn)
theorem ai2 (hw : 0 ≤ t.who ∧ t.who ≤ 3) (ho : t.x.op ≠ 3) (hn : σ.obs.length < 4294967296) (now : Int) : J0 σ t (ay σ t now) := by
 have L : ∀ (l : cA), l.1 ≠ 13 ∧ l.1 ≠ 14 ∧ l.1 ≠ 16 → Pla ⟨t.who, 1, l⟩ σ.μ.V σ.μ.V := fun l hl => uf hw 1 l (.inl rfl) hl;have n3 : ∀ {a b c : Int}, a ≠ 13 → a ≠ 14 → a ≠ 16 → ((a, b, c) : cA).1 ≠ 13 ∧ ((a, b, c) : cA).1 ≠ 14 ∧ ((a, b, c) : cA).1 ≠ 16 := fun h1 h2 h3 => ⟨h1, h2, h3⟩
 have lock : J0 σ t (fm σ t) := by
  refine MP ho _ _ (zD ..) (yz hw σ.μ (8, t.s, 0) 0 1 (n3 (by omega) (by omega) (by omega)) (by simp) (by simp) (by simp)) rfl rfl rfl fun _ => ?_;show (if _ then 3 else 2 : Nat) ≠ 5
  split <;> omega
 have out : J0 σ t (ig σ t, t, true) := lK t.who 2 (8, t.s, 0) rfl (ow hw 2 _ 0 (.inl rfl) (n3 (by omega) (by omega) (by omega)) (by simp) (by simp) (by simp)) rfl rfl (fun h => by cases h);unfold ay
 split
 ·split
  ·exact MO rfl rfl rfl fun h => by cases h
  ·exact lock
 ·exact lock
 ·rename_i hat
  dsimp only
  have sc : ∀ (r : aM × Tk × Bool) (a : Nat), a ≠ 5 → r.1.μ = (aY σ t).μ → r.1.obs = σ.obs → r.2.1.who = t.who → r.2.1.x = t.x → r.2.1.at' = a → J0 σ t r := fun r a ha h1 h2 h3 h4 h5 =>
   MP ho 1 (10, t.s, (t.i : Int)) (by rw [h1]) (by rw [h1]; exact L _ (n3 (by omega) (by omega) (by omega))) h2 h3 h4 (fun _ => by rw [h5]; exact ha)
  split
  ·split
   ·exact sc _ 6 (by omega) rfl rfl rfl rfl rfl
   ·exact sc _ 4 (by omega) rfl rfl rfl rfl rfl
  ·split
   ·split
    ·split
     ·exact sc _ 6 (by omega) rfl rfl rfl rfl rfl
     ·exact sc _ 4 (by omega) rfl rfl rfl rfl rfl
    ·exact sc _ 10 (by omega) rfl rfl rfl rfl rfl
   ·exact sc _ 3 (by omega) rfl rfl rfl rfl hat
 ·split
  ·rename_i h1
   unfold Dq
   split
   ·rename_i hat
    intro G R T;have R1 := R.make t.who hw
    have hlen : (σ.obs ++ [(HZ σ t, List.replicate (dv (HZ σ t).most) HH)]).length = σ.obs.length + 1 := by simp
    show ∃ G', RG G' (σ.μ.E ++ [⟨t.who, 6, (13, (σ.obs.length : Int), 0)⟩]) σ.μ.V (σ.obs ++ [(HZ σ t, List.replicate (dv (HZ σ t).most) HH)]).length ∧ GLe G σ.μ.E (gc σ) σ.obs.length G' (σ.μ.E ++ [⟨t.who, 6, (13, (σ.obs.length : Int), 0)⟩]) (gc (σ.make t.who (HZ σ t))) (σ.obs ++ [(HZ σ t, List.replicate (dv (HZ σ t).most) HH)]).length ∧ t.who = t.who ∧ (false = false → TK G' (σ.μ.E ++ [⟨t.who, 6, (13, (σ.obs.length : Int), 0)⟩]) (gc (σ.make t.who (HZ σ t))) (σ.obs ++ [(HZ σ t, List.replicate (dv (HZ σ t).most) HH)]).length { t with obj := σ.obs.length, at' := 5 });rw [hlen];refine ⟨_, R1, ⟨⟨_, rfl⟩, by omega, fun o h => if_neg (by omega), fun o h => ?_, fun _ _ _ => rfl, fun _ _ => rfl⟩, rfl, fun _ => ⟨fun h3 => absurd h3 ho, fun _ _ => ?_⟩⟩
    ·unfold gc az
     show ((((σ.obs ++ [_])[o]?).map _).getD []).length = _;rw [List.getElem?_append_left h]
    ·refine ⟨by show σ.obs.length < _; omega, σ.μ.E.length, by simp, by rw [gU], ?_⟩
     have e : (G.make σ.obs.length σ.μ.E.length).md σ.obs.length = σ.μ.E.length := if_pos rfl;show HB _ ((G.make σ.obs.length σ.μ.E.length).md σ.obs.length) _;rw [e];exact .refl _
   ·rename_i hat
    intro G R T;have hb := T.2 h1 hat;have hob := hb.1;refine ⟨G, R.ev (x := ⟨t.who, 2, (10, t.s, t.mark)⟩) (evr hw 2 _ (by omega)) (fun _ _ _ => (by show (2 : Int) < 5; omega)) (fun q => by simp at q) (fun q => by simp at q) (fun q => by simp at q) (fun s i q => ?_) (fun o => ?_) (fun o => ?_), .app fun _ => rfl, rfl, fun _ => tk0 ho (fun _ => by show (6 : Nat) ≠ 5; omega)⟩
    ·have q : (if ((10 : Int), s, i) = (10, t.s, t.mark) then cG t.x.flow t.obj else σ.μ.V (10, s, i)) ≠ 0 := q
     show ((if ((10 : Int), s, i) = (10, t.s, t.mark) then cG t.x.flow t.obj else σ.μ.V (10, s, i)) = _ ∧ _) ∨ (_ ∧ _ ∧ HG G σ.μ.E σ.obs.length t.who ((if ((10 : Int), s, i) = (10, t.s, t.mark) then cG t.x.flow t.obj else σ.μ.V (10, s, i)) % 4294967296))
     by_cases e : ((10 : Int), s, i) = (10, t.s, t.mark)
     ·rw [if_pos e, um (by omega)]
      exact .inr ⟨e.symm, .inl rfl, hb⟩
     ·rw [if_neg e]
      exact .inl ⟨rfl, fun q => e q.1.symm⟩
    ·show aG (σ.μ.V (11, (o : Int), 0)) ≤ aG (if ((11 : Int), (o : Int), (0 : Int)) = (10, t.s, t.mark) then cG t.x.flow t.obj else σ.μ.V (11, (o : Int), 0)) ∧ (_ → aN (if ((11 : Int), (o : Int), (0 : Int)) = (10, t.s, t.mark) then cG t.x.flow t.obj else σ.μ.V (11, (o : Int), 0)) ≠ 0)
     rw [if_neg (by simp)];exact ⟨bv _, fun q => q⟩
    ·show (if ((12 : Int), (o : Int), (0 : Int)) = (10, t.s, t.mark) then cG t.x.flow t.obj else σ.μ.V (12, (o : Int), 0)) = _
     exact if_neg (by simp)
   ·exact out
  ·rename_i h1
   have ld : ∀ (r : aM × Tk × Bool) (l : cA), l.1 ≠ 13 ∧ l.1 ≠ 14 ∧ l.1 ≠ 16 → r.1.μ = σ.μ.acc t.who 1 l → r.1.obs = σ.obs → r.2.1.who = t.who → r.2.1.x = t.x → J0 σ t r := fun r l hl h1' h2 h3 h4 =>
    MP ho 1 l (by rw [h1']) (by rw [h1']; exact L l hl) h2 h3 h4 (fun q => absurd q h1)
   unfold fY
   split
   ·exact ld _ (11, (t.obj : Int), 0) (n3 (by omega) (by omega) (by omega)) rfl rfl rfl rfl
   ·exact ld _ (2, 0, 0) (n3 (by omega) (by omega) (by omega)) rfl rfl rfl rfl
   ·exact ld _ (11, (t.obj : Int), 0) (n3 (by omega) (by omega) (by omega)) rfl rfl rfl rfl
   ·split
    ·exact ld _ (2, 0, 0) (n3 (by omega) (by omega) (by omega)) rfl rfl rfl rfl
    ·exact ld _ (2, 0, 0) (n3 (by omega) (by omega) (by omega)) rfl rfl rfl rfl
   ·have tw : ∀ (r : aM × Tk × Bool), r.1.μ = σ.μ.turn t.who t.obj t.w (aP t.w 2) → r.1.obs = σ.obs → r.2.1.who = t.who → r.2.1.x = t.x → J0 σ t r := by
     intro r h1' h2 h3 h4 G R T;have hl : gc r.1 = gc σ := funext (LY h2);have hT : ∀ {G : zN} {E : List Ev}, TK G E (gc σ) σ.obs.length r.2.1 := tk0 (by rw [h4]; exact ho) (fun q => absurd (by rw [h4] at q; exact q) h1);rw [h1', hl, h2]
     cases e : aP t.w 2 with
     | none => exact ⟨G, R, .refl, h3, fun _ => hT⟩
     | some m =>
      obtain ⟨m1, m2⟩ := aqL e;show ∃ G', RG G' (σ.μ.swp t.who (11, (t.obj : Int), 0) t.w m).E (σ.μ.swp t.who (11, (t.obj : Int), 0) t.w m).V _ ∧ GLe _ _ _ _ G' (σ.μ.swp t.who (11, (t.obj : Int), 0) t.w m).E _ _ ∧ _ ∧ _;refine ⟨G, ?_, by rw [zD]; exact .app fun _ => rfl, h3, fun _ => hT⟩;rw [zD, Wc]
      by_cases hv : σ.μ.V (11, (t.obj : Int), 0) = t.w
      ·rw [if_pos hv, if_pos hv]
       refine R.ev (evr hw 3 _ (by omega)) (fun _ _ _ => (by show (3 : Int) < 5; omega)) (fun q => by simp at q) (fun q => by simp at q) (fun q => by simp at q) (fun s i q => .inl ⟨if_neg (by simp), fun q => by simp at q⟩) (fun o => ?_) (fun o => if_neg (by simp));show aG (σ.μ.V (11, (o : Int), 0)) ≤ aG (if ((11 : Int), (o : Int), (0 : Int)) = (11, (t.obj : Int), 0) then m else σ.μ.V (11, (o : Int), 0)) ∧ (_ → aN (if ((11 : Int), (o : Int), (0 : Int)) = (11, (t.obj : Int), 0) then m else σ.μ.V (11, (o : Int), 0)) ≠ 0)
       by_cases q : ((11 : Int), (o : Int), (0 : Int)) = (11, (t.obj : Int), 0)
       ·rw [if_pos q, q, hv]
        exact ⟨by omega, fun _ => by omega⟩
       ·rw [if_neg q]
        exact ⟨bv _, fun q => q⟩
      ·rw [if_neg hv, if_neg hv]
       exact R.pla (uf hw 4 _ (.inr (.inl rfl)) (n3 (by omega) (by omega) (by omega)))
    dsimp only
    split
    ·exact tw _ rfl rfl rfl rfl
    ·exact tw _ rfl rfl rfl rfl
   ·exact MP ho 2 _ rfl (Zr hw _ _) rfl rfl rfl (fun q => absurd q h1)
   ·exact out
theorem ai0 (hw : 0 ≤ t.who ∧ t.who ≤ 3) (hn : σ.obs.length < 4294967296) (now : Int) : J0 σ t (fW σ t now) := by
 by_cases ho : t.x.op = 3
 ·rw [show fW σ t now = ap σ t now from if_pos ho]
  exact ai1 hw ho now
 ·rw [show fW σ t now = ay σ t now from if_neg ho]
  exact ai2 hw ho hn now
end
def RI (σ : aM) (tk : Nat → Option Tk) : Prop := ∃ G, RG G σ.μ.E σ.μ.V σ.obs.length ∧ ∀ w t, w < 4 → tk w = some t → t.who = w ∧ TK G σ.μ.E (gc σ) σ.obs.length t
theorem RI.step {σ : aM} {tk : Nat → Option Tk} {w : Nat} {t : Tk} {r : aM × Tk × Bool} (h : RI σ tk) (hw : w < 4) (ht : tk w = some t) (st : 0 ≤ t.who ∧ t.who ≤ 3 → J0 σ t r) :
 RI r.1 (fun k => if k = w then (if r.2.2 = true then none else some r.2.1) else tk k) := by
 obtain ⟨G, R, T⟩ := h;obtain ⟨h1, h2⟩ := T w t hw ht;obtain ⟨G', R', g, h3, h4⟩ := st (by omega) G R h2;refine ⟨G', R', fun w' t' hw' Pm => ?_⟩;dsimp only at Pm
 by_cases e : w' = w
 ·subst e
  rw [if_pos rfl] at Pm;cases hd : r.2.2
  ·rw [hd, if_neg (by simp)] at Pm
   cases Pm;exact ⟨by rw [h3]; exact h1, h4 hd⟩
  ·rw [hd, if_pos rfl] at Pm; cases Pm
 ·rw [if_neg e] at Pm
  obtain ⟨k1, k2⟩ := T w' t' hw' Pm;exact ⟨k1, k2.mono g⟩
theorem RI.new {σ : aM} {tk : Nat → Option Tk} {w : Nat} {t : Tk} (h : RI σ tk) (hw : t.who = w) (h0 : t.at' = 0) : RI σ (fun k => if k = w then some t else tk k) := by
 obtain ⟨G, R, T⟩ := h;refine ⟨G, R, fun w' t' hw' Pm => ?_⟩;dsimp only at Pm
 by_cases e : w' = w
 ·subst e
  rw [if_pos rfl] at Pm;cases Pm;exact ⟨hw, fun _ => TE.low (.inl (by omega)), fun _ h5 => by omega⟩
 ·rw [if_neg e] at Pm
  exact T w' t' hw' Pm
theorem RG.made {c : i5} (hc : cQ c = true) : ∀ n, n ≤ 16 → ∃ G, RG G (aM.made c n).μ.E (aM.made c n).μ.V (aM.made c n).obs.length := by
 intro n
 induction n with
 | zero =>
  exact fun _ => ⟨⟨fun _ => 0, fun _ _ => none, fun _ => none⟩, (fun x hx => by cases hx), (fun x hx => by cases hx), (fun j hj => by cases hj), (fun s i q => absurd rfl q), (fun x hx => by cases hx), (fun x hx => by cases hx), (fun _ _ q => absurd rfl q), (fun _ q => absurd rfl q), fun _ => rfl⟩
 | succ n ih =>
  intro hn;obtain ⟨G, R⟩ := ih (by omega);have hm := Re c n;unfold aM.made
  split
  ·have R1 := R.make 0 ⟨by omega, by omega⟩
   obtain ⟨s0, hs0⟩ : ∃ s0, s0 = ((n : Nat) : Int).tmod (aM.made c n).c.sh := ⟨_, rfl⟩;obtain ⟨i0, hi0⟩ : ∃ i0, i0 = ((n : Nat) : Int).tdiv (aM.made c n).c.sh := ⟨_, rfl⟩;obtain ⟨o0, ho0⟩ : ∃ o0, o0 = (aM.made c n).obs.length := ⟨_, rfl⟩
   have hlen : ((aM.made c n).lay (n : Int) (1 + (n : Int)) (2 + (n : Int).tmod 2)).obs.length = (aM.made c n).obs.length + 1 := by simp [aM.lay, aM.make]
   have e : ((G.make (aM.made c n).obs.length (aM.made c n).μ.E.length).md (aM.made c n).obs.length) = (aM.made c n).μ.E.length := if_pos rfl;refine ⟨G.make (aM.made c n).obs.length (aM.made c n).μ.E.length, ?_⟩;rw [hlen];show RG _ ((aM.made c n).μ.E ++ [⟨0, 6, (13, ((aM.made c n).obs.length : Int), 0)⟩] ++ [⟨0, 2, (10, ((n : Nat) : Int).tmod (aM.made c n).c.sh, ((n : Nat) : Int).tdiv (aM.made c n).c.sh)⟩]) (fun z => if z = (10, ((n : Nat) : Int).tmod (aM.made c n).c.sh, ((n : Nat) : Int).tdiv (aM.made c n).c.sh) then cG n (aM.made c n).obs.length else (aM.made c n).μ.V z) _;rw [← hs0, ← hi0]
   have hb : HG (G.make (aM.made c n).obs.length (aM.made c n).μ.E.length) ((aM.made c n).μ.E ++ [⟨0, 6, (13, ((aM.made c n).obs.length : Int), 0)⟩]) ((aM.made c n).obs.length + 1) 0 (aM.made c n).obs.length :=
    ⟨by omega, (aM.made c n).μ.E.length, by simp, by rw [gU], by rw [e]; exact .refl _⟩
   refine R1.ev (evr ⟨by omega, by omega⟩ 2 _ (by omega)) (fun _ _ _ => (by show (2 : Int) < 5; omega)) (fun q => by simp at q) (fun q => by simp at q) (fun q => by simp at q) (fun s i q => ?_) (fun o => ?_) (fun o => if_neg (by simp))
   ·have q : (if ((10 : Int), s, i) = (10, s0, i0) then cG n (aM.made c n).obs.length else (aM.made c n).μ.V (10, s, i)) ≠ 0 := q
    show ((if ((10 : Int), s, i) = (10, s0, i0) then cG n (aM.made c n).obs.length else (aM.made c n).μ.V (10, s, i)) = _ ∧ _) ∨ (_ ∧ _ ∧ HG _ _ _ 0 ((if ((10 : Int), s, i) = (10, s0, i0) then cG n (aM.made c n).obs.length else (aM.made c n).μ.V (10, s, i)) % 4294967296))
    by_cases q2 : ((10 : Int), s, i) = (10, s0, i0)
    ·rw [if_pos q2, um (by omega)]
     exact .inr ⟨q2.symm, .inl rfl, hb⟩
    ·rw [if_neg q2]
     exact .inl ⟨rfl, fun q => q2 q.1.symm⟩
   ·show aG ((aM.made c n).μ.V (11, (o : Int), 0)) ≤ aG (if ((11 : Int), (o : Int), (0 : Int)) = (10, s0, i0) then cG n (aM.made c n).obs.length else (aM.made c n).μ.V (11, (o : Int), 0)) ∧ (_ → aN (if ((11 : Int), (o : Int), (0 : Int)) = (10, s0, i0) then cG n (aM.made c n).obs.length else (aM.made c n).μ.V (11, (o : Int), 0)) ≠ 0)
    rw [if_neg (by simp)];exact ⟨bv _, fun q => q⟩
  ·exact ⟨G, R⟩
def tkW (ws : List Wk) (w : Nat) : Option Tk := match ws[w]? with
 | some (some q) => some q.2.2
 | _ => none
theorem RI.congr {σ : aM} {tk tk' : Nat → Option Tk} (h : RI σ tk) (e : ∀ w, w < 4 → tk' w = tk w) : RI σ tk' := by
 obtain ⟨G, R, T⟩ := h;exact ⟨G, R, fun w t hw ht => T w t hw (by rw [← e w hw]; exact ht)⟩
theorem Wf {ws : List Wk} {w : Nat} {q : Wk} (hw : w < ws.length) (k : Nat) : tkW (ws.set w q) k = if k = w then q.map (fun z => z.2.2) else tkW ws k := by
 unfold tkW
 by_cases e : k = w
 ·subst e
  rw [if_pos rfl, List.getElem?_set_self hw]
  cases q <;> rfl
 ·rw [if_neg e, List.getElem?_set_ne (fun h => e h.symm)]
def RJ (σ : aM) (ws : List Wk) : Prop := RI σ (tkW ws)
theorem ao0 {ws : List Wk} {w : Nat} {q : Wk} (h : ws[w]? = some q) : w < ws.length := by
 rcases Nat.lt_or_ge w ws.length with h2 | h2
 ·exact h2
 ·rw [List.getElem?_eq_none h2] at h; cases h
theorem RJ.step {σ : aM} {ws : List Wk} {w : Nat} {q : Nat × Nat × Tk} {now : Int} {K : Nat} (hK : K < 60000) (S : SI σ K) (hl : ws.length = 4) (hw : ws[w]? = some (some q)) (M : RJ σ ws) :
 RJ (fW σ q.2.2 now).1 (ws.set w (if (fW σ q.2.2 now).2.2 = true then none else some (q.1, q.2.1, (fW σ q.2.2 now).2.1))) := by
 have hwl := ao0 hw;have hob := S.obs;have h1 := RI.step (w := w) (t := q.2.2) (r := fW σ q.2.2 now) M (by omega) (by unfold tkW; rw [hw]) (fun h => ai0 h (by omega) now);refine RI.congr h1 fun k hk => ?_;rw [Wf hwl]
 by_cases e : k = w
 ·rw [if_pos e, if_pos e]
  split <;> rfl
 ·rw [if_neg e, if_neg e]
theorem RJ.begin {σ : aM} {ws : List Wk} {w e xk : Nat} {place : Int} {c : Cl} (hl : ws.length = 4) (hw : ws[w]? = some none) (M : RJ σ ws) : RJ (σ.begin w place) (ws.set w (some (e, xk, Tk.newA σ.c w c))) := by
 have hwl := ao0 hw
 have q : (Tk.newA σ.c w c).who = w ∧ (Tk.newA σ.c w c).at' = 0 := by
  unfold Tk.newA
  split <;> exact ⟨rfl, rfl⟩
 have h1 : RI (σ.begin w place) (fun k => if k = w then some (Tk.newA σ.c w c) else tkW ws k) := RI.new (σ := σ.begin w place) (tk := tkW ws) M q.1 q.2;refine RI.congr h1 fun k hk => ?_;rw [Wf hwl]
 rfl
theorem RJ.start {c : i5} (hc : cQ c = true) (n : Nat) (hn : n ≤ 16) : RJ (aM.made c n) [none, none, none, none] := by
 obtain ⟨G, R⟩ := RG.made hc n hn;refine ⟨G, R, fun w t hw ht => ?_⟩
 have : w = 0 ∨ w = 1 ∨ w = 2 ∨ w = 3 := by omega
 rcases this with rfl | rfl | rfl | rfl <;> cases ht
theorem RJ.no_race {σ : aM} {ws : List Wk} (M : RJ σ ws) : (∀ x ∈ σ.μ.E, EvR x) ∧ ∀ i j, i < j → j < σ.μ.E.length → Cf (ev σ.μ.E i) (ev σ.μ.E j) → HB σ.μ.E i j := by
 obtain ⟨G, R, _⟩ := M;exact ⟨R.kd, R.no_race⟩
theorem aiC {H0 : AH} (hT : H0.get 0 = some (.cells true tabC)) (c : i5) (s : Value) (L : List Cl) [hR : Rd (fix H0) s 4 Cl.cells L] (s3 : Value) (l3 : List Int) [hR3 : Rd (fix H0) s3 1 cr l3] :
 ∃ H', FF ju [.agg (i5.cells c).toArray, s, s3] H0 = some (vb true, H') := by
 have key : wp (FF ju [.agg (i5.cells c).toArray, s, s3] H0) fun v' _ => v' = vb true := by
  haveI := abJ hT
  refine bm (fun r => Cr _ _ _ H0) ?_;refine ba (l := i5.cells c) (Y2 H0) fun b1 H1 h1 => ?_;refine aZ h1 ?_;refine af h1 (agM c 2 (by omega)) fun q H3 h3 => ?_;obtain ⟨p, x, c'⟩ := q;dsimp only at h3 ⊢;rw [ai, ac.pu] at h3;obtain ⟨hc, h3⟩ := h3;refine aa (v := .agg [vp p, vp x].toArray) rfl ?_;refine aa (v := vb true) rfl ?_;refine br h3 fun pb H4 h4 => ?_;refine fi h4 rfl rfl fun H5 h5 => ?_;refine aaK h5 fun H6 h6 => ?_;refine gs ?_;rw [Bool.not_true];refine gs ?_;rw [Bool.not_true];refine gs ?_;refine aZ h6 ?_;have M := agR c' hc 2 (by omega);have M16 : SI (aM.made c' 2) 16 := M.si.mono (by omega);obtain ⟨rp, h7⟩ := ahN (p := p) (σ := aM.made c' 2) (R := blk pb (.cells false [vp p, vp x]) * (aJ x (aM.made c' 2) * (blk b1 (.cells false (i5.cells c)) * fix H0))) (H := H6) h6.to;refine arH (s := s) (L := L) 16 (by omega) h7 fun lb LL H8 hL _ h8 => ?_;refine dX h8 h7 rfl ?_;refine Zu (s := s3) (l := l3) 9 200 (by omega) (by omega) h8 fun pv o H9 ho hov h9 => ?_;refine dX h9 h7 rfl ?_;refine aaJ p x rp (aM.made c' 2) 16 M16 (bv _) lb LL hL pv o false 600 (by omega) RJ (RJ.start hc 2 (by omega))
   (fun σ ws w q now K hK S hl hw A M => RJ.step hK S hl hw M)
   (fun σ ws w e xk place c _ hl hw M => RJ.begin hl hw M) (fun h => by cases h) h9 fun b rp' σ' ws' H10 S' hI h10 => ?_
  refine aa (v := vb b) rfl ?_;refine aa (v := vb true) rfl ?_;refine ak h10 aD rfl ?_;obtain ⟨g, hrp, hg, h12⟩ := dz (p := p) (rp := rp') (σ := σ') (ac.fr h10);refine ak h12 ae rfl ?_;have hE := S'.E;refine af h12 (aa5 (p := p) (g := g) (σ := σ') (by omega)) fun ev H13 h13 => ?_;obtain ⟨hk, hno⟩ := hI.no_race;refine af h13 (Y1 (P := ts 5 Ev.cells ev σ'.μ.E) (by omega) hk hno) fun _ H14 h14 => ?_;refine aa (v := vi 0) rfl ?_;refine aa (v := vi 0) rfl ?_;refine aa (v := vb false) rfl ?_;refine gs ?_;rw [Bool.not_false];refine gs ?_;exact am rfl
 obtain ⟨v, H', e, rfl⟩ := key;exact ⟨H', e⟩
theorem regRaces_args {H0 : AH} (hT : H0.get 0 = some (.cells true tabC)) {xc : CfgTy.I} {cc : List Value} (hc : Abs H0 CfgTy xc cc) {l : List ClTy.I} {v : Value} (hl : Abs H0 (.slice ClTy) l [v]) {l3 : List Int} {v3 : Value} (hl3 : Abs H0 (.slice (.int .i64)) l3 [v3]) :
 ∃ H', FF ju [.agg cc.toArray, v, v3] H0 = some (vb true, H') := by
 obtain ⟨c, rfl⟩ := akU hc
 haveI := Px hl
 haveI := WI hl3
 exact aiC hT c v (l.map ajB) v3 l3
end Go.Proofs.YtghoamdlcjdfjaaGreatDoor.Gst
