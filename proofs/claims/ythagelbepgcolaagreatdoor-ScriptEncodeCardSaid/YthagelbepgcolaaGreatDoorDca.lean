/- Numbers as bytes, and back: plain; no program in sight. -/
import Derived.Test.YthagelbepgcolaaGreatDoorMa
namespace Go.Proofs.YthagelbepgcolaaGreatDoor.Gst
open Go

/-- The bytes of a number. -/
def encN (n : Nat) : List Nat := if n < 128 then [n] else (n % 128 + 128) :: encN (n / 128)
termination_by n
decreasing_by omega
theorem encN_small {n : Nat} (h : n < 128) : encN n = [n] := by rw [encN, if_pos h]
theorem encN_big {n : Nat} (h : ¬ n < 128) : encN n = (n % 128 + 128) :: encN (n / 128) := by rw [encN, if_neg h]
theorem encN_ne (n : Nat) : encN n ≠ [] := by
  by_cases h : n < 128
  · rw [encN_small h]; simp
  · rw [encN_big h]; simp
theorem encN_lt : ∀ (n : Nat), ∀ x ∈ encN n, x < 256 := by
  intro n
  induction n using Nat.strongRecOn with
  | _ n ih =>
    by_cases h : n < 128
    · rw [encN_small h]; intro x hx; simp at hx; omega
    · rw [encN_big h]
      intro x hx
      simp only [List.mem_cons] at hx
      rcases hx with rfl | hx
      · omega
      · exact ih (n / 128) (by omega) x hx

/-- What reads: a thing and what is left, or why not (12: too short; 11: no form). -/
abbrev Ps (α : Type) := List Nat → Except Int (α × List Nat)
def decN : List Nat → Nat → Nat → Except Int (Nat × List Nat)
  | [], _, _ => .error 12
  | x :: l, i, n => if 9 ≤ i then .error 11 else if 127 < x then decN l (i + 1) (n + x % 128 * 2 ^ (7 * i)) else if x = 0 ∧ 0 < i then .error 11 else .ok (n + x * 2 ^ (7 * i), l)
def num (lo hi : Nat) : Ps Nat := fun l => match decN l 0 0 with
  | .ok (n, r) => if n < lo ∨ hi < n then .error 11 else .ok (n, r)
  | .error e => .error e
def bindP {α β : Type} (p : Ps α) (f : α → Ps β) : Ps β := fun l => match p l with
  | .ok (a, r) => f a r
  | .error e => .error e
def pureP {α : Type} (a : α) : Ps α := fun l => .ok (a, l)
def manyP {α : Type} (p : Ps α) : Nat → Ps (List α)
  | 0 => pureP []
  | k + 1 => bindP p fun a => bindP (manyP p k) fun as => pureP (a :: as)

/-- These bytes are read as this; a part of them that ends too soon is too short. -/
structure Codes {α : Type} (p : Ps α) (l : List Nat) (a : α) : Prop where
  all : ∀ r, p (l ++ r) = .ok (a, r)
  cut : ∀ l' t, l = l' ++ t → t ≠ [] → p l' = .error 12

theorem codes_pure {α : Type} (a : α) : Codes (pureP a) [] a := ⟨fun r => rfl, fun l' t h ht => by
  have := congrArg List.length h
  simp at this
  exact absurd (List.length_eq_zero_iff.1 (by omega)) ht⟩
theorem Codes.bind {α β : Type} {p : Ps α} {f : α → Ps β} {l1 l2 : List Nat} {a : α} {b : β} (h1 : Codes p l1 a) (h2 : Codes (f a) l2 b) : Codes (bindP p f) (l1 ++ l2) b := by
  refine ⟨fun r => ?_, fun l' t h ht => ?_⟩
  · unfold bindP
    rw [List.append_assoc, h1.all]
    exact h2.all r
  · unfold bindP
    rcases List.append_eq_append_iff.1 h with ⟨c, rfl, hc⟩ | ⟨c, rfl, hc⟩
    · rw [h1.all]
      exact h2.cut c t hc ht
    · by_cases hcn : c = []
      · subst hcn
        have hc : t = l2 := by simpa using hc
        subst hc
        have e := h1.all []
        rw [List.append_nil, List.append_nil] at e
        rw [e]
        exact h2.cut [] t rfl ht
      · rw [h1.cut l' c rfl hcn]
theorem codes_many {α : Type} {p : Ps α} {e : α → List Nat} : ∀ (l : List α), (∀ a ∈ l, Codes p (e a) a) → Codes (manyP p l.length) (l.flatMap e) l := by
  intro l
  induction l with
  | nil => intro _; exact codes_pure []
  | cons a l ih =>
    intro h
    have h2 : Codes (bindP (manyP p l.length) fun as => pureP (a :: as)) (l.flatMap e ++ []) (a :: l) := (ih fun x hx => h x (by simp [hx])).bind (codes_pure _)
    rw [List.append_nil] at h2
    exact (h a (by simp)).bind (f := fun a => bindP (manyP p l.length) fun as => pureP (a :: as)) h2

theorem pow7 (i : Nat) : 2 ^ (7 * (i + 1)) = 128 * 2 ^ (7 * i) := by
  rw [Nat.mul_add, Nat.mul_one, Nat.pow_add]; omega
theorem decN_enc : ∀ (m i acc : Nat) (r : List Nat), i ≤ 8 → m < 2 ^ (63 - 7 * i) → (0 < i → 0 < m) → decN (encN m ++ r) i acc = .ok (acc + m * 2 ^ (7 * i), r) := by
  intro m
  induction m using Nat.strongRecOn with
  | _ m ih =>
    intro i acc r hi hm h0
    by_cases h : m < 128
    · rw [encN_small h]
      show decN (m :: r) i acc = _
      rw [decN, if_neg (by omega), if_neg (by omega), if_neg (by omega)]
    · rw [encN_big h]
      show decN ((m % 128 + 128) :: (encN (m / 128) ++ r)) i acc = _
      have hi8 : i < 8 := by
        rcases Nat.lt_or_ge i 8 with h8 | h8
        · exact h8
        · have : i = 8 := by omega
          subst this
          have : (2 : Nat) ^ (63 - 7 * 8) = 128 := by decide
          omega
      have hd : m / 128 < 2 ^ (63 - 7 * (i + 1)) := by
        rw [Nat.div_lt_iff_lt_mul (by omega)]
        have e : 63 - 7 * i = 63 - 7 * (i + 1) + 7 := by omega
        rw [e, Nat.pow_add] at hm
        exact hm
      rw [decN, if_neg (by omega), if_pos (by omega), ih (m / 128) (by omega) (i + 1) _ r (by omega) hd (fun _ => by omega), pow7]
      have e1 : (m % 128 + 128) % 128 = m % 128 := by omega
      rw [e1]
      generalize 2 ^ (7 * i) = q
      have e2 : m % 128 * q + m / 128 * (128 * q) = m * q := by
        have : m = m % 128 + 128 * (m / 128) := by omega
        calc m % 128 * q + m / 128 * (128 * q) = (m % 128 + 128 * (m / 128)) * q := by rw [Nat.add_mul, ← Nat.mul_assoc, Nat.mul_comm (m / 128) 128]
          _ = m * q := by rw [← this]
      rw [Nat.add_assoc, e2]
theorem decN_cut : ∀ (m i acc : Nat) (l' t : List Nat), i ≤ 8 → m < 2 ^ (63 - 7 * i) → encN m = l' ++ t → t ≠ [] → decN l' i acc = .error 12 := by
  intro m
  induction m using Nat.strongRecOn with
  | _ m ih =>
    intro i acc l' t hi hm hl ht
    by_cases h : m < 128
    · rw [encN_small h] at hl
      cases l' with
      | nil => rfl
      | cons x l' =>
        have := congrArg List.length hl
        simp only [List.length_append, List.length_cons, List.length_nil] at this
        exact absurd (List.length_eq_zero_iff.1 (by omega)) ht
    · rw [encN_big h] at hl
      have hi8 : i < 8 := by
        rcases Nat.lt_or_ge i 8 with h8 | h8
        · exact h8
        · have : i = 8 := by omega
          subst this
          have : (2 : Nat) ^ (63 - 7 * 8) = 128 := by decide
          omega
      have hd : m / 128 < 2 ^ (63 - 7 * (i + 1)) := by
        rw [Nat.div_lt_iff_lt_mul (by omega)]
        have e : 63 - 7 * i = 63 - 7 * (i + 1) + 7 := by omega
        rw [e, Nat.pow_add] at hm
        exact hm
      cases l' with
      | nil => rfl
      | cons x l' =>
        simp only [List.cons_append, List.cons.injEq] at hl
        obtain ⟨rfl, hl⟩ := hl
        rw [decN, if_neg (by omega), if_pos (by omega)]
        exact ih (m / 128) (by omega) (i + 1) _ l' t (by omega) hd hl ht
theorem codes_num {lo hi n : Nat} (h1 : lo ≤ n) (h2 : n ≤ hi) (h3 : n < 2 ^ 63) : Codes (num lo hi) (encN n) n := by
  refine ⟨fun r => ?_, fun l' t h ht => ?_⟩
  · unfold num
    rw [decN_enc n 0 0 r (by omega) (by simpa using h3) (by omega)]
    simp only [Nat.mul_zero, Nat.pow_zero, Nat.mul_one, Nat.zero_add]
    rw [if_neg (by omega)]
  · unfold num
    rw [decN_cut n 0 0 l' t (by omega) (by simpa using h3) h ht]

/-! ### Scripts -/
structure CfN where
  sh : Nat
  sl : Nat
  wk : Nat
  wd : Nat
  un : Nat
structure ClN where
  op : Nat
  flow : Nat
  a : Nat
  b : Nat
structure ScN where
  c : CfN
  ls : List (List ClN)
  pk : List Nat
abbrev m31 : Nat := 2147483647
def callP : Ps ClN := bindP (num 0 m31) fun o => bindP (num 0 m31) fun f => bindP (num 0 m31) fun a => bindP (num 0 m31) fun b => pureP ⟨o, f, a, b⟩
def listsP : Nat → Nat → Ps (List (List ClN))
  | 0, _ => pureP []
  | w + 1, left => bindP (num 0 left) fun n => bindP (manyP callP n) fun l => bindP (listsP w (left - n)) fun ls => pureP (l :: ls)
def cfgP : Ps CfN := bindP (num 1 4) fun sh => bindP (num 1 4) fun sl => bindP (num 1 6) fun wk => bindP (num 0 40) fun wd => bindP (num 1 4611686018427387904) fun un => pureP ⟨sh, sl, wk, wd, un⟩
def planP : Ps (CfN × List (List ClN)) := bindP cfgP fun c => bindP (num 0 c.wk) fun n => bindP (listsP n 60) fun ls => pureP (c, ls)
def scrP : Ps ScN := bindP planP fun p => bindP (num 0 4000) fun k => bindP (manyP (num 0 63) k) fun pk => pureP ⟨p.1, p.2, pk⟩
/-- What bytes are a script of, or why of none. -/
def decode (l : List Nat) : Except Int ScN := match scrP l with
  | .ok (x, []) => .ok x
  | .ok (_, _ :: _) => .error 11
  | .error e => .error e
def encCl (x : ClN) : List Nat := encN x.op ++ (encN x.flow ++ (encN x.a ++ encN x.b))
def encLs (l : List ClN) : List Nat := encN l.length ++ l.flatMap encCl
def encCf (c : CfN) : List Nat := encN c.sh ++ (encN c.sl ++ (encN c.wk ++ (encN c.wd ++ encN c.un)))
def encode (s : ScN) : List Nat := encCf s.c ++ (encN s.ls.length ++ (s.ls.flatMap encLs ++ (encN s.pk.length ++ s.pk.flatMap encN)))

def ClN.Ok (x : ClN) : Prop := x.op ≤ m31 ∧ x.flow ≤ m31 ∧ x.a ≤ m31 ∧ x.b ≤ m31
def lenS : List (List ClN) → Nat
  | [] => 0
  | l :: ls => l.length + lenS ls
structure ScN.Ok (s : ScN) : Prop where
  sh : 1 ≤ s.c.sh ∧ s.c.sh ≤ 4
  sl : 1 ≤ s.c.sl ∧ s.c.sl ≤ 4
  wk : 1 ≤ s.c.wk ∧ s.c.wk ≤ 6
  wd : s.c.wd ≤ 40
  un : 1 ≤ s.c.un ∧ s.c.un ≤ 4611686018427387904
  ls : s.ls.length ≤ s.c.wk
  cs : lenS s.ls ≤ 60
  cl : ∀ l ∈ s.ls, ∀ x ∈ l, x.Ok
  pl : s.pk.length ≤ 4000
  pk : ∀ n ∈ s.pk, n ≤ 63

theorem codes_snoc {α β : Type} {p : Ps α} {f : α → β} {l : List Nat} {a : α} (h : Codes p l a) : Codes (bindP p fun a => pureP (f a)) l (f a) := by
  have := h.bind (f := fun a => pureP (f a)) (codes_pure (f a))
  rwa [List.append_nil] at this
theorem codes_call {x : ClN} (h : x.Ok) : Codes callP (encCl x) x := by
  have b : ∀ {n : Nat}, n ≤ m31 → Codes (num 0 m31) (encN n) n := fun hn => codes_num (Nat.zero_le _) hn (Nat.lt_of_le_of_lt hn (by decide))
  exact (b h.1).bind ((b h.2.1).bind ((b h.2.2.1).bind (codes_snoc (f := fun d => (⟨x.op, x.flow, x.a, d⟩ : ClN)) (b h.2.2.2))))
theorem codes_lists : ∀ (ls : List (List ClN)) (left : Nat), lenS ls ≤ left → left ≤ 60 → (∀ l ∈ ls, ∀ x ∈ l, x.Ok) → Codes (listsP ls.length left) (ls.flatMap encLs) ls := by
  intro ls
  induction ls with
  | nil => intro left _ _ _; exact codes_pure []
  | cons l ls ih =>
    intro left h1 h2 h3
    simp only [lenS] at h1
    have e1 : Codes (num 0 left) (encN l.length) l.length := codes_num (Nat.zero_le _) (by omega) (Nat.lt_of_le_of_lt (show l.length ≤ 60 by omega) (by decide))
    have e2 : Codes (manyP callP l.length) (l.flatMap encCl) l := codes_many l fun a ha => codes_call (h3 l (by simp) a ha)
    have e3 := ih (left - l.length) (by omega) (by omega) fun q hq => h3 q (by simp [hq])
    have e4 := e1.bind (f := fun n => bindP (manyP callP n) fun l => bindP (listsP ls.length (left - n)) fun ls => pureP (l :: ls))
      (e2.bind (f := fun l' => bindP (listsP ls.length (left - l.length)) fun ls => pureP (l' :: ls)) (codes_snoc (f := fun ls => l :: ls) e3))
    rw [List.flatMap_cons]
    unfold encLs
    rw [List.append_assoc]
    exact e4
theorem codes_cfg {s : ScN} (h : s.Ok) : Codes cfgP (encCf s.c) s.c := by
  have b : ∀ {lo n k : Nat}, lo ≤ n → n ≤ k → k < 2 ^ 63 → Codes (num lo k) (encN n) n := fun h1 hn hk => codes_num h1 hn (Nat.lt_of_le_of_lt hn hk)
  exact (b h.sh.1 h.sh.2 (by decide)).bind ((b h.sl.1 h.sl.2 (by decide)).bind ((b h.wk.1 h.wk.2 (by decide)).bind ((b (Nat.zero_le _) h.wd (by decide)).bind
    (codes_snoc (f := fun un => (⟨s.c.sh, s.c.sl, s.c.wk, s.c.wd, un⟩ : CfN)) (b h.un.1 h.un.2 (by decide))))))
theorem codes_scr {s : ScN} (h : s.Ok) : Codes scrP (encode s) s := by
  have hw : s.c.wk ≤ 6 := h.wk.2
  have e1 : Codes (num 0 s.c.wk) (encN s.ls.length) s.ls.length := codes_num (Nat.zero_le _) h.ls (Nat.lt_of_le_of_lt (show s.ls.length ≤ 6 by have := h.ls; omega) (by decide))
  have e2 := codes_lists s.ls 60 h.cs (Nat.le_refl _) h.cl
  have e3 : Codes planP (encCf s.c ++ (encN s.ls.length ++ s.ls.flatMap encLs)) (s.c, s.ls) :=
    (codes_cfg h).bind (f := fun c : CfN => bindP (num 0 c.wk) fun n => bindP (listsP n 60) fun ls => pureP (c, ls)) (e1.bind (f := fun n => bindP (listsP n 60) fun ls => pureP (s.c, ls)) (codes_snoc (f := fun ls => (s.c, ls)) e2))
  have e4 : Codes (num 0 4000) (encN s.pk.length) s.pk.length := codes_num (Nat.zero_le _) h.pl (Nat.lt_of_le_of_lt h.pl (by decide))
  have e5 : Codes (manyP (num 0 63) s.pk.length) (s.pk.flatMap encN) s.pk := codes_many s.pk fun n hn => codes_num (Nat.zero_le _) (h.pk n hn) (Nat.lt_of_le_of_lt (h.pk n hn) (by decide))
  have e6 := e3.bind (f := fun p : CfN × List (List ClN) => bindP (num 0 4000) fun k => bindP (manyP (num 0 63) k) fun pk => pureP (⟨p.1, p.2, pk⟩ : ScN))
    (e4.bind (f := fun k => bindP (manyP (num 0 63) k) fun pk => pureP (⟨s.c, s.ls, pk⟩ : ScN)) (codes_snoc (f := fun pk => (⟨s.c, s.ls, pk⟩ : ScN)) e5))
  unfold encode
  simp only [List.append_assoc] at e6 ⊢
  exact e6
theorem decode_encode {s : ScN} (h : s.Ok) : decode (encode s) = .ok s := by
  unfold decode
  have := (codes_scr h).all []
  rw [List.append_nil] at this
  rw [this]
theorem decode_cut {s : ScN} (h : s.Ok) {l t : List Nat} (e : encode s = l ++ t) (ht : t ≠ []) : decode l = .error 12 := by
  unfold decode
  rw [(codes_scr h).cut l t e ht]
theorem decode_more {s : ScN} (h : s.Ok) (x : Nat) (t : List Nat) : decode (encode s ++ x :: t) = .error 11 := by
  unfold decode
  rw [(codes_scr h).all]
end Go.Proofs.YthagelbepgcolaaGreatDoor.Gst
