/- The bytes of a plan and picks: of the program. -/
import Derived.Test.YthagelbepgcolaaGreatDoorDcd
namespace Go.Proofs.YthagelbepgcolaaGreatDoor.Gst
open Go Go.RowKit
set_option linter.unusedSimpArgs false
set_option linter.unusedVariables false
set_option maxHeartbeats 1000000

abbrev encT (n : Int) : List Nat := encN n.toNat
abbrev nums (x : Cl) : List Int := [x.op, x.flow, x.a, x.b]
theorem nums_drop (x : Cl) {i : Nat} (h : i < 4) : (nums x).drop i = nthI x i :: (nums x).drop (i + 1) := by
  match i, h with
  | 0, _ => rfl
  | 1, _ => rfl
  | 2, _ => rfl
  | 3, _ => rfl
abbrev encC (x : Cl) : List Nat := (nums x).flatMap encT
abbrev encR (l : List Cl) : List Nat := encN l.length ++ l.flatMap encC
theorem encC_eq (x : Cl) : encC x = encCl (clN x) := by
  simp only [encC, nums, encT, encCl, clN, List.flatMap_cons, List.flatMap_nil, List.append_nil]
/-- All bytes. -/
def bytesS (c : Cfg) (ll : List (List Cl)) (pk : List Int) : List Nat :=
  encC ⟨c.sh, c.sl, c.wk, c.wd⟩ ++ (encN c.un ++ (encN ll.length ++ (ll.flatMap encR ++ (encN pk.length ++ pk.flatMap encT))))
theorem bytesS_eq (c : Cfg) (ll : List (List Cl)) (pk : List Int) : bytesS c ll pk = encode (scN c ll pk) := by
  unfold bytesS encode scN
  have e1 : (ll.map fun l => l.map clN).flatMap encLs = ll.flatMap encR := by
    rw [List.flatMap_map]
    congr 1
    funext l
    simp only [encLs, encR, List.length_map, List.flatMap_map]
    congr 1
    congr 1
    funext x
    exact (encC_eq x).symm
  have e2 : (pk.map Int.toNat).flatMap encN = pk.flatMap encT := by rw [List.flatMap_map]
  simp only [e1, e2, List.length_map]
  simp only [encC, nums, encT, encCf, cfN, List.flatMap_cons, List.flatMap_nil, List.append_nil, List.append_assoc]
theorem len_flat {α : Type} {f : α → List Nat} {k : Nat} : ∀ {l : List α}, (∀ x ∈ l, (f x).length ≤ k) → (l.flatMap f).length ≤ l.length * k := by
  intro l
  induction l with
  | nil => intro _; simp
  | cons a l ih =>
    intro h
    rw [List.flatMap_cons, List.length_append, List.length_cons, Nat.add_mul]
    have := ih fun x hx => h x (by simp [hx])
    have := h a (by simp)
    omega
theorem encT_len {n : Int} (h : okI n = true) : (encT n).length ≤ 5 := by
  unfold okI at h
  have := of_decide_eq_true h
  exact encN_len5 (by omega)
theorem encC_len {x : Cl} (h : okCl x = true) : (encC x).length ≤ 20 := by
  have := len_flat (f := encT) (k := 5) (l := nums x) fun n hn => by
    obtain ⟨j, hj, rfl⟩ := List.getElem_of_mem hn
    have hj4 : j < 4 := hj
    have := okCl_iff.1 h j hj4
    refine encT_len ?_
    match j, hj4, this with
    | 0, _, this => exact this
    | 1, _, this => exact this
    | 2, _, this => exact this
    | 3, _, this => exact this
  exact this
section
variable {P R X : SP} {v pv : Value} {ll : List (List Cl)} {pk : List Int} {c : Cfg}
theorem okS_iff : okS c ll pk = true ↔ mayB c ll = true ∧ pk.length ≤ 4000 ∧ (∀ l ∈ ll, ∀ x ∈ l, okCl x = true) ∧ ∀ n ∈ pk, okP n = true := by
  unfold okS
  simp only [Bool.and_eq_true, decide_eq_true_eq, List.all_eq_true]
  exact ⟨fun ⟨⟨a, b⟩, d, e⟩ => ⟨a, b, d, e⟩, fun ⟨a, b, d, e⟩ => ⟨⟨a, b⟩, d, e⟩⟩
theorem rows_len : ∀ {ll : List (List Cl)}, (∀ l ∈ ll, ∀ x ∈ l, okCl x = true) → sumL ll ≤ 60 → (ll.flatMap encR).length ≤ 10 * ll.length + 20 * sumL ll := by
  intro ll
  induction ll with
  | nil => intro _ _; simp
  | cons l ll ih =>
    intro h hs
    have e : sumL (l :: ll) = l.length + sumL ll := by simp [sumL]
    rw [e] at hs ⊢
    rw [List.flatMap_cons, List.length_append, List.length_cons]
    have h1 := ih (fun q hq => h q (by simp [hq])) (by omega)
    have h2 := len_flat (f := encC) (k := 20) (l := l) fun x hx => encC_len (h l (by simp) x hx)
    have h3 : (encN l.length).length ≤ 10 := encN_len10 (by omega)
    have : (encR l).length = (encN l.length).length + (l.flatMap encC).length := by simp [encR]
    omega
theorem bytesS_len (h : okS c ll pk = true) : (bytesS c ll pk).length ≤ 90000 := by
  obtain ⟨h1, h2, h3, h4⟩ := okS_iff.1 h
  obtain ⟨m1, m2, m3⟩ := mayB_sum h1
  have hc := rightB_iff.1 m3
  have e1 : (encC ⟨c.sh, c.sl, c.wk, c.wd⟩).length ≤ 20 := encC_len (okCl_iff.2 fun i hi => by
    unfold okI
    match i, hi with
    | 0, _ => exact decide_eq_true (show 0 ≤ c.sh ∧ c.sh ≤ 2147483647 by omega)
    | 1, _ => exact decide_eq_true (show 0 ≤ c.sl ∧ c.sl ≤ 2147483647 by omega)
    | 2, _ => exact decide_eq_true (show 0 ≤ c.wk ∧ c.wk ≤ 2147483647 by omega)
    | 3, _ => exact decide_eq_true (show 0 ≤ c.wd ∧ c.wd ≤ 2147483647 by omega))
  have e2 : (encN c.un).length ≤ 10 := encN_len10 (by omega)
  have e3 : (encN ll.length).length ≤ 10 := encN_len10 (by omega)
  have e4 := rows_len h3 m2
  have e5 : (encN pk.length).length ≤ 10 := encN_len10 (by omega)
  have e6 := len_flat (f := encT) (k := 5) (l := pk) fun n hn => encT_len (by
    have := h4 n hn
    unfold okP at this
    unfold okI
    have := of_decide_eq_true this
    exact decide_eq_true (by omega))
  unfold bytesS
  simp only [List.length_append]
  omega

theorem enc_picks [r : Rd X pv 1 encI pk] {T : List Nat} (hT : T.length ≤ 90000) (hk : pk.length ≤ 4000) (ho : ∀ n ∈ pk, okP n = true) (x4 x5 : Value) : ∀ (d i : Nat) (s : Value) (l : List Nat) (H : AH), i + d = pk.length → l ++ (pk.drop i).flatMap encT = T → Holds (ts 1 encB s l * X) H →
    wp (script_Encode_k8 x4 x5 s pv (vi pk.length) (vi i) H) fun v' H' => ∃ s' : Value, v' = .tuple #[s', vi 0] ∧ Holds (ts 1 encB s' T * X) H' := by
  intro d
  induction d with
  | zero =>
    intro i s l H hi hl h
    refine wp_eq (script_Encode_k8_eq _ _ _ _ _ _ H) ?_
    refine w_bind (lss_f (by omega)) ?_
    refine gs ?_
    refine wp_eq (script_Encode_e7_8_eq _ _ _ H) ?_
    refine wp_eq (script_Encode_k5_eq _ _ _ H) ?_
    rw [List.drop_of_length_le (by omega), List.flatMap_nil, List.append_nil] at hl
    subst hl
    exact w_ret ⟨s, rfl, h⟩
  | succ d ih =>
    intro i s l H hi hl h
    have hil : i < pk.length := by omega
    refine wp_eq (script_Encode_k8_eq _ _ _ _ _ _ H) ?_
    refine w_bind (lss_t (by omega)) ?_
    refine gs ?_
    refine wp_eq (script_Encode_k9_eq _ _ _ _ _ _ H) ?_
    refine w_rld1 (s := pv) (l := pk) h hil rfl ?_
    have hok := ho pk[i] (List.getElem_mem hil)
    unfold okP at hok
    have hok := of_decide_eq_true hok
    refine w_bind (conv_ui (by omega) (by omega)) ?_
    have hll : l.length ≤ 90000 := by have := congrArg List.length hl; simp only [List.length_append] at this; omega
    refine w_call h (script_put_law s l pk[i].toNat (by omega) (by omega)) fun s' H1 h1 => ?_
    refine wp_eq (script_Encode_k10_eq _ _ _ _ _ _ H1) ?_
    refine w_bind (bin_add_i (by omega) (by omega)) ?_
    refine ih (i + 1) s' (l ++ encN pk[i].toNat) H1 (by omega) ?_ h1.to
    rw [← hl, List.drop_eq_getElem_cons hil, List.flatMap_cons, List.append_assoc]

theorem enc_call {T rest : List Nat} (hT : T.length ≤ 90000) (x : Cl) (hx : okCl x = true) (x1 x4 x5 x51 x52 x53 x62 x63 x64 : Value) {Q : Value → AH → Prop}
    (next : ∀ (s : Value) (l : List Nat) (H : AH), l ++ rest = T → Holds (ts 1 encB s l * X) H → wp (script_Encode_k32 x1 x4 x5 s x51 x52 x53 x62 x63 x64 H) Q) : ∀ (d i : Nat) (s : Value) (l : List Nat) (H : AH), i + d = 4 → l ++ (((nums x).drop i).flatMap encT ++ rest) = T → Holds (ts 1 encB s l * X) H →
    wp (script_Encode_k37 x1 x4 x5 s x51 x52 x53 x62 x63 x64 (.agg (Cl.cells x).toArray) (vi i) H) Q := by
  intro d
  induction d with
  | zero =>
    intro i s l H hi hl h
    refine wp_eq (script_Encode_k37_eq _ _ _ _ _ _ _ _ _ _ _ _ H) ?_
    refine w_bind (lss_f (by omega)) ?_
    refine gs ?_
    refine wp_eq (script_Encode_e36_6_eq _ _ _ _ _ _ _ _ _ _ H) ?_
    rw [List.drop_of_length_le (show (nums x).length ≤ i by show 4 ≤ i; omega), List.flatMap_nil, List.nil_append] at hl
    exact next s l H hl h
  | succ d ih =>
    intro i s l H hi hl h
    have hi4 : i < 4 := by omega
    refine wp_eq (script_Encode_k37_eq _ _ _ _ _ _ _ _ _ _ _ _ H) ?_
    refine w_bind (lss_t (by omega)) ?_
    refine gs ?_
    refine wp_eq (script_Encode_k38_eq _ _ _ _ _ _ _ _ _ _ _ _ H) ?_
    refine w_bind (idx4 x i hi4) ?_
    have hok := okCl_iff.1 hx i hi4
    unfold okI at hok
    have hok := of_decide_eq_true hok
    refine w_bind (conv_ui (by omega) (by omega)) ?_
    have hll : l.length ≤ 90000 := by have := congrArg List.length hl; simp only [List.length_append] at this; omega
    refine w_call h (script_put_law s l (nthI x i).toNat (by omega) (by omega)) fun s' H1 h1 => ?_
    refine wp_eq (script_Encode_k39_eq _ _ _ _ _ _ _ _ _ _ _ _ H1) ?_
    refine w_bind (bin_add_i (by omega) (by omega)) ?_
    refine ih (i + 1) s' (l ++ encN (nthI x i).toNat) H1 (by omega) ?_ h1.to
    rw [← hl, nums_drop x hi4, List.flatMap_cons, List.append_assoc, List.append_assoc]

theorem enc_list {lv : Value} {cl : List Cl} [r : Rd X lv 4 Cl.cells cl] {T rest : List Nat} (hT : T.length ≤ 90000) (hc : cl.length ≤ 100) (hx : ∀ x ∈ cl, okCl x = true) (x1 x4 x5 x51 x52 x53 : Value) {Q : Value → AH → Prop}
    (next : ∀ (s : Value) (l : List Nat) (H : AH), l ++ rest = T → Holds (ts 1 encB s l * X) H → wp (script_Encode_k25 x1 x4 x5 s x51 x52 x53 H) Q) : ∀ (d i : Nat) (s : Value) (l : List Nat) (H : AH), i + d = cl.length → l ++ ((cl.drop i).flatMap encC ++ rest) = T → Holds (ts 1 encB s l * X) H →
    wp (script_Encode_k30 x1 x4 x5 s x51 x52 x53 lv (vi cl.length) (vi i) H) Q := by
  intro d
  induction d with
  | zero =>
    intro i s l H hi hl h
    refine wp_eq (script_Encode_k30_eq _ _ _ _ _ _ _ _ _ _ H) ?_
    refine w_bind (lss_f (by omega)) ?_
    refine gs ?_
    refine wp_eq (script_Encode_e29_4_eq _ _ _ _ _ _ _ H) ?_
    rw [List.drop_of_length_le (by omega), List.flatMap_nil, List.nil_append] at hl
    exact next s l H hl h
  | succ d ih =>
    intro i s l H hi hl h
    have hil : i < cl.length := by omega
    refine wp_eq (script_Encode_k30_eq _ _ _ _ _ _ _ _ _ _ H) ?_
    refine w_bind (lss_t (by omega)) ?_
    refine gs ?_
    refine wp_eq (script_Encode_k31_eq _ _ _ _ _ _ _ _ _ _ H) ?_
    refine w_rldN (s := lv) (l := cl) h hil ?_
    refine w_new h fun b1 H1 h1 => ?_
    refine w_St h1 rfl rfl fun H2 h2 => ?_
    refine w_LdN h2 ?_
    refine w_call h2 (numbers_law cl[i]) fun _ H3 h3 => ?_
    refine wp_eq (script_Encode_k35_eq _ _ _ _ _ _ _ _ _ _ _ _ H3) ?_
    refine enc_call (X := X) (rest := (cl.drop (i + 1)).flatMap encC ++ rest) hT cl[i] (hx _ (List.getElem_mem hil)) _ _ _ _ _ _ _ _ _ (fun s l H hl h => ?_) 4 0 s l H3 rfl ?_ h3.to
    · refine wp_eq (script_Encode_k32_eq _ _ _ _ _ _ _ _ _ _ H) ?_
      refine w_bind (bin_add_i (by omega) (by omega)) ?_
      exact ih (i + 1) s l H (by omega) hl h
    · rw [← hl, List.drop_eq_getElem_cons hil, List.flatMap_cons, List.append_assoc]
      rfl

/-- The lists. -/
theorem enc_lists [L : Ls X v ll] [r : Rd X pv 1 encI pk] {us : List Sv} (hvl : us.length = ll.length) (r1 : Rd X v 1 encS us) (r2 : ∀ i (h : i < us.length) (h' : i < ll.length), Rd X (us[i]).v 4 Cl.cells ll[i])
    {T : List Nat} (hT : T.length ≤ 90000) (h6 : ll.length ≤ 6) (h60 : sumL ll ≤ 60) (hk : pk.length ≤ 4000) (ho : ∀ n ∈ pk, okP n = true) (hx : ∀ l ∈ ll, ∀ x ∈ l, okCl x = true) (x4 x5 : Value) : ∀ (d i : Nat) (s : Value) (l : List Nat) (H : AH), i + d = us.length →
    l ++ ((ll.drop i).flatMap encR ++ (encN pk.length ++ pk.flatMap encT)) = T → Holds (ts 1 encB s l * X) H →
    wp (script_Encode_k23 pv x4 x5 s v (vi us.length) (vi i) H) fun v' H' => ∃ s' : Value, v' = .tuple #[s', vi 0] ∧ Holds (ts 1 encB s' T * X) H' := by
  intro d
  induction d with
  | zero =>
    intro i s l H hi hl h
    refine wp_eq (script_Encode_k23_eq _ _ _ _ _ _ _ H) ?_
    refine w_bind (lss_f (by omega)) ?_
    refine gs ?_
    refine wp_eq (script_Encode_e22_2_eq _ _ _ _ H) ?_
    rw [List.drop_of_length_le (by omega), List.flatMap_nil, List.nil_append] at hl
    refine wp_eq (script_Encode_k3_eq _ _ _ _ H) ?_
    refine w_rlen (s := pv) (l := pk) h ?_
    refine w_bind (conv_ui (by omega) (by omega)) ?_
    have hll : l.length ≤ 90000 := by have := congrArg List.length hl; simp only [List.length_append] at this; omega
    refine w_call h (script_put_law s l (pk.length : Int).toNat (by omega) (by omega)) fun s' H1 h1 => ?_
    refine wp_eq (script_Encode_k4_eq _ _ _ _ H1) ?_
    refine w_rlen (s := pv) (l := pk) h1 ?_
    refine wp_eq (script_Encode_k6_eq _ _ _ _ _ _ H1) ?_
    refine enc_picks (X := X) hT hk ho _ _ pk.length 0 s' (l ++ encN (pk.length : Int).toNat) H1 (by omega) ?_ h1.to
    rw [← hl, List.drop_zero, List.append_assoc]
    rfl
  | succ d ih =>
    intro i s l H hi hl h
    have hiu : i < us.length := by omega
    have hil : i < ll.length := by omega
    refine wp_eq (script_Encode_k23_eq _ _ _ _ _ _ _ H) ?_
    refine w_bind (lss_t (by omega)) ?_
    refine gs ?_
    refine wp_eq (script_Encode_k24_eq _ _ _ _ _ _ _ H) ?_
    refine w_rld1 (s := v) (l := us) h hiu rfl ?_
    haveI := r2 i hiu hil
    refine w_rlen (s := (us[i]).v) (l := ll[i]) h ?_
    have hl60 : ll[i].length ≤ 60 := by have := sumL_mem hil; omega
    refine w_bind (conv_ui (by omega) (by omega)) ?_
    have hll : l.length ≤ 90000 := by have := congrArg List.length hl; simp only [List.length_append] at this; omega
    refine w_call h (script_put_law s l (ll[i].length : Int).toNat (by omega) (by omega)) fun s' H1 h1 => ?_
    refine w_rlen (s := (us[i]).v) (l := ll[i]) h1 ?_
    refine wp_eq (script_Encode_k28_eq _ _ _ _ _ _ _ _ _ _ H1) ?_
    refine enc_list (X := X) (cl := ll[i]) (rest := (ll.drop (i + 1)).flatMap encR ++ (encN pk.length ++ pk.flatMap encT)) hT (by omega) (hx _ (List.getElem_mem hil)) _ _ _ _ _ _ (fun s l H hl h => ?_) ll[i].length 0 s' (l ++ encN (ll[i].length : Int).toNat) H1 (by omega) ?_ h1.to
    · refine wp_eq (script_Encode_k25_eq _ _ _ _ _ _ _ H) ?_
      refine w_bind (bin_add_i (by omega) (by omega)) ?_
      exact ih (i + 1) s l H (by omega) hl h
    · rw [← hl, List.drop_zero, List.drop_eq_getElem_cons hil, List.flatMap_cons]
      simp only [encR, List.append_assoc]
      rfl
end
end Go.Proofs.YthagelbepgcolaaGreatDoor.Gst
