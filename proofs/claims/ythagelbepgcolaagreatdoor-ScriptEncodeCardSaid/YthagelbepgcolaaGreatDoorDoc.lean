/- Calls that the closed call is told of: numbers as strings, bytes held against each other, a script of no bytes. -/
import Derived.Test.YthagelbepgcolaaGreatDoorDob
namespace Go.Proofs.YthagelbepgcolaaGreatDoor.Gst
open Go Go.RowKit
set_option linter.unusedSimpArgs false
set_option linter.unusedVariables false
set_option maxRecDepth 100000
set_option maxHeartbeats 4000000

abbrev str12 : ByteArray := ⟨#[49, 50]⟩
theorem small_0 (H : AH) : FB n_internal_strconv_small [vi 0] H = some (.iface 1 (.string str0), H) := internal_strconv_small_of _ _ (by kernel_rfl)
theorem small_12 (H : AH) : FB n_internal_strconv_small [vi 12] H = some (.iface 1 (.string str12), H) := internal_strconv_small_of _ _ (by kernel_rfl)
theorem fmtI_of {n : Int} {s : ByteArray} {H : AH} (h1 : 0 ≤ n) (h2 : n < 100) (hs : FB n_internal_strconv_small [vi n] H = some (.iface 1 (.string s), H)) : FB n_internal_strconv_FormatInt [vi n, vi 10] H = some (.iface 1 (.string s), H) := by
  refine internal_strconv_FormatInt_of _ _ H ?_
  rw [internal_strconv_FormatInt_k0_eq]
  rw [show pBin .other .eql (vi 10) (vi 10) = some (vb true) from rfl]
  simp only [Option.bind_some]
  rw [internal_strconv_FormatInt_k9_eq]
  have e1 : pBin .other .leq (vi 0) (vi n) = some (vb true) := by simp [pBin, pInt, h1]
  have e2 : pBin .other .lss (vi n) (vi 100) = some (vb true) := by simp [pBin, pInt, h2]
  have e3 : ∀ {x y : OV}, condK (vb true) x y = x := rfl
  have e4 : ∀ {R : Type} {v : Value} {k : Value → Option R}, (gV (vb true) true v).bind k = k v := rfl
  have e5 : ∀ {R : Type} {v : Value} {k : Value → Option R}, (gB (vb true) true (some v)).bind k = k v := rfl
  have e6 : ∀ {R : Type} {v : Value} {k : Value → Option R}, (pPick (vb true) v (vb false)).bind k = k v := rfl
  rw [e3, e1, Option.bind_some, e4, e2, e5, e6, e3, hs]
  rfl
theorem itoa_of {n : Int} {s : ByteArray} {H : AH} (h1 : 0 ≤ n) (h2 : n < 100) (hs : FB n_internal_strconv_small [vi n] H = some (.iface 1 (.string s), H)) : FF n_strconv_Itoa [vi n] H = some (.string s, H) := by
  refine bE_ret.1 (strconv_Itoa_of _ H ?_)
  rw [internal_strconv_Itoa_of _ H (r := (.iface 1 (.string s), H)) (by rw [fmtI_of h1 h2 hs]; rfl)]
  rfl
theorem fmtU_of {H : AH} : FF n_strconv_FormatUint [vu 0, vi 10] H = some (.string str0, H) := by
  refine bE_ret.1 (strconv_FormatUint_of _ _ H ?_)
  rw [internal_strconv_FormatUint_of _ _ H (r := (.iface 1 (.string str0), H)) ?_]
  · rfl
  · show (FB n_internal_strconv_small [vi 0] H).bind _ = _
    rw [small_0]
    rfl
/-! ### A script of no bytes -/
abbrev zeroP : List Value := [vi 0, vi 0, vi 0, vi 0, vw 0, .slice none 0 0]
noncomputable def csh : CSh := (cshape (bodyOf Tryz.f52)).getD ⟨0, #[], ⟨none, .panic (.tmp 0), 0, "", #[], none⟩, ⟨none, .panic (.tmp 0), 0, "", #[], none⟩, [], 0, 0, 0, 0, .skip⟩
section
variable {y0 y1 y2 c : Value} {H : AH}
theorem mend_1 : mendF PP GG n_script_read_1 [y0, y1, y2] (.iface 32 c) H = mendA PP GG 13 csh [y0, y1, y2] (.iface 32 c) H := by
  unfold mendF
  rw [show PP.funcs[n_script_read_1]? = _ from Tryz.func52]
  kernel_rfl
theorem mend_2 : mendA PP GG 13 csh [y0, y1, y2] (.iface 32 c) H = (aOps PP GG noCall csh.ops csh.rest [y0, y1, y2, undef, undef, undef, .iface 32 c, .tuple #[c, .bool true], undef, undef, undef, undef, undef] H).bind fun q => (aCode PP GG noCall csh.c2 q.1 q.2).bind fun r => match r.1 with
          | .exit _ => none
          | _ => some r.2.2 := by kernel_rfl
theorem mend_3 : aOps PP GG noCall csh.ops csh.rest [y0, y1, y2, undef, undef, undef, .iface 32 c, .tuple #[c, .bool true], undef, undef, undef, undef, undef] H = some ([y0, y1, y2, c, .bool true, .tuple #[c, .bool true], .iface 32 c, .tuple #[c, .bool true], c, .bool true, undef, undef, undef], H) := by kernel_rfl
theorem mend_4 : cCode PP GG noCall csh.c2 [y0, y1, y2, c, .bool true, .tuple #[c, .bool true], .iface 32 c, .tuple #[c, .bool true], c, .bool true, undef, undef, undef] H (fun _ H => some H) (fun _ _ _ => none) (fun _ H => some H) = (pSt 6 y0 (.agg zeroP.toArray) H).bind fun H => (pSt 1 y1 (.slice none 0 0) H).bind fun H => (pSt 1 y2 c H).bind fun H => some H := by kernel_rfl
theorem mend_read : mendF PP GG n_script_read_1 [y0, y1, y2] (.iface 32 c) H = (pSt 6 y0 (.agg zeroP.toArray) H).bind fun H => (pSt 1 y1 (.slice none 0 0) H).bind fun H => (pSt 1 y2 c H).bind some := by
  rw [mend_1, mend_2, mend_3, Option.bind_some]
  refine Eq.trans ?_ (mend_4 (y0 := y0) (y1 := y1) (y2 := y2) (c := c) (H := H))
  rw [cCode_eq]
  congr 1
  funext r
  obtain ⟨e, A1, H1⟩ := r
  cases e <;> rfl
end
abbrev pt0 (b : Nat) : Value := .pointer (some ⟨b, 0, none⟩)
abbrev pan12 : Value := .iface 0 (.iface 32 (vi 12))
theorem number_nil {b : Nat} {K : AH} (h : pLd1 (pt0 b) K = some (.slice none 0 0)) : FB n_script_reader_number [pt0 b] K = some (pan12, K) := by
  refine script_reader_number_of _ K ?_
  rw [script_reader_number_k0_eq, script_reader_number_k2_eq]
  show (pLd1 (pt0 b) K).bind _ = _
  rw [h]
  rfl
theorem small_nil {b : Nat} {K : AH} (h : pLd1 (pt0 b) K = some (.slice none 0 0)) : FB n_script_reader_small [pt0 b, vi 1, vi 4] K = some (pan12, K) := by
  refine script_reader_small_of _ _ _ K ?_
  rw [show pConv (some .u64) (vi 1) = some (vu 1) from rfl, show pConv (some .u64) (vi 4) = some (vu 4) from rfl]
  simp only [Option.bind_some]
  rw [script_reader_within_of _ _ _ K (r := (pan12, K)) (by rw [number_nil h]; rfl)]
  rfl
theorem plan_nil {H : AH} {l : List AObj} {i : Nat} (h : l[i]? = some (.cells false [.slice none 0 0])) : FB n_script_reader_plan [pt0 (H.size + i)] (ap H l) = some (pan12, ap H (l ++ [.cells false zeroP] ++ [.cells false zeroP])) := by
  refine script_reader_plan_of _ _ ?_
  rw [ap_new, ap_new]
  show (FB n_script_reader_small [pt0 (H.size + i), vi 1, vi 4] _).bind _ = _
  rw [small_nil]
  · rfl
  · refine ap_ld1 (ro := false) (cs := [.slice none 0 0]) ?_ rfl
    rw [List.getElem?_append_left, List.getElem?_append_left, h]
    · have := (List.getElem?_eq_some_iff.1 h).1; omega
    · have := (List.getElem?_eq_some_iff.1 h).1; simp; omega
/-- A script of no bytes is told to be too short. -/
theorem read_nil (H : AH) : FF n_script_read [.slice none 0 0] H = some (.tuple #[.agg zeroP.toArray, .slice none 0 0, vi 12], ap H [.cells false zeroP, .cells false [.slice none 0 0], .cells false [vi 12], .cells false [.slice none 0 0], .cells false zeroP, .cells false zeroP]) := by
  refine script_read_of _ H harm_read ?_
  have e0 : newK zeroP H = newK (R := Value × AH) zeroP (ap H []) := by rw [← ap_nil]
  rw [e0, ap_new, ap_new, ap_new, script_read_body_eq]
  have e1 : ∀ {k : Value → OV}, mkS [(0, 1)] [(.slice none 0 0)] [(0, .slice none 0 0)] k = k (.agg #[.slice none 0 0]) := rfl
  rw [e1]
  show newK [.slice none 0 0] _ _ = _
  rw [ap_new]
  show (FB n_script_reader_plan [pt0 (H.size + 3)] (ap H [.cells false zeroP, .cells false [.slice none 0 0], .cells false [vi 0], .cells false [.slice none 0 0]])).bind _ = _
  rw [plan_nil rfl]
  show (mendF PP GG n_script_read_1 [pt0 (H.size + 0), pt0 (H.size + 1), pt0 (H.size + 2)] (.iface 32 (vi 12)) (ap H [.cells false zeroP, .cells false [.slice none 0 0], .cells false [vi 0], .cells false [.slice none 0 0], .cells false zeroP, .cells false zeroP])).bind _ = _
  rw [mend_read, ap_st (n := 6) (i := 0) (j := 0) (cs := zeroP) (x := .agg zeroP.toArray) rfl rfl (by decide) rfl, Option.bind_some, ap_st (n := 1) (i := 1) (j := 0) (cs := [.slice none 0 0]) (x := .slice none 0 0) rfl rfl (by decide) rfl, Option.bind_some, ap_st (n := 1) (i := 2) (j := 0) (cs := [vi 0]) (x := vi 12) rfl rfl (by decide) rfl, Option.bind_some, Option.bind_some]
  show (pLdN 6 (pt0 (H.size + 0)) (ap H [.cells false zeroP, .cells false [.slice none 0 0], .cells false [vi 12], .cells false [.slice none 0 0], .cells false zeroP, .cells false zeroP])).bind _ = _
  rw [ap_ldN (n := 6) (i := 0) (j := 0) (cs := zeroP) (ro := false) rfl (by decide), Option.bind_some]
  show (pLd1 (pt0 (H.size + 1)) _).bind _ = _
  rw [ap_ld1 (i := 1) (j := 0) (cs := [.slice none 0 0]) (ro := false) rfl rfl, Option.bind_some]
  show (pLd1 (pt0 (H.size + 2)) _).bind _ = _
  rw [ap_ld1 (i := 2) (j := 0) (cs := [vi 12]) (ro := false) rfl rfl, Option.bind_some]
  rfl
end Go.Proofs.YthagelbepgcolaaGreatDoor.Gst
