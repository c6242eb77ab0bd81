/- What the closed call is told, all in one. -/
import Derived.Test.YthagelbepgcolaaGreatDoorDoc
import Derived.Test.YthagelbepgcolaaGreatDoorDod
namespace Go.Proofs.YthagelbepgcolaaGreatDoor.Gst
open Go Go.RowKit
set_option linter.unusedSimpArgs false
set_option linter.unusedVariables false
set_option maxRecDepth 100000
set_option maxHeartbeats 4000000

abbrev five : List Value := [.string str0, .string str0, .string str0, .string str0, .string str0]
theorem five_at {l : List Value} {o : Nat} (h : (l.drop o).take 5 = five) : ∀ j, j < 5 → l[o + j]? = some (.string str0) := by
  intro j hj
  have e : ((l.drop o).take 5)[j]? = five[j]? := by rw [h]
  rw [List.getElem?_take, if_pos hj, List.getElem?_drop] at e
  rw [e]
  match j, hj with
  | 0, _ => rfl
  | 1, _ => rfl
  | 2, _ => rfl
  | 3, _ => rfl
  | 4, _ => rfl
theorem join_five {H : AH} {b o : Nat} {ro : Bool} {cs : List Value} (hH : H.get b = some (.cells ro cs)) (h5 : (cs.drop o).take 5 = five) : FF n_strings_Join [.slice (some ⟨b, o, none⟩) 5 1, .string strS] H = some (.string str00000, H) := by
  refine nrm_some.2 (bF_lib (fn := Tryz.f68) Tryz.func68 (by kernel_rfl) ?_ ?_)
  · simp only [libV, pCells, hH, h5]
  · refine told_join ⟨Tryz.f68, Tryz.func68, by kernel_rfl, by decide⟩ (fun bk o c w h1 h2 h3 => ?_) hH (five_at h5)
    exact Tryz.strings_Join bk o c [str0, str0, str0, str0, str0] strS w h1 h2 (by decide) h3 (by decide)
/-! ### What is told -/
def eBytes (x : Value) (E : EH) : Option (List Int) := match x with
  | .slice (some ⟨b, o, none⟩) n 1 => match E.get b with
    | some (.cells _ cs) => if o + n ≤ cs.length then u8s ((cs.drop o).take n) else none
    | _ => none
  | _ => none
def orcB (args : List Value) (E : EH) : Option (Value × EH) := match args with
  | [x, y] => match eBytes x E, eBytes y E with
    | some l, some m => if l = m then some (.bool true, E) else none
    | _, _ => none
  | _ => none
def orcI (args : List Value) (E : EH) : Option (Value × EH) := match args with
  | [.int .i64 n] => if n = 0 then some (.string str0, E) else if n = 12 then some (.string str12, E) else none
  | _ => none
def orcU (args : List Value) (E : EH) : Option (Value × EH) := match args with
  | [.int .u64 n, .int .i64 m] => if n = 0 ∧ m = 10 then some (.string str0, E) else none
  | _ => none
def orcJ (args : List Value) (E : EH) : Option (Value × EH) := match args with
  | [.slice (some ⟨b, o, none⟩) n e, .string s] => match E.get b with
    | some (.cells _ cs) => if n = 5 ∧ e = 1 ∧ s = strS ∧ eqVs (eqV 0) ((cs.drop o).take 5) five = true then some (.string str00000, E) else none
    | _ => none
  | _ => none
def orcR (args : List Value) (E : EH) : Option (Value × EH) := match args with
  | [.slice none 0 0] => (E.push (.cells false zeroP)).bind fun E => (E.push (.cells false [.slice none 0 0])).bind fun E => (E.push (.cells false [vi 12])).bind fun E => (E.push (.cells false [.slice none 0 0])).bind fun E => (E.push (.cells false zeroP)).bind fun E => (E.push (.cells false zeroP)).map fun E => (.tuple #[.agg zeroP.toArray, .slice none 0 0, vi 12], E)
  | _ => none
def orc : TF := fun f args E => if f = n_help_Bytes then orcB args E else if f = n_strconv_Itoa then orcI args E else if f = n_strconv_FormatUint then orcU args E else if f = n_strings_Join then orcJ args E else if f = n_script_read then orcR args E else none

section
variable {d : Nat} {F : List AObj} {E : EH} {H : AH}
theorem sh_i {k : IntKind} {n : Int} : shV 4 d (.int k n) = .int k n := by simp [shV]
theorem sh_b {b : Bool} : shV 4 d (.bool b) = .bool b := by simp [shV]
theorem sh_s {b : ByteArray} : shV 4 d (.string b) = .string b := by simp [shV]
theorem sh_n : shV 4 d (.slice none 0 0) = .slice none 0 0 := by simp [shV]
theorem sh_sl {b o n e : Nat} : shV 4 d (.slice (some ⟨b, o, none⟩) n e) = .slice (some ⟨shB 4 d b, o, none⟩) n e := by simp [shV, shA]
theorem u8s_sh : ∀ {l : List Value} {ns : List Int}, u8s l = some ns → shL 4 d l = l := by
  intro l
  induction l with
  | nil => intro ns h; rfl
  | cons a l ih =>
    intro ns h
    unfold u8s at h
    split at h
    · rename_i e; cases e
    · rename_i n l' e
      obtain ⟨rfl, rfl⟩ := List.cons.inj e
      obtain ⟨m, hm, _⟩ := Option.map_eq_some_iff.1 h
      rw [shL, List.map_cons]
      have := ih hm
      rw [shL] at this
      rw [this, sh_i]
    · cases h
theorem bytes_did (hR : HR 4 d F E H) {x : Value} {ns : List Int} (h : eBytes x E = some ns) : pBytesS (shV 4 d x) H = some (.string (mkStr ns)) := by
  unfold eBytes at h
  split at h
  · rename_i b o n
    split at h
    · rename_i ro cs hb
      split at h
      · rename_i hle
        have hg := hR.get b
        rw [hb] at hg
        have hs := u8s_sh (d := d) h
        rw [sh_sl]
        unfold pBytesS
        by_cases h0 : n = 0
        · subst h0
          simp only [if_true]
          rw [List.take_zero] at h
          have : ns = [] := by cases h; rfl
          subst this
          rfl
        · simp only [h0, if_false, if_true]
          have : pLdN n (.pointer (some ⟨shB 4 d b, o, none⟩)) H = some (.agg ((cs.drop o).take n).toArray) := by
            simp only [pLdN, pAt, pCells, Option.bind_some, hg, Option.map_some]
            show (if o + n ≤ (shL 4 d cs).length then some (Value.agg (((shL 4 d cs).drop o).take n).toArray) else none) = _
            rw [if_pos (by rw [shL, List.length_map]; exact hle)]
            rw [shL, ← List.map_drop, ← List.map_take]
            rw [shL] at hs
            rw [hs]
          rw [this]
          show (u8s ((cs.drop o).take n).toArray.toList).map _ = _
          rw [show ((cs.drop o).take n).toArray.toList = (cs.drop o).take n from rfl, h]
          rfl
      · cases h
    · cases h
  · cases h
theorem orc_did (hd : F.length = d) : CallDid 4 d F orc (aF PP [3]) := by
  intro E H f args hR v E' h
  unfold orc at h
  split at h
  · rename_i hf; subst hf
    unfold orcB at h
    split at h
    · rename_i x y
      split at h
      · rename_i l m hl hm
        split at h
        · rename_i e; subst e
          cases h
          refine ⟨H, bE_ret.1 (help_Bytes_of _ _ H ?_), hR⟩
          rw [bytes_did hR hl, bytes_did hR hm]
          simp only [Option.bind_some]
          have : pBin .other .eql (.string (mkStr l)) (.string (mkStr l)) = some (vb true) := by
            simp only [pBin, pStr]
            have : (mkStr l == mkStr l) = true := by
              show ((mkStr l).data == (mkStr l).data) = true
              simp
            rw [this]
          rw [this, sh_b]; rfl
        · cases h
      · cases h
    · cases h
  split at h
  · rename_i hf; subst hf
    unfold orcI at h
    split at h
    · split at h
      · rename_i e; subst e
        cases h
        refine ⟨H, ?_, hR⟩
        rw [shL, List.map_cons, List.map_nil, sh_i, sh_s]
        exact itoa_of (by omega) (by omega) (small_0 H)
      split at h
      · rename_i e; subst e
        cases h
        refine ⟨H, ?_, hR⟩
        rw [shL, List.map_cons, List.map_nil, sh_i, sh_s]
        exact itoa_of (by omega) (by omega) (small_12 H)
      · cases h
    · cases h
  split at h
  · rename_i hf; subst hf
    unfold orcU at h
    split at h
    · split at h
      · rename_i e
        obtain ⟨rfl, rfl⟩ := e
        cases h
        refine ⟨H, ?_, hR⟩
        rw [shL, List.map_cons, List.map_cons, List.map_nil, sh_i, sh_i, sh_s]
        exact fmtU_of
      · cases h
    · cases h
  split at h
  · rename_i hf; subst hf
    unfold orcJ at h
    split at h
    · rename_i b o n e s
      split at h
      · rename_i ro cs hb
        split at h
        · rename_i e
          obtain ⟨rfl, rfl, rfl, e⟩ := e
          have e := eqVs_sound (eqV_sound 0) _ _ e
          cases h
          have hg := hR.get b
          rw [hb] at hg
          refine ⟨H, ?_, hR⟩
          rw [shL, List.map_cons, List.map_cons, List.map_nil, sh_sl, sh_s, sh_s]
          refine join_five (cs := shL 4 d cs) (ro := ro) hg ?_
          rw [shL, ← List.map_drop, ← List.map_take, e]
          simp only [List.map_cons, List.map_nil, sh_s]
        · cases h
      · cases h
    · cases h
  split at h
  · rename_i hf; subst hf
    unfold orcR at h
    split at h
    · obtain ⟨E1, h1, h⟩ := Option.bind_eq_some_iff.1 h
      obtain ⟨E2, h2, h⟩ := Option.bind_eq_some_iff.1 h
      obtain ⟨E3, h3, h⟩ := Option.bind_eq_some_iff.1 h
      obtain ⟨E4, h4, h⟩ := Option.bind_eq_some_iff.1 h
      obtain ⟨E5, h5, h⟩ := Option.bind_eq_some_iff.1 h
      obtain ⟨E6, h6, h⟩ := Option.map_eq_some_iff.1 h
      cases h
      have k6 := (((((hR.push h1).push h2).push h3).push h4).push h5).push h6
      refine ⟨ap H [.cells false zeroP, .cells false [.slice none 0 0], .cells false [vi 12], .cells false [.slice none 0 0], .cells false zeroP, .cells false zeroP], ?_, ?_⟩
      · have eT : shV 4 d (.tuple #[.agg zeroP.toArray, .slice none 0 0, vi 12]) = .tuple #[.agg zeroP.toArray, .slice none 0 0, vi 12] := by simp [shV]
        rw [shL, List.map_cons, List.map_nil, sh_n, eT]
        exact read_nil H
      have e : ∀ (A B C D E F : AObj), ap H [A, B, C, D, E, F] = (((((H.push A).push B).push C).push D).push E).push F := by
        intro A B C D E F
        simp only [ap, AH.push, List.append_assoc]
        rfl
      rw [e]
      have z1 : shO 4 d (.cells false zeroP) = .cells false zeroP := by simp [shO, shV]
      have z2 : shO 4 d (.cells false [.slice none 0 0]) = .cells false [.slice none 0 0] := by simp [shO, shV]
      have z3 : shO 4 d (.cells false [vi 12]) = .cells false [vi 12] := by simp [shO, shV]
      rw [z1, z2, z3] at k6
      exact k6
    · cases h
  · cases h
end
end Go.Proofs.YthagelbepgcolaaGreatDoor.Gst
