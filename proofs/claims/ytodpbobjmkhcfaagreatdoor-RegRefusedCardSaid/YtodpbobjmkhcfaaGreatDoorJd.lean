/- Arguments: configs, calls; what a closed call keeps. -/
import Derived.Test.YtodpbobjmkhcfaaGreatDoorJc
import Derived.Test.YtodpbobjmkhcfaaGreatDoorVk
namespace Go.Proofs.YtodpbobjmkhcfaaGreatDoor.Gst
open Go Go.RowKit
set_option linter.unusedSimpArgs false
set_option linter.unusedVariables false

theorem Holds.keeps {P : SP} {H H' : AH} (h : Holds P H) (k : ∀ i, i < H.size → H'.get i = H.get i) : Holds P H' := by
  obtain ⟨x, hx, hg⟩ := h
  exact ⟨x, hx, fun i o hi => by
    have := hg i o hi
    rw [k i (AH.lt_of_get this)]; exact this⟩
theorem args_tab {H0 : AH} (hT : H0.get 0 = some (.cells true tabC)) : Hs (fix H0) 0 (.cells true tabC) := ⟨fun h => (Fx.refl H0).fx h 0 _ hT⟩
theorem args_ints {H0 : AH} {v : Value} {l : List Int} (h : Abs H0 (.slice (.int .i64)) l [v]) : Rd (fix H0) v 1 encI l :=
  Rd.arg (t := .int .i64) (enc := encI) (E := inferInstanceAs (Enc encI 1)) (fun x c h => h.1) h


abbrev ITy : Ty := .int .i64
abbrev CfgTy : Ty := .pair ITy (.pair ITy (.pair ITy (.pair ITy (.pair (.int .u64) .unit))))
abbrev ClTy : Ty := .pair ITy (.pair ITy (.pair ITy (.pair ITy .unit)))
def toCl (x : ClTy.I) : Cl := ⟨x.1, x.2.1, x.2.2.1, x.2.2.2.1⟩
theorem cl_abs {H : AH} {x : ClTy.I} {cs : List Value} (h : Abs H ClTy x cs) : cs = Cl.cells (toCl x) := by
  obtain ⟨c1, c2, rfl, h1, c3, c4, rfl, h2, c5, c6, rfl, h3, c7, c8, rfl, h4, h5⟩ := h
  have h5 : c8 = [] := h5
  rw [h1.1, h2.1, h3.1, h4.1, h5]
  rfl
theorem cfg_abs {H : AH} {x : CfgTy.I} {cs : List Value} (h : Abs H CfgTy x cs) : ∃ c : Cfg, cs = Cfg.cells c := by
  obtain ⟨c1, c2, rfl, h1, c3, c4, rfl, h2, c5, c6, rfl, h3, c7, c8, rfl, h4, c9, c10, rfl, h5, h6⟩ := h
  have h6 : c10 = [] := h6
  obtain ⟨e5, hw⟩ := h5
  have : 0 ≤ x.2.2.2.2.1 ∧ x.2.2.2.2.1 ≤ 18446744073709551615 := by simpa [Lit.wf, IntKind.has, IntKind.min, IntKind.max, IntKind.bits, IntKind.signed] using hw
  refine ⟨⟨x.1, x.2.1, x.2.2.1, x.2.2.2.1, x.2.2.2.2.1.toNat⟩, ?_⟩
  rw [h1.1, h2.1, h3.1, h4.1, e5, h6]
  show _ = [vi x.1, vi x.2.1, vi x.2.2.1, vi x.2.2.2.1, .int .u64 ((x.2.2.2.2.1.toNat : Nat) : Int)]
  rw [Int.toNat_of_nonneg this.1]
  rfl
theorem args_calls {H0 : AH} {v : Value} {l : List ClTy.I} (h : Abs H0 (.slice ClTy) l [v]) : Rd (fix H0) v 4 Cl.cells (l.map toCl) := by
  have E : Enc (fun x : ClTy.I => Cl.cells (toCl x)) ClTy.w := ⟨fun _ => rfl, fun _ => rfl, by decide⟩
  have r := Rd.arg (t := ClTy) (enc := fun x => Cl.cells (toCl x)) (E := E) (fun x c hx => cl_abs hx) h
  refine ⟨fun {H} hh => ?_⟩
  have := r.rd hh
  rw [List.flatMap_map, List.length_map]
  exact this
end Go.Proofs.YtodpbobjmkhcfaaGreatDoor.Gst
