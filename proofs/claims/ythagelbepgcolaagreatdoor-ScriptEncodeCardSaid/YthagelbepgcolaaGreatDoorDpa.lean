/- Any number as one from 0 to n - 1. -/
import Derived.Test.YthagelbepgcolaaGreatDoorKy
import Derived.Test.YthagelbepgcolaaGreatDoorId
namespace Go.Proofs.YthagelbepgcolaaGreatDoor.Gst
open Go Go.RowKit
set_option linter.unusedSimpArgs false
set_option linter.unusedVariables false
set_option maxHeartbeats 1000000

/-- Any number as one from 0 to n - 1. -/
def modI (v n : Int) : Int := (v % 18446744073709551616) % n
theorem modI_lt {v n : Int} (h : 0 < n) : 0 ≤ modI v n ∧ modI v n < n := ⟨Int.emod_nonneg _ (by omega), Int.emod_lt_of_pos _ h⟩
theorem play_mod (v n : Int) (h0 : 0 < n) (h1 : n < 9223372036854775808) : Sp n_play_Mod [vi v, vi n] emp (fun _ : Unit => vi (modI v n)) (fun _ => emp) := by
  refine sp_of fun R H h => ?_
  refine wp_of (fun r => play_Mod_of _ _ H) ?_
  have e1 : pConv (some .u64) (vi v) = some (vu (v % 18446744073709551616).toNat) := by
    simp only [pConv]
    rw [wrap_u]
    have : 0 ≤ v % 18446744073709551616 := Int.emod_nonneg _ (by omega)
    show _ = some (Value.int .u64 (((v % 18446744073709551616).toNat : Nat) : Int))
    rw [Int.toNat_of_nonneg this]
  refine w_bind (e1) ?_
  refine w_bind (conv_ui (by omega) (by omega)) ?_
  refine w_bind (bin_rem_u (by omega)) ?_
  have hm := modI_lt (v := v) h0
  have e2 : (((v % 18446744073709551616).toNat % n.toNat : Nat) : Int) = modI v n := by
    have : 0 ≤ v % 18446744073709551616 := Int.emod_nonneg _ (by omega)
    unfold modI
    rw [Int.natCast_emod, Int.toNat_of_nonneg this, Int.toNat_of_nonneg (by omega)]
  refine w_bind (conv_iu (by omega)) ?_
  rw [e2]
  exact w_ret ⟨(), rfl, Holds.to (by assumption)⟩

end Go.Proofs.YthagelbepgcolaaGreatDoor.Gst
