/- What a statement's closed call comes to: the closure of the asks, the call itself. (Seat p.) -/
import Derived.Test.YtbjelopcelompaaGreatDoorMf
import Derived.Test.YtbjelopcelompaaGreatDoorMd
import Derived.Test.YtbjelopcelompaaGreatDoorProg
namespace Go.Proofs.YtbjelopcelompaaGreatDoor.Gst
open Go Go.RowKit
set_option maxRecDepth 100000
set_option maxHeartbeats 4000000
theorem x_assert {P : Program} {xt at' : TypeId} {k : IntKind} {z : Value} (h : P.underlying at' = some (.int k)) (hz : zeroOf P at' = some z) (w : World) : (Instr.typeAssert .nilIface xt at' true).run P w = .ok (.tuple #[z, .bool false]) w := by
  simp [Instr.typeAssert, underlying_some h w, zeroOf_run hz w]
theorem harmless : Harmless Tryz.prog 247 :=
  harmless_of (z := .int .i64 0) (xt := 20) (at' := 60) Tryz.func247 (by decide) (by kernel_rfl) (by decide) (by rfl) (fun w => x_assert (k := .i64) (by kernel_rfl) (by kernel_rfl) w)
end Go.Proofs.YtbjelopcelompaaGreatDoor.Gst
