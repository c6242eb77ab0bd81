/- The closures that recover: where nothing panics they change nothing. -/
import Derived.Test.YthagelbepgcolaaGreatDoorDoa
import Derived.Test.YthagelbepgcolaaGreatDoorKz
namespace Go.Proofs.YthagelbepgcolaaGreatDoor.Gst
open Go Go.RowKit
set_option linter.unusedSimpArgs false
set_option linter.unusedVariables false
set_option maxRecDepth 100000
set_option maxHeartbeats 4000000
theorem harmless_of3 {P : Program} {k : Nat} {fn : Func} (hf : P.funcs[k]? = some fn) (hn : fn.name ≠ "runtime.NumGoroutine") (hr : fn.results = #[]) (hnt : 12 ≤ fn.ntmps)
    {i1 i2 : Nat} {a1 : Array TypeId} {y1 y2 y3 y4 y5 y6 y7 y8 : TypeId} {p1 p2 p3 p4 p5 p6 p7 p8 : String} {e1 e2 e3 e4 e5 e6 e7 e8 : Array Edge} {xt at' : TypeId} {x : Code} {z : Value}
    (hb : fn.body = some (.seq (.region i1 #[⟨some 6, .call ⟨.builtin .recover, #[], a1⟩, y1, p1, e1, none⟩, ⟨some 7, .typeAssert (.tmp 6) xt at' true, y2, p2, e2, none⟩, ⟨some 5, .move (.tmp 7), y3, p3, e3, none⟩,
      ⟨some 8, .extract (.tmp 5) 0, y4, p4, e4, none⟩, ⟨some 9, .extract (.tmp 5) 1, y5, p5, e5, none⟩, ⟨some 3, .assign (.tmp 8), y6, p6, e6, none⟩, ⟨some 4, .assign (.tmp 9), y7, p7, e7, none⟩] false)
      (.seq (.region i2 #[⟨some 10, .move (.tmp 4), y8, p8, e8, none⟩] false) (.cond (.tmp 10) x .skip))))
    (hz : ∀ w, (Instr.typeAssert .nilIface xt at' true).run P w = .ok (.tuple #[z, .bool false]) w) : Harmless P k := by
  refine ⟨⟨fn, hf, by rw [hb]; rfl, hn⟩, fun args w => callsD_of_wpS hf hb fun c0 cs hm => ?_⟩
  have hsz : 12 ≤ (args ++ Array.replicate (fn.ntmps - args.size) undef).size := by simp; omega
  generalize args ++ Array.replicate (fn.ntmps - args.size) undef = T at hsz
  refine wpS_seq (wpS_region ?_)
  have hs : ∀ a : Act, a.tmps.size = T.size → ∀ j, j < 12 → j < a.tmps.size := fun a h j hj => by omega
  have hrec : recoverD (c0 :: cs) = none := by simp [recoverD, hm]
  have rng : List.range (7 : Nat) = [0, 1, 2, 3, 4, 5, 6] := rfl
  have rng1 : List.range (1 : Nat) = [0] := rfl
  have h4 : 6 < T.size := by omega
  have h4 : 6 < T.size := by omega
  simp only [List.size_toArray, List.length_cons, List.length_nil, Nat.zero_add, Nat.reduceAdd, rng]
  refine wpS_rec (o := ⟨some 6, .call ⟨.builtin .recover, #[], a1⟩, y1, p1, e1, none⟩) rfl rfl rfl hrec ?_
  refine wpS_value (o := ⟨some 7, .typeAssert (.tmp 6) xt at' true, y2, p2, e2, none⟩) (v := .tuple #[z, .bool false]) rfl rfl ?_ ?_
  · have e : (({ tmps := T, defers := [] } : Act).put (some 6) .nilIface).eval (.tmp 6) = .nilIface := ev_same h4
    simp only [execOp, e, Sem.run_bind, hz, Result.andThen_ok, Sem.run_pure]
  refine wpS_value (o := ⟨some 5, .move (.tmp 7), y3, p3, e3, none⟩) (v := .tuple #[z, .bool false]) rfl rfl ?_ ?_
  · exact x_move (ev_same (hs _ (by simp only [size_put]) 7 (by omega)))
  refine wpS_value (o := ⟨some 8, .extract (.tmp 5) 0, y4, p4, e4, none⟩) (v := z) rfl rfl ?_ ?_
  · exact x_ext0 (ev_same (hs _ (by simp only [size_put]) 5 (by omega)))
  refine wpS_value (o := ⟨some 9, .extract (.tmp 5) 1, y5, p5, e5, none⟩) (v := .bool false) rfl rfl ?_ ?_
  · exact x_ext1 ((ev_ne (by decide)).trans (ev_same (hs _ (by simp only [size_put]) 5 (by omega))))
  refine wpS_value (o := ⟨some 3, .assign (.tmp 8), y6, p6, e6, none⟩) (v := z) rfl rfl ?_ ?_
  · exact x_assign ((ev_ne (by decide)).trans (ev_same (hs _ (by simp only [size_put]) 8 (by omega))))
  refine wpS_value (o := ⟨some 4, .assign (.tmp 9), y7, p7, e7, none⟩) (v := .bool false) rfl rfl ?_ ?_
  · exact x_assign ((ev_ne (by decide)).trans (ev_same (hs _ (by simp only [size_put]) 9 (by omega))))
  show (Code.seq _ _).wpS P _ _ _ _
  refine wpS_seq (wpS_region ?_)
  simp only [List.size_toArray, List.length_cons, List.length_nil, Nat.zero_add, rng1]
  refine wpS_value (o := ⟨some 10, .move (.tmp 4), y8, p8, e8, none⟩) (v := .bool false) rfl rfl ?_ ?_
  · exact x_move (ev_same (hs _ (by simp only [size_put]) 4 (by omega)))
  show (Code.cond _ _ _).wpS P _ _ _ _
  refine wpS_cond (t := false) (ev_same (hs _ (by simp only [size_put]) 10 (by omega))) ?_
  simp only [Bool.false_eq_true, if_false]
  refine wpS_of_wp (wp_skip ?_)
  refine ⟨by simp only [defers_put], .returning, by rw [← hm], .tuple #[], ?_, ⟨_, rfl⟩, rfl, rfl⟩
  simp [results, hr]
theorem x_assert {P : Program} {xt at' : TypeId} {k : IntKind} {z : Value} (h : P.underlying at' = some (.int k)) (hz : zeroOf P at' = some z) (w : World) : (Instr.typeAssert .nilIface xt at' true).run P w = .ok (.tuple #[z, .bool false]) w := by
  simp [Instr.typeAssert, underlying_some h w, zeroOf_run hz w]
theorem harm_may : Harmless PP n_deq_Deq_may_1 :=
  harmless_of (z := .int .i64 0) (xt := 20) (at' := 32) Tryz.func338 (by decide) (by kernel_rfl) (by decide) (by rfl) (fun w => x_assert (k := .i64) (by kernel_rfl) (by kernel_rfl) w)
theorem harm_read : Harmless PP n_script_read_1 :=
  harmless_of3 (z := .int .i64 0) (xt := 20) (at' := 32) Tryz.func52 (by decide) (by kernel_rfl) (by decide) (by rfl) (fun w => x_assert (k := .i64) (by kernel_rfl) (by kernel_rfl) w)
end Go.Proofs.YthagelbepgcolaaGreatDoor.Gst
