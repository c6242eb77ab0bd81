/- The closure that recovers: where nothing panics it changes nothing. -/
import Derived.Test.YtbjelopcelompaaGreatDoorVh
import Derived.Recover
namespace Go.Proofs.YtbjelopcelompaaGreatDoor.Gst
open Go Go.RowKit
set_option linter.unusedSimpArgs false
set_option linter.unusedVariables false
set_option maxHeartbeats 4000000

theorem wpS_value {P : Program} {ops : Array Oper} {Q : Exit → Act → List Frame → World → Prop} {i : Nat} {rest : List Nat} {a : Act} {cs : List Frame} {w : World} {o : Oper} {v : Value} (ho : ops[i]? = some o) (hg : o.guard = none)
    (hr : (execOp a.eval o).run P w = .ok (.value v) w) (h : wpOpsS P ops Q rest (a.put o.dst v) cs w) : wpOpsS P ops Q (i :: rest) a cs w := by
  simp only [wpOpsS, ho]
  rw [if_pos (by simp [Region.wanted, hg]), hr]
  exact h
theorem wpS_rec {P : Program} {ops : Array Oper} {Q : Exit → Act → List Frame → World → Prop} {i : Nat} {rest : List Nat} {a : Act} {cs : List Frame} {w : World} {o : Oper} (ho : ops[i]? = some o) (hg : o.guard = none)
    (hr : (execOp a.eval o).run P w = .ok .recover w) (hc : recoverD cs = none) (h : wpOpsS P ops Q rest (a.put o.dst .nilIface) cs w) : wpOpsS P ops Q (i :: rest) a cs w := by
  simp only [wpOpsS, ho]
  rw [if_pos (by simp [Region.wanted, hg]), hr]
  simp only [hc]
  exact h
theorem ev_same {a : Act} {d : Tmp} {v : Value} (h : d < a.tmps.size) : (a.put (some d) v).eval (.tmp d) = v := by simp [Act.put, Act.eval, h]
theorem ev_ne {a : Act} {d t : Tmp} {v : Value} (h : t ≠ d) : (a.put (some d) v).eval (.tmp t) = a.eval (.tmp t) := by
  simp [Act.put, Act.eval, Array.getD_eq_getD_getElem?, Array.getElem?_setIfInBounds, h.symm]
theorem size_put {a : Act} {d : Option Tmp} {v : Value} : (a.put d v).tmps.size = a.tmps.size := by cases d <;> simp [Act.put]
theorem defers_put {a : Act} {d : Option Tmp} {v : Value} : (a.put d v).defers = a.defers := by cases d <;> rfl
section
variable {P : Program} {w : World} {ev : Operand → Value} {d : Option Tmp} {x : Operand} {v a b : Value} {y : TypeId} {p : String} {e : Array Edge} {gd : Option (Nat × Bool)}
theorem x_move (h : ev x = v) : (execOp ev ⟨d, .move x, y, p, e, gd⟩).run P w = .ok (.value v) w := by simp [execOp, h]
theorem x_assign (h : ev x = v) : (execOp ev ⟨d, .assign x, y, p, e, gd⟩).run P w = .ok (.value v) w := by simp [execOp, h]
theorem x_ext0 (h : ev x = .tuple #[a, b]) : (execOp ev ⟨d, .extract x 0, y, p, e, gd⟩).run P w = .ok (.value a) w := by simp [execOp, h, Instr.extract]
theorem x_ext1 (h : ev x = .tuple #[a, b]) : (execOp ev ⟨d, .extract x 1, y, p, e, gd⟩).run P w = .ok (.value b) w := by simp [execOp, h, Instr.extract]
end
theorem harmless_of {P : Program} {k : Nat} {fn : Func} (hf : P.funcs[k]? = some fn) (hn : fn.name ≠ "runtime.NumGoroutine") (hr : fn.results = #[]) (hnt : 10 ≤ fn.ntmps)
    {i1 i2 : Nat} {a1 : Array TypeId} {y1 y2 y3 y4 y5 y6 y7 y8 : TypeId} {p1 p2 p3 p4 p5 p6 p7 p8 : String} {e1 e2 e3 e4 e5 e6 e7 e8 : Array Edge} {xt at' : TypeId} {x : Code} {z : Value}
    (hb : fn.body = some (.seq (.region i1 #[⟨some 4, .call ⟨.builtin .recover, #[], a1⟩, y1, p1, e1, none⟩, ⟨some 5, .typeAssert (.tmp 4) xt at' true, y2, p2, e2, none⟩, ⟨some 3, .move (.tmp 5), y3, p3, e3, none⟩,
      ⟨some 6, .extract (.tmp 3) 0, y4, p4, e4, none⟩, ⟨some 7, .extract (.tmp 3) 1, y5, p5, e5, none⟩, ⟨some 1, .assign (.tmp 6), y6, p6, e6, none⟩, ⟨some 2, .assign (.tmp 7), y7, p7, e7, none⟩] false)
      (.seq (.region i2 #[⟨some 8, .move (.tmp 2), y8, p8, e8, none⟩] false) (.cond (.tmp 8) x .skip))))
    (hz : ∀ w, (Instr.typeAssert .nilIface xt at' true).run P w = .ok (.tuple #[z, .bool false]) w) : Harmless P k := by
  refine ⟨⟨fn, hf, by rw [hb]; rfl, hn⟩, fun args w => callsD_of_wpS hf hb fun c0 cs hm => ?_⟩
  have hsz : 10 ≤ (args ++ Array.replicate (fn.ntmps - args.size) undef).size := by simp; omega
  generalize args ++ Array.replicate (fn.ntmps - args.size) undef = T at hsz
  refine wpS_seq (wpS_region ?_)
  have hs : ∀ a : Act, a.tmps.size = T.size → ∀ j, j < 10 → j < a.tmps.size := fun a h j hj => by omega
  have hrec : recoverD (c0 :: cs) = none := by simp [recoverD, hm]
  have rng : List.range (7 : Nat) = [0, 1, 2, 3, 4, 5, 6] := rfl
  have rng1 : List.range (1 : Nat) = [0] := rfl
  have h4 : 4 < T.size := by omega
  have h4 : 4 < T.size := by omega
  simp only [List.size_toArray, List.length_cons, List.length_nil, Nat.zero_add, Nat.reduceAdd, rng]
  refine wpS_rec (o := ⟨some 4, .call ⟨.builtin .recover, #[], a1⟩, y1, p1, e1, none⟩) rfl rfl rfl hrec ?_
  refine wpS_value (o := ⟨some 5, .typeAssert (.tmp 4) xt at' true, y2, p2, e2, none⟩) (v := .tuple #[z, .bool false]) rfl rfl ?_ ?_
  · have e : (({ tmps := T, defers := [] } : Act).put (some 4) .nilIface).eval (.tmp 4) = .nilIface := ev_same h4
    simp only [execOp, e, Sem.run_bind, hz, Result.andThen_ok, Sem.run_pure]
  refine wpS_value (o := ⟨some 3, .move (.tmp 5), y3, p3, e3, none⟩) (v := .tuple #[z, .bool false]) rfl rfl ?_ ?_
  · exact x_move (ev_same (hs _ (by simp only [size_put]) 5 (by omega)))
  refine wpS_value (o := ⟨some 6, .extract (.tmp 3) 0, y4, p4, e4, none⟩) (v := z) rfl rfl ?_ ?_
  · exact x_ext0 (ev_same (hs _ (by simp only [size_put]) 3 (by omega)))
  refine wpS_value (o := ⟨some 7, .extract (.tmp 3) 1, y5, p5, e5, none⟩) (v := .bool false) rfl rfl ?_ ?_
  · exact x_ext1 ((ev_ne (by decide)).trans (ev_same (hs _ (by simp only [size_put]) 3 (by omega))))
  refine wpS_value (o := ⟨some 1, .assign (.tmp 6), y6, p6, e6, none⟩) (v := z) rfl rfl ?_ ?_
  · exact x_assign ((ev_ne (by decide)).trans (ev_same (hs _ (by simp only [size_put]) 6 (by omega))))
  refine wpS_value (o := ⟨some 2, .assign (.tmp 7), y7, p7, e7, none⟩) (v := .bool false) rfl rfl ?_ ?_
  · exact x_assign ((ev_ne (by decide)).trans (ev_same (hs _ (by simp only [size_put]) 7 (by omega))))
  show (Code.seq _ _).wpS P _ _ _ _
  refine wpS_seq (wpS_region ?_)
  simp only [List.size_toArray, List.length_cons, List.length_nil, Nat.zero_add, rng1]
  refine wpS_value (o := ⟨some 8, .move (.tmp 2), y8, p8, e8, none⟩) (v := .bool false) rfl rfl ?_ ?_
  · exact x_move (ev_same (hs _ (by simp only [size_put]) 2 (by omega)))
  show (Code.cond _ _ _).wpS P _ _ _ _
  refine wpS_cond (t := false) (ev_same (hs _ (by simp only [size_put]) 8 (by omega))) ?_
  simp only [Bool.false_eq_true, if_false]
  refine wpS_of_wp (wp_skip ?_)
  refine ⟨by simp only [defers_put], .returning, by rw [← hm], .tuple #[], ?_, ⟨_, rfl⟩, rfl, rfl⟩
  simp [results, hr]
end Go.Proofs.YtbjelopcelompaaGreatDoor.Gst
