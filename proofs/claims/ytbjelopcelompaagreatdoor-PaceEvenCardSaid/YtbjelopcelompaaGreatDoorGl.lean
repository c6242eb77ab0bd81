/- Every operation of the run does what the abstract one does: all of them together. -/
import Derived.Test.YtbjelopcelompaaGreatDoorGk
namespace Go.Proofs.YtbjelopcelompaaGreatDoor.Gst
open Go Go.RowKit
set_option linter.unusedSimpArgs false
section
variable {P : Program} {w0 : World} {B : Nat} {ρ : Ren} {H : AH} {w : World} {G : List Nat}

theorem wp_of_out {o : Oper} {a : Act} {v : Value} {H' : AH} {next : Act → World → Prop} {Q : Exit → Act → World → Prop} (h : Out P w0 B ρ H w ((execOp a.eval o).run P w) v H')
    (hn : ∀ v' ρ' w', VRel P ρ' v v' → Ext ρ H w ρ' H' w' → Rel P w0 B ρ' H' w' → next (a.put o.dst v') w') : o.wp P a w next Q := by
  obtain ⟨v', w', ρ', hr | ⟨hr, rfl⟩, hv, he, hR⟩ := h
  · unfold Oper.wp; rw [hr, Oper.upon_value]; exact hn v' ρ' w' hv he hR
  · unfold Oper.wp; rw [hr, Oper.upon_skip]; exact hn _ ρ' w' hv he hR

theorem val_run {s : Sem Value} {v' : Value} {w' : World} (h : s.run P w = .ok v' w') : (do pure (Next.value (← s)) : Sem Next).run P w = .ok (.value v') w' := by simp [h]
theorem unit_run {s : Sem Unit} {w' : World} (h : s.run P w = .ok () w') : (do s; pure Next.skip : Sem Next).run P w = .ok .skip w' := by simp [h]

theorem elem_some {t el : TypeId} (h : elemOf' P t = some el) : P.underlying t = some (.slice el) := by
  unfold elemOf' at h
  cases hu : P.underlying t with
  | none => simp [hu] at h
  | some d => cases d <;> simp [hu] at h; rw [h]
theorem kind_some {t : TypeId} {k : IntKind} (h : kindOf P t = some k) : P.underlying t = some (.int k) := by
  unfold kindOf at h
  cases hu : P.underlying t with
  | none => simp [hu] at h
  | some d => cases d <;> simp [hu] at h; rw [h]
theorem field_some {t : TypeId} {i : Nat} {f : Field} (h : fieldOf P t i = some f) : ∃ fs, P.underlying t = some (.struct fs) ∧ fs[i]? = some f := by
  unfold fieldOf at h
  cases hu : P.underlying t with
  | none => simp [hu] at h
  | some d => cases d <;> simp [hu] at h; exact ⟨_, rfl, h⟩
theorem bytes_some {t : TypeId} {n : Nat} (h : bytesOf' P t = some n) {i : TypeInfo} (hi : P.info? t = some i) : i.bytes = n := by
  unfold bytesOf' at h; simpa [hi] using h
theorem size_some {t : TypeId} {n : Nat} (h : szOf P t = some n) {i : TypeInfo} (hi : P.info? t = some i) : i.size = n := by
  unfold szOf at h; simpa [hi] using h

theorem list1 {α : Type} {xs : Array α} {x : α} (h : xs.toList = [x]) : xs = #[x] := by
  apply Array.ext'; simpa using h
theorem list2 {α : Type} {xs : Array α} {x y : α} (h : xs.toList = [x, y]) : xs = #[x, y] := by
  apply Array.ext'; simpa using h

theorem two_rel {xs : List Value} {ys : Array Value} (h : LRel P ρ xs ys.toList) {x y : Value} (hx : xs = [x, y]) : ∃ x' y', ys = #[x', y'] ∧ VRel P ρ x x' ∧ VRel P ρ y y' := by
  subst hx
  have hl := h.1
  obtain ⟨l⟩ := ys
  match l, hl with
  | [x', y'], _ => exact ⟨x', y', rfl, h.2 0 x x' rfl rfl, h.2 1 y y' rfl rfl⟩
theorem one_rel {xs : List Value} {ys : Array Value} (h : LRel P ρ xs ys.toList) {x : Value} (hx : xs = [x]) : ∃ x', ys = #[x'] ∧ VRel P ρ x x' := by
  subst hx
  have hl := h.1
  obtain ⟨l⟩ := ys
  match l, hl with
  | [x'], _ => exact ⟨x', rfl, h.2 0 x x' rfl rfl⟩

theorem max_out {xs : List Value} {ys : Array Value} (h : LRel P ρ xs ys.toList) {v : Value} (hm : pMax xs = some v) (ts : Array TypeId) (t : TypeId) : (Builtin.max_ ts t ys).run P w = .ok v w ∧ litV v = true := by
  unfold pMax at hm
  split at hm
  · rename_i k x k' y
    obtain ⟨x', y', rfl, hx, hy⟩ := two_rel h rfl
    rw [hx.int_inv, hy.int_inv]
    cases hm
    exact ⟨run_max_int2 w ts t k k' x y, rfl⟩
  · cases hm
theorem min_out {xs : List Value} {ys : Array Value} (h : LRel P ρ xs ys.toList) {v : Value} (hm : pMin xs = some v) (ts : Array TypeId) (t : TypeId) : (Builtin.min_ ts t ys).run P w = .ok v w ∧ litV v = true := by
  unfold pMin at hm
  split at hm
  · rename_i k x k' y
    obtain ⟨x', y', rfl, hx, hy⟩ := two_rel h rfl
    rw [hx.int_inv, hy.int_inv]
    cases hm
    exact ⟨run_min_int2 w ts t k k' x y, rfl⟩
  · cases hm

theorem builtin_out (hR : Rel P w0 B ρ H w) {b : Builtin} {ts : Array TypeId} {t : TypeId} {cs : Array Bool} {xs : List Value} {ys : Array Value} (hl : LRel P ρ xs ys.toList) {v : Value} {H' : AH} (h : aBuiltin P b ts xs H = some (v, H')) :
    Out P w0 B ρ H w ((builtin b ts t cs ys).run P w) v H' := by
  unfold aBuiltin at h
  split at h
  · -- len
    rename_i x
    obtain ⟨x', rfl, hx⟩ := one_rel hl rfl
    cases hts : ts[0]? with
    | none => simp [hts] at h
    | some t0 =>
      simp only [hts, Option.bind_some] at h
      cases hu : P.underlying t0 with
      | none => simp [hu] at h
      | some d =>
        cases d <;> simp only [hu] at h <;> try (cases h; done)
        case string =>
          cases x <;> simp only at h <;> try (cases h; done)
          obtain ⟨y, hy, e⟩ := Option.map_eq_some_iff.1 h
          cases e
          simp [pLen] at hy
          subst hy
          rw [hx.string_inv]
          exact Out.pure hR (by simp [builtin, Builtin.len_, hts, run_underlying hu, goInt]) (.lit rfl)
        case slice el =>
          cases x <;> simp only at h <;> try (cases h; done)
          obtain ⟨y, hy, e⟩ := Option.map_eq_some_iff.1 h
          cases e
          simp [pLen] at hy
          subst hy
          obtain ⟨a', k', rfl, _⟩ := hx.anyslice_inv
          exact Out.pure hR (by simp [builtin, Builtin.len_, hts, run_underlying hu, goInt]) (.lit rfl)
        case map k el =>
          obtain ⟨y, hy, e⟩ := Option.map_eq_some_iff.1 h
          cases e
          cases x <;> simp only [pLenM] at hy <;> try (cases hy; done)
          rename_i r
          cases r with
          | none =>
            simp only at hy
            cases hy
            rw [hx.nilmap_inv]
            exact Out.pure hR (by simp [builtin, Builtin.len_, hts, run_underlying hu, goInt]) (.lit rfl)
          | some b =>
            simp only at hy
            split at hy
            · rename_i es c hg
              cases hy
              obtain ⟨c', d, sz, hb, rfl⟩ := hx.map_inv
              obtain ⟨es', hw, hrel⟩ := hR.map hb hg
              have hsz : es'.size = es.length := by simpa using hrel.1
              exact Out.pure hR (by simp [builtin, Builtin.len_, hts, run_underlying hu, run_getObj_map hw, goInt, hsz]) (.lit rfl)
            · cases hy
  · obtain ⟨y, hy, e⟩ := Option.map_eq_some_iff.1 h
    cases e
    obtain ⟨hr, hv⟩ := max_out (w := w) hl hy ts t
    exact Out.pure hR (by simp only [builtin]; exact val_run hr) (.lit hv)
  · obtain ⟨y, hy, e⟩ := Option.map_eq_some_iff.1 h
    cases e
    obtain ⟨hr, hv⟩ := min_out (w := w) hl hy ts t
    exact Out.pure hR (by simp only [builtin]; exact val_run hr) (.lit hv)
  · -- append
    rename_i s x
    obtain ⟨s', x', rfl, hs, hx⟩ := two_rel hl rfl
    obtain ⟨t0, ht0, h⟩ := Option.bind_eq_some_iff.1 h
    obtain ⟨el, hel, h⟩ := Option.bind_eq_some_iff.1 h
    obtain ⟨e, he, h⟩ := Option.bind_eq_some_iff.1 h
    obtain ⟨by', hby, h⟩ := Option.bind_eq_some_iff.1 h
    obtain ⟨z, hz, h⟩ := Option.bind_eq_some_iff.1 h
    split at h
    · rename_i hc
      obtain ⟨hzs, hu⟩ := hc
      obtain ⟨u, hu0, hue⟩ := Option.bind_eq_some_iff.1 hu
      obtain ⟨i, hi, hzi, _⟩ := zeroOf_info hz
      have e1 := size_some he hi
      have e2 := bytes_some hby hi
      subst e1; subst e2
      have hts : Builtin.append_ ts t #[s', x'] = Builtin.append_ #[t0, u] t #[s', x'] := by
        simp [Builtin.append_, ht0, hu0]
      obtain ⟨v', w', ρ', hr, hv, hE, hR'⟩ := app_out (ty := t) hR (elem_some hel) (elem_some hue) hi hzi hzs h hs hx
      exact ⟨v', w', ρ', .inl (by simp only [builtin, hts]; exact val_run hr), hv, hE, hR'⟩
    · cases h
  · -- delete
    rename_i m k
    obtain ⟨m', k', rfl, hm, hk⟩ := two_rel hl rfl
    obtain ⟨t0, ht0, h⟩ := Option.bind_eq_some_iff.1 h
    obtain ⟨⟨kt, et⟩, hkt, h⟩ := Option.bind_eq_some_iff.1 h
    obtain ⟨cl, hcl, h⟩ := Option.bind_eq_some_iff.1 h
    obtain ⟨H2, hH, e⟩ := Option.map_eq_some_iff.1 h
    cases e
    obtain ⟨w', hr, hE, hR'⟩ := delete_out (ty := t) hR hkt hcl ht0 hH hm hk
    exact ⟨.tuple #[], w', ρ, .inl (by simp only [builtin]; exact val_run hr), VRel.undef, hE, hR'⟩
  · cases h

theorem callee_rel {f f' : Value} {args args' : List Value} {g : Nat} {xs : List Value} (h : pCallee f args = some (g, xs)) (hf : VRel P ρ f f') (ha : LRel P ρ args args') :
    ∃ first captured : Array Value, f' = .func (.func g) first captured ∧ LRel P ρ xs (first.toList ++ args' ++ captured.toList) := by
  cases f <;> simp only [pCallee] at h <;> try (cases h; done)
  rename_i fn first captured
  cases fn <;> simp only at h <;> try (cases h; done)
  cases h
  obtain ⟨f1, c1, rfl, h1, h2⟩ := hf.func_inv
  exact ⟨f1, c1, rfl, (h1.append ha).append h2⟩

/-- **An operation that is no call of a Go function.** -/
theorem op_out {call : CallF} {A : List Value} {a : Act} (hA : ActRel P ρ A a) (hG : GlobRel ρ G) (hR : Rel P w0 B ρ H w) {o : Oper} (hok : o.op.operands.toList.all (okX G) = true)
    (hno : ∀ c f, o.op = .call c → c.callee ≠ .value f) {v : Value} {H' : AH} (h : aOp P call (aEv A) o H = some (v, H')) : Out P w0 B ρ H w ((execOp a.eval o).run P w) v H' := by
  obtain ⟨dst, op, type, pos, after, guard⟩ := o
  simp only at hok hno
  have ev : ∀ x, x ∈ op.operands.toList → VRel P ρ (aEv A x) (a.eval x) := fun x hx => ev_rel hA hG (List.all_eq_true.1 hok x hx)
  cases op <;> simp only [aOp] at h <;> simp only [execOp] <;> try (cases h; done)
  case move x => cases h; exact Out.pure hR rfl (ev x (by simp [Op.operands]))
  case assign x => cases h; exact Out.pure hR rfl (ev x (by simp [Op.operands]))
  case pick c x y =>
    obtain ⟨z, hz, e⟩ := Option.map_eq_some_iff.1 h
    cases e
    have hc := ev c (by simp [Op.operands])
    cases hcv : aEv A c <;> rw [hcv] at hz <;> simp only [pPick] at hz <;> try (cases hz; done)
    rename_i t
    cases hz
    rw [hcv] at hc
    rw [hc.bool_inv]
    cases t
    · exact Out.pure hR (by simp [asBool]) (ev y (by simp [Op.operands]))
    · exact Out.pure hR (by simp [asBool]) (ev x (by simp [Op.operands]))
  case alloc t =>
    obtain ⟨z, hz, e⟩ := Option.map_eq_some_iff.1 h
    cases e
    obtain ⟨i, hi, hzi, hlit, _⟩ := zeroOf_info hz
    refine newPtr (el := t) (cs' := z.cells.toList) hR (LRel.of_all hlit) (val_run ?_)
    simp [Instr.alloc, zeroOf_run hz, newVar, newRow]
  case box t x =>
    cases h
    refine newPtr (el := t) (cs' := (a.eval x).cells.toList) hR (ev x (by simp [Op.operands])).cells (val_run ?_)
    simp [Instr.box, newVar, newRow]
  case build t parts =>
    have hx : ∀ x ∈ parts.toList.map (·.2), VRel P ρ (aEv A x) (a.eval x) := fun x hx => ev x (by simpa [Op.operands] using hx)
    cases hu : P.underlying t with
    | none => simp [hu] at h
    | some d =>
      cases d <;> simp only [hu] at h <;> try (cases h; done)
      case struct fs =>
        obtain ⟨z, hz, h⟩ := Option.bind_eq_some_iff.1 h
        obtain ⟨ps, hps, h⟩ := Option.bind_eq_some_iff.1 h
        obtain ⟨cs, hcs, e⟩ := Option.map_eq_some_iff.1 h
        cases e
        obtain ⟨v', hr, hv⟩ := build_out (w := w) hx hz hu hps hcs
        exact Out.pure hR (val_run hr) hv
      case array n el =>
        obtain ⟨z, hz, h⟩ := Option.bind_eq_some_iff.1 h
        obtain ⟨e, he, h⟩ := Option.bind_eq_some_iff.1 h
        obtain ⟨cs, hcs, e⟩ := Option.map_eq_some_iff.1 h
        cases e
        obtain ⟨v', hr, hv⟩ := buildArr_out (w := w) hx hz hu he hcs
        exact Out.pure hR (val_run hr) hv
  case buildSlice t len parts =>
    have hx : ∀ x ∈ parts.toList.map (·.2), VRel P ρ (aEv A x) (a.eval x) := fun x hx => ev x (by simpa [Op.operands] using hx)
    obtain ⟨el, hel, h⟩ := Option.bind_eq_some_iff.1 h
    obtain ⟨e, he, h⟩ := Option.bind_eq_some_iff.1 h
    obtain ⟨z, hz, h⟩ := Option.bind_eq_some_iff.1 h
    split at h
    · rename_i hc
      obtain ⟨cs, hcs, e2⟩ := Option.map_eq_some_iff.1 h
      cases e2
      obtain ⟨v', w', ρ', hr, hv, hE, hR'⟩ := buildSlice_out hR hx hz (elem_some hel) he hc.1 hc.2.1 hc.2.2 hcs
      exact ⟨v', w', ρ', .inl (val_run hr), hv, hE, hR'⟩
    · cases h
  case load t x =>
    have hx := ev x (by simp [Op.operands])
    obtain ⟨g, hg, h⟩ := Option.bind_eq_some_iff.1 h
    cases g with
    | none =>
      obtain ⟨y, hy, e⟩ := Option.map_eq_some_iff.1 h
      cases e
      obtain ⟨a', y', ha, hr, hv⟩ := load1 hR hy hx
      exact Out.pure hR (val_run (by simp [Instr.loadAt, ha, Instr.sureAddr, loadVar, aggOf_none hg]; simpa using hr)) hv
    | some n =>
      obtain ⟨y, hy, e⟩ := Option.map_eq_some_iff.1 h
      cases e
      obtain ⟨a', ys, ha, hr, hv⟩ := loadN hR hy hx
      obtain ⟨hag, hsz⟩ := aggOf_some hg w
      exact Out.pure hR (val_run (by simp [Instr.loadAt, ha, Instr.sureAddr, loadVar, hag, szOf_run hsz, hr])) hv
  case store t x y =>
    have hx := ev x (by simp [Op.operands])
    have hy := ev y (by simp [Op.operands])
    obtain ⟨n, hn, h⟩ := Option.bind_eq_some_iff.1 h
    obtain ⟨H2, hH, e⟩ := Option.map_eq_some_iff.1 h
    cases e
    obtain ⟨a', w', ha, hcs, hr, hE, hR'⟩ := storeN hR hH hx hy
    exact ⟨undef, w', ρ, .inr ⟨unit_run (by simp [Instr.storeAt, ha, Instr.sureAddr, storeVar, szOf_run hn, hcs, hr]), rfl⟩, VRel.undef, hE, hR'⟩
  case nilCheck x =>
    have hx := ev x (by simp [Op.operands])
    obtain ⟨y, hy, e⟩ := Option.map_eq_some_iff.1 h
    cases e
    obtain ⟨rfl, hr⟩ := pNil_run hy hx
    have e2 : (nilSem (a.eval x)).run P w = .ok (.value (a.eval x)) w := by rw [hr]; rfl
    exact Out.pure hR e2 hx
  case binOp op t x y yt =>
    obtain ⟨z, hz, e⟩ := Option.map_eq_some_iff.1 h
    cases e
    obtain ⟨hr, hl⟩ := pBin_run hz (ev x (by simp [Op.operands])) (ev y (by simp [Op.operands])) x y w
    exact Out.pure hR (val_run hr) (.lit hl)
  case unOp op t x =>
    obtain ⟨z, hz, e⟩ := Option.map_eq_some_iff.1 h
    cases e
    obtain ⟨hr, hl⟩ := pUn_run hz (ev x (by simp [Op.operands])) w
    exact Out.pure hR (val_run hr) (.lit hl)
  case convert src dst x =>
    cases hu : P.underlying src with
    | none => simp [hu] at h
    | some d =>
      simp only [hu] at h
      obtain ⟨z, hz, e⟩ := Option.map_eq_some_iff.1 h
      cases e
      have hx := ev x (by simp [Op.operands])
      cases hk : kindOf P dst with
      | none => simp [hk, pConv] at hz
      | some k =>
        cases hxv : aEv A x <;> rw [hk, hxv] at hz <;> simp only [pConv] at hz <;> try (cases hz; done)
        rename_i k0 n
        cases hz
        rw [hxv] at hx
        rw [hx.int_inv]
        have hud := kind_some hk
        have hkd : P.intKind dst = k := by simp [Program.intKind, hud]
        have hr := run_convert_int (P := P) w src dst k0 n (by simp [hu]) (by rw [hkd]; exact hud)
        rw [hkd] at hr
        exact Out.pure hR (val_run hr) (.lit rfl)
  case makeFunc fn first captured =>
    cases h
    refine Out.pure hR (val_run (by simp [Instr.makeFunc]; rfl)) ?_
    refine .func (by simp) (fun i x y hx hy => ?_) (by simp) (fun i x y hx hy => ?_)
    · simp only [Array.getElem?_map, Option.map_eq_some_iff] at hx hy
      obtain ⟨p, hp, rfl⟩ := hx
      obtain ⟨q, hq, rfl⟩ := hy
      rw [hp] at hq; cases hq
      exact ev p (by simp only [Op.operands, Array.toList_append, List.mem_append]; exact .inl (by simpa using Array.mem_of_getElem? hp))
    · simp only [Array.getElem?_map, Option.map_eq_some_iff] at hx hy
      obtain ⟨p, hp, rfl⟩ := hx
      obtain ⟨q, hq, rfl⟩ := hy
      rw [hp] at hq; cases hq
      exact ev p (by simp only [Op.operands, Array.toList_append, List.mem_append]; exact .inr (by simpa using Array.mem_of_getElem? hp))
  case makeMap t r =>
    cases r with
    | some r => simp at h
    | none =>
      simp only at h
      cases h
      have hp := hR.push (o := .map [] 0) (ob := .map #[] 0) (sz := 0) rfl ⟨#[], rfl, rfl, fun _ _ _ h => by simp at h⟩
      refine ⟨.map (some w.heap.size), _, _, .inl (val_run ?_), .map (Ren.upd_same ..), hp.2, hp.1⟩
      simp [Instr.makeMap]
  case makeSlice t l c =>
    obtain ⟨el, hel, h⟩ := Option.bind_eq_some_iff.1 h
    obtain ⟨e, he, h⟩ := Option.bind_eq_some_iff.1 h
    obtain ⟨by', hby, h⟩ := Option.bind_eq_some_iff.1 h
    obtain ⟨z, hz, h⟩ := Option.bind_eq_some_iff.1 h
    obtain ⟨v', w', ρ', hr, hv, hE, hR'⟩ := make_out hR hz (elem_some hel) he hby h (ev l (by simp [Op.operands])) (ev c (by simp [Op.operands]))
    exact ⟨v', w', ρ', .inl (val_run hr), hv, hE, hR'⟩
  case slice t x lo hi mx =>
    cases mx with
    | none =>
      simp only at h
      obtain ⟨el, hel, h⟩ := Option.bind_eq_some_iff.1 h
      obtain ⟨e, he, h⟩ := Option.bind_eq_some_iff.1 h
      obtain ⟨z, hz, e2⟩ := Option.map_eq_some_iff.1 h
      cases e2
      have hx := ev x (by simp [Op.operands])
      obtain ⟨v', hr, hv⟩ := slice_run (w := w) (lo' := lo.map a.eval) (hi' := hi.map a.eval) (elem_some hel) he hz hx
        (by cases lo with
            | none => exact .inl ⟨rfl, rfl⟩
            | some l => exact .inr ⟨_, _, rfl, rfl, ev l (by simp [Op.operands])⟩)
        (by cases hi with
            | none => exact .inl ⟨rfl, rfl⟩
            | some l => exact .inr ⟨_, _, rfl, rfl, ev l (by simp [Op.operands])⟩)
      exact Out.pure hR (val_run hr) hv
    | some mx =>
      cases lo with
      | some lo => cases hi <;> simp at h
      | none =>
        cases hi with
        | none => simp at h
        | some hi =>
          simp only at h
          obtain ⟨el, hel, h⟩ := Option.bind_eq_some_iff.1 h
          obtain ⟨e, he, h⟩ := Option.bind_eq_some_iff.1 h
          obtain ⟨z, hz, e2⟩ := Option.map_eq_some_iff.1 h
          cases e2
          obtain ⟨v', hr, hv⟩ := slice0_run (w := w) (elem_some hel) he hz (ev x (by simp [Op.operands])) (ev hi (by simp [Op.operands])) (ev mx (by simp [Op.operands]))
          exact Out.pure hR (val_run hr) hv
  case fieldAddr s x f =>
    obtain ⟨fd, hf, h⟩ := Option.bind_eq_some_iff.1 h
    obtain ⟨n, hn, h⟩ := Option.bind_eq_some_iff.1 h
    split at h
    · cases h
    · rename_i h0
      obtain ⟨z, hz, e2⟩ := Option.map_eq_some_iff.1 h
      cases e2
      obtain ⟨fs, hu, hfs⟩ := field_some hf
      obtain ⟨v', hr, hv⟩ := fld_run (w := w) hu hfs hn h0 rfl hz (ev x (by simp [Op.operands]))
      exact Out.pure hR (val_run hr) hv
  case field s x f =>
    obtain ⟨fd, hf, h⟩ := Option.bind_eq_some_iff.1 h
    obtain ⟨n, hn, h⟩ := Option.bind_eq_some_iff.1 h
    obtain ⟨z, hz, e2⟩ := Option.map_eq_some_iff.1 h
    cases e2
    obtain ⟨fs, hu, hfs⟩ := field_some hf
    have hx := ev x (by simp [Op.operands])
    cases hxv : aEv A x <;> rw [hxv] at hz <;> try (simp [pPart] at hz; done)
    rename_i xs
    rw [hxv] at hx
    obtain ⟨ys, v', hys, hr, hv⟩ := part_run (w := w) hn hz hx
    refine Out.pure hR (val_run ?_) hv
    simp [Instr.field, run_underlying hu, hfs, hys, asAgg, hr]
  case indexAddr t x i =>
    cases hu : P.underlying t with
    | none => simp [hu] at h
    | some d =>
      cases d <;> simp only [hu] at h <;> try (cases h; done)
      case slice el =>
        obtain ⟨e, he, h⟩ := Option.bind_eq_some_iff.1 h
        obtain ⟨z, hz, e2⟩ := Option.map_eq_some_iff.1 h
        cases e2
        obtain ⟨v', hr, hv⟩ := idx_run (w := w) hu he hz (ev x (by simp [Op.operands])) (ev i (by simp [Op.operands]))
        exact Out.pure hR (val_run hr) hv
      case array n el =>
        obtain ⟨e, he, h⟩ := Option.bind_eq_some_iff.1 h
        obtain ⟨z, hz, e2⟩ := Option.map_eq_some_iff.1 h
        cases e2
        obtain ⟨v', hr, hv⟩ := idxA_run (w := w) hu he hz (ev x (by simp [Op.operands])) (ev i (by simp [Op.operands]))
        exact Out.pure hR (val_run hr) hv
  case index t x i =>
    cases hu : P.underlying t with
    | none => simp [hu] at h
    | some d =>
      cases d <;> simp only [hu] at h <;> try (cases h; done)
      case string =>
        obtain ⟨z, hz, e2⟩ := Option.map_eq_some_iff.1 h
        cases e2
        obtain ⟨v', hr, hv⟩ := indexS_run (w := w) hu hz (ev x (by simp [Op.operands])) (ev i (by simp [Op.operands]))
        exact Out.pure hR (val_run hr) hv
      case array n el =>
        obtain ⟨e, he, h⟩ := Option.bind_eq_some_iff.1 h
        obtain ⟨nn, hnn, h⟩ := Option.bind_eq_some_iff.1 h
        obtain ⟨z, hz, e2⟩ := Option.map_eq_some_iff.1 h
        cases e2
        obtain ⟨v', hr, hv⟩ := indexV_run (w := w) hu he hnn hz (ev x (by simp [Op.operands])) (ev i (by simp [Op.operands]))
        exact Out.pure hR (val_run hr) hv
  case lookup t m k ok =>
    obtain ⟨⟨kt, et⟩, hkt, h⟩ := Option.bind_eq_some_iff.1 h
    obtain ⟨cl, hcl, h⟩ := Option.bind_eq_some_iff.1 h
    obtain ⟨z, hz, h⟩ := Option.bind_eq_some_iff.1 h
    obtain ⟨y, hy, e2⟩ := Option.map_eq_some_iff.1 h
    cases e2
    obtain ⟨v', hr, hv⟩ := lookup_out hR hkt hcl hz hy (ev m (by simp [Op.operands])) (ev k (by simp [Op.operands]))
    exact Out.pure hR (val_run hr) hv
  case mapUpdate t m k x =>
    obtain ⟨⟨kt, et⟩, hkt, h⟩ := Option.bind_eq_some_iff.1 h
    obtain ⟨cl, hcl, h⟩ := Option.bind_eq_some_iff.1 h
    obtain ⟨H2, hH, e2⟩ := Option.map_eq_some_iff.1 h
    cases e2
    obtain ⟨w', hr, hE, hR'⟩ := update_out hR hkt hcl hH (ev m (by simp [Op.operands])) (ev k (by simp [Op.operands])) (ev x (by simp [Op.operands]))
    exact ⟨undef, w', ρ, .inr ⟨unit_run hr, rfl⟩, VRel.undef, hE, hR'⟩
  case extract t i =>
    obtain ⟨z, hz, e2⟩ := Option.map_eq_some_iff.1 h
    cases e2
    have hx := ev t (by simp [Op.operands])
    cases hxv : aEv A t <;> rw [hxv] at hz <;> simp only [pExtract] at hz <;> try (cases hz; done)
    rename_i vs
    rw [hxv] at hx
    obtain ⟨ys, hys, hs, he⟩ := hx.tuple_inv
    have hi : i < vs.size := (Array.getElem?_eq_some_iff.1 hz).1
    have hi' : i < ys.size := by omega
    exact Out.pure hR (val_run (by simp [Instr.extract, hys, hi']; rfl)) (he i _ _ hz (by simp [hi']))
  case call c =>
    obtain ⟨callee, args, ats⟩ := c
    simp only at h
    cases callee with
    | value f => exact absurd rfl (hno _ f rfl)
    | invoke r m => simp at h
    | builtin b =>
      simp only at h
      have hl : LRel P ρ (args.toList.map (aEv A)) (args.map a.eval).toList := map_rel (fun x hx => ev x (by simp only [Op.operands, Call.operands, Array.toList_append, List.mem_append]; exact .inr hx))
      simp only [resolve, Sem.run_bind, Sem.run_pure, Result.andThen_ok, invoke]
      exact builtin_out hR hl h

/-- **An operation.** -/
theorem op_sound {call : CallF} (hcall : CallOK P G call) {A : List Value} {a : Act} (hA : ActRel P ρ A a) (hG : GlobRel ρ G) (hR : Rel P w0 B ρ H w) {o : Oper} (hok : o.op.operands.toList.all (okX G) = true)
    {v : Value} {H' : AH} (h : aOp P call (aEv A) o H = some (v, H')) {next : Act → World → Prop} {Q : Exit → Act → World → Prop}
    (hn : ∀ v' ρ' w', VRel P ρ' v v' → Ext ρ H w ρ' H' w' → Rel P w0 B ρ' H' w' → next (a.put o.dst v') w') : o.wp P a w next Q := by
  by_cases hc : ∃ c f, o.op = .call c ∧ c.callee = .value f
  · obtain ⟨c, f, ho, hcf⟩ := hc
    obtain ⟨dst, op, type, pos, after, guard⟩ := o
    simp only at ho
    subst ho
    obtain ⟨callee, args, ats⟩ := c
    simp only at hcf
    subst hcf
    have ev : ∀ x, x ∈ (Op.call { callee := .value f, args := args, argTypes := ats }).operands.toList → VRel P ρ (aEv A x) (a.eval x) := fun x hx => ev_rel hA hG (List.all_eq_true.1 hok x hx)
    simp only [aOp] at h
    obtain ⟨⟨g, xs⟩, hfa, h⟩ := Option.bind_eq_some_iff.1 h
    simp only at h
    have hl : LRel P ρ (args.toList.map (aEv A)) (args.map a.eval).toList := map_rel (fun x hx => ev x (by simp only [Op.operands, Call.operands, Array.toList_append, List.mem_append]; exact .inr hx))
    obtain ⟨first, captured, hf, hx⟩ := callee_rel hfa (ev f (by simp [Op.operands, Call.operands])) hl
    obtain ⟨⟨fn, hfn, hbody, hname⟩, hcalls⟩ := hcall g xs H v H' h
    have hcl := hcalls w0 B ρ w _ hR hG hx
    have hrun : (execOp a.eval { dst := dst, op := .call { callee := .value f, args := args, argTypes := ats }, type := type, pos := pos, after := after, guard := guard }).run P w =
        .ok (.enter g (first ++ args.map a.eval ++ captured)) w := by
      have hbn : ¬ (fn.body = none) := by intro hb; rw [hb] at hbody; cases hbody
      simp [execOp, resolve, hf, Deferred.ofValue, invoke, callFunc, hfn, hname, hbn]
    unfold Oper.wp
    rw [hrun, Oper.upon_enter]
    have e : (first.toList ++ (args.map a.eval).toList ++ captured.toList).toArray = first ++ args.map a.eval ++ captured := by
      apply Array.ext'; simp
    rw [e] at hcl
    refine hcl.mono ?_
    rintro e w' ⟨v', ρ', rfl, hv, hE, hR'⟩
    exact hn v' ρ' w' hv hE hR'
  · exact wp_of_out (op_out hA hG hR hok (fun c f ho hcf => hc ⟨c, f, ho, hcf⟩) h) hn
end
end Go.Proofs.YtbjelopcelompaaGreatDoor.Gst
