/- Several texts in one. -/
import Derived.Tactics
import Derived.LoopN
import Derived.Defers
import Derived.Test.YthagelbepgcolaaGreatDoorPa
namespace Go.Proofs.YthagelbepgcolaaGreatDoor.Gst
open Go Go.RowKit
set_option linter.unusedSimpArgs false
section
variable {ds : List Deferred} {P : Program} {w0 : World} {B : Nat} {ρ : aV} {H : AH} {w : World} {G : List Nat}
theorem XX {o : Oper} {a : Act} {v : Value} {H' : AH} {next : Act → World → Prop} {Q : Exit → Act → World → Prop} (h : sP P w0 B ρ H w ((execOp a.eval o).run P w) v H')
 (hn : ∀ v' ρ' w', VRel P ρ' v v' → eE ρ H w ρ' H' w' → Rel P w0 B ρ' H' w' → next (a.put o.dst v') w') : o.wp P a w next Q := by
 obtain ⟨v', w', ρ', hr | ⟨hr, rfl⟩, hv, he, hR⟩ := h
 ·unfold Oper.wp; rw [hr, Oper.upon_value]; exact hn v' ρ' w' hv he hR
 ·unfold Oper.wp; rw [hr, Oper.upon_skip]; exact hn _ ρ' w' hv he hR
theorem aI {s : Sem Value} {v' : Value} {w' : World} (h : s.run P w = .ok v' w') : (do pure (Next.value (← s)) : Sem Next).run P w = .ok (.value v') w' := by simp [h]
theorem OT {s : Sem Unit} {w' : World} (h : s.run P w = .ok () w') : (do s; pure Next.skip : Sem Next).run P w = .ok .skip w' := by simp [h]
theorem ep {t el : TypeId} (h : bN P t = some el) : P.underlying t = some (.slice el) := by
 unfold bN at h
 cases hu : P.underlying t with
 | none => simp [hu] at h
 | some d => cases d <;> simp [hu] at h; rw [h]
theorem Jw {t : TypeId} {k : IntKind} (h : k9 P t = some k) : P.underlying t = some (.int k) := by
 unfold k9 at h
 cases hu : P.underlying t with
 | none => simp [hu] at h
 | some d => cases d <;> simp [hu] at h; rw [h]
theorem qH {t : TypeId} {i : Nat} {f : Field} (h : kf P t i = some f) : ∃ fs, P.underlying t = some (.struct fs) ∧ fs[i]? = some f := by
 unfold kf at h
 cases hu : P.underlying t with
 | none => simp [hu] at h
 | some d => cases d <;> simp [hu] at h; exact ⟨_, rfl, h⟩
theorem F2 {t : TypeId} {n : Nat} (h : eY P t = some n) {i : TypeInfo} (hi : P.info? t = some i) : i.bytes = n := by
 unfold eY at h; simpa [hi] using h
theorem JO {t : TypeId} {n : Nat} (h : cm P t = some n) {i : TypeInfo} (hi : P.info? t = some i) : i.size = n := by
 unfold cm at h; simpa [hi] using h
theorem Fq {xs : List Value} {ys : Array Value} (h : LRel P ρ xs ys.toList) {x y : Value} (hx : xs = [x, y]) : ∃ x' y', ys = #[x', y'] ∧ VRel P ρ x x' ∧ VRel P ρ y y' := by
 subst hx;have hl := h.1;obtain ⟨l⟩ := ys
 match l, hl with
 | [x', y'], _ => exact ⟨x', y', rfl, h.2 0 x x' rfl rfl, h.2 1 y y' rfl rfl⟩
theorem US {xs : List Value} {ys : Array Value} (h : LRel P ρ xs ys.toList) {x : Value} (hx : xs = [x]) : ∃ x', ys = #[x'] ∧ VRel P ρ x x' := by
 subst hx;have hl := h.1;obtain ⟨l⟩ := ys
 match l, hl with
 | [x'], _ => exact ⟨x', rfl, h.2 0 x x' rfl rfl⟩
theorem UP {xs : List Value} {ys : Array Value} (h : LRel P ρ xs ys.toList) {v : Value} (hm : pM xs = some v) (ts : Array TypeId) (t : TypeId) : (Builtin.max_ ts t ys).run P w = .ok v w ∧ cO v = true := by
 unfold pM at hm
 split at hm
 ·rename_i k x k' y
  obtain ⟨x', y', rfl, hx, hy⟩ := Fq h rfl;rw [hx.int_inv, hy.int_inv];cases hm;exact ⟨run_max_int2 w ts t k k' x y, rfl⟩
 ·cases hm
theorem UQ {xs : List Value} {ys : Array Value} (h : LRel P ρ xs ys.toList) {v : Value} (hm : pN xs = some v) (ts : Array TypeId) (t : TypeId) : (Builtin.min_ ts t ys).run P w = .ok v w ∧ cO v = true := by
 unfold pN at hm
 split at hm
 ·rename_i k x k' y
  obtain ⟨x', y', rfl, hx, hy⟩ := Fq h rfl;rw [hx.int_inv, hy.int_inv];cases hm;exact ⟨run_min_int2 w ts t k k' x y, rfl⟩
 ·cases hm
theorem Nk (hR : Rel P w0 B ρ H w) {b : Builtin} {ts : Array TypeId} {t : TypeId} {cs : Array Bool} {xs : List Value} {ys : Array Value} (hl : LRel P ρ xs ys.toList) {v : Value} {H' : AH} (h : bY P b ts xs H = some (v, H')) :
 sP P w0 B ρ H w ((builtin b ts t cs ys).run P w) v H' := by
 unfold bY at h
 split at h
 ·-- len
  rename_i x
  obtain ⟨x', rfl, hx⟩ := US hl rfl
  cases hts : ts[0]? with
  | none => simp [hts] at h
  | some t0 =>
   simp only [hts, aB] at h
   cases hu : P.underlying t0 with
   | none => simp [hu] at h
   | some d =>
    cases d <;> simp only [hu] at h <;> try (cases h; done)
    case string =>
     cases x <;> simp only at h <;> try (cases h; done)
     obtain ⟨y, hy, e⟩ := au.1 h;cases e;simp [sH] at hy;subst hy;rw [hx.string_inv];exact sP.pure hR (by simp [builtin, Builtin.len_, hts, run_underlying hu, goInt]) (.lit rfl)
    case slice el =>
     cases x <;> simp only at h <;> try (cases h; done)
     obtain ⟨y, hy, e⟩ := au.1 h;cases e;simp [sH] at hy;subst hy;obtain ⟨a', k', rfl, _⟩ := hx.anyslice_inv;exact sP.pure hR (by simp [builtin, Builtin.len_, hts, run_underlying hu, goInt]) (.lit rfl)
    case map k el =>
     obtain ⟨y, hy, e⟩ := au.1 h;cases e
     cases x <;> simp only [nO] at hy <;> try (cases hy; done)
     rename_i r
     cases r with
     | none =>
      simp only at hy;cases hy;rw [hx.nilmap_inv];exact sP.pure hR (by simp [builtin, Builtin.len_, hts, run_underlying hu, goInt]) (.lit rfl)
     | some b =>
      simp only at hy
      split at hy
      ·rename_i es c hg
       cases hy;obtain ⟨c', d, sz, hb, rfl⟩ := hx.map_inv;obtain ⟨es', hw, hrel⟩ := hR.map hb hg
       have hsz : es'.size = es.length := by simpa using hrel.1
       exact sP.pure hR (by simp [builtin, Builtin.len_, hts, run_underlying hu, ez hw, goInt, hsz]) (.lit rfl)
      ·cases hy
 ·obtain ⟨y, hy, e⟩ := au.1 h
  cases e;obtain ⟨hr, hv⟩ := UP (w := w) hl hy ts t;exact sP.pure hR (by simp only [builtin]; exact aI hr) (.lit hv)
 ·obtain ⟨y, hy, e⟩ := au.1 h
  cases e;obtain ⟨hr, hv⟩ := UQ (w := w) hl hy ts t;exact sP.pure hR (by simp only [builtin]; exact aI hr) (.lit hv)
 ·-- append
  rename_i s x
  obtain ⟨s', x', rfl, hs, hx⟩ := Fq hl rfl;obtain ⟨t0, ht0, h⟩ := ai.1 h;obtain ⟨el, hel, h⟩ := ai.1 h;obtain ⟨e, he, h⟩ := ai.1 h;obtain ⟨by', hby, h⟩ := ai.1 h;obtain ⟨z, hz, h⟩ := ai.1 h
  split at h
  ·rename_i hc
   obtain ⟨hzs, hu⟩ := hc;obtain ⟨u, hu0, hue⟩ := ai.1 hu;obtain ⟨i, hi, hzi, _⟩ := cK hz;have e1 := JO he hi;have e2 := F2 hby hi;subst e1; subst e2
   have hts : Builtin.append_ ts t #[s', x'] = Builtin.append_ #[t0, u] t #[s', x'] := by
    simp [Builtin.append_, ht0, hu0]
   obtain ⟨v', w', ρ', hr, hv, hE, hR'⟩ := ah8 (ty := t) hR (ep hel) (ep hue) hi hzi hzs h hs hx;exact ⟨v', w', ρ', .inl (by simp only [builtin, hts]; exact aI hr), hv, hE, hR'⟩
  ·cases h
 ·-- delete
  rename_i m k
  obtain ⟨m', k', rfl, hm, hk⟩ := Fq hl rfl;obtain ⟨t0, ht0, h⟩ := ai.1 h;obtain ⟨⟨kt, et⟩, hkt, h⟩ := ai.1 h;obtain ⟨cl, hcl, h⟩ := ai.1 h;obtain ⟨H2, hH, e⟩ := au.1 h;cases e;obtain ⟨w', hr, hE, hR'⟩ := PD (ty := t) hR hkt hcl ht0 hH hm hk;exact ⟨.tuple #[], w', ρ, .inl (by simp only [builtin]; exact aI hr), VRel.undef, hE, hR'⟩
 ·cases h
theorem yf {f f' : Value} {args args' : List Value} {g : Nat} {xs : List Value} (h : dt f args = some (g, xs)) (hf : VRel P ρ f f') (ha : LRel P ρ args args') :
 ∃ first captured : Array Value, f' = .func (.func g) first captured ∧ LRel P ρ xs (first.toList ++ args' ++ captured.toList) := by
 cases f <;> simp only [dt] at h <;> try (cases h; done)
 rename_i fn first captured
 cases fn <;> simp only at h <;> try (cases h; done)
 cases h;obtain ⟨f1, c1, rfl, h1, h2⟩ := hf.func_inv;exact ⟨f1, c1, rfl, (h1.append ha).append h2⟩
theorem agF {call : aR} {A : List Value} {a : Act} (hA : bf ds P ρ A a) (hG : GlobRel ρ G) (hR : Rel P w0 B ρ H w) {o : Oper} (hok : o.op.operands.toList.all (Hx G) = true)
 (hno : ∀ c f, o.op = .call c → c.callee ≠ .value f) {v : Value} {H' : AH} (h : dj P call (cf A) o H = some (v, H')) : sP P w0 B ρ H w ((execOp a.eval o).run P w) v H' := by
 obtain ⟨dst, op, type, pos, after, guard⟩ := o;simp only at hok hno;have ev : ∀ x, x ∈ op.operands.toList → VRel P ρ (cf A x) (a.eval x) := fun x hx => ta hA hG (List.all_eq_true.1 hok x hx)
 cases op <;> simp only [dj] at h <;> simp only [execOp] <;> try (cases h; done)
 case move x => cases h; exact sP.pure hR rfl (ev x (by simp [Op.operands]))
 case assign x => cases h; exact sP.pure hR rfl (ev x (by simp [Op.operands]))
 case pick c x y =>
  obtain ⟨z, hz, e⟩ := au.1 h;cases e;have hc := ev c (by simp [Op.operands])
  cases hcv : cf A c <;> rw [hcv] at hz <;> simp only [aE] at hz <;> try (cases hz; done)
  rename_i t
  cases hz;rw [hcv] at hc;rw [hc.bool_inv];cases t
  ·exact sP.pure hR (by simp [asBool]) (ev y (by simp [Op.operands]))
  ·exact sP.pure hR (by simp [asBool]) (ev x (by simp [Op.operands]))
 case alloc t =>
  obtain ⟨z, hz, e⟩ := au.1 h;cases e;obtain ⟨i, hi, hzi, hlit, _⟩ := cK hz;refine af9 (el := t) (cs' := z.cells.toList) hR (LRel.of_all hlit) (aI ?_);simp [Instr.alloc, fS hz, newVar, newRow]
 case box t x =>
  cases h;refine af9 (el := t) (cs' := (a.eval x).cells.toList) hR (ev x (by simp [Op.operands])).cells (aI ?_);simp [Instr.box, newVar, newRow]
 case build t parts =>
  have hx : ∀ x ∈ parts.toList.map (·.2), VRel P ρ (cf A x) (a.eval x) := fun x hx => ev x (by simpa [Op.operands] using hx)
  cases hu : P.underlying t with
  | none => simp [hu] at h
  | some d =>
   cases d <;> simp only [hu] at h <;> try (cases h; done)
   case struct fs =>
    obtain ⟨z, hz, h⟩ := ai.1 h;obtain ⟨ps, hps, h⟩ := ai.1 h;obtain ⟨cs, hcs, e⟩ := au.1 h;cases e;obtain ⟨v', hr, hv⟩ := I4 (w := w) hx hz hu hps hcs;exact sP.pure hR (aI hr) hv
   case array n el =>
    obtain ⟨z, hz, h⟩ := ai.1 h;obtain ⟨e, he, h⟩ := ai.1 h;obtain ⟨cs, hcs, e⟩ := au.1 h;cases e;obtain ⟨v', hr, hv⟩ := zg (w := w) hx hz hu he hcs;exact sP.pure hR (aI hr) hv
 case buildSlice t len parts =>
  have hx : ∀ x ∈ parts.toList.map (·.2), VRel P ρ (cf A x) (a.eval x) := fun x hx => ev x (by simpa [Op.operands] using hx);obtain ⟨el, hel, h⟩ := ai.1 h;obtain ⟨e, he, h⟩ := ai.1 h;obtain ⟨z, hz, h⟩ := ai.1 h
  split at h
  ·rename_i hc
   obtain ⟨cs, hcs, e2⟩ := au.1 h;cases e2;obtain ⟨v', w', ρ', hr, hv, hE, hR'⟩ := F1 hR hx hz (ep hel) he hc.1 hc.2.1 hc.2.2 hcs;exact ⟨v', w', ρ', .inl (aI hr), hv, hE, hR'⟩
  ·cases h
 case load t x =>
  have hx := ev x (by simp [Op.operands]);obtain ⟨g, hg, h⟩ := ai.1 h
  cases g with
  | none =>
   obtain ⟨y, hy, e⟩ := au.1 h;cases e;obtain ⟨a', y', ha, hr, hv⟩ := afW hR hy hx;exact sP.pure hR (aI (by simp [Instr.loadAt, ha, Instr.sureAddr, loadVar, qu hg]; simpa using hr)) hv
  | some n =>
   obtain ⟨y, hy, e⟩ := au.1 h;cases e;obtain ⟨a', ys, ha, hr, hv⟩ := Jz hR hy hx;obtain ⟨hag, hsz⟩ := qw hg w;exact sP.pure hR (aI (by simp [Instr.loadAt, ha, Instr.sureAddr, loadVar, hag, cG hsz, hr])) hv
 case store t x y =>
  have hx := ev x (by simp [Op.operands]);have hy := ev y (by simp [Op.operands]);obtain ⟨n, hn, h⟩ := ai.1 h;obtain ⟨H2, hH, e⟩ := au.1 h;cases e;obtain ⟨a', w', ha, hcs, hr, hE, hR'⟩ := aoP hR hH hx hy;exact ⟨undef, w', ρ, .inr ⟨OT (by simp [Instr.storeAt, ha, Instr.sureAddr, storeVar, cG hn, hcs, hr]), rfl⟩, VRel.undef, hE, hR'⟩
 case nilCheck x =>
  have hx := ev x (by simp [Op.operands]);obtain ⟨y, hy, e⟩ := au.1 h;cases e;obtain ⟨rfl, hr⟩ := Ol hy hx
  have e2 : (RN (a.eval x)).run P w = .ok (.value (a.eval x)) w := by rw [hr]; rfl
  exact sP.pure hR e2 hx
 case binOp op t x y yt =>
  obtain ⟨z, hz, e⟩ := au.1 h;cases e;obtain ⟨hr, hl⟩ := Oj hz (ev x (by simp [Op.operands])) (ev y (by simp [Op.operands])) x y w;exact sP.pure hR (aI hr) (.lit hl)
 case unOp op t x =>
  obtain ⟨z, hz, e⟩ := au.1 h;cases e;obtain ⟨hr, hl⟩ := UV hz (ev x (by simp [Op.operands])) w;exact sP.pure hR (aI hr) (.lit hl)
 case convert src dst x =>
  cases hu : P.underlying src with
  | none => simp [hu] at h
  | some d =>
   simp only [hu] at h;obtain ⟨z, hz, e⟩ := au.1 h;cases e;have hx := ev x (by simp [Op.operands])
   cases hk : k9 P dst with
   | none => simp [hk, aO] at hz
   | some k =>
    cases hxv : cf A x <;> rw [hk, hxv] at hz <;> simp only [aO] at hz <;> try (cases hz; done)
    rename_i k0 n
    cases hz;rw [hxv] at hx;rw [hx.int_inv];have hud := Jw hk
    have hkd : P.intKind dst = k := by simp [Program.intKind, hud]
    have hr := run_convert_int (P := P) w src dst k0 n (by simp [hu]) (by rw [hkd]; exact hud);rw [hkd] at hr;exact sP.pure hR (aI hr) (.lit rfl)
 case makeFunc fn first captured =>
  cases h;refine sP.pure hR (aI (by simp [Instr.makeFunc]; rfl)) ?_;refine .func (by simp) (fun i x y hx hy => ?_) (by simp) (fun i x y hx hy => ?_)
  ·simp only [Array.getElem?_map, au] at hx hy
   obtain ⟨p, hp, rfl⟩ := hx;obtain ⟨q, hq, rfl⟩ := hy;rw [hp] at hq; cases hq;exact ev p (by simp only [Op.operands, Array.toList_append, List.mem_append]; exact .inl (by simpa using Array.mem_of_getElem? hp))
  ·simp only [Array.getElem?_map, au] at hx hy
   obtain ⟨p, hp, rfl⟩ := hx;obtain ⟨q, hq, rfl⟩ := hy;rw [hp] at hq; cases hq;exact ev p (by simp only [Op.operands, Array.toList_append, List.mem_append]; exact .inr (by simpa using Array.mem_of_getElem? hp))
 case makeMap t r =>
  cases r with
  | some r => simp at h
  | none =>
   simp only at h;cases h;have hp := hR.push (o := .map [] 0) (ob := .map #[] 0) (sz := 0) rfl ⟨#[], rfl, rfl, fun _ _ _ h => by simp at h⟩;refine ⟨.map (some w.heap.size), _, _, .inl (aI ?_), .map (aV.upd_same ..), hp.2, hp.1⟩;simp [Instr.makeMap]
 case makeSlice t l c =>
  obtain ⟨el, hel, h⟩ := ai.1 h;obtain ⟨e, he, h⟩ := ai.1 h;obtain ⟨by', hby, h⟩ := ai.1 h;obtain ⟨z, hz, h⟩ := ai.1 h;obtain ⟨v', w', ρ', hr, hv, hE, hR'⟩ := af2 hR hz (ep hel) he hby h (ev l (by simp [Op.operands])) (ev c (by simp [Op.operands]));exact ⟨v', w', ρ', .inl (aI hr), hv, hE, hR'⟩
 case slice t x lo hi mx =>
  cases mx with
  | none =>
   simp only at h;obtain ⟨el, hel, h⟩ := ai.1 h;obtain ⟨e, he, h⟩ := ai.1 h;obtain ⟨z, hz, e2⟩ := au.1 h;cases e2;have hx := ev x (by simp [Op.operands]);obtain ⟨v', hr, hv⟩ := JQ (w := w) (lo' := lo.map a.eval) (hi' := hi.map a.eval) (ep hel) he hz hx
    (by cases lo with
        | none => exact .inl ⟨rfl, rfl⟩
        | some l => exact .inr ⟨_, _, rfl, rfl, ev l (by simp [Op.operands])⟩)
    (by cases hi with
        | none => exact .inl ⟨rfl, rfl⟩
        | some l => exact .inr ⟨_, _, rfl, rfl, ev l (by simp [Op.operands])⟩)
   exact sP.pure hR (aI hr) hv
  | some mx =>
   cases lo with
   | some lo => cases hi <;> simp at h
   | none =>
    cases hi with
    | none => simp at h
    | some hi =>
     simp only at h;obtain ⟨el, hel, h⟩ := ai.1 h;obtain ⟨e, he, h⟩ := ai.1 h;obtain ⟨z, hz, e2⟩ := au.1 h;cases e2;obtain ⟨v', hr, hv⟩ := HT (w := w) (ep hel) he hz (ev x (by simp [Op.operands])) (ev hi (by simp [Op.operands])) (ev mx (by simp [Op.operands]));exact sP.pure hR (aI hr) hv
 case fieldAddr s x f =>
  obtain ⟨fd, hf, h⟩ := ai.1 h;obtain ⟨n, hn, h⟩ := ai.1 h
  split at h
  ·cases h
  ·rename_i h0
   obtain ⟨z, hz, e2⟩ := au.1 h;cases e2;obtain ⟨fs, hu, hfs⟩ := qH hf;obtain ⟨v', hr, hv⟩ := UG (w := w) hu hfs hn h0 rfl hz (ev x (by simp [Op.operands]));exact sP.pure hR (aI hr) hv
 case field s x f =>
  obtain ⟨fd, hf, h⟩ := ai.1 h;obtain ⟨n, hn, h⟩ := ai.1 h;obtain ⟨z, hz, e2⟩ := au.1 h;cases e2;obtain ⟨fs, hu, hfs⟩ := qH hf;have hx := ev x (by simp [Op.operands])
  cases hxv : cf A x <;> rw [hxv] at hz <;> try (simp [mF] at hz; done)
  rename_i xs
  rw [hxv] at hx;obtain ⟨ys, v', hys, hr, hv⟩ := HB (w := w) hn hz hx;refine sP.pure hR (aI ?_) hv;simp [Instr.field, run_underlying hu, hfs, hys, asAgg, hr]
 case indexAddr t x i =>
  cases hu : P.underlying t with
  | none => simp [hu] at h
  | some d =>
   cases d <;> simp only [hu] at h <;> try (cases h; done)
   case slice el =>
    obtain ⟨e, he, h⟩ := ai.1 h;obtain ⟨z, hz, e2⟩ := au.1 h;cases e2;obtain ⟨v', hr, hv⟩ := UK (w := w) hu he hz (ev x (by simp [Op.operands])) (ev i (by simp [Op.operands]));exact sP.pure hR (aI hr) hv
   case array n el =>
    obtain ⟨e, he, h⟩ := ai.1 h;obtain ⟨z, hz, e2⟩ := au.1 h;cases e2;obtain ⟨v', hr, hv⟩ := N8 (w := w) hu he hz (ev x (by simp [Op.operands])) (ev i (by simp [Op.operands]));exact sP.pure hR (aI hr) hv
 case index t x i =>
  cases hu : P.underlying t with
  | none => simp [hu] at h
  | some d =>
   cases d <;> simp only [hu] at h <;> try (cases h; done)
   case string =>
    obtain ⟨z, hz, e2⟩ := au.1 h;cases e2;obtain ⟨v', hr, hv⟩ := Hh (w := w) hu hz (ev x (by simp [Op.operands])) (ev i (by simp [Op.operands]));exact sP.pure hR (aI hr) hv
   case array n el =>
    obtain ⟨e, he, h⟩ := ai.1 h;obtain ⟨nn, hnn, h⟩ := ai.1 h;obtain ⟨z, hz, e2⟩ := au.1 h;cases e2;obtain ⟨v', hr, hv⟩ := Hi (w := w) hu he hnn hz (ev x (by simp [Op.operands])) (ev i (by simp [Op.operands]));exact sP.pure hR (aI hr) hv
 case lookup t m k ok =>
  obtain ⟨⟨kt, et⟩, hkt, h⟩ := ai.1 h;obtain ⟨cl, hcl, h⟩ := ai.1 h;obtain ⟨z, hz, h⟩ := ai.1 h;obtain ⟨y, hy, e2⟩ := au.1 h;cases e2;obtain ⟨v', hr, hv⟩ := Hl hR hkt hcl hz hy (ev m (by simp [Op.operands])) (ev k (by simp [Op.operands]));exact sP.pure hR (aI hr) hv
 case mapUpdate t m k x =>
  obtain ⟨⟨kt, et⟩, hkt, h⟩ := ai.1 h;obtain ⟨cl, hcl, h⟩ := ai.1 h;obtain ⟨H2, hH, e2⟩ := au.1 h;cases e2;obtain ⟨w', hr, hE, hR'⟩ := SD hR hkt hcl hH (ev m (by simp [Op.operands])) (ev k (by simp [Op.operands])) (ev x (by simp [Op.operands]));exact ⟨undef, w', ρ, .inr ⟨OT hr, rfl⟩, VRel.undef, hE, hR'⟩
 case extract t i =>
  obtain ⟨z, hz, e2⟩ := au.1 h;cases e2;have hx := ev t (by simp [Op.operands])
  cases hxv : cf A t <;> rw [hxv] at hz <;> simp only [ar] at hz <;> try (cases hz; done)
  rename_i vs
  rw [hxv] at hx;obtain ⟨ys, hys, hs, he⟩ := hx.tuple_inv;have hi : i < vs.size := (Array.getElem?_eq_some_iff.1 hz).1
  have hi' : i < ys.size := by omega
  exact sP.pure hR (aI (by simp [Instr.extract, hys, hi']; rfl)) (he i _ _ hz (by simp [hi']))
 case call c =>
  obtain ⟨callee, args, ats⟩ := c;simp only at h
  cases callee with
  | value f => exact absurd rfl (hno _ f rfl)
  | invoke r m => simp at h
  | builtin b =>
   simp only at h;have hl : LRel P ρ (args.toList.map (cf A)) (args.map a.eval).toList := wl (fun x hx => ev x (by simp only [Op.operands, Call.operands, Array.toList_append, List.mem_append]; exact .inr hx));simp only [resolve, Sem.run_bind, Sem.run_pure, Result.andThen_ok, invoke];exact Nk hR hl h
theorem Hz {call : aR} (hcall : ox P G call) {A : List Value} {a : Act} (hA : bf ds P ρ A a) (hG : GlobRel ρ G) (hR : Rel P w0 B ρ H w) {o : Oper} (hok : o.op.operands.toList.all (Hx G) = true)
 {v : Value} {H' : AH} (h : dj P call (cf A) o H = some (v, H')) {next : Act → World → Prop} {Q : Exit → Act → World → Prop}
 (hn : ∀ v' ρ' w', VRel P ρ' v v' → eE ρ H w ρ' H' w' → Rel P w0 B ρ' H' w' → next (a.put o.dst v') w') : o.wp P a w next Q := by
 by_cases hc : ∃ c f, o.op = .call c ∧ c.callee = .value f
 ·obtain ⟨c, f, ho, hcf⟩ := hc
  obtain ⟨dst, op, type, pos, after, guard⟩ := o;simp only at ho;subst ho;obtain ⟨callee, args, ats⟩ := c;simp only at hcf;subst hcf;have ev : ∀ x, x ∈ (Op.call { callee := .value f, args := args, argTypes := ats }).operands.toList → VRel P ρ (cf A x) (a.eval x) := fun x hx => ta hA hG (List.all_eq_true.1 hok x hx);simp only [dj] at h;obtain ⟨⟨g, xs⟩, hfa, h⟩ := ai.1 h;simp only at h;have hl : LRel P ρ (args.toList.map (cf A)) (args.map a.eval).toList := wl (fun x hx => ev x (by simp only [Op.operands, Call.operands, Array.toList_append, List.mem_append]; exact .inr hx));obtain ⟨first, captured, hf, hx⟩ := yf hfa (ev f (by simp [Op.operands, Call.operands])) hl;obtain ⟨⟨fn, hfn, hbody, hname⟩, hcalls⟩ := hcall g xs H v H' h;have hcl := hcalls w0 B ρ w _ hR hG hx;have hrun : (execOp a.eval { dst := dst, op := .call { callee := .value f, args := args, argTypes := ats }, type := type, pos := pos, after := after, guard := guard }).run P w =
   .ok (.enter g (first ++ args.map a.eval ++ captured)) w := by
   have hbn : ¬ (fn.body = none) := by intro hb; rw [hb] at hbody; cases hbody
   simp [execOp, resolve, hf, Deferred.ofValue, invoke, callFunc, hfn, hname, hbn]
  unfold Oper.wp;rw [hrun, Oper.upon_enter]
  have e : (first.toList ++ (args.map a.eval).toList ++ captured.toList).toArray = first ++ args.map a.eval ++ captured := by
   apply Array.ext'; simp
  rw [e] at hcl;refine hcl.mono ?_
  rintro e w' ⟨v', ρ', rfl, hv, hE, hR'⟩
  exact hn v' ρ' w' hv hE hR'
 ·exact XX (agF hA hG hR hok (fun c f ho hcf => hc ⟨c, f, ho, hcf⟩) h) hn
end
def eF (A : List Value) (d : Option Tmp) (v : Value) : List Value :=
 match d with
 | some d => A.set d v
 | none => A
def bM (ops : Array Oper) (A : List Value) (j : Nat) : Option Bool :=
 match ((ops[j]?).bind (·.dst)).bind (A[·]?) with
 | some (.bool b) => some b
 | _ => none
def bO (P : Program) (G : List Nat) (call : aR) (ops : Array Oper) (o : Oper) (A : List Value) (H : AH) : Option (List Value × AH) :=
 if o.op.operands.toList.all (Hx G) = true then
  if Region.wanted o (bM ops A) = true then (dj P call (cf A) o H).map fun r => (eF A o.dst r.1, r.2) else some (eF A o.dst undef, H)
 else none
def bJ (P : Program) (G : List Nat) (call : aR) (ops : Array Oper) : List Oper → List Value → AH → Option (List Value × AH)
 | [], A, H => some (A, H)
 | o :: rest, A, H => (bO P G call ops o A H).bind fun s => bJ P G call ops rest s.1 s.2
section
variable {ds : List Deferred} {P : Program} {w0 : World} {B : Nat} {ρ : aV} {H : AH} {w : World} {G : List Nat} {call : aR}
theorem eW {A : List Value} {a : Act} (hA : bf ds P ρ A a) (d : Option Tmp) {v v' : Value} (hv : VRel P ρ v v') : bf ds P ρ (eF A d v) (a.put d v') := by
 cases d with
 | none => exact hA
 | some d => exact ⟨by simpa [Act.put, eF] using hA.tmps.set d hv, hA.defers⟩
theorem XY {A : List Value} {a : Act} (hA : bf ds P ρ A a) (ops : Array Oper) (j : Nat) : yielded ops a.tmps j = bM ops A j := by
 unfold yielded bM
 cases hd : (ops[j]?).bind (·.dst) with
 | none => rfl
 | some t =>
  simp only [aB]
  cases hx : A[t]? with
  | none =>
   have : a.tmps[t]? = none := by
    rw [List.getElem?_eq_none_iff] at hx;have := hA.tmps.1;rw [Array.getElem?_eq_none_iff];simp at this; omega
   rw [this]
  | some x =>
   obtain ⟨y, hy, hv⟩ := hA.tmps.get hx;rw [Array.getElem?_toList] at hy;rw [hy]
   cases hv with
   | lit h => rfl
   | _ => rfl
theorem hI {A : List Value} {a : Act} (hA : bf ds P ρ A a) (ops : Array Oper) (o : Oper) : Region.wanted o (yielded ops a.tmps) = Region.wanted o (bM ops A) := by
 unfold Region.wanted
 cases o.guard with
 | none => rfl
 | some g => simp only [XY hA]
def Fu (ds : List Deferred) (P : Program) (w0 : World) (B : Nat) (G : List Nat) (ρ : aV) (H : AH) (w : World) (A' : List Value) (H' : AH) (a' : Act) (w' : World) : Prop :=
 ∃ ρ', bf ds P ρ' A' a' ∧ GlobRel ρ' G ∧ eE ρ H w ρ' H' w' ∧ Rel P w0 B ρ' H' w'
theorem Xe (hcall : ox P G call) (ops : Array Oper) {Q : Exit → Act → World → Prop} : ∀ (l : List Oper) {ρ : aV} {A : List Value} {H : AH} {a : Act} {w : World} {A' : List Value} {H' : AH}, bJ P G call ops l A H = some (A', H') →
 bf ds P ρ A a → GlobRel ρ G → Rel P w0 B ρ H w → (∀ a' w', Fu ds P w0 B G ρ H w A' H' a' w' → Q .normal a' w') → wpList P ops Q l a w := by
 intro l
 induction l with
 | nil =>
  intro ρ A H a w A' H' h hA hG hR hQ;simp only [bJ] at h;cases h;exact hQ a w ⟨ρ, hA, hG, eE.refl _ _ _, hR⟩
 | cons o rest ih =>
  intro ρ A H a w A' H' h hA hG hR hQ;simp only [bJ] at h;obtain ⟨⟨A1, H1⟩, hs, h⟩ := ai.1 h;simp only at h;unfold bO at hs
  split at hs
  ·rename_i hok
   unfold wpList;rw [hI hA]
   split at hs
   ·rename_i hw
    rw [if_pos hw];obtain ⟨⟨v, H2⟩, ho, e⟩ := au.1 hs;cases e;refine .inl (Hz hcall hA hG hR hok ho (fun v' ρ' w' hv hE hR' => ?_));refine ih h (eW (hA.mono hE.le) o.dst hv) (hG.mono hE.le) hR' (fun a' w'' hp => ?_);obtain ⟨ρ'', h1, h2, h3, h4⟩ := hp;exact hQ a' w'' ⟨ρ'', h1, h2, hE.trans hR h3, h4⟩
   ·rename_i hw
    rw [if_neg hw];cases hs;exact ih h (eW hA o.dst VRel.undef) hG hR hQ
  ·cases hs
theorem Oy (hcall : ox P G call) {id : Nat} {ops : Array Oper} {Q : Exit → Act → World → Prop} {A : List Value} {a : Act} {A' : List Value} {H' : AH} (h : bJ P G call ops ops.toList A H = some (A', H'))
 (hA : bf ds P ρ A a) (hG : GlobRel ρ G) (hR : Rel P w0 B ρ H w) (hQ : ∀ a' w', Fu ds P w0 B G ρ H w A' H' a' w' → Q .normal a' w') : (Code.region id ops false).wp P Q a w :=
 wp_region_list (Xe hcall ops ops.toList h hA hG hR hQ)
end
def gG : Op → Nat
 | .move _ | .assign _ | .pick .. | .build .. | .nilCheck _ | .binOp .. | .unOp .. | .convert .. | .makeFunc .. | .slice .. | .fieldAddr .. | .field .. | .indexAddr .. | .index .. | .extract .. => 0
 | .alloc _ | .box .. | .buildSlice .. | .makeMap .. | .makeSlice .. => 1
 | .load .. | .lookup .. => 2
 | .call c => match c.callee with
  | .builtin .max | .builtin .min => 0
  | .builtin .len => 2
  | _ => 3
 | _ => 3
def FA (P : Program) (ev : Operand → Value) (op : Op) (H : AH) : Option Value :=
 match op with
 | .load t a => (eG P t).bind fun g => match g with
  | some n => aQ n (ev a) H
  | none => aA (ev a) H
 | .lookup t m k ok => (ca P t).bind fun kt => (cE P kt.1).bind fun fl => (bq P kt.2).bind fun z => km fl z (ev m) (ev k) ok H
 | .call c => match c.args.toList.map ev with
  | [x] => match (c.argTypes[0]?).bind fun t => P.underlying t with
   | some (.slice _) => match x with | .slice _ _ _ => sH x | _ => none
   | some .string => match x with | .string _ => sH x | _ => none
   | some (.map _ _) => nO x H
   | _ => none
  | _ => none
 | _ => none
def JI (ev : Operand → Value) (op : Op) : Option Nat :=
 match op with
 | .load _ a => (uk (ev a)).map (·.1)
 | .lookup _ m _ _ => match ev m with | .map r => r | _ => none
 | .call c => match c.args.toList.map ev with
  | [.map r] => r
  | _ => none
 | _ => none
section
variable {P : Program} {w0 : World} {B : Nat} {ρ : aV} {H : AH} {w : World} {G : List Nat} {call : aR}
theorem BN {ev : Operand → Value} {o : Oper} (hk : gG o.op = 2) (H : AH) : dj P call ev o H = (FA P ev o.op H).map (·, H) := by
 obtain ⟨dst, op, type, pos, after, guard⟩ := o;simp only at hk ⊢
 cases op <;> simp [gG] at hk
 case load t a =>
  simp only [dj, FA]
  cases eG P t with
  | none => rfl
  | some g => cases g <;> rfl
 case lookup t m k ok =>
  simp only [dj, FA]
  cases ca P t with
  | none => rfl
  | some kt =>
   simp only [aB]
   cases cE P kt.1 with
   | none => rfl
   | some fl =>
    simp only [aB]
    cases bq P kt.2 with
    | none => rfl
    | some z => rfl
 case call c =>
  obtain ⟨callee, args, ats⟩ := c
  cases callee <;> simp at hk
  rename_i b
  cases b <;> simp at hk
  simp only [dj, FA]
  generalize args.toList.map ev = xs
  unfold bY
  match xs with
  | [] => rfl
  | [x] =>
   simp only
   cases hb : (ats[0]?).bind fun t => P.underlying t with
   | none => rfl
   | some d => cases d <;> simp only <;> first | rfl | (cases x <;> rfl)
  | x :: y :: zs => rfl
theorem akO {ev : Operand → Value} {op : Op} {H1 H2 : AH} (h : ∀ b, JI ev op = some b → H2.get b = H1.get b) : FA P ev op H2 = FA P ev op H1 := by
 cases op <;> simp only [FA]
 case load t a =>
  have e : ∀ b o, uk (ev a) = some (b, o) → dm H2 b = dm H1 b := by
   intro b o hb;unfold dm;rw [h b (by simp [JI, hb])]
  have e1 : aA (ev a) H2 = aA (ev a) H1 := by
   unfold aA
   cases hp : uk (ev a) with
   | none => rfl
   | some x => simp only [aB]; rw [e x.1 x.2 hp]
  have e2 : ∀ n, aQ n (ev a) H2 = aQ n (ev a) H1 := by
   intro n;unfold aQ
   cases hp : uk (ev a) with
   | none => rfl
   | some x => simp only [aB]; rw [e x.1 x.2 hp]
  simp only [e1, e2]
 case lookup t m k ok =>
  have e : mE (ev m) H2 = mE (ev m) H1 := by
   unfold mE
   cases hm : ev m with
   | map r =>
    cases r with
    | none => rfl
    | some b => simp only; rw [h b (by simp [JI, hm])]
   | _ => rfl
  simp only [km, e]
 case call c =>
  have hb : ∀ b, c.args.toList.map ev = [.map (some b)] → H2.get b = H1.get b := fun b hx => h b (by simp only [JI]; rw [hx])
  generalize c.args.toList.map ev = xs at hb
  match xs with
  | [] => rfl
  | [x] =>
   simp only
   have e : nO x H2 = nO x H1 := by
    unfold nO
    cases x with
    | map r =>
     cases r with
     | none => rfl
     | some b => simp only; rw [hb b rfl]
    | _ => rfl
   rw [e]
  | x :: y :: zs => rfl
theorem Xs {ev : Operand → Value} {op : Op} {v : Value} (h : FA P ev op H = some v) {b : Nat} (hb : JI ev op = some b) : b < H.size := by
 cases op <;> simp only [FA, JI] at h hb <;> try (cases hb; done)
 case load t a =>
  obtain ⟨⟨b', o⟩, hp, e⟩ := au.1 hb;simp only at e;subst e;obtain ⟨g, _, h⟩ := ai.1 h
  cases g with
  | none =>
   simp only [aA, hp, aB] at h;obtain ⟨cs, hc, _⟩ := ai.1 h;obtain ⟨ro, hg⟩ := kV hc;exact AH.lt_of_get hg
  | some n =>
   simp only [aQ, hp, aB] at h;obtain ⟨cs, hc, _⟩ := ai.1 h;obtain ⟨ro, hg⟩ := kV hc;exact AH.lt_of_get hg
 case lookup t m k ok =>
  cases hm : ev m <;> rw [hm] at hb <;> try (cases hb; done)
  simp only at hb;subst hb;obtain ⟨kt, _, h⟩ := ai.1 h;obtain ⟨fl, _, h⟩ := ai.1 h;obtain ⟨z, _, h⟩ := ai.1 h;unfold km at h
  split at h
  ·obtain ⟨es, hes, _⟩ := ai.1 h
   rw [hm] at hes;simp only [mE] at hes
   split at hes
   ·rename_i hg; exact AH.lt_of_get hg
   ·cases hes
  ·cases h
 case call c =>
  generalize c.args.toList.map ev = xs at h hb
  match xs, h, hb with
  | [x], h, hb =>
   cases x <;> simp only at hb <;> try (cases hb; done)
   subst hb;simp only at h
   cases hd : (c.argTypes[0]?).bind fun t => P.underlying t with
   | none => simp [hd] at h
   | some d =>
    cases d <;> simp only [hd] at h <;> try (cases h; done)
    simp only [nO] at h
    split at h
    ·rename_i hg; exact AH.lt_of_get hg
    ·cases h
  | [], h, hb => cases h
  | x :: y :: zs, h, hb => cases h
theorem sQ {ev : Operand → Value} {o : Oper} (hk : gG o.op = 0) {v : Value} {H' : AH} (h : dj P call ev o H = some (v, H')) : H' = H ∧ ∀ H2, dj P call ev o H2 = some (v, H2) := by
 have key : ∀ {x : Option Value} {H H' : AH} {v : Value}, x.map (·, H) = some (v, H') → H' = H ∧ x = some v := by
  intro x H H' v hx;obtain ⟨y, hy, e⟩ := au.1 hx;cases e;exact ⟨rfl, hy⟩
 obtain ⟨dst, op, type, pos, after, guard⟩ := o;simp only at hk
 cases op <;> simp [gG] at hk <;> simp only [dj] at h ⊢
 case move x => cases h; exact ⟨rfl, fun _ => rfl⟩
 case assign x => cases h; exact ⟨rfl, fun _ => rfl⟩
 case pick => obtain ⟨e, hx⟩ := key h; exact ⟨e, fun _ => by rw [hx]; rfl⟩
 case nilCheck => obtain ⟨e, hx⟩ := key h; exact ⟨e, fun _ => by rw [hx]; rfl⟩
 case binOp => obtain ⟨e, hx⟩ := key h; exact ⟨e, fun _ => by rw [hx]; rfl⟩
 case unOp => obtain ⟨e, hx⟩ := key h; exact ⟨e, fun _ => by rw [hx]; rfl⟩
 case extract => obtain ⟨e, hx⟩ := key h; exact ⟨e, fun _ => by rw [hx]; rfl⟩
 case makeFunc => cases h; exact ⟨rfl, fun _ => rfl⟩
 case convert src dst x =>
  cases hu : P.underlying src with
  | none => simp [hu] at h
  | some d => simp only [hu] at h; obtain ⟨e, hx⟩ := key h; exact ⟨e, fun _ => by simp [hx]⟩
 case build t parts =>
  cases hu : P.underlying t with
  | none => simp [hu] at h
  | some d =>
   cases d <;> simp only [hu] at h ⊢ <;> try (cases h; done)
   ·obtain ⟨z, hz, h⟩ := ai.1 h
    obtain ⟨e, he, h⟩ := ai.1 h;obtain ⟨y, hy, e2⟩ := au.1 h;cases e2;exact ⟨rfl, fun _ => by simp [hz, he, hy]⟩
   ·obtain ⟨z, hz, h⟩ := ai.1 h
    obtain ⟨e, he, h⟩ := ai.1 h;obtain ⟨y, hy, e2⟩ := au.1 h;cases e2;exact ⟨rfl, fun _ => by simp [hz, he, hy]⟩
 case slice t x lo hi mx =>
  cases mx with
  | none =>
   simp only at h ⊢;obtain ⟨z, hz, h⟩ := ai.1 h;obtain ⟨e, he, h⟩ := ai.1 h;obtain ⟨e2, hx⟩ := key h;exact ⟨e2, fun _ => by simp [hz, he, hx]⟩
  | some m =>
   cases lo with
   | some l => cases hi <;> simp at h
   | none =>
    cases hi with
    | none => simp at h
    | some hi =>
     simp only at h ⊢;obtain ⟨z, hz, h⟩ := ai.1 h;obtain ⟨e, he, h⟩ := ai.1 h;obtain ⟨e2, hx⟩ := key h;exact ⟨e2, fun _ => by simp [hz, he, hx]⟩
 case fieldAddr s x f =>
  obtain ⟨z, hz, h⟩ := ai.1 h;obtain ⟨n, hn, h⟩ := ai.1 h
  split at h
  ·cases h
  ·rename_i h0
   obtain ⟨e2, hx⟩ := key h;exact ⟨e2, fun _ => by simp [hz, hn, h0, hx]⟩
 case field s x f =>
  obtain ⟨z, hz, h⟩ := ai.1 h;obtain ⟨n, hn, h⟩ := ai.1 h;obtain ⟨e2, hx⟩ := key h;exact ⟨e2, fun _ => by simp [hz, hn, hx]⟩
 case indexAddr t x i =>
  cases hu : P.underlying t with
  | none => simp [hu] at h
  | some d =>
   cases d <;> simp only [hu] at h ⊢ <;> try (cases h; done)
   ·obtain ⟨n, hn, h⟩ := ai.1 h
    obtain ⟨e2, hx⟩ := key h;exact ⟨e2, fun _ => by simp [hn, hx]⟩
   ·obtain ⟨n, hn, h⟩ := ai.1 h
    obtain ⟨e2, hx⟩ := key h;exact ⟨e2, fun _ => by simp [hn, hx]⟩
 case index t x i =>
  cases hu : P.underlying t with
  | none => simp [hu] at h
  | some d =>
   cases d <;> simp only [hu] at h ⊢ <;> try (cases h; done)
   ·obtain ⟨e2, hx⟩ := key h
    exact ⟨e2, fun _ => by simp [hx]⟩
   ·obtain ⟨n, hn, h⟩ := ai.1 h
    obtain ⟨m, hm, h⟩ := ai.1 h;obtain ⟨e2, hx⟩ := key h;exact ⟨e2, fun _ => by simp [hn, hm, hx]⟩
 case call c =>
  obtain ⟨callee, args, ats⟩ := c
  cases callee <;> simp at hk
  rename_i b
  cases b <;> simp at hk
  ·simp only at h ⊢
   generalize args.toList.map ev = xs at h ⊢
   unfold bY at h ⊢;obtain ⟨e, hx⟩ := key h;exact ⟨e, fun _ => by simp [hx]⟩
  ·simp only at h ⊢
   generalize args.toList.map ev = xs at h ⊢
   unfold bY at h ⊢;obtain ⟨e, hx⟩ := key h;exact ⟨e, fun _ => by simp [hx]⟩
end
section
variable {ds : List Deferred} {P : Program} {w0 : World} {B : Nat} {ρ : aV} {H : AH} {w : World} {G : List Nat} {call : aR}
theorem FC {A : List Value} {a : Act} (hA : bf ds P ρ A a) (hG : GlobRel ρ G) {o : Oper} (hok : o.op.operands.toList.all (Hx G) = true) (hk : gG o.op = 1) {v : Value} {H' : AH} (h : dj P call (cf A) o H = some (v, H')) :
 ∃ c : AObj, c.rw = true ∧ H' = H.push c ∧ ∀ w : World, ∃ ob sz v', (execOp a.eval o).run P w = .ok (.value v') (w.alloc ob) ∧ sO P ρ 0 sz c (some ob) ∧
  ∀ ρ' : aV, ρ' H.size = some (w.heap.size, 0, sz) → VRel P ρ' v v' := by
 obtain ⟨dst, op, type, pos, after, guard⟩ := o;simp only at hok hk;have ev : ∀ x, x ∈ op.operands.toList → VRel P ρ (cf A x) (a.eval x) := fun x hx => ta hA hG (List.all_eq_true.1 hok x hx)
 have cells : ∀ {cs cs' : List Value} {el : TypeId}, LRel P ρ cs cs' → sO P ρ 0 cs'.length (.cells false cs) (some (.cells cs'.toArray el)) := by
  intro cs cs' el hl;exact ⟨_, el, (0, 0), rfl, by simp, by rw [hl.1]; omega, fun _ => rfl, by rw [hl.1]; simpa using hl⟩
 cases op <;> simp [gG] at hk <;> simp only [dj] at h <;> simp only [execOp]
 case alloc t =>
  obtain ⟨z, hz, e⟩ := au.1 h;cases e;obtain ⟨i, hi, hzi, hlit, _⟩ := cK hz;refine ⟨_, rfl, rfl, fun w => ⟨.cells z.cells.toList.toArray t, _, .pointer (some ⟨w.heap.size, 0, none⟩), aI ?_, cells (LRel.of_all hlit), fun ρ' hρ => .ptr (d := 0) (o := 0) hρ⟩⟩;simp [Instr.alloc, fS hz, newVar, newRow]
 case box t x =>
  cases h;refine ⟨_, rfl, rfl, fun w => ⟨.cells (a.eval x).cells.toList.toArray t, _, .pointer (some ⟨w.heap.size, 0, none⟩), aI ?_, cells (ev x (by simp [Op.operands])).cells, fun ρ' hρ => .ptr (d := 0) (o := 0) hρ⟩⟩;simp [Instr.box, newVar, newRow]
 case makeMap t r =>
  cases r with
  | some r => simp at h
  | none =>
   simp only at h;cases h;refine ⟨_, rfl, rfl, fun w => ⟨.map #[] 0, 0, .map (some w.heap.size), aI ?_, ⟨#[], rfl, rfl, fun _ _ _ h => by simp at h⟩, fun ρ' hρ => .map hρ⟩⟩;simp [Instr.makeMap]
 case buildSlice t len parts =>
  have hx : ∀ x ∈ parts.toList.map (·.2), VRel P ρ (cf A x) (a.eval x) := fun x hx => ev x (by simpa [Op.operands] using hx);obtain ⟨el, hel, h⟩ := ai.1 h;obtain ⟨e, he, h⟩ := ai.1 h;obtain ⟨z, hz, h⟩ := ai.1 h
  split at h
  ·rename_i hc
   obtain ⟨cs, hcs, e2⟩ := au.1 h;cases e2;obtain ⟨h0, hze, hbig⟩ := hc;obtain ⟨i, hi, hzi, hlit, _⟩ := cK hz;obtain ⟨out', ho, hr⟩ := zW _ hcs (Ae hlit len) (wr parts hx);have hzf := rD z.cells len (by omega);rw [hze] at hzf
   have hza : ((Array.range (len * e)).map fun x => z.cells[x % e]!) = ((List.replicate len z.cells.toList).flatten).toArray := by rw [← hzf]
   have hlo : out'.length = len * e := by
    have hfl : ∀ {parts : List (Nat × Value)} {cells out : List Value}, cA (fun i => some (i * e, e)) cells parts = some out → out.length = cells.length := by
     intro parts
     induction parts with
     | nil => intro cells out h; simp [cA] at h; rw [h]
     | cons p parts ih =>
      intro cells out h;obtain ⟨i, v⟩ := p;simp only [cA, aB] at h
      split at h
      ·rename_i hc
       rw [ih h, kC];simp; omega
      ·cases h
    rw [← hr.1, hfl hcs];simp [hze]
   have hnb : ¬ (len * e > 2 ^ 24) := by omega
   refine ⟨_, rfl, rfl, fun w => ⟨.cells out'.toArray el, _, .slice (some ⟨w.heap.size, 0, none⟩) len len, aI ?_, cells hr, fun ρ' hρ => .slice (d := 0) (o := 0) hρ (by rw [hlo]; omega) (cr _) h0⟩⟩
   by_cases hl0 : len = 0
   ·subst hl0
    rw [Nat.zero_mul] at hnb;have hr0 : (Array.range 0) = (#[] : Array Nat) := rfl;have ho0 : (List.replicate 0 z.cells.toList).flatten.toArray = (#[] : Array Value) := rfl;rw [ho0] at ho;simp only [Instr.buildSlice, Sem.run_bind, run_underlying (ep hel), Result.andThen_ok, cG he, Sem.run_ite, Nat.zero_mul, hnb, if_false, Sem.run_pure, if_true, hr0, Array.map_empty, ho, newRow, run_newObj, Nat.zero_add]
    rfl
   have hne : ¬ (len * e = 0) := by
    intro h
    rcases Nat.mul_eq_zero.1 h with h | h <;> omega
   simp only [Instr.buildSlice, Sem.run_bind, run_underlying (ep hel), Result.andThen_ok, cG he, Sem.run_ite, hnb, if_false, Sem.run_pure, hne, fS hz, hze, hza, ho, newRow, run_newObj, Nat.zero_add]
   rfl
  ·cases h
 case makeSlice t l c =>
  obtain ⟨el, hel, h⟩ := ai.1 h;obtain ⟨e, he, h⟩ := ai.1 h;obtain ⟨by', hby, h⟩ := ai.1 h;obtain ⟨z, hz, h⟩ := ai.1 h;have hl := ev l (by simp [Op.operands]);have hc := ev c (by simp [Op.operands])
  cases hlv : cf A l <;> rw [hlv] at h <;> simp only [mD] at h <;> try (cases h; done)
  cases hcv : cf A c <;> rw [hcv] at h <;> simp only at h <;> try (cases h; done)
  rename_i k1 l0 k2 c0
  rw [hlv] at hl;rw [hcv] at hc
  split at h
  ·rename_i hcond
   obtain ⟨h0, rfl, hbig, hroom, hpos, hzl⟩ := hcond;cases h;rw [hl.int_inv, hc.int_inv];obtain ⟨i, hi, hzi, hlit, _⟩ := cK hz;have hie := JO he hi;have hib := F2 hby hi;unfold cg at hbig hroom
   have hln : l0 = (l0.toNat : Int) := by omega
   have hbytes : (i.bytes : Int) * l0 ≤ 281474976710656 := by
    rw [hib, hln, ← Int.natCast_mul]
    have : by' * l0.toNat ≤ 140737488355328 := by rw [Nat.mul_comm]; exact hbig
    omega
   have hzs : z.cells.size = e := by simpa using hzl
   have hm : madeCells z.cells (l0.toNat * i.size) = ((List.replicate l0.toNat z.cells.toList).flatten).toArray := by
    have hzf := rD z.cells l0.toNat (by omega);rw [hzs] at hzf;unfold madeCells;rw [hie, ← hzf, hzs]
   refine ⟨_, rfl, rfl, fun w => ⟨.cells ((List.replicate l0.toNat z.cells.toList).flatten).toArray el, _, .slice (some ⟨w.heap.size, 0, none⟩) l0.toNat l0.toNat, aI ?_, cells (Ae hlit l0.toNat), fun ρ' hρ => .slice (d := 0) (o := 0) hρ (by simp [hzs]) (cr _) hpos⟩⟩;have hrun := run_make (P := P) w t el i z (ep hel) hi hzi k1 k2 l0 l0 h0 (Int.le_refl _) hbytes (by omega);rw [hm] at hrun;exact hrun
  ·cases h
 case call c =>
  obtain ⟨callee, args, ats⟩ := c
  cases callee <;> simp at hk
  rename_i b
  cases b <;> simp at hk
theorem oT {ev ev' : Operand → Value} {o : Oper} (h : ∀ x ∈ o.op.operands.toList, ev x = ev' x) (H : AH) : dj P call ev o H = dj P call ev' o H := by
 obtain ⟨dst, op, type, pos, after, guard⟩ := o;simp only at h
 have pairs : ∀ ps : Array (Nat × Operand), (∀ x ∈ ps.toList.map (·.2), ev x = ev' x) → (ps.toList.map fun p => (p.1, ev p.2)) = ps.toList.map fun p => (p.1, ev' p.2) := by
  intro ps hp;apply List.map_congr_left;intro p hm;rw [hp p.2 (List.mem_map.2 ⟨p, hm, rfl⟩)]
 cases op <;> simp only [dj] <;> simp only [Op.operands] at h
 case build t ps => simp only [pairs ps (fun x hx => h x (by simpa using hx))]
 case buildSlice t n ps => simp only [pairs ps (fun x hx => h x (by simpa using hx))]
 case makeFunc fn first captured =>
  rw [Array.map_congr_left (xs := first) (f := ev) (g := ev') fun x hx => h x (by simp; exact .inl hx), Array.map_congr_left (xs := captured) (f := ev) (g := ev') fun x hx => h x (by simp; exact .inr hx)]
 case call c =>
  have hargs : c.args.toList.map ev = c.args.toList.map ev' := List.map_congr_left fun x hx => h x (by simp only [Call.operands, Array.toList_append, List.mem_append]; exact .inr hx)
  cases hc : c.callee with
  | value f => simp only [hargs, h f (by simp [Call.operands, hc])]
  | invoke r m => rfl
  | builtin b => simp only [hargs]
 case makeMap t r => cases r <;> rfl
 case slice t x lo hi mx =>
  have hx := h x (by simp)
  cases lo <;> cases hi <;> cases mx <;> simp_all
 all_goals (first | rfl | (simp_all; done))
theorem vv {ev ev' : Operand → Value} {op : Op} (h : ∀ x ∈ op.operands.toList, ev x = ev' x) (H : AH) : FA P ev op H = FA P ev' op H := by
 cases op <;> simp only [FA] <;> simp only [Op.operands] at h
 case load t a => rw [h a (by simp)]
 case lookup t m k ok => rw [h m (by simp), h k (by simp)]
 case call c =>
  have hargs : c.args.toList.map ev = c.args.toList.map ev' := List.map_congr_left fun x hx => h x (by simp only [Call.operands, Array.toList_append, List.mem_append]; exact .inr hx);rw [hargs]
def iA (call : aR) : Prop := ∀ f args H v H', call f args H = some (v, H') → H.size ≤ H'.size
theorem M0 (hm : iA call) {ev : Operand → Value} {o : Oper} {H H' : AH} {v : Value} (h : dj P call ev o H = some (v, H')) : H.size ≤ H'.size := by
 have key : ∀ {x : Option Value} {H H' : AH} {v : Value}, x.map (·, H) = some (v, H') → H.size ≤ H'.size := by
  intro x H H' v hx;obtain ⟨y, hy, e⟩ := au.1 hx;cases e;exact cr _
 by_cases hk : gG o.op = 0
 ·rw [(sQ hk h).1]; exact cr _
 by_cases hk2 : gG o.op = 2
 ·rw [BN hk2] at h; exact key h
 obtain ⟨dst, op, type, pos, after, guard⟩ := o;simp only at hk hk2
 cases op <;> simp [gG] at hk hk2 <;> simp only [dj] at h <;> try (cases h; done)
 case alloc t => obtain ⟨z, hz, e⟩ := au.1 h; cases e; rw [AH.size_push]; omega
 case box t x => cases h; rw [AH.size_push]; omega
 case makeMap t r =>
  cases r with
  | some r => simp at h
  | none => simp only at h; cases h; rw [AH.size_push]; omega
 case buildSlice t n ps =>
  obtain ⟨el, hel, h⟩ := ai.1 h;obtain ⟨e, he, h⟩ := ai.1 h;obtain ⟨z, hz, h⟩ := ai.1 h
  split at h
  ·obtain ⟨cs, hcs, e2⟩ := au.1 h
   cases e2;rw [AH.size_push]; omega
  ·cases h
 case makeSlice t l c =>
  obtain ⟨el, hel, h⟩ := ai.1 h;obtain ⟨e, he, h⟩ := ai.1 h;obtain ⟨by', hby, h⟩ := ai.1 h;obtain ⟨z, hz, h⟩ := ai.1 h;unfold mD at h
  split at h
  ·split at h
   ·cases h; rw [AH.size_push]; omega
   ·cases h
  ·cases h
 case store t x y =>
  obtain ⟨n, hn, h⟩ := ai.1 h;obtain ⟨H2, hH, e⟩ := au.1 h;cases e;unfold fT at hH;obtain ⟨a, ha, hH⟩ := ai.1 hH
  split at hH
  ·split at hH
   ·cases hH; rw [AH.size_set]; exact cr _
   ·cases hH
  ·cases hH
 case mapUpdate t m k x =>
  obtain ⟨kt, hkt, h⟩ := ai.1 h;obtain ⟨cl, hcl, h⟩ := ai.1 h;obtain ⟨H2, hH, e⟩ := au.1 h;cases e;unfold nP at hH
  split at hH
  ·split at hH
   ·split at hH
    ·obtain ⟨r, hr, e⟩ := au.1 hH
     cases r with
     | none => subst e; rw [AH.size_set]; exact cr _
     | some p => subst e; rw [AH.size_set]; exact cr _
    ·cases hH
   ·cases hH
  ·cases hH
 case call c =>
  obtain ⟨callee, args, ats⟩ := c;simp only at h
  cases callee with
  | value f =>
   simp only at h;obtain ⟨fa, hfa, h⟩ := ai.1 h;exact hm _ _ _ _ _ h
  | invoke r m => simp at h
  | builtin b =>
   simp only at h;unfold bY at h
   split at h
   ·simp at hk2
   ·simp at hk
   ·simp at hk
   ·obtain ⟨t0, ht0, h⟩ := ai.1 h
    obtain ⟨el, hel, h⟩ := ai.1 h;obtain ⟨e, he, h⟩ := ai.1 h;obtain ⟨by', hby, h⟩ := ai.1 h;obtain ⟨z, hz, h⟩ := ai.1 h
    split at h
    ·unfold cz at h
     obtain ⟨r, hr, h⟩ := ai.1 h
     split at h
     ·split at h
      ·split at h
       ·split at h
        ·cases h; exact cr _
        ·split at h
         ·cases h; rw [AH.size_push]; omega
         ·cases h
       ·cases h
      ·split at h
       ·cases h; exact cr _
       ·split at h
        ·split at h
         ·cases h; rw [AH.size_push]; omega
         ·cases h
        ·split at h
         ·split at h
          ·cases h; rw [AH.size_push, AH.size_set]; omega
          ·cases h
         ·cases h
      ·cases h
     ·cases h
    ·cases h
   ·obtain ⟨t0, ht0, h⟩ := ai.1 h
    obtain ⟨kt, hkt, h⟩ := ai.1 h;obtain ⟨cl, hcl, h⟩ := ai.1 h;obtain ⟨H2, hH, e⟩ := au.1 h;cases e;unfold nN at hH
    split at hH
    ·split at hH
     ·split at hH
      ·obtain ⟨r, hr, e⟩ := au.1 hH
       cases r with
       | none => subst e; rw [AH.size_set]; exact cr _
       | some p => subst e; rw [AH.size_set]; exact cr _
      ·cases hH
     ·cases hH
    ·cases hH
   ·cases h
end
def Hn (acc : List Nat) (o : Oper) : Nat := o.after.toList.foldl (fun s e => if Region.binds .any e && decide (e.on < acc.length) then s ||| (2 ^ e.on ||| acc.getD e.on 0) else s) 0
def bu (ops : List Oper) : List Nat := ops.foldl (fun acc o => acc ++ [Hn acc o]) []
def fb (ms : List Nat) (i j : Nat) : Bool := (ms.getD j 0).testBit i
theorem RJ {acc : List Nat} {o : Oper} {i : Nat} (h : (Hn acc o).testBit i = true) : ∃ e ∈ o.after, Region.binds .any e = true ∧ e.on < acc.length ∧ (i = e.on ∨ (acc.getD e.on 0).testBit i = true) := by
 have key : ∀ (l : List Edge) (s : Nat), (l.foldl (fun s e => if Region.binds .any e && decide (e.on < acc.length) then s ||| (2 ^ e.on ||| acc.getD e.on 0) else s) s).testBit i = true →
  s.testBit i = true ∨ ∃ e ∈ l, Region.binds .any e = true ∧ e.on < acc.length ∧ (i = e.on ∨ (acc.getD e.on 0).testBit i = true) := by
  intro l
  induction l with
  | nil => intro s h; exact .inl h
  | cons e l ih =>
   intro s h;rw [List.foldl_cons] at h
   rcases ih _ h with h1 | ⟨e', he', hh⟩
   ·split at h1
    ·rename_i hc
     simp only [Bool.and_eq_true, decide_eq_true_eq] at hc;rw [Nat.testBit_or, Nat.testBit_or, Nat.testBit_two_pow] at h1;simp only [Bool.or_eq_true, decide_eq_true_eq] at h1
     rcases h1 with h1 | h1 | h1
     ·exact .inl h1
     ·exact .inr ⟨e, by simp, hc.1, hc.2, .inl h1.symm⟩
     ·exact .inr ⟨e, by simp, hc.1, hc.2, .inr h1⟩
    ·exact .inl h1
   ·exact .inr ⟨e', by simp [he'], hh⟩
 rcases key o.after.toList 0 h with h | ⟨e, he, hh⟩
 ·simp at h
 ·exact ⟨e, by simpa using he, hh⟩
theorem U1 {α : Type} {p : List α → Prop} (h0 : p []) (h1 : ∀ l a, p l → p (l ++ [a])) (l : List α) : p l := by
 have key : ∀ m : List α, p m.reverse := by
  intro m
  induction m with
  | nil => exact h0
  | cons a m ih => rw [List.reverse_cons]; exact h1 _ _ ih
 have := key l.reverse
 rwa [List.reverse_reverse] at this
theorem Hq (l : List Oper) (o : Oper) : bu (l ++ [o]) = bu l ++ [Hn (bu l) o] := by
 unfold bu; rw [List.foldl_append]; rfl
theorem lR : ∀ l : List Oper, (bu l).length = l.length := by
 refine U1 rfl (fun l o ih => ?_);rw [Hq]; simp [ih]
theorem Ho : ∀ (l : List Oper) (j : Nat) (o : Oper), l[j]? = some o → (bu l).getD j 0 = Hn (bu (l.take j)) o := by
 refine U1 (fun j o h => by simp at h) (fun l o' ih => ?_)
 ·intro j o h
  rw [Hq]
  by_cases hj : j < l.length
  ·rw [List.getElem?_append_left hj] at h
   have e1 : (bu l ++ [Hn (bu l) o']).getD j 0 = (bu l).getD j 0 := by
    rw [List.getD_eq_getElem?_getD, List.getElem?_append_left (by rw [lR]; exact hj), ← List.getD_eq_getElem?_getD]
   rw [e1, ih j o h, List.take_append_of_le_length (by omega)]
  ·have hl : j = l.length := by
    have := (Ab.1 h).1;simp at this; omega
   subst hl;simp at h;subst h;rw [List.getD_eq_getElem?_getD, List.getElem?_append_right (by rw [lR]; exact cr _), lR];simp
theorem Ed (l : List Oper) (j k : Nat) (hk : k < j) (hj : j ≤ l.length) : (bu (l.take j)).getD k 0 = (bu l).getD k 0 := by
 have h1 : k < l.length := by omega
 have h2 : (l.take j)[k]? = some l[k] := by rw [List.getElem?_take, if_pos hk, na h1]
 rw [Ho (l.take j) k _ h2, Ho l k l[k] (na h1), List.take_take]
 congr 2
 congr 1
 omega
theorem ig {ops : Array Oper} {L : Nat → Bool} (hcl : ∀ k o, ops[k]? = some o → L k = true → ∀ e ∈ o.after, Region.binds .any e = true → L e.on = true) :
 ∀ (j : Nat) (o : Oper), ops[j]? = some o → (∀ e ∈ o.after, Region.binds .any e = true → L e.on = true) → ∀ i, fb (bu ops.toList) i j = true → L i = true := by
 intro j
 induction j using Nat.strongRecOn with
 | _ j ih =>
  intro o ho hready i hfb;unfold fb at hfb
  have ho' : ops.toList[j]? = some o := by simpa using ho
  have hj : j < ops.toList.length := (Ab.1 ho').1;rw [Ho ops.toList j o ho'] at hfb;obtain ⟨e, he, hb, hlt, hi⟩ := RJ hfb;rw [lR, List.length_take] at hlt
  have hej : e.on < j := by omega
  have hL := hready e he hb
  rcases hi with rfl | hi
  ·exact hL
  ·rw [Ed _ j e.on hej (by omega)] at hi
   have hok : e.on < ops.size := by simp at hj; omega
   exact ih e.on hej ops[e.on] (by simp [hok]) (hcl e.on _ (by simp [hok]) hL) i hi
structure Tra (P : Program) (G : List Nat) (call : aR) (ops : Array Oper) where
 s : Nat → List Value × AH
 val : Nat → Value
 U : Nat → Bool
 step : ∀ i o, ops[i]? = some o → (s (i + 1)).1 = eF (s i).1 o.dst (val i) ∧
  ((o.op.operands.toList.all (Hx G) = true ∧ Region.wanted o (bM ops (s i).1) = true ∧ dj P call (cf (s i).1) o (s i).2 = some (val i, (s (i + 1)).2)) ∨
   ((Region.wanted o (bM ops (s i).1) = false ∨ U i = false) ∧ val i = undef ∧ (s (i + 1)).2 = (s i).2))
 back : ∀ j o, ops[j]? = some o → ∀ e ∈ o.after, Region.binds .any e = true → e.on < j
 pair : ∀ i j oi oj, i < j → ops[i]? = some oi → ops[j]? = some oj → fb (bu ops.toList) i j = true ∨ (oi.apart ops oj = true ∧ ¬ (gG oi.op = 3 ∧ gG oj.op = 3))
 look : ∀ j e oj oe, ops[j]? = some oj → ops[e]? = some oe → gG oj.op = 2 → gG oe.op = 3 → fb (bu ops.toList) e j = false → fb (bu ops.toList) j e = false →
  FA P (cf (s j).1) oj.op (s (if e < j then e else e + 1)).2 = FA P (cf (s j).1) oj.op (s j).2
section
variable {P : Program} {w0 : World} {B : Nat} {ρ : aV} {H : AH} {w : World} {G : List Nat} {call : aR} {ops : Array Oper}
def AD (T : Tra P G call ops) (L : Nat → Bool) : Nat → List Value
 | 0 => (T.s 0).1
 | k + 1 => match ops[k]? with
  | some o => if L k = true then eF (AD T L k) o.dst (T.val k) else AD T L k
  | none => AD T L k
theorem hP (A : List Value) (d : Option Tmp) (v : Value) : (eF A d v).length = A.length := by cases d <;> simp [eF]
theorem qt {A : List Value} {d : Option Tmp} {v : Value} {t : Nat} (h : d ≠ some t) : (eF A d v)[t]? = A[t]? := by
 cases d with
 | none => rfl
 | some d => simp only [eF]; rw [List.getElem?_set_ne (fun e => h (by rw [e]))]
theorem zd {A : List Value} {t : Nat} {v : Value} : (eF A (some t) v)[t]? = if t < A.length then some v else none := by
 simp only [eF];rw [List.getElem?_set];simp
theorem IR (T : Tra P G call ops) (L : Nat → Bool) : ∀ k, (AD T L k).length = (T.s 0).1.length := by
 intro k
 induction k with
 | zero => rfl
 | succ k ih =>
  simp only [AD]
  split
  ·split
   ·rw [hP, ih]
   ·exact ih
  ·exact ih
theorem agW (T : Tra P G call ops) : ∀ k, k ≤ ops.size → (T.s k).1.length = (T.s 0).1.length := by
 intro k
 induction k with
 | zero => intro _; rfl
 | succ k ih =>
  intro hk
  have ho : ops[k]? = some ops[k] := by simp [Nat.lt_of_succ_le hk]
  rw [(T.step k _ ho).1, hP, ih (by omega)]
theorem alC (T : Tra P G call ops) {L : Nat → Bool} {j t : Nat} (hj : j ≤ ops.size) (h1 : ∀ i o, ops[i]? = some o → i < j → o.dst = some t → L i = true) (h2 : ∀ i o, ops[i]? = some o → j ≤ i → o.dst = some t → L i = false) :
 (AD T L ops.size)[t]? = (T.s j).1[t]? := by
 have a1 : ∀ k, k ≤ j → (AD T L k)[t]? = (T.s k).1[t]? := by
  intro k
  induction k with
  | zero => intro _; rfl
  | succ k ih =>
   intro hk
   have hlt : k < ops.size := by omega
   have ho : ops[k]? = some ops[k] := by simp [hlt]
   simp only [AD, ho];rw [(T.step k _ ho).1]
   by_cases hd : (ops[k]).dst = some t
   ·rw [if_pos (h1 k _ ho (by omega) hd), hd, zd, zd, IR, agW T k (by omega)]
   ·rw [qt hd]
    split
    ·rw [qt hd]; exact ih (by omega)
    ·exact ih (by omega)
 have a2 : ∀ k, j ≤ k → k ≤ ops.size → (AD T L k)[t]? = (AD T L j)[t]? := by
  intro k
  induction k with
  | zero => intro hk _; rw [show j = 0 from by omega]
  | succ k ih =>
   intro hk hs
   by_cases he : j = k + 1
   ·rw [he]
   ·have hlt : k < ops.size := by omega
    have ho : ops[k]? = some ops[k] := by simp [hlt]
    simp only [AD, ho]
    by_cases hd : (ops[k]).dst = some t
    ·rw [if_neg (by rw [h2 k _ ho (by omega) hd]; simp)]; exact ih (by omega) (by omega)
    ·split
     ·rw [qt hd]; exact ih (by omega) (by omega)
     ·exact ih (by omega) (by omega)
 rw [a2 _ hj (cr _), a1 j (cr _)]
theorem amK (T : Tra P G call ops) {L : Nat → Bool} {j : Nat} {o : Oper} (ho : ops[j]? = some o) (hj : L j = false) (hlater : ∀ i oi, ops[i]? = some oi → j < i → L i = true → ∀ t, o.dst = some t → oi.dst ≠ some t) :
 AD T (fun i => if i = j then true else L i) ops.size = eF (AD T L ops.size) o.dst (T.val j) := by
 have key : ∀ k, k ≤ ops.size → AD T (fun i => if i = j then true else L i) k = if j < k then eF (AD T L k) o.dst (T.val j) else AD T L k := by
  intro k
  induction k with
  | zero => intro _; simp [AD]
  | succ k ih =>
   intro hk
   have hlt : k < ops.size := by omega
   have hok : ops[k]? = some ops[k] := by simp [hlt]
   simp only [AD, hok];rw [ih (by omega)]
   by_cases hkj : k = j
   ·subst hkj
    rw [ho] at hok;cases hok;simp [hj]
   ·simp only [if_neg hkj]
    by_cases hjk : j < k
    ·have h3 : j < k + 1 := by omega
     rw [if_pos hjk, if_pos h3]
     by_cases hL : L k = true
     ·rw [if_pos hL, if_pos hL]
      -- two slots, or none
      cases hd : o.dst with
      | none => rfl
      | some t =>
       have hne := hlater k _ hok hjk hL t hd
       cases hdk : (ops[k]).dst with
       | none => rfl
       | some u =>
        have : t ≠ u := fun e => hne (by rw [hdk, e]);simp only [eF];rw [List.set_comm _ _ this]
     ·rw [if_neg hL, if_neg hL]
    ·have h3 : ¬ j < k + 1 := by omega
     rw [if_neg hjk, if_neg h3]
 rw [key _ (cr _), if_pos (by have := (Array.getElem?_eq_some_iff.1 ho).1; omega)]
theorem ahX (T : Tra P G call ops) : ∀ k, AD T (fun _ => false) k = (T.s 0).1 := by
 intro k
 induction k with
 | zero => rfl
 | succ k ih => simp only [AD]; split <;> simp [ih]
theorem amJ (T : Tra P G call ops) {L : Nat → Bool} (h : ∀ i, i < ops.size → L i = true) : AD T L ops.size = (T.s ops.size).1 := by
 apply List.ext_getElem?;intro t;exact alC T (cr _) (fun i o ho hi _ => h i hi) (fun i o ho hi _ => by have := (Array.getElem?_eq_some_iff.1 ho).1; omega)
theorem Rel.agree {H2 : AH} (h : Rel P w0 B ρ H w) (ha : ∀ b x, ρ b = some x → b < H2.size ∧ H2.get b = H.get b) : Rel P w0 B ρ H2 w where
 base := h.base
 below := h.below
 dom := fun b x hx => (ha b x hx).1
 blk := h.blk
 obj := fun b c d sz o hx ho => h.obj b c d sz o hx (by rw [← (ha b _ hx).2]; exact ho)
 own := fun b c d sz o hx ho => h.own b c d sz o hx (by rw [← (ha b _ hx).2]; exact ho)
 ro := fun b c d sz cs hx ho => h.ro b c d sz cs hx (by rw [← (ha b _ hx).2]; exact ho)
 inj := fun b b' c d d' sz sz' o o' hx hx' ho ho' => h.inj b b' c d d' sz sz' o o' hx hx' (by rw [← (ha b _ hx).2]; exact ho) (by rw [← (ha b' _ hx').2]; exact ho')
def aV.below (ρ : aV) (m : Nat) : aV := fun b => if b < m then ρ b else none
theorem aV.below_some {ρ : aV} {m b : Nat} {x : Nat × Nat × Nat} (h : ρ.below m b = some x) : b < m ∧ ρ b = some x := by
 unfold aV.below at h
 split at h
 ·exact ⟨by assumption, h⟩
 ·cases h
theorem aV.below_lt {ρ : aV} {m b : Nat} (h : b < m) : ρ.below m b = ρ b := by simp [aV.below, h]
theorem Rel.fill (h : Rel P w0 B ρ H w) {b : Nat} (hb : ρ b = none) {o : AObj} {ob : Obj} {sz : Nat} (hrw : o.rw = true) (hnew : sO P ρ 0 sz o (some ob)) {H2 : AH} (hs : b < H2.size) (hg : H2.get b = some o)
 (ha : ∀ b' x, ρ b' = some x → b' < H2.size ∧ H2.get b' = H.get b') : Rel P w0 B (ρ.upd b (w.heap.size, 0, sz)) H2 (w.alloc ob) := by
 have hB := h.size;have hle := aV.upd_le (x := (w.heap.size, 0, sz)) hb;have hheap : ∀ k, k < w.heap.size → (w.alloc ob).heap[k]? = w.heap[k]? := fun k hk => Below.heap_alloc w ob k hk;have hlast : (w.alloc ob).heap[w.heap.size]? = some ob := heap_alloc_new w ob
 have cases' : ∀ {b1 x}, ρ.upd b (w.heap.size, 0, sz) b1 = some x → (b1 = b ∧ x = (w.heap.size, 0, sz)) ∨ (b1 ≠ b ∧ ρ b1 = some x) := by
  intro b1 x hx
  by_cases e : b1 = b
  ·subst e; rw [aV.upd_same] at hx; exact .inl ⟨rfl, (kT hx).symm⟩
  ·rw [aV.upd_ne e] at hx; exact .inr ⟨e, hx⟩
 refine ⟨h.base, h.below.alloc hB ob, ?_, ?_, ?_, ?_, ?_, ?_⟩
 ·intro b1 x hx
  rcases cases' hx with ⟨rfl, _⟩ | ⟨_, hx⟩
  ·exact hs
  ·exact (ha b1 x hx).1
 ·intro b1 c d sz1 hx
  rw [World.size_alloc]
  rcases cases' hx with ⟨rfl, e⟩ | ⟨_, hx⟩
  ·cases e; omega
  ·have := h.blk b1 c d sz1 hx; omega
 ·intro b1 c d sz1 o1 hx ho1
  rcases cases' hx with ⟨rfl, e⟩ | ⟨_, hx⟩
  ·cases e; rw [hg] at ho1; cases ho1; rw [hlast]; exact hnew.mono hle
  ·rw [(ha b1 _ hx).2] at ho1
   rw [hheap c (h.blk b1 c d sz1 hx)]; exact (h.obj b1 c d sz1 o1 hx ho1).mono hle
 ·intro b1 c d sz1 o1 hx ho1 hr1
  rcases cases' hx with ⟨rfl, e⟩ | ⟨_, hx⟩
  ·cases e; exact hB
  ·rw [(ha b1 _ hx).2] at ho1; exact h.own b1 c d sz1 o1 hx ho1 hr1
 ·intro b1 c d sz1 cs hx ho1
  rcases cases' hx with ⟨rfl, e⟩ | ⟨_, hx⟩
  ·rw [hg] at ho1; cases ho1; simp [AObj.rw] at hrw
  ·rw [(ha b1 _ hx).2] at ho1; exact h.ro b1 c d sz1 cs hx ho1
 ·intro b1 b2 c d1 d2 sz1 sz2 o1 o2 hx1 hx2 ho1 ho2 hr1 hr2
  rcases cases' hx1 with ⟨e1, e⟩ | ⟨n1, hx1⟩ <;> rcases cases' hx2 with ⟨e2, e'⟩ | ⟨n2, hx2⟩
  ·rw [e1, e2]
  ·cases e; have := h.blk _ _ _ _ hx2; omega
  ·cases e'; have := h.blk _ _ _ _ hx1; omega
  ·rw [(ha b1 _ hx1).2] at ho1; rw [(ha b2 _ hx2).2] at ho2
   exact h.inj _ _ _ _ _ _ _ _ _ hx1 hx2 ho1 ho2 hr1 hr2
end
section
variable {ds : List Deferred} {P : Program} {w0 : World} {B : Nat} {ρ : aV} {H : AH} {w : World} {G : List Nat} {call : aR}
def gl (P : Program) (ρ : aV) (w : World) (r : Result Next) (v : Value) : Prop := ∃ v', r = .ok (.value v') w ∧ VRel P ρ v v'
theorem gl.mk {r : Result Next} {v v' : Value} (hr : r = .ok (.value v') w) (hv : VRel P ρ v v') : gl P ρ w r v := ⟨v', hr, hv⟩
theorem J9 (hR : Rel P w0 B ρ H w) {b : Builtin} {ts : Array TypeId} {t : TypeId} {cs : Array Bool} {xs : List Value} {ys : Array Value} (hl : LRel P ρ xs ys.toList) (hb : b = .len ∨ b = .max ∨ b = .min) {v : Value} {H' : AH} (h : bY P b ts xs H = some (v, H')) :
 gl P ρ w ((builtin b ts t cs ys).run P w) v := by
 unfold bY at h
 split at h
 ·-- len
  rename_i x
  obtain ⟨x', rfl, hx⟩ := US hl rfl
  cases hts : ts[0]? with
  | none => simp [hts] at h
  | some t0 =>
   simp only [hts, aB] at h
   cases hu : P.underlying t0 with
   | none => simp [hu] at h
   | some d =>
    cases d <;> simp only [hu] at h <;> try (cases h; done)
    case string =>
     cases x <;> simp only at h <;> try (cases h; done)
     obtain ⟨y, hy, e⟩ := au.1 h;cases e;simp [sH] at hy;subst hy;rw [hx.string_inv];exact gl.mk (by simp [builtin, Builtin.len_, hts, run_underlying hu, goInt]) (.lit rfl)
    case slice el =>
     cases x <;> simp only at h <;> try (cases h; done)
     obtain ⟨y, hy, e⟩ := au.1 h;cases e;simp [sH] at hy;subst hy;obtain ⟨a', k', rfl, _⟩ := hx.anyslice_inv;exact gl.mk (by simp [builtin, Builtin.len_, hts, run_underlying hu, goInt]) (.lit rfl)
    case map k el =>
     obtain ⟨y, hy, e⟩ := au.1 h;cases e
     cases x <;> simp only [nO] at hy <;> try (cases hy; done)
     rename_i r
     cases r with
     | none =>
      simp only at hy;cases hy;rw [hx.nilmap_inv];exact gl.mk (by simp [builtin, Builtin.len_, hts, run_underlying hu, goInt]) (.lit rfl)
     | some b =>
      simp only at hy
      split at hy
      ·rename_i es c hg
       cases hy;obtain ⟨c', d, sz, hb, rfl⟩ := hx.map_inv;obtain ⟨es', hw, hrel⟩ := hR.map hb hg
       have hsz : es'.size = es.length := by simpa using hrel.1
       exact gl.mk (by simp [builtin, Builtin.len_, hts, run_underlying hu, ez hw, goInt, hsz]) (.lit rfl)
      ·cases hy
 ·obtain ⟨y, hy, e⟩ := au.1 h
  cases e;obtain ⟨hr, hv⟩ := UP (w := w) hl hy ts t;exact gl.mk (by simp only [builtin]; exact aI hr) (.lit hv)
 ·obtain ⟨y, hy, e⟩ := au.1 h
  cases e;obtain ⟨hr, hv⟩ := UQ (w := w) hl hy ts t;exact gl.mk (by simp only [builtin]; exact aI hr) (.lit hv)
 ·rcases hb with hb | hb | hb <;> cases hb
 ·rcases hb with hb | hb | hb <;> cases hb
 ·cases h
theorem Ow {call : aR} {A : List Value} {a : Act} (hA : bf ds P ρ A a) (hG : GlobRel ρ G) (hR : Rel P w0 B ρ H w) {o : Oper} (hok : o.op.operands.toList.all (Hx G) = true)
 (hk : gG o.op = 0 ∨ gG o.op = 2) {v : Value} {H' : AH} (h : dj P call (cf A) o H = some (v, H')) : gl P ρ w ((execOp a.eval o).run P w) v := by
 obtain ⟨dst, op, type, pos, after, guard⟩ := o;simp only at hok hk;have ev : ∀ x, x ∈ op.operands.toList → VRel P ρ (cf A x) (a.eval x) := fun x hx => ta hA hG (List.all_eq_true.1 hok x hx)
 cases op <;> try (simp [gG] at hk; done)
 all_goals simp only [dj] at h
 all_goals simp only [execOp]
 case move x => cases h; exact gl.mk rfl (ev x (by simp [Op.operands]))
 case assign x => cases h; exact gl.mk rfl (ev x (by simp [Op.operands]))
 case pick c x y =>
  obtain ⟨z, hz, e⟩ := au.1 h;cases e;have hc := ev c (by simp [Op.operands])
  cases hcv : cf A c <;> rw [hcv] at hz <;> simp only [aE] at hz <;> try (cases hz; done)
  rename_i t
  cases hz;rw [hcv] at hc;rw [hc.bool_inv];cases t
  ·exact gl.mk (by simp [asBool]) (ev y (by simp [Op.operands]))
  ·exact gl.mk (by simp [asBool]) (ev x (by simp [Op.operands]))
 case build t parts =>
  have hx : ∀ x ∈ parts.toList.map (·.2), VRel P ρ (cf A x) (a.eval x) := fun x hx => ev x (by simpa [Op.operands] using hx)
  cases hu : P.underlying t with
  | none => simp [hu] at h
  | some d =>
   cases d <;> simp only [hu] at h <;> try (cases h; done)
   case struct fs =>
    obtain ⟨z, hz, h⟩ := ai.1 h;obtain ⟨ps, hps, h⟩ := ai.1 h;obtain ⟨cs, hcs, e⟩ := au.1 h;cases e;obtain ⟨v', hr, hv⟩ := I4 (w := w) hx hz hu hps hcs;exact gl.mk (aI hr) hv
   case array n el =>
    obtain ⟨z, hz, h⟩ := ai.1 h;obtain ⟨e, he, h⟩ := ai.1 h;obtain ⟨cs, hcs, e⟩ := au.1 h;cases e;obtain ⟨v', hr, hv⟩ := zg (w := w) hx hz hu he hcs;exact gl.mk (aI hr) hv
 case load t x =>
  have hx := ev x (by simp [Op.operands]);obtain ⟨g, hg, h⟩ := ai.1 h
  cases g with
  | none =>
   obtain ⟨y, hy, e⟩ := au.1 h;cases e;obtain ⟨a', y', ha, hr, hv⟩ := afW hR hy hx;exact gl.mk (aI (by simp [Instr.loadAt, ha, Instr.sureAddr, loadVar, qu hg]; simpa using hr)) hv
  | some n =>
   obtain ⟨y, hy, e⟩ := au.1 h;cases e;obtain ⟨a', ys, ha, hr, hv⟩ := Jz hR hy hx;obtain ⟨hag, hsz⟩ := qw hg w;exact gl.mk (aI (by simp [Instr.loadAt, ha, Instr.sureAddr, loadVar, hag, cG hsz, hr])) hv
 case nilCheck x =>
  have hx := ev x (by simp [Op.operands]);obtain ⟨y, hy, e⟩ := au.1 h;cases e;obtain ⟨rfl, hr⟩ := Ol hy hx
  have e2 : (RN (a.eval x)).run P w = .ok (.value (a.eval x)) w := by rw [hr]; rfl
  exact gl.mk e2 hx
 case binOp op t x y yt =>
  obtain ⟨z, hz, e⟩ := au.1 h;cases e;obtain ⟨hr, hl⟩ := Oj hz (ev x (by simp [Op.operands])) (ev y (by simp [Op.operands])) x y w;exact gl.mk (aI hr) (.lit hl)
 case unOp op t x =>
  obtain ⟨z, hz, e⟩ := au.1 h;cases e;obtain ⟨hr, hl⟩ := UV hz (ev x (by simp [Op.operands])) w;exact gl.mk (aI hr) (.lit hl)
 case convert src dst x =>
  cases hu : P.underlying src with
  | none => simp [hu] at h
  | some d =>
   simp only [hu] at h;obtain ⟨z, hz, e⟩ := au.1 h;cases e;have hx := ev x (by simp [Op.operands])
   cases hk : k9 P dst with
   | none => simp [hk, aO] at hz
   | some k =>
    cases hxv : cf A x <;> rw [hk, hxv] at hz <;> simp only [aO] at hz <;> try (cases hz; done)
    rename_i k0 n
    cases hz;rw [hxv] at hx;rw [hx.int_inv];have hud := Jw hk
    have hkd : P.intKind dst = k := by simp [Program.intKind, hud]
    have hr := run_convert_int (P := P) w src dst k0 n (by simp [hu]) (by rw [hkd]; exact hud);rw [hkd] at hr;exact gl.mk (aI hr) (.lit rfl)
 case makeFunc fn first captured =>
  cases h;refine gl.mk (aI (by simp [Instr.makeFunc]; rfl)) ?_;refine .func (by simp) (fun i x y hx hy => ?_) (by simp) (fun i x y hx hy => ?_)
  ·simp only [Array.getElem?_map, au] at hx hy
   obtain ⟨p, hp, rfl⟩ := hx;obtain ⟨q, hq, rfl⟩ := hy;rw [hp] at hq; cases hq;exact ev p (by simp only [Op.operands, Array.toList_append, List.mem_append]; exact .inl (by simpa using Array.mem_of_getElem? hp))
  ·simp only [Array.getElem?_map, au] at hx hy
   obtain ⟨p, hp, rfl⟩ := hx;obtain ⟨q, hq, rfl⟩ := hy;rw [hp] at hq; cases hq;exact ev p (by simp only [Op.operands, Array.toList_append, List.mem_append]; exact .inr (by simpa using Array.mem_of_getElem? hp))
 case slice t x lo hi mx =>
  cases mx with
  | none =>
   simp only at h;obtain ⟨el, hel, h⟩ := ai.1 h;obtain ⟨e, he, h⟩ := ai.1 h;obtain ⟨z, hz, e2⟩ := au.1 h;cases e2;have hx := ev x (by simp [Op.operands]);obtain ⟨v', hr, hv⟩ := JQ (w := w) (lo' := lo.map a.eval) (hi' := hi.map a.eval) (ep hel) he hz hx
    (by cases lo with
        | none => exact .inl ⟨rfl, rfl⟩
        | some l => exact .inr ⟨_, _, rfl, rfl, ev l (by simp [Op.operands])⟩)
    (by cases hi with
        | none => exact .inl ⟨rfl, rfl⟩
        | some l => exact .inr ⟨_, _, rfl, rfl, ev l (by simp [Op.operands])⟩)
   exact gl.mk (aI hr) hv
  | some mx =>
   cases lo with
   | some lo => cases hi <;> simp at h
   | none =>
    cases hi with
    | none => simp at h
    | some hi =>
     simp only at h;obtain ⟨el, hel, h⟩ := ai.1 h;obtain ⟨e, he, h⟩ := ai.1 h;obtain ⟨z, hz, e2⟩ := au.1 h;cases e2;obtain ⟨v', hr, hv⟩ := HT (w := w) (ep hel) he hz (ev x (by simp [Op.operands])) (ev hi (by simp [Op.operands])) (ev mx (by simp [Op.operands]));exact gl.mk (aI hr) hv
 case fieldAddr s x f =>
  obtain ⟨fd, hf, h⟩ := ai.1 h;obtain ⟨n, hn, h⟩ := ai.1 h
  split at h
  ·cases h
  ·rename_i h0
   obtain ⟨z, hz, e2⟩ := au.1 h;cases e2;obtain ⟨fs, hu, hfs⟩ := qH hf;obtain ⟨v', hr, hv⟩ := UG (w := w) hu hfs hn h0 rfl hz (ev x (by simp [Op.operands]));exact gl.mk (aI hr) hv
 case field s x f =>
  obtain ⟨fd, hf, h⟩ := ai.1 h;obtain ⟨n, hn, h⟩ := ai.1 h;obtain ⟨z, hz, e2⟩ := au.1 h;cases e2;obtain ⟨fs, hu, hfs⟩ := qH hf;have hx := ev x (by simp [Op.operands])
  cases hxv : cf A x <;> rw [hxv] at hz <;> try (simp [mF] at hz; done)
  rename_i xs
  rw [hxv] at hx;obtain ⟨ys, v', hys, hr, hv⟩ := HB (w := w) hn hz hx;refine gl.mk (aI ?_) hv;simp [Instr.field, run_underlying hu, hfs, hys, asAgg, hr]
 case indexAddr t x i =>
  cases hu : P.underlying t with
  | none => simp [hu] at h
  | some d =>
   cases d <;> simp only [hu] at h <;> try (cases h; done)
   case slice el =>
    obtain ⟨e, he, h⟩ := ai.1 h;obtain ⟨z, hz, e2⟩ := au.1 h;cases e2;obtain ⟨v', hr, hv⟩ := UK (w := w) hu he hz (ev x (by simp [Op.operands])) (ev i (by simp [Op.operands]));exact gl.mk (aI hr) hv
   case array n el =>
    obtain ⟨e, he, h⟩ := ai.1 h;obtain ⟨z, hz, e2⟩ := au.1 h;cases e2;obtain ⟨v', hr, hv⟩ := N8 (w := w) hu he hz (ev x (by simp [Op.operands])) (ev i (by simp [Op.operands]));exact gl.mk (aI hr) hv
 case index t x i =>
  cases hu : P.underlying t with
  | none => simp [hu] at h
  | some d =>
   cases d <;> simp only [hu] at h <;> try (cases h; done)
   case string =>
    obtain ⟨z, hz, e2⟩ := au.1 h;cases e2;obtain ⟨v', hr, hv⟩ := Hh (w := w) hu hz (ev x (by simp [Op.operands])) (ev i (by simp [Op.operands]));exact gl.mk (aI hr) hv
   case array n el =>
    obtain ⟨e, he, h⟩ := ai.1 h;obtain ⟨nn, hnn, h⟩ := ai.1 h;obtain ⟨z, hz, e2⟩ := au.1 h;cases e2;obtain ⟨v', hr, hv⟩ := Hi (w := w) hu he hnn hz (ev x (by simp [Op.operands])) (ev i (by simp [Op.operands]));exact gl.mk (aI hr) hv
 case lookup t m k ok =>
  obtain ⟨⟨kt, et⟩, hkt, h⟩ := ai.1 h;obtain ⟨cl, hcl, h⟩ := ai.1 h;obtain ⟨z, hz, h⟩ := ai.1 h;obtain ⟨y, hy, e2⟩ := au.1 h;cases e2;obtain ⟨v', hr, hv⟩ := Hl hR hkt hcl hz hy (ev m (by simp [Op.operands])) (ev k (by simp [Op.operands]));exact gl.mk (aI hr) hv
 case extract t i =>
  obtain ⟨z, hz, e2⟩ := au.1 h;cases e2;have hx := ev t (by simp [Op.operands])
  cases hxv : cf A t <;> rw [hxv] at hz <;> simp only [ar] at hz <;> try (cases hz; done)
  rename_i vs
  rw [hxv] at hx;obtain ⟨ys, hys, hs, he⟩ := hx.tuple_inv;have hi : i < vs.size := (Array.getElem?_eq_some_iff.1 hz).1
  have hi' : i < ys.size := by omega
  exact gl.mk (aI (by simp [Instr.extract, hys, hi']; rfl)) (he i _ _ hz (by simp [hi']))
 case call c =>
  obtain ⟨callee, args, ats⟩ := c
  cases callee with
  | value f => simp [gG] at hk
  | invoke r m => simp at h
  | builtin b =>
   simp only at h;have hl : LRel P ρ (args.toList.map (cf A)) (args.map a.eval).toList := wl (fun x hx => ev x (by simp only [Op.operands, Call.operands, Array.toList_append, List.mem_append]; exact .inr hx));simp only [resolve, Sem.run_bind, Sem.run_pure, Result.andThen_ok, invoke];refine J9 hR hl ?_ h
   cases b <;> first | (simp [gG] at hk; done) | simp
def eX (P : Program) (o : Oper) (ev : Operand → Value) (w : World) (R : Value → World → Prop) : Prop :=
 match (execOp ev o).run P w with
 | .ok (.value v) w' => R v w'
 | .ok .skip w' => R undef w'
 | .ok (.enter f args) w' => Calls P f args w' fun e w'' => ∃ v, e = .returned v ∧ R v w''
 | _ => False
theorem eX.wp {o : Oper} {a : Act} {R : Value → World → Prop} {next : Act → World → Prop} {Q : Exit → Act → World → Prop} (h : eX P o a.eval w R) (hn : ∀ v w', R v w' → next (a.put o.dst v) w') : o.wp P a w next Q := by
 unfold eX at h;unfold Oper.wp
 split at h
 ·rename_i v w' hr; rw [hr, Oper.upon_value]; exact hn _ _ h
 ·rename_i w' hr; rw [hr, Oper.upon_skip]; exact hn _ _ h
 ·rename_i f args w' hr
  rw [hr, Oper.upon_enter];refine h.mono ?_
  rintro e w'' ⟨v, rfl, hR⟩
  exact hn _ _ hR
 ·exact h.elim
theorem eX.mono {o : Oper} {ev : Operand → Value} {R R' : Value → World → Prop} (h : eX P o ev w R) (hm : ∀ v w', R v w' → R' v w') : eX P o ev w R' := by
 unfold eX at h ⊢
 split at h
 ·exact hm _ _ h
 ·exact hm _ _ h
 ·refine Calls.mono h ?_
  rintro e w'' ⟨v, rfl, hR⟩
  exact ⟨v, rfl, hm _ _ hR⟩
 ·exact h.elim
theorem eX.some {o : Oper} {ev : Operand → Value} {R : Value → World → Prop} (h : eX P o ev w R) : ∃ v w', R v w' := by
 unfold eX at h
 split at h
 ·exact ⟨_, _, h⟩
 ·exact ⟨_, _, h⟩
 ·obtain ⟨e, w', fr, ⟨v, _, hR⟩, _⟩ := h []
  exact ⟨v, w', hR⟩
 ·exact h.elim
theorem eX.congr {o : Oper} {ev ev' : Operand → Value} {R : Value → World → Prop} (h : eX P o ev w R) (e : execOp ev o = execOp ev' o) : eX P o ev' w R := by
 unfold eX at h ⊢
 rwa [← e]
theorem Hy (hcall : ox P G call) {A : List Value} {a : Act} (hA : bf ds P ρ A a) (hG : GlobRel ρ G) (hR : Rel P w0 B ρ H w) {o : Oper} (hok : o.op.operands.toList.all (Hx G) = true)
 {v : Value} {H' : AH} (h : dj P call (cf A) o H = some (v, H')) : eX P o a.eval w fun v' w' => ∃ ρ', VRel P ρ' v v' ∧ eE ρ H w ρ' H' w' ∧ Rel P w0 B ρ' H' w' := by
 by_cases hc : ∃ c f, o.op = .call c ∧ c.callee = .value f
 ·obtain ⟨c, f, ho, hcf⟩ := hc
  obtain ⟨dst, op, type, pos, after, guard⟩ := o;simp only at ho;subst ho;obtain ⟨callee, args, ats⟩ := c;simp only at hcf;subst hcf;have ev : ∀ x, x ∈ (Op.call { callee := .value f, args := args, argTypes := ats }).operands.toList → VRel P ρ (cf A x) (a.eval x) := fun x hx => ta hA hG (List.all_eq_true.1 hok x hx);simp only [dj] at h;obtain ⟨⟨g, xs⟩, hfa, h⟩ := ai.1 h;simp only at h;have hl : LRel P ρ (args.toList.map (cf A)) (args.map a.eval).toList := wl (fun x hx => ev x (by simp only [Op.operands, Call.operands, Array.toList_append, List.mem_append]; exact .inr hx));obtain ⟨first, captured, hf, hx⟩ := yf hfa (ev f (by simp [Op.operands, Call.operands])) hl;obtain ⟨⟨fn, hfn, hbody, hname⟩, hcalls⟩ := hcall g xs H v H' h;have hcl := hcalls w0 B ρ w _ hR hG hx;have hrun : (execOp a.eval { dst := dst, op := .call { callee := .value f, args := args, argTypes := ats }, type := type, pos := pos, after := after, guard := guard }).run P w =
   .ok (.enter g (first ++ args.map a.eval ++ captured)) w := by
   have hbn : ¬ (fn.body = none) := by intro hb; rw [hb] at hbody; cases hbody
   simp [execOp, resolve, hf, Deferred.ofValue, invoke, callFunc, hfn, hname, hbn]
  unfold eX;rw [hrun]
  have e : (first.toList ++ (args.map a.eval).toList ++ captured.toList).toArray = first ++ args.map a.eval ++ captured := by
   apply Array.ext'; simp
  rw [e] at hcl;refine hcl.mono ?_
  rintro e w' ⟨v', ρ', rfl, hv, hE, hR'⟩
  exact ⟨v', rfl, ρ', hv, hE, hR'⟩
 ·obtain ⟨v', w', ρ', hr | ⟨hr, rfl⟩, hv, he, hR'⟩ := agF hA hG hR hok (fun c f ho hcf => hc ⟨c, f, ho, hcf⟩) h
  ·unfold eX; rw [hr]; exact ⟨ρ', hv, he, hR'⟩
  ·unfold eX; rw [hr]; exact ⟨ρ', hv, he, hR'⟩
def WF (P : Program) (m : Nat) (v : Value) : Prop := ∃ ρ1 v1, (∀ b x, ρ1 b = some x → b < m) ∧ VRel P ρ1 v v1
theorem WF.under {m : Nat} {v v' : Value} (h : WF P m v) (k : VRel P ρ v v') : VRel P (ρ.below m) v v' := by
 obtain ⟨ρ1, v1, hm, h⟩ := h
 have up : ∀ {b x y}, ρ1 b = some x → ρ b = some y → ρ.below m b = some y := fun h1 h2 => by rw [aV.below_lt (hm _ _ h1)]; exact h2
 induction h generalizing v' with
 | lit hl =>
  cases k with
  | lit h => exact .lit h
  | agg hs he => simp [cO] at hl
  | tuple hs he => simp [cO] at hl
  | iface h => simp [cO] at hl
  | func _ _ _ _ => simp [cO] at hl
  | ptr _ => simp [cO] at hl
  | slice _ _ _ _ => simp [cO] at hl
  | slice0 _ => simp [cO] at hl
  | empty => simp [cO] at hl
  | map _ => simp [cO] at hl
 | ptr h => cases k with
  | lit h => simp [cO] at h
  | ptr h2 => exact .ptr (up h h2)
 | slice h hk hn he => cases k with
  | lit h => simp [cO] at h
  | slice h2 a b c => exact .slice (up h h2) a b c
  | slice0 h2 => exact .slice0 (up h h2)
  | empty => exact .empty
 | slice0 h => cases k with
  | lit h => simp [cO] at h
  | slice h2 a b c => exact .slice (up h h2) a b c
  | slice0 h2 => exact .slice0 (up h h2)
  | empty => exact .empty
 | empty => cases k with
  | lit h => simp [cO] at h
  | slice h2 a b c => omega
  | slice0 h2 => exact .empty
  | empty => exact .empty
 | map h => cases k with
  | lit h => simp [cO] at h
  | map h2 => exact .map (up h h2)
 | func hf _ hc _ ih1 ih2 => cases k with
  | lit h => simp [cO] at h
  | func hf' h1 hc' h2 =>
   refine .func hf' (fun i x y hx hy => ?_) hc' (fun i x y hx hy => ?_)
   ·have hi := (Array.getElem?_eq_some_iff.1 hx).1
    exact ih1 i x _ hx (Array.getElem?_eq_getElem (by omega)) (h1 i x y hx hy)
   ·have hi := (Array.getElem?_eq_some_iff.1 hx).1
    exact ih2 i x _ hx (Array.getElem?_eq_getElem (by omega)) (h2 i x y hx hy)
 | iface _ ih => cases k with
  | lit h => simp [cO] at h
  | iface h => exact .iface (ih h)
 | agg hs _ ih => cases k with
  | lit h => simp [cO] at h
  | agg hs' h1 =>
   refine .agg hs' (fun i x y hx hy => ?_);have hi := (Array.getElem?_eq_some_iff.1 hx).1;exact ih i x _ hx (Array.getElem?_eq_getElem (by omega)) (h1 i x y hx hy)
 | tuple hs _ ih => cases k with
  | lit h => simp [cO] at h
  | tuple hs' h1 =>
   refine .tuple hs' (fun i x y hx hy => ?_);have hi := (Array.getElem?_eq_some_iff.1 hx).1;exact ih i x _ hx (Array.getElem?_eq_getElem (by omega)) (h1 i x y hx hy)
def t5 (S : Nat → Bool) (A : List Value) : List Value := A.mapIdx fun i v => if S i then v else undef
theorem wm (S : Nat → Bool) (A : List Value) (t : Nat) : (t5 S A)[t]? = (A[t]?).map fun v => if S t then v else undef := by
 simp [t5]
theorem af6 {S : Nat → Bool} {A : List Value} {a : Act} {ρ' : aV} (hA : bf ds P ρ A a) (hS : ∀ t x y, S t = true → A[t]? = some x → VRel P ρ x y → VRel P ρ' x y) :
 bf [] P ρ' (t5 S A) { tmps := (t5 S a.tmps.toList).toArray, defers := [] } := by
 refine ⟨⟨by simp [t5, hA.tmps.1], fun t x y hx hy => ?_⟩, rfl⟩;rw [wm] at hx;rw [List.toList_toArray, wm] at hy;obtain ⟨x0, hx0, rfl⟩ := au.1 hx;obtain ⟨y0, hy0, rfl⟩ := au.1 hy
 by_cases h : S t = true
 ·rw [if_pos h, if_pos h]; exact hS t x0 y0 h hx0 (hA.tmps.2 t x0 y0 hx0 hy0)
 ·rw [if_neg h, if_neg h]; exact VRel.undef
def xT (op : Op) (t : Nat) : Bool := op.operands.toList.any fun x => match x with | .tmp u => u == t | _ => false
theorem OF {op : Op} {t : Nat} (h : Operand.tmp t ∈ op.operands.toList) : xT op t = true := by
 unfold xT;rw [List.any_eq_true];exact ⟨_, h, by simp⟩
theorem Ms {op : Op} {t : Nat} (h : xT op t = true) : Operand.tmp t ∈ op.operands.toList := by
 unfold xT at h;obtain ⟨x, hx, h⟩ := List.any_eq_true.1 h
 cases x <;> simp at h
 subst h; exact hx
theorem UO {op : Op} {A : List Value} {x : Operand} (hx : x ∈ op.operands.toList) : cf (t5 (xT op) A) x = cf A x := by
 cases x with
 | tmp t =>
  simp only [cf, wm, OF hx, if_true]
  cases A[t]? <;> rfl
 | _ => rfl
theorem JA {op : Op} {a : Act} {d : List Deferred} {x : Operand} (hx : x ∈ op.operands.toList) : ({ tmps := (t5 (xT op) a.tmps.toList).toArray, defers := d } : Act).eval x = a.eval x := by
 cases x with
 | tmp t =>
  simp only [Act.eval, Array.getD_eq_getD_getElem?, List.getElem?_toArray, wm, OF hx, if_true, Array.getElem?_toList]
  cases a.tmps[t]? <;> rfl
 | _ => rfl
end
section
variable {ds : List Deferred} {P : Program} {w0 : World} {B : Nat} {ρ : aV} {H : AH} {w : World} {G : List Nat} {call : aR} {ops : Array Oper}
theorem Rel.pushU (h : Rel P w0 B ρ H w) (c : AObj) : Rel P w0 B ρ (H.push c) w :=
 h.agree fun b x hx => ⟨by rw [AH.size_push]; have := h.dom b x hx; omega, AH.get_push_old (h.dom b x hx)⟩
theorem eE.pushU {ρ0 : aV} {H0 : AH} {wS : World} (h : eE ρ0 H0 wS ρ H w) (c : AObj) : eE ρ0 H0 wS ρ (H.push c) w where
 le := h.le
 fresh := fun b x hx hn => by have := h.fresh b x hx hn; rw [AH.size_push]; omega
 hsize := by rw [AH.size_push]; have := h.hsize; omega
 wsize := h.wsize
 keepA := fun b hb hn => by rw [AH.get_push_old (by have := h.hsize; omega)]; exact h.keepA b hb hn
 keepRo := fun b o ho hr => by have := h.keepRo b o ho hr; rw [AH.get_push_old (AH.lt_of_get this)]; exact this
 keepC := h.keepC
 newC := h.newC
theorem dh {b b1 : Nat} {x y : Nat × Nat × Nat} (hx : ρ.upd b y b1 = some x) : (b1 = b ∧ x = y) ∨ (b1 ≠ b ∧ ρ b1 = some x) := by
 by_cases e : b1 = b
 ·subst e; rw [aV.upd_same] at hx; exact .inl ⟨rfl, (kT hx).symm⟩
 ·rw [aV.upd_ne e] at hx; exact .inr ⟨e, hx⟩
theorem Rel.none_size (h : Rel P w0 B ρ H w) : ρ H.size = none := by
 cases hn : ρ H.size with
 | none => rfl
 | some x => have := h.dom _ _ hn; omega
theorem Rel.pushM (h : Rel P w0 B ρ H w) {o : AObj} {c sz : Nat} (hrw : o.rw = true) (hB : B ≤ c) (hc : c < w.heap.size) (ho : sO P ρ 0 sz o w.heap[c]?) (hd : ∀ b d sz1, ρ b = some (c, d, sz1) → False) :
 Rel P w0 B (ρ.upd H.size (c, 0, sz)) (H.push o) w := by
 have hle := aV.upd_le (x := (c, 0, sz)) h.none_size;have old : ∀ {b x}, ρ b = some x → (H.push o).get b = H.get b := fun hx => AH.get_push_old (h.dom _ _ hx);refine ⟨h.base, h.below, ?_, ?_, ?_, ?_, ?_, ?_⟩
 ·intro b x hx
  rw [AH.size_push]
  rcases dh hx with ⟨rfl, _⟩ | ⟨_, hx⟩
  ·omega
  ·have := h.dom b x hx; omega
 ·intro b c1 d sz1 hx
  rcases dh hx with ⟨rfl, e⟩ | ⟨_, hx⟩
  ·cases e; exact hc
  ·exact h.blk b c1 d sz1 hx
 ·intro b c1 d sz1 o1 hx ho1
  rcases dh hx with ⟨rfl, e⟩ | ⟨_, hx⟩
  ·cases e; rw [AH.get_push_new] at ho1; cases ho1; exact ho.mono hle
  ·rw [old hx] at ho1; exact (h.obj b c1 d sz1 o1 hx ho1).mono hle
 ·intro b c1 d sz1 o1 hx ho1 hr1
  rcases dh hx with ⟨rfl, e⟩ | ⟨_, hx⟩
  ·cases e; exact hB
  ·rw [old hx] at ho1; exact h.own b c1 d sz1 o1 hx ho1 hr1
 ·intro b c1 d sz1 cs hx ho1
  rcases dh hx with ⟨rfl, e⟩ | ⟨_, hx⟩
  ·rw [AH.get_push_new] at ho1; cases ho1; simp [AObj.rw] at hrw
  ·rw [old hx] at ho1; exact h.ro b c1 d sz1 cs hx ho1
 ·intro b1 b2 c1 d1 d2 sz1 sz2 o1 o2 hx1 hx2 ho1 ho2 hr1 hr2
  rcases dh hx1 with ⟨e1, e⟩ | ⟨n1, hx1⟩ <;> rcases dh hx2 with ⟨e2, e'⟩ | ⟨n2, hx2⟩
  ·rw [e1, e2]
  ·cases e; exact (hd _ _ _ hx2).elim
  ·cases e'; exact (hd _ _ _ hx1).elim
  ·rw [old hx1] at ho1; rw [old hx2] at ho2
   exact h.inj _ _ _ _ _ _ _ _ _ hx1 hx2 ho1 ho2 hr1 hr2
theorem eE.updN {ρ0 : aV} {H0 : AH} {wS : World} (h : eE ρ0 H0 wS ρ H w) {b c d sz : Nat} (hb : ρ b = none) (h0 : H0.size ≤ b) (h1 : b < H.size) (hc : wS.heap.size ≤ c) : eE ρ0 H0 wS (ρ.upd b (c, d, sz)) H w where
 le := fun b1 x hx => aV.upd_le hb b1 x (h.le b1 x hx)
 fresh := fun b1 x hx hn => by
  rcases dh hx with ⟨rfl, _⟩ | ⟨_, hx⟩
  ·exact ⟨h0, h1⟩
  ·exact h.fresh b1 x hx hn
 hsize := h.hsize
 wsize := h.wsize
 keepA := h.keepA
 keepRo := h.keepRo
 keepC := h.keepC
 newC := fun b1 c1 d1 sz1 hx hn => by
  rcases dh hx with ⟨rfl, e⟩ | ⟨_, hx⟩
  ·cases e; exact .inl hc
  ·exact h.newC b1 c1 d1 sz1 hx hn
theorem Rel.allocW (h : Rel P w0 B ρ H w) (ob : Obj) : Rel P w0 B ρ H (w.alloc ob) where
 base := h.base
 below := h.below.alloc h.size ob
 dom := h.dom
 blk := fun b c d sz hx => by rw [World.size_alloc]; have := h.blk b c d sz hx; omega
 obj := fun b c d sz o hx ho => by rw [Below.heap_alloc w ob c (h.blk b c d sz hx)]; exact h.obj b c d sz o hx ho
 own := h.own
 ro := h.ro
 inj := h.inj
theorem eE.allocW {ρ0 : aV} {H0 : AH} {wS : World} (h : eE ρ0 H0 wS ρ H w) (ob : Obj) : eE ρ0 H0 wS ρ H (w.alloc ob) :=
 { h with
  wsize := by rw [World.size_alloc]; have := h.wsize; omega
  keepC := fun c hc hf => by rw [Below.heap_alloc w ob c (by have := h.wsize; omega)]; exact h.keepC c hc hf }
theorem Ph {m : Nat} {x : Nat × Nat × Nat} (h : ρ m = some x) : ρ.below (m + 1) = (ρ.below m).upd m x := by
 funext b
 unfold aV.below aV.upd
 by_cases e : b = m
 ·subst e; simp [h]
 ·by_cases hb : b < m
  ·rw [if_pos (by omega), if_neg e]; simp [hb]
  ·rw [if_neg (by omega), if_neg e]; simp [hb]
theorem DW {m : Nat} (h : ρ m = none) : ρ.below (m + 1) = ρ.below m := by
 funext b
 unfold aV.below
 by_cases e : b = m
 ·subst e; simp [h]
 ·by_cases hb : b < m
  ·rw [if_pos (by omega), if_pos hb]
  ·rw [if_neg (by omega), if_neg hb]
theorem ze {m : Nat} : ∀ b x, ρ.below m b = some x → ρ b = some x := fun _ _ h => (aV.below_some h).2
theorem Pg {m m' : Nat} (hm : m ≤ m') : ∀ b x, ρ.below m b = some x → ρ.below m' b = some x := fun b x h => by
 obtain ⟨h1, h2⟩ := aV.below_some h;rw [aV.below_lt (by omega)]; exact h2
def pad (N : Nat) (H : AH) : AH := ⟨(List.range N).map fun b => (H.get b).getD .dead⟩
theorem agJ (N : Nat) (H : AH) : (pad N H).size = N := by simp [pad, AH.size]
theorem UW {N : Nat} {H : AH} {b : Nat} (h : b < N) : (pad N H).get b = some ((H.get b).getD .dead) := by
 unfold pad;simp [AH.get, h]
theorem UX {N : Nat} {H : AH} {b : Nat} (h : b < H.size) (hN : H.size ≤ N) : (pad N H).get b = H.get b := by
 rw [UW (by omega)]
 cases hg : H.get b with
 | some o => rfl
 | none =>
  unfold AH.get at hg;unfold AH.size at h;rw [List.getElem?_eq_none_iff] at hg;omega
theorem Rel.pad {N : Nat} (h : Rel P w0 B (ρ.below H.size) H w) (hN : H.size ≤ N) (hfull : ∀ b x, ρ b = some x → b < N) (hblk : ∀ b c d sz, ρ b = some (c, d, sz) → c < w.heap.size) : Rel P w0 B ρ (Gst.pad N H) w := by
 have key : ∀ {b x o}, ρ b = some x → (Gst.pad N H).get b = some o → (b < H.size ∧ ρ.below H.size b = some x ∧ H.get b = some o) ∨ o = .dead := by
  intro b x o hx ho
  by_cases hb : b < H.size
  ·rw [UX hb hN] at ho
   exact .inl ⟨hb, by rw [aV.below_lt hb]; exact hx, ho⟩
  ·rw [UW (hfull b x hx), AH.get_none (by omega)] at ho
   cases ho; exact .inr rfl
 refine ⟨h.base, h.below, fun b x hx => by rw [agJ]; exact hfull b x hx, hblk, ?_, ?_, ?_, ?_⟩
 ·intro b c d sz o hx ho
  rcases key hx ho with ⟨_, h1, h2⟩ | rfl
  ·exact (h.obj b c d sz o h1 h2).mono ze
  ·trivial
 ·intro b c d sz o hx ho hr
  rcases key hx ho with ⟨_, h1, h2⟩ | rfl
  ·exact h.own b c d sz o h1 h2 hr
  ·simp [AObj.rw] at hr
 ·intro b c d sz cs hx ho
  rcases key hx ho with ⟨_, h1, h2⟩ | e
  ·exact h.ro b c d sz cs h1 h2
  ·cases e
 ·intro b1 b2 c d1 d2 sz1 sz2 o1 o2 hx1 hx2 ho1 ho2 hr1 hr2
  rcases key hx1 ho1 with ⟨_, h1, h2⟩ | rfl
  ·rcases key hx2 ho2 with ⟨_, h3, h4⟩ | rfl
   ·exact h.inj _ _ _ _ _ _ _ _ _ h1 h3 h2 h4 hr1 hr2
   ·simp [AObj.rw] at hr2
  ·simp [AObj.rw] at hr1
structure Way (T : Tra P G call ops) (w0 : World) (B : Nat) (ρ0 : aV) (wS : World) : Prop where
 hcall : ox P G call
 mono : iA call
 glob : GlobRel ρ0 G
 rel : Rel P w0 B ρ0 (T.s 0).2 wS
 act : ∃ ds a, bf ds P ρ0 (T.s 0).1 a
variable {T : Tra P G call ops} {ρ0 : aV} {wS : World}
theorem al4 (W : Way T w0 B ρ0 wS) : ∀ i, i ≤ ops.size → ∃ ds ρ1 a1 w1, bf ds P ρ1 (T.s i).1 a1 ∧ GlobRel ρ1 G ∧ Rel P w0 B ρ1 (T.s i).2 w1 := by
 intro i
 induction i with
 | zero => intro _; obtain ⟨ds, a, ha⟩ := W.act; exact ⟨ds, ρ0, a, wS, ha, W.glob, W.rel⟩
 | succ i ih =>
  intro hi;obtain ⟨ds, ρ1, a1, w1, hA, hG, hR⟩ := ih (by omega)
  have ho : ops[i]? = some ops[i] := by simp [Nat.lt_of_succ_le hi]
  obtain ⟨hs, ⟨hok, h⟩ | ⟨_, hv, hH⟩⟩ := T.step i _ ho
  ·obtain ⟨v', w', ρ', hv, hE, hR'⟩ := (Hy W.hcall hA hG hR hok h.2).some
   exact ⟨ds, ρ', _, w', by rw [hs]; exact eW (hA.mono hE.le) _ hv, hG.mono hE.le, hR'⟩
  ·exact ⟨ds, ρ1, _, w1, by rw [hs, hv]; exact eW hA _ VRel.undef, hG, by rw [hH]; exact hR⟩
theorem alA (W : Way T w0 B ρ0 wS) {i t : Nat} {v : Value} (hi : i ≤ ops.size) (h : (T.s i).1[t]? = some v) : WF P (T.s i).2.size v := by
 obtain ⟨ds, ρ1, a1, w1, hA, _, hR⟩ := al4 W i hi;obtain ⟨y, _, hv⟩ := hA.tmps.get h;exact ⟨ρ1, y, hR.dom, hv⟩
theorem JF (op : Op) : gG op = 0 ∨ gG op = 1 ∨ gG op = 2 ∨ gG op = 3 := by
 unfold gG
 split <;> first | omega | (split <;> omega)
theorem JU (W : Way T w0 B ρ0 wS) {i : Nat} {o : Oper} (ho : ops[i]? = some o) (hk : gG o.op ≠ 3) : (T.s (i + 1)).2 = (T.s i).2 ∨ (gG o.op = 1 ∧ ∃ c : AObj, c.rw = true ∧ (T.s (i + 1)).2 = (T.s i).2.push c) := by
 have hi := (Array.getElem?_eq_some_iff.1 ho).1;obtain ⟨hs, ⟨hok, hw, h⟩ | ⟨_, hv, hH⟩⟩ := T.step i o ho
 ·rcases JF o.op with h0 | h1 | h2 | h3
  ·exact .inl (sQ h0 h).1
  ·obtain ⟨ds, ρ1, a1, w1, hA, hG, hR⟩ := al4 W i (by omega)
   obtain ⟨c, hc, e, _⟩ := FC hA hG hok h1 h;exact .inr ⟨h1, c, hc, e⟩
  ·rw [BN h2] at h
   obtain ⟨y, _, e⟩ := au.1 h;exact .inl (Prod.mk.inj e).2.symm
  ·exact absurd h3 hk
 ·exact .inl hH
theorem JP (W : Way T w0 B ρ0 wS) {i : Nat} (hi : i < ops.size) : (T.s i).2.size ≤ (T.s (i + 1)).2.size := by
 have ho : ops[i]? = some ops[i] := by simp [hi]
 obtain ⟨hs, ⟨_, _, h⟩ | ⟨_, _, hH⟩⟩ := T.step i _ ho
 ·exact M0 W.mono h
 ·rw [hH]; exact cr _
theorem bR (W : Way T w0 B ρ0 wS) {i j : Nat} (hij : i ≤ j) (hj : j ≤ ops.size) : (T.s i).2.size ≤ (T.s j).2.size := by
 induction j with
 | zero => rw [show i = 0 from by omega]; exact cr _
 | succ j ih =>
  by_cases e : i = j + 1
  ·rw [e]; exact cr _
  ·exact lS (ih (by omega) (by omega)) (JP W (by omega))
theorem jv (W : Way T w0 B ρ0 wS) {i j : Nat} (hij : i < j) (hj : j ≤ ops.size) {c : AObj} (hp : (T.s (i + 1)).2 = (T.s i).2.push c) : (T.s i).2.size < (T.s j).2.size := by
 have := bR W (Nat.succ_le_of_lt hij) hj;rw [hp, AH.size_push] at this;omega
theorem Ox (W : Way T w0 B ρ0 wS) {k1 k2 : Nat} (h12 : k1 ≤ k2) (hk : k2 ≤ ops.size) (hno : ∀ i o, ops[i]? = some o → k1 ≤ i → i < k2 → gG o.op ≠ 3) {b : Nat} (hb : b < (T.s k1).2.size) : (T.s k2).2.get b = (T.s k1).2.get b := by
 induction k2 with
 | zero => rw [show k1 = 0 from by omega]
 | succ k ih =>
  by_cases e : k1 = k + 1
  ·rw [e]
  ·have hlt : k < ops.size := by omega
   have ho : ops[k]? = some ops[k] := by simp [hlt]
   have h1 := ih (by omega) (by omega) (fun i o hi h1 h2 => hno i o hi h1 (by omega))
   rcases JU W ho (hno k _ ho (by omega) (by omega)) with h2 | ⟨_, c, _, h2⟩
   ·rw [h2, h1]
   ·rw [h2, AH.get_push_old (Nat.lt_of_lt_of_le hb (bR W (by omega) (by omega))), h1]
theorem alX (T : Tra P G call ops) {i j : Nat} {o : Oper} (ho : ops[j]? = some o) (h : fb (bu ops.toList) i j = true) : i < j := by
 have := ig (L := fun k => decide (k < j)) (fun k ok hk hL e he hb => by
  have := T.back k ok hk e he hb;simp only [decide_eq_true_eq] at hL ⊢
  omega) j o ho (fun e he hb => by simpa using T.back j o ho e he hb) i h
 simpa using this
structure oQ (ds : List Deferred) (T : Tra P G call ops) (w0 : World) (B : Nat) (ρ0 : aV) (wS : World) (L : Nat → Bool) (a : Act) (w : World) (ρ : aV) (t : Nat) : Prop where
 closed : ∀ k o, ops[k]? = some o → L k = true → ∀ e ∈ o.after, Region.binds .any e = true → L e.on = true
 act : bf ds P ρ (AD T L ops.size) a
 rel : Rel P w0 B (ρ.below (T.s t).2.size) (T.s t).2 w
 ext : eE ρ0 (T.s 0).2 wS (ρ.below (T.s t).2.size) (T.s t).2 w
 ht : t ≤ ops.size
 ht1 : t = 0 ∨ ∃ o, ops[t - 1]? = some o ∧ gG o.op = 3
 hE : ∀ i o, ops[i]? = some o → gG o.op = 3 → (L i = true ↔ i < t)
 full : ∀ b x, ρ b = some x → b < (T.s ops.size).2.size
 blk : ∀ b c d sz, ρ b = some (c, d, sz) → c < w.heap.size
 pend : ∀ b x, ρ b = some x → (T.s t).2.size ≤ b → ∃ i o c c' sz, ops[i]? = some o ∧ t ≤ i ∧ L i = true ∧ b = (T.s i).2.size ∧ (T.s (i + 1)).2 = (T.s i).2.push c ∧ x = (c', 0, sz) ∧ c.rw = true ∧ wS.heap.size ≤ c' ∧ sO P (ρ.below b) 0 sz c w.heap[c']?
 alone : ∀ b b' c d sz d' sz', ρ b = some (c, d, sz) → ρ b' = some (c, d', sz') → (T.s t).2.size ≤ b → b = b'
 later : ∀ i o c, ops[i]? = some o → gG o.op = 1 → (T.s (i + 1)).2 = (T.s i).2.push c → L i = false → ρ (T.s i).2.size = none ∧ (i < t → (T.s t).2.get (T.s i).2.size = (T.s (i + 1)).2.get (T.s i).2.size)
variable {L : Nat → Bool} {a : Act} {t : Nat}
theorem oQ.glob (W : Way T w0 B ρ0 wS) (I : oQ ds T w0 B ρ0 wS L a w ρ t) {m : Nat} (hm : (T.s 0).2.size ≤ m) : GlobRel (ρ.below m) G := by
 refine W.glob.mono (fun b x hx => ?_);have h1 := ze _ _ (I.ext.le b x hx);have h2 := W.rel.dom b x hx;rw [aV.below_lt (by omega)]; exact h1
theorem oQ.derive (W : Way T w0 B ρ0 wS) (I : oQ ds T w0 B ρ0 wS L a w ρ t) : ∀ k, t ≤ k → k ≤ ops.size → (∀ i o, ops[i]? = some o → t ≤ i → i < k → gG o.op ≠ 3) →
 Rel P w0 B (ρ.below (T.s k).2.size) (T.s k).2 w ∧ eE ρ0 (T.s 0).2 wS (ρ.below (T.s k).2.size) (T.s k).2 w := by
 intro k
 induction k with
 | zero => intro h _ _; have e : t = 0 := by omega
           subst e; exact ⟨I.rel, I.ext⟩
 | succ k ih =>
  intro h1 h2 hno
  by_cases e : t = k + 1
  ·subst e; exact ⟨I.rel, I.ext⟩
  ·have hlt : k < ops.size := by omega
   have ho : ops[k]? = some ops[k] := by simp [hlt]
   obtain ⟨hR, hX⟩ := ih (by omega) (by omega) (fun i o hi h1 h2 => hno i o hi h1 (by omega))
   rcases JU W ho (hno k _ ho (by omega) (by omega)) with h3 | ⟨hk1, c, hc, h3⟩
   ·rw [h3]; exact ⟨hR, hX⟩
   ·rw [h3, AH.size_push]
    cases hρ : ρ (T.s k).2.size with
    | none => rw [DW hρ]; exact ⟨hR.pushU c, hX.pushU c⟩
    | some x =>
     have htk := bR W (show t ≤ k by omega) (by omega);obtain ⟨i, o, c2, c', sz, hoi, hti, hLi, hb, hp, rfl, hrw, hw, hO⟩ := I.pend _ _ hρ htk;have hio := (Array.getElem?_eq_some_iff.1 hoi).1
     have hik : i = k := by
      rcases Nat.lt_trichotomy i k with h | h | h
      ·have := jv W h (by omega) hp; omega
      ·exact h
      ·have := jv W h (by omega) h3; omega
     subst hik;rw [h3] at hp
     have hcc : c = c2 := by
      have := AH.get_push_new (T.s i).2 c;rw [hp, AH.get_push_new] at this;exact (kT this).symm
     subst hcc;rw [Ph hρ];refine ⟨hR.pushM hrw (lS W.rel.size hw) (I.blk _ _ _ _ hρ) hO (fun b1 d sz1 hx => ?_), ?_⟩
     ·obtain ⟨h5, h6⟩ := aV.below_some hx
      have := I.alone _ _ _ _ _ _ _ hρ h6 htk;omega
     ·exact (hX.pushU c).updN (by unfold aV.below; rw [if_neg (by omega)]) (bR W (Nat.zero_le _) (by omega)) (by rw [AH.size_push]; omega) hw
structure Next (T : Tra P G call ops) (L : Nat → Bool) (j : Nat) (o : Oper) : Prop where
 ho : ops[j]? = some o
 hj : L j = false
 ready : ∀ e ∈ o.after, Region.binds .any e = true → L e.on = true
theorem oQ.slots (I : oQ ds T w0 B ρ0 wS L a w ρ t) {j : Nat} {o : Oper} (N : Next T L j o) {u : Nat} (hu : u ∈ o.looksAt ops) : (AD T L ops.size)[u]? = (T.s j).1[u]? := by
 have hjn := (Array.getElem?_eq_some_iff.1 N.ho).1;refine alC T (by omega) (fun i oi hi hij hd => ?_) (fun i oi hi hij hd => ?_)
 ·rcases T.pair i j oi o hij hi N.ho with h | ⟨h, _⟩
  ·exact ig I.closed j o N.ho N.ready i h
  ·exact absurd hu ((Oper.apart_spec h).1 u hd)
 ·cases hL : L i with
  | false => rfl
  | true =>
   by_cases e : i = j
   ·subst e; rw [N.hj] at hL; exact hL.symm
   ·rcases T.pair j i o oi (by omega) N.ho hi with h | ⟨h, _⟩
    ·have := ig I.closed i oi hi (I.closed i oi hi hL) j h
     rw [N.hj] at this; cases this
    ·exact absurd hu ((Oper.apart_spec h).2.2 u hd)
theorem xh {o : Oper} {u : Nat} (h : Operand.tmp u ∈ o.op.operands.toList) : u ∈ o.looksAt ops := by
 unfold Oper.looksAt;exact List.mem_append_left _ (List.mem_filterMap.2 ⟨_, h, rfl⟩)
theorem oQ.evs (I : oQ ds T w0 B ρ0 wS L a w ρ t) {j : Nat} {o : Oper} (N : Next T L j o) {x : Operand} (hx : x ∈ o.op.operands.toList) : cf (AD T L ops.size) x = cf (T.s j).1 x := by
 cases x with
 | tmp u => simp only [cf]; rw [I.slots N (xh hx)]
 | _ => rfl
theorem oQ.wanted (I : oQ ds T w0 B ρ0 wS L a w ρ t) {j : Nat} {o : Oper} (N : Next T L j o) : Region.wanted o (yielded ops a.tmps) = Region.wanted o (bM ops (T.s j).1) := by
 rw [hI I.act];unfold Region.wanted
 cases hg : o.guard with
 | none => rfl
 | some gw =>
  obtain ⟨g, want⟩ := gw
  have : bM ops (AD T L ops.size) g = bM ops (T.s j).1 g := by
   unfold bM
   cases hd : (ops[g]?).bind (·.dst) with
   | none => rfl
   | some u =>
    simp only [aB];rw [I.slots N (u := u) (by unfold Oper.looksAt; simp [hg, hd])]
  simp only [this]
theorem oQ.set (I : oQ ds T w0 B ρ0 wS L a w ρ t) {j : Nat} {o : Oper} (N : Next T L j o) : AD T (fun i => if i = j then true else L i) ops.size = eF (AD T L ops.size) o.dst (T.val j) := by
 refine amK T N.ho N.hj (fun i oi hi hij hL u hd hd' => ?_)
 rcases T.pair j i o oi hij N.ho hi with h | ⟨h, _⟩
 ·have := ig I.closed i oi hi (I.closed i oi hi hL) j h
  rw [N.hj] at this; cases this
 ·exact (Oper.apart_spec h).2.1 u hd hd'
theorem oQ.closed' (I : oQ ds T w0 B ρ0 wS L a w ρ t) {j : Nat} {o : Oper} (N : Next T L j o) : ∀ k ok, ops[k]? = some ok → (fun i => if i = j then true else L i) k = true → ∀ e ∈ ok.after, Region.binds .any e = true → (fun i => if i = j then true else L i) e.on = true := by
 intro k ok hk hL e he hb;simp only
 by_cases hej : e.on = j
 ·rw [if_pos hej]
 ·rw [if_neg hej]
  by_cases hkj : k = j
  ·subst hkj
   rw [N.ho] at hk; cases hk;exact N.ready e he hb
  ·simp only [if_neg hkj] at hL
   exact I.closed k ok hk hL e he hb
theorem oQ.masked (W : Way T w0 B ρ0 wS) (I : oQ ds T w0 B ρ0 wS L a w ρ t) {j : Nat} {o : Oper} (N : Next T L j o) :
 bf [] P (ρ.below (T.s j).2.size) (t5 (xT o.op) (AD T L ops.size)) { tmps := (t5 (xT o.op) a.tmps.toList).toArray, defers := [] } := by
 have hjn := (Array.getElem?_eq_some_iff.1 N.ho).1;refine af6 I.act (fun u x y hu hx hv => ?_);rw [I.slots N (xh (Ms hu))] at hx;exact (alA W (by omega) hx).under hv
end
section
variable {ds : List Deferred} {P : Program} {w0 : World} {B : Nat} {ρ : aV} {w : World} {G : List Nat} {call : aR} {ops : Array Oper} {T : Tra P G call ops} {ρ0 : aV} {wS : World} {L : Nat → Bool} {a : Act} {t : Nat}
abbrev nb (L : Nat → Bool) (j : Nat) : Nat → Bool := fun i => if i = j then true else L i
theorem Mo {i j : Nat} (h : i ≠ j) : nb L j i = L i := by simp [nb, h]
theorem Mq {i j : Nat} (h : L i = true) : nb L j i = true := by simp only [nb]; split <;> first | rfl | exact h
theorem yD {i j : Nat} (h : nb L j i = false) : i ≠ j ∧ L i = false := by
 simp only [nb] at h
 split at h
 ·cases h
 ·exact ⟨by assumption, h⟩
theorem oQ.same (I : oQ ds T w0 B ρ0 wS L a w ρ t) {j : Nat} {o : Oper} (N : Next T L j o) (hk : gG o.op ≠ 3) {v' : Value} (hv : VRel P ρ (T.val j) v') : oQ ds T w0 B ρ0 wS (nb L j) (a.put o.dst v') w ρ t where
 closed := I.closed' N
 act := by rw [I.set N]; exact eW I.act o.dst hv
 rel := I.rel
 ext := I.ext
 ht := I.ht
 ht1 := I.ht1
 hE := fun i oi hi h3 => by
  have : i ≠ j := fun e => by subst e; rw [N.ho] at hi; cases hi; exact hk h3
  rw [Mo this]; exact I.hE i oi hi h3
 full := I.full
 blk := I.blk
 pend := fun b x hx hb => by
  obtain ⟨i, oi, c, c', sz, h1, h2, h3, h4⟩ := I.pend b x hx hb;exact ⟨i, oi, c, c', sz, h1, h2, Mq h3, h4⟩
 alone := I.alone
 later := fun i oi c hi h1 hp hL => I.later i oi c hi h1 hp (yD hL).2
theorem agA (I : oQ ds T w0 B ρ0 wS L a w ρ t) {j : Nat} {o : Oper} (N : Next T L j o) (hk : gG o.op = 3) : t ≤ j ∧ ∀ i oi, ops[i]? = some oi → t ≤ i → i < j → gG oi.op ≠ 3 := by
 refine ⟨?_, fun i oi hi hti hij h3 => ?_⟩
 ·rcases Nat.lt_or_ge j t with h | h
  ·have := (I.hE j o N.ho hk).2 h
   rw [N.hj] at this; cases this
  ·exact h
 ·rcases T.pair i j oi o hij hi N.ho with h | ⟨_, h⟩
  ·have := ig I.closed j o N.ho N.ready i h
   have := (I.hE i oi hi h3).1 this;omega
  ·exact h ⟨h3, hk⟩
theorem oQ.alloc (W : Way T w0 B ρ0 wS) (I : oQ ds T w0 B ρ0 wS L a w ρ t) {j : Nat} {o : Oper} (N : Next T L j o) (hk : gG o.op = 1) {c : AObj} (hc : c.rw = true) (hp : (T.s (j + 1)).2 = (T.s j).2.push c) {ob : Obj} {sz : Nat} {v' : Value}
 (hO : sO P (ρ.below (T.s j).2.size) 0 sz c (some ob)) (hv : ∀ ρ' : aV, ρ' (T.s j).2.size = some (w.heap.size, 0, sz) → VRel P ρ' (T.val j) v') :
 oQ ds T w0 B ρ0 wS (nb L j) (a.put o.dst v') (w.alloc ob) (ρ.upd (T.s j).2.size (w.heap.size, 0, sz)) t := by
 have hjn := (Array.getElem?_eq_some_iff.1 N.ho).1;obtain ⟨hnone, hbefore⟩ := I.later j o c N.ho hk hp N.hj;have hle := aV.upd_le (x := (w.heap.size, 0, sz)) hnone;have hltn := jv W (show j < ops.size from hjn) (cr _) hp
 have bmono : ∀ {b i x}, ρ.below b i = some x → (ρ.upd (T.s j).2.size (w.heap.size, 0, sz)).below b i = some x := by
  intro b i x hx;obtain ⟨h1, h2⟩ := aV.below_some hx;rw [aV.below_lt h1]; exact hle _ _ h2
 have hrel : Rel P w0 B ((ρ.upd (T.s j).2.size (w.heap.size, 0, sz)).below (T.s t).2.size) (T.s t).2 (w.alloc ob) ∧ eE ρ0 (T.s 0).2 wS ((ρ.upd (T.s j).2.size (w.heap.size, 0, sz)).below (T.s t).2.size) (T.s t).2 (w.alloc ob) := by
  rcases Nat.lt_or_ge j t with hjt | hjt
  ·have hlt := jv W hjt I.ht hp
   have e : (ρ.upd (T.s j).2.size (w.heap.size, 0, sz)).below (T.s t).2.size = (ρ.below (T.s t).2.size).upd (T.s j).2.size (w.heap.size, 0, sz) := by
    funext b
    unfold aV.below aV.upd
    by_cases e : b = (T.s j).2.size
    ·subst e; simp [hlt]
    ·simp [e]
   have hnb : ρ.below (T.s t).2.size (T.s j).2.size = none := by rw [aV.below_lt hlt]; exact hnone
   rw [e];refine ⟨I.rel.fill hnb hc (hO.mono (Pg (Nat.le_of_lt hlt))) hlt ?_ (fun b x hx => ⟨I.rel.dom b x hx, rfl⟩), ?_⟩
   ·rw [hbefore hjt, hp, AH.get_push_new]
   ·exact (I.ext.allocW ob).updN hnb (bR W (Nat.zero_le _) (by omega)) hlt I.ext.wsize
  ·have hge := bR W hjt (by omega)
   have e : (ρ.upd (T.s j).2.size (w.heap.size, 0, sz)).below (T.s t).2.size = ρ.below (T.s t).2.size := by
    funext b
    unfold aV.below aV.upd
    by_cases e : b < (T.s t).2.size
    ·rw [if_pos e, if_pos e, if_neg (by omega)]
    ·rw [if_neg e, if_neg e]
   rw [e];exact ⟨I.rel.allocW ob, I.ext.allocW ob⟩
 refine ⟨I.closed' N, ?_, hrel.1, hrel.2, I.ht, I.ht1, ?_, ?_, ?_, ?_, ?_, ?_⟩
 ·rw [I.set N]; exact eW (I.act.mono hle) o.dst (hv _ (aV.upd_same ..))
 ·intro i oi hi h3
  have : i ≠ j := fun e => by subst e; rw [N.ho] at hi; cases hi; omega
  rw [Mo this]; exact I.hE i oi hi h3
 ·intro b x hx
  rcases dh hx with ⟨rfl, _⟩ | ⟨_, hx⟩
  ·exact hltn
  ·exact I.full b x hx
 ·intro b c1 d sz1 hx
  rw [World.size_alloc]
  rcases dh hx with ⟨rfl, e⟩ | ⟨_, hx⟩
  ·cases e; omega
  ·have := I.blk b c1 d sz1 hx; omega
 ·intro b x hx hb
  rcases dh hx with ⟨rfl, rfl⟩ | ⟨_, hx⟩
  ·refine ⟨j, o, c, w.heap.size, sz, N.ho, ?_, by simp [nb], rfl, hp, rfl, hc, I.ext.wsize, ?_⟩
   ·rcases Nat.lt_or_ge j t with hjt | hjt
    ·have := jv W hjt I.ht hp; omega
    ·exact hjt
   ·rw [heap_alloc_new w ob]; exact hO.mono (fun _ _ h => bmono h)
  ·obtain ⟨i, oi, c1, c', sz1, h1, h2, h3, h4, h5, h6, h7, h8, h9⟩ := I.pend b x hx hb
   subst h6;refine ⟨i, oi, c1, c', sz1, h1, h2, Mq h3, h4, h5, rfl, h7, h8, ?_⟩;rw [Below.heap_alloc w ob c' (I.blk _ _ _ _ hx)];exact h9.mono (fun _ _ h => bmono h)
 ·intro b b' c1 d sz1 d' sz' hx hx' hb
  rcases dh hx with ⟨e1, e⟩ | ⟨_, hx⟩ <;> rcases dh hx' with ⟨e2, e'⟩ | ⟨_, hx'⟩
  ·rw [e1, e2]
  ·cases e; have := I.blk _ _ _ _ hx'; omega
  ·cases e'; have := I.blk _ _ _ _ hx; omega
  ·exact I.alone _ _ _ _ _ _ _ hx hx' hb
 ·intro i oi c1 hi h1 hpi hL
  obtain ⟨hne, hL⟩ := yD hL;obtain ⟨h2, h3⟩ := I.later i oi c1 hi h1 hpi hL;refine ⟨?_, h3⟩;have hin := (Array.getElem?_eq_some_iff.1 hi).1;rw [aV.upd_ne (fun e => ?_)]
  ·exact h2
  ·rcases Nat.lt_or_gt_of_ne hne with h | h
   ·have := jv W h (by omega) hpi; omega
   ·have := jv W h (by omega) hp; omega
theorem oQ.effect (W : Way T w0 B ρ0 wS) (I : oQ ds T w0 B ρ0 wS L a w ρ t) {j : Nat} {o : Oper} (N : Next T L j o) (hk : gG o.op = 3) {v' : Value} {w' : World} {ρ1 : aV} (hv : VRel P ρ1 (T.val j) v')
 (hE : eE (ρ.below (T.s j).2.size) (T.s j).2 w ρ1 (T.s (j + 1)).2 w') (hR : Rel P w0 B ρ1 (T.s (j + 1)).2 w') :
 ∃ ρ2, oQ ds T w0 B ρ0 wS (nb L j) (a.put o.dst v') w' ρ2 (j + 1) := by
 have hjn := (Array.getElem?_eq_some_iff.1 N.ho).1;obtain ⟨htj, hno⟩ := agA I N hk;obtain ⟨hRj, hXj⟩ := I.derive W j htj (by omega) hno;have hm : (T.s j).2.size ≤ (T.s (j + 1)).2.size := JP W hjn;have hmt : (T.s t).2.size ≤ (T.s j).2.size := bR W htj (by omega)
 -- no block of the region's own lies in the gap
 have pos : ∀ {b x}, ρ b = some x → (T.s j).2.size ≤ b → (T.s (j + 1)).2.size ≤ b ∧ ∃ i oi c c' sz, ops[i]? = some oi ∧ j + 1 ≤ i ∧ L i = true ∧ b = (T.s i).2.size ∧ (T.s (i + 1)).2 = (T.s i).2.push c ∧ x = (c', 0, sz) ∧ c.rw = true ∧ wS.heap.size ≤ c' ∧ sO P (ρ.below b) 0 sz c w.heap[c']? := by
  intro b x hx hb;obtain ⟨i, oi, c, c', sz, h1, h2, h3, h4, h5, h6⟩ := I.pend b x hx (by omega);have hin := (Array.getElem?_eq_some_iff.1 h1).1
  have hij : j + 1 ≤ i := by
   rcases Nat.lt_trichotomy i j with h | h | h
   ·have := jv W h (by omega) h5; omega
   ·subst h; rw [N.hj] at h3; cases h3
   ·omega
  exact ⟨by have := bR W hij (by omega); omega, i, oi, c, c', sz, h1, hij, h3, h4, h5, h6⟩
 have hle : ∀ b x, ρ b = some x → (fun b => if b < (T.s (j + 1)).2.size then ρ1 b else ρ b) b = some x := by
  intro b x hx
  by_cases hb : b < (T.s (j + 1)).2.size
  ·simp only [hb, if_true]
   by_cases hbj : b < (T.s j).2.size
   ·exact hE.le b x (by rw [aV.below_lt hbj]; exact hx)
   ·have := (pos hx (by omega)).1; omega
  ·simp only [hb, if_false]; exact hx
 have hle1 : ∀ b x, ρ1 b = some x → (fun b => if b < (T.s (j + 1)).2.size then ρ1 b else ρ b) b = some x := by
  intro b x hx;have := hR.dom b x hx;simp only [this, if_true]; exact hx
 have cases' : ∀ {b x}, (fun b => if b < (T.s (j + 1)).2.size then ρ1 b else ρ b) b = some x → (b < (T.s (j + 1)).2.size ∧ ρ1 b = some x) ∨ ((T.s (j + 1)).2.size ≤ b ∧ ρ b = some x) := by
  intro b x hx
  by_cases hb : b < (T.s (j + 1)).2.size
  ·simp only [hb, if_true] at hx; exact .inl ⟨hb, hx⟩
  ·simp only [hb, if_false] at hx; exact .inr ⟨by omega, hx⟩
 have e2 : aV.below (fun b => if b < (T.s (j + 1)).2.size then ρ1 b else ρ b) (T.s (j + 1)).2.size = ρ1 := by
  funext b
  simp only [aV.below]
  by_cases hb : b < (T.s (j + 1)).2.size
  ·simp only [hb, if_true]
  ·simp only [hb, if_false]
   cases h : ρ1 b with
   | none => rfl
   | some x => exact absurd (hR.dom b x h) hb
 refine ⟨fun b => if b < (T.s (j + 1)).2.size then ρ1 b else ρ b, I.closed' N, ?_, by rw [e2]; exact hR, by rw [e2]; exact hXj.trans W.rel hE, by omega, .inr ⟨o, by simpa using N.ho, hk⟩, ?_, ?_, ?_, ?_, ?_, ?_⟩
 ·rw [I.set N]; exact eW (I.act.mono hle) o.dst (hv.mono hle1)
 ·intro i oi hi h3
  by_cases e : i = j
  ·subst e; simp [nb]
  ·rw [Mo e, I.hE i oi hi h3]
   constructor
   ·intro h; omega
   ·intro h
    rcases Nat.lt_or_ge i t with h4 | h4
    ·exact h4
    ·exact absurd h3 (hno i oi hi h4 (by omega))
 ·intro b x hx
  rcases cases' hx with ⟨hb, _⟩ | ⟨_, hx⟩
  ·exact Nat.lt_of_lt_of_le hb (bR W (by omega) (cr _))
  ·exact I.full b x hx
 ·intro b c d sz hx
  rcases cases' hx with ⟨_, hx⟩ | ⟨_, hx⟩
  ·exact hR.blk b c d sz hx
  ·have := I.blk b c d sz hx; have := hE.wsize; omega
 ·intro b x hx hb
  rcases cases' hx with ⟨hb', _⟩ | ⟨_, hx⟩
  ·omega
  ·obtain ⟨_, i, oi, c, c', sz, h1, h2, h3, h4, h5, h6, h7, h8, h9⟩ := pos hx (by omega)
   subst h6;refine ⟨i, oi, c, c', sz, h1, h2, Mq h3, h4, h5, rfl, h7, h8, ?_⟩;rw [hE.keepC c' (I.blk _ _ _ _ hx) (fun b1 d sz1 o1 hx1 _ => ?_)]
   ·refine h9.mono (fun b1 x1 hx1 => ?_)
    obtain ⟨h10, h11⟩ := aV.below_some hx1;rw [aV.below_lt h10]; exact hle _ _ h11
   ·obtain ⟨h10, h11⟩ := aV.below_some hx1
    have := I.alone _ _ _ _ _ _ _ hx h11 (by omega);omega
 ·intro b b' c d sz d' sz' hx hx' hb
  rcases cases' hx with ⟨hb', _⟩ | ⟨_, hx⟩
  ·omega
  ·rcases cases' hx' with ⟨hb', hx'⟩ | ⟨_, hx'⟩
   ·exfalso
    cases hρ : ρ.below (T.s j).2.size b' with
    | some y =>
     have := hE.le b' y hρ;rw [hx'] at this;cases this;obtain ⟨h10, h11⟩ := aV.below_some hρ;have := I.alone _ _ _ _ _ _ _ hx h11 (by omega);omega
    | none =>
     rcases hE.newC b' c d' sz' hx' hρ with h | ⟨b0, d0, sz0, o0, h, _, _⟩
     ·have := I.blk _ _ _ _ hx; omega
     ·obtain ⟨h10, h11⟩ := aV.below_some h
      have := I.alone _ _ _ _ _ _ _ hx h11 (by omega);omega
   ·exact I.alone _ _ _ _ _ _ _ hx hx' (by omega)
 ·intro i oi c hi h1 hp hL
  obtain ⟨hne, hL⟩ := yD hL;obtain ⟨h2, h3⟩ := I.later i oi c hi h1 hp hL;have hin := (Array.getElem?_eq_some_iff.1 hi).1;refine ⟨?_, fun hij => ?_⟩
  ·by_cases hb : (T.s i).2.size < (T.s (j + 1)).2.size
   ·rw [if_pos hb]
    cases h4 : ρ1 (T.s i).2.size with
    | none => rfl
    | some y =>
     have h5 : ρ.below (T.s j).2.size (T.s i).2.size = none := by unfold aV.below; rw [h2]; split <;> rfl
     have h6 := (hE.fresh _ y h4 h5).1
     rcases Nat.lt_or_gt_of_ne hne with h | h
     ·have := jv W h (by omega) hp; omega
     ·have := bR W (show j + 1 ≤ i from h) (by omega); omega
   ·rw [if_neg hb]; exact h2
  ·have hlt : i < j := by omega
   have hsz := jv W hlt (by omega) hp
   have h5 : ρ.below (T.s j).2.size (T.s i).2.size = none := by unfold aV.below; rw [h2]; split <;> rfl
   rw [hE.keepA _ hsz h5]
   rcases Nat.lt_or_ge i t with h4 | h4
   ·rw [Ox W htj (by omega) hno (jv W h4 I.ht hp), h3 h4]
   ·exact Ox W (show i + 1 ≤ j from hlt) (by omega) (fun k ok hk h6 h7 => hno k ok hk (by omega) h7) (by rw [hp, AH.size_push]; omega)
theorem oQ.readAt (I : oQ ds T w0 B ρ0 wS L a w ρ t) {j : Nat} {o : Oper} (N : Next T L j o) (hk : gG o.op = 2) :
 ∃ k, t ≤ k ∧ k ≤ ops.size ∧ (∀ i oi, ops[i]? = some oi → t ≤ i → i < k → gG oi.op ≠ 3) ∧ FA P (cf (T.s j).1) o.op (T.s k).2 = FA P (cf (T.s j).1) o.op (T.s j).2 := by
 have hjn := (Array.getElem?_eq_some_iff.1 N.ho).1
 rcases Nat.lt_or_ge j t with hjt | hjt
 ·rcases I.ht1 with h0 | ⟨oe, he, h3⟩
  ·omega
  ·have hL : L (t - 1) = true := (I.hE (t - 1) oe he h3).2 (by omega)
   have hne : j ≠ t - 1 := fun e => by rw [e] at N; have := N.ho; rw [he] at this; cases this; omega
   have hf1 : fb (bu ops.toList) (t - 1) j = false := by
    cases h : fb (bu ops.toList) (t - 1) j with
    | false => rfl
    | true => have := alX T N.ho h; omega
   have hf2 : fb (bu ops.toList) j (t - 1) = false := by
    cases h : fb (bu ops.toList) j (t - 1) with
    | false => rfl
    | true =>
     have := ig I.closed (t - 1) oe he (I.closed _ _ he hL) j h;rw [N.hj] at this; cases this
   have h := T.look j (t - 1) o oe N.ho he hk h3 hf1 hf2;rw [if_neg (by omega), show t - 1 + 1 = t from by omega] at h;exact ⟨t, cr _, I.ht, fun i oi hi h1 h2 => absurd h1 (by omega), h⟩
 ·-- the first that does more than look, between here and there
  have key : ∀ n, t + n ≤ j → (∀ i oi, ops[i]? = some oi → t ≤ i → i < t + n → gG oi.op ≠ 3) ∨
   ∃ e oe, t ≤ e ∧ e < j ∧ ops[e]? = some oe ∧ gG oe.op = 3 ∧ ∀ i oi, ops[i]? = some oi → t ≤ i → i < e → gG oi.op ≠ 3 := by
   intro n
   induction n with
   | zero => intro _; exact .inl (fun i oi hi h1 h2 => absurd h1 (by omega))
   | succ n ih =>
    intro hn
    rcases ih (by omega) with h | h
    ·have ho : ops[t + n]? = some ops[t + n] := by simp [show t + n < ops.size from by omega]
     by_cases h3 : gG (ops[t + n]).op = 3
     ·exact .inr ⟨t + n, _, by omega, by omega, ho, h3, h⟩
     ·refine .inl (fun i oi hi h1 h2 => ?_)
      by_cases e : i = t + n
      ·subst e; rw [ho] at hi; cases hi; exact h3
      ·exact h i oi hi h1 (by omega)
    ·exact .inr h
  rcases key (j - t) (by omega) with h | ⟨e, oe, h1, h2, he, h3, h4⟩
  ·exact ⟨j, hjt, by omega, fun i oi hi h1 h2 => h i oi hi h1 (by omega), rfl⟩
  ·have hLe : L e = false := by
    cases h : L e with
    | false => rfl
    | true => have := (I.hE e oe he h3).1 h; omega
   have hf1 : fb (bu ops.toList) e j = false := by
    cases h : fb (bu ops.toList) e j with
    | false => rfl
    | true => have := ig I.closed j o N.ho N.ready e h; rw [hLe] at this; cases this
   have hf2 : fb (bu ops.toList) j e = false := by
    cases h : fb (bu ops.toList) j e with
    | false => rfl
    | true => have := alX T he h; omega
   have h := T.look j e o oe N.ho he hk h3 hf1 hf2;rw [if_pos h2] at h;exact ⟨e, h1, by omega, h4, h⟩
theorem zc {ev : Operand → Value} {o : Oper} {H : AH} {r : Value × AH} (h : dj P call ev o H = some r) : ∀ cs b, o.op ≠ .select cs b := by
 intro cs b e;obtain ⟨dst, op, type, pos, after, guard⟩ := o;simp only at e;subst e;simp [dj] at h
theorem oQ.step (W : Way T w0 B ρ0 wS) (I : oQ ds T w0 B ρ0 wS L a w ρ t) {j : Nat} {o : Oper} (N : Next T L j o) (hU : T.U j = true) {K : Act → World → Prop} {Q : Exit → Act → World → Prop}
 (hK : ∀ a' w' ρ' t', oQ ds T w0 B ρ0 wS (nb L j) a' w' ρ' t' → K a' w') : wpOp P ops Q j K a w := by
 have hjn := (Array.getElem?_eq_some_iff.1 N.ho).1;unfold wpOp;rw [N.ho];simp only;rw [I.wanted N];obtain ⟨hs, ⟨hok, hw, h⟩ | ⟨hw, hv, hH⟩⟩ := T.step j o N.ho
 ·rw [if_pos hw]
  refine .inl ?_
  rcases JF o.op with h0 | h1 | h2 | h3
  ·have h' : dj P call (cf (AD T L ops.size)) o (pad (T.s ops.size).2.size (T.s t).2) = some (T.val j, pad (T.s ops.size).2.size (T.s t).2) := by
    rw [oT (fun x hx => I.evs N hx)]; exact (sQ h0 h).2 _
   have hp : Rel P w0 B ρ (pad (T.s ops.size).2.size (T.s t).2) w := I.rel.pad (bR W I.ht (cr _)) I.full I.blk;have hG : GlobRel ρ G := (I.glob W (bR W (Nat.zero_le t) I.ht)).mono ze;obtain ⟨v', hr, hv⟩ := Ow I.act hG hp hok (.inl h0) h';refine eX.wp (R := fun v w' => v = v' ∧ w' = w) (by unfold eX; rw [hr]; exact ⟨rfl, rfl⟩) ?_
   rintro v w' ⟨rfl, rfl⟩
   exact hK _ _ _ _ (I.same N (by omega) hv)
  ·have h' : dj P call (cf (t5 (xT o.op) (AD T L ops.size))) o (T.s j).2 = some (T.val j, (T.s (j + 1)).2) := by
    rw [oT (fun x hx => (UO hx).trans (I.evs N hx))]; exact h
   obtain ⟨c, hc, hp, hall⟩ := FC (I.masked W N) (I.glob W (bR W (Nat.zero_le j) (by omega))) hok h1 h';obtain ⟨ob, sz, v', hr, hO, hv⟩ := hall w;rw [execOp_congr o (zc h) (fun x hx => JA (by simpa using hx))] at hr;refine eX.wp (R := fun v w' => v = v' ∧ w' = w.alloc ob) (by unfold eX; rw [hr]; exact ⟨rfl, rfl⟩) ?_
   rintro v w' ⟨rfl, rfl⟩
   exact hK _ _ _ _ (I.alloc W N h1 hc hp hO hv)
  ·obtain ⟨k, hk1, hk2, hk3, hrd⟩ := I.readAt N h2
   obtain ⟨hRk, _⟩ := I.derive W k hk1 hk2 hk3;have hp : Rel P w0 B ρ (pad (T.s ops.size).2.size (T.s k).2) w := hRk.pad (bR W hk2 (cr _)) I.full I.blk;rw [BN h2] at h;obtain ⟨y, hy, e⟩ := au.1 h;have ey : y = T.val j := (Prod.mk.inj e).1;subst ey;rw [← hrd] at hy
   have h' : dj P call (cf (AD T L ops.size)) o (pad (T.s ops.size).2.size (T.s k).2) = some (T.val j, pad (T.s ops.size).2.size (T.s k).2) := by
    rw [oT (fun x hx => I.evs N hx), BN h2, akO (H1 := (T.s k).2) (fun b hb => UX (Xs hy hb) (bR W hk2 (cr _))), hy]
    rfl
   have hG : GlobRel ρ G := (I.glob W (bR W (Nat.zero_le t) I.ht)).mono ze;obtain ⟨v', hr, hv⟩ := Ow I.act hG hp hok (.inr h2) h';refine eX.wp (R := fun v w' => v = v' ∧ w' = w) (by unfold eX; rw [hr]; exact ⟨rfl, rfl⟩) ?_
   rintro v w' ⟨rfl, rfl⟩
   exact hK _ _ _ _ (I.same N (by omega) hv)
  ·obtain ⟨htj, hno⟩ := agA I N h3
   obtain ⟨hRj, _⟩ := I.derive W j htj (by omega) hno
   have h' : dj P call (cf (t5 (xT o.op) (AD T L ops.size))) o (T.s j).2 = some (T.val j, (T.s (j + 1)).2) := by
    rw [oT (fun x hx => (UO hx).trans (I.evs N hx))]; exact h
   have hr := Hy W.hcall (I.masked W N) (I.glob W (bR W (Nat.zero_le j) (by omega))) hRj hok h';have hr := hr.congr (execOp_congr o (zc h) (fun x hx => JA (by simpa using hx)));refine hr.wp ?_
   rintro v' w' ⟨ρ1, hv, hE, hR⟩
   obtain ⟨ρ2, I2⟩ := I.effect W N h3 hv hE hR;exact hK _ _ _ _ I2
 ·have hw : Region.wanted o (bM ops (T.s j).1) = false := by
   rcases hw with hw | hw
   ·exact hw
   ·rw [hU] at hw; cases hw
  rw [if_neg (by rw [hw]; simp)]
  by_cases h3 : gG o.op = 3
  ·obtain ⟨htj, hno⟩ := agA I N h3
   obtain ⟨hRj, _⟩ := I.derive W j htj (by omega) hno;obtain ⟨ρ2, I2⟩ := I.effect W N h3 (v' := undef) (w' := w) (ρ1 := ρ.below (T.s j).2.size) (by rw [hv]; exact VRel.undef) (by rw [hH]; exact eE.refl _ _ _) (by rw [hH]; exact hRj);exact hK _ _ _ _ I2
  ·exact hK _ _ _ _ (I.same N h3 (by rw [hv]; exact VRel.undef))
theorem oQ.start (W : Way T w0 B ρ0 wS) (hA : bf ds P ρ0 (T.s 0).1 a) : oQ ds T w0 B ρ0 wS (fun _ => false) a wS ρ0 0 := by
 have e : ρ0.below (T.s 0).2.size = ρ0 := by
  funext b
  unfold aV.below
  split
  ·rfl
  ·cases h : ρ0 b with
   | none => rfl
   | some x => exact absurd (W.rel.dom b x h) (by assumption)
 refine ⟨fun _ _ _ h => (by cases h), by rw [ahX]; exact hA, by rw [e]; exact W.rel, by rw [e]; exact eE.refl _ _ _, Nat.zero_le _, .inl rfl, fun i o _ _ => by simp, ?_, W.rel.blk, ?_, ?_, ?_⟩
 ·intro b x hx
  have := W.rel.dom b x hx;have := bR W (Nat.zero_le ops.size) (cr _);omega
 ·intro b x hx hb
  have := W.rel.dom b x hx; omega
 ·intro b b' c d sz d' sz' hx _ hb
  have := W.rel.dom b _ hx; omega
 ·intro i o c hi _ hp _
  refine ⟨?_, fun h => by omega⟩;have hin := (Array.getElem?_eq_some_iff.1 hi).1;have := bR W (Nat.zero_le i) (by omega)
  cases h : ρ0 (T.s i).2.size with
  | none => rfl
  | some x => have := W.rel.dom _ x h; omega
theorem oQ.done (W : Way T w0 B ρ0 wS) (I : oQ ds T w0 B ρ0 wS L a w ρ t) (hL : ∀ i, i < ops.size → L i = true) : Fu ds P w0 B G ρ0 (T.s 0).2 wS (T.s ops.size).1 (T.s ops.size).2 a w := by
 have e : ρ.below (T.s ops.size).2.size = ρ := by
  funext b
  unfold aV.below
  split
  ·rfl
  ·cases h : ρ b with
   | none => rfl
   | some x => exact absurd (I.full b x h) (by assumption)
 obtain ⟨hR, hX⟩ := I.derive W ops.size I.ht (cr _) (fun i o hi h1 h2 h3 => by
  have := (I.hE i o hi h3).1 (hL i (by omega)); omega)
 rw [e] at hR hX;exact ⟨ρ, by rw [← amJ T hL]; exact I.act, W.glob.mono hX.le, hX, hR⟩
theorem Vv (W : Way T w0 B ρ0 wS) (hU : ∀ j, T.U j = true) {Q : Exit → Act → World → Prop} (hQ : ∀ a' w', Fu ds P w0 B G ρ0 (T.s 0).2 wS (T.s ops.size).1 (T.s ops.size).2 a' w' → Q .normal a' w') :
 ∀ (fuel : Nat) (listed : Array Bool) (a : Act) (w : World) (ρ : aV) (t : Nat), listed.size = ops.size → ((List.range ops.size).filter fun i => !listed.getD i false).length ≤ fuel →
  oQ ds T w0 B ρ0 wS (fun i => listed.getD i false) a w ρ t → wpAny P .any ops Q fuel listed a w := by
 have inready : ∀ (listed : Array Bool), listed.size = ops.size → ∀ j, j ∈ Region.ready .any ops listed → ∃ o, Next T (fun i => listed.getD i false) j o := by
  intro listed hsz j hj;unfold Region.ready at hj;rw [List.mem_filter] at hj;obtain ⟨hj, h⟩ := hj;rw [List.mem_range] at hj
  have ho : ops[j]? = some ops[j] := by simp [hj]
  simp only [Bool.and_eq_true, Bool.not_eq_true'] at h;obtain ⟨h1, h2⟩ := h;rw [ho] at h2;simp only [ff, Option.getD_some, Array.all_eq_true'] at h2;refine ⟨ops[j], ho, ?_, fun e he hb => ?_⟩
  ·have hjl : j < listed.size := by omega
   simp only [Array.getD, hjl, dif_pos] at h1 ⊢; exact h1
  ·have := h2 e he
   simpa [hb] using this
 have least : ∀ (listed : Array Bool), listed.size = ops.size → Region.ready .any ops listed = [] → ∀ i, i < ops.size → listed.getD i false = true := by
  intro listed hsz hnil i
  induction i using Nat.strongRecOn with
  | _ i ih =>
   intro hi
   cases h : listed.getD i false with
   | true => rfl
   | false =>
    exfalso
    have ho : ops[i]? = some ops[i] := by simp [hi]
    have : i ∈ Region.ready .any ops listed := by
     unfold Region.ready;rw [List.mem_filter, List.mem_range];refine ⟨hi, ?_⟩;simp only [Bool.and_eq_true, Bool.not_eq_true'];refine ⟨?_, ?_⟩
     ·have hjl : i < listed.size := by omega
      simp only [Array.getD, hjl, dif_pos] at h ⊢; exact h
     ·rw [ho]
      simp only [ff, Option.getD_some, Array.all_eq_true'];intro e he
      cases hb : Region.binds .any e with
      | false => rfl
      | true =>
       have hlt := T.back i _ ho e he hb
       simpa using ih e.on hlt (by omega)
    rw [hnil] at this;cases this
 intro fuel
 induction fuel with
 | zero =>
  intro listed a w ρ t hsz hcnt I
  have hall : ∀ i, i < ops.size → listed.getD i false = true := by
   intro i hi;have h0 : ((List.range ops.size).filter fun i => !listed.getD i false) = [] := List.eq_nil_of_length_eq_zero (by omega);rw [List.filter_eq_nil_iff] at h0;have := h0 i (List.mem_range.2 hi)
   simpa using this
  refine ⟨?_, hQ _ _ (I.done W hall)⟩
  cases hr : Region.ready .any ops listed with
  | nil => rfl
  | cons j js =>
   obtain ⟨o, N⟩ := inready listed hsz j (by rw [hr]; simp);have := hall j (Array.getElem?_eq_some_iff.1 N.ho).1;have h2 : listed.getD j false = false := N.hj;rw [this] at h2; cases h2
 | succ fuel ih =>
  intro listed a w ρ t hsz hcnt I;refine ⟨fun hnil => hQ _ _ (I.done W (least listed hsz hnil)), fun j hj => ?_⟩;obtain ⟨o, N⟩ := inready listed hsz j hj;have hjn := (Array.getElem?_eq_some_iff.1 N.ho).1
  have hset : (fun i => (listed.setIfInBounds j true).getD i false) = nb (fun i => listed.getD i false) j := by
   funext i
   simp only [nb, Array.getD_eq_getD_getElem?];rw [Array.getElem?_setIfInBounds]
   by_cases e : i = j
   ·subst e; simp [show i < listed.size from by omega]
   ·rw [if_neg (fun e' => e e'.symm), if_neg e]
  refine I.step W N (hU j) (fun a' w' ρ' t' I' => ih _ a' w' ρ' t' (by simp [hsz]) ?_ (by rw [hset]; exact I'))
  have e1 : ((List.range ops.size).filter fun i => !(listed.setIfInBounds j true).getD i false) = ((List.range ops.size).filter fun i => !listed.getD i false).filter fun i => i != j := by
   rw [List.filter_filter];apply List.filter_congr;intro i _;have : (listed.setIfInBounds j true).getD i false = nb (fun i => listed.getD i false) j i := congrFun hset i;rw [this];simp only [nb]
   by_cases e : i = j
   ·subst e; simp
   ·simp [e]
  have e2 : (((List.range ops.size).filter fun i => !listed.getD i false).filter fun i => i != j).length < ((List.range ops.size).filter fun i => !listed.getD i false).length := by
   rw [List.length_filter_lt_length_iff_exists];refine ⟨j, ?_, by simp⟩;rw [List.mem_filter, List.mem_range];have : listed.getD j false = false := N.hj;exact ⟨hjn, by rw [this]; rfl⟩
  rw [e1]; omega
theorem R6 (W : Way T w0 B ρ0 wS) (hU : ∀ j, T.U j = true) (hm : P.follows .mixedOrders = true) {id : Nat} {Q : Exit → Act → World → Prop} {w : World} (hw : wS = { w with drawn := w.drawn + 1 }) (hA : bf ds P ρ0 (T.s 0).1 a)
 (hQ : ∀ a' w', Fu ds P w0 B G ρ0 (T.s 0).2 wS (T.s ops.size).1 (T.s ops.size).2 a' w' → Q .normal a' w') : (Code.region id ops true).wp P Q a w := by
 refine wp_region_any hm ?_;rw [← hw];refine Vv W hU hQ ops.size _ a wS ρ0 0 (by simp) ?_ ?_
 ·refine lS (List.length_filter_le _ _) (by simp)
 ·have e : (fun i => (Array.replicate ops.size false).getD i false) = fun _ => false := by
   funext i
   rw [Array.getD_eq_getD_getElem?, Array.getElem?_replicate]
   split <;> rfl
  rw [e];exact oQ.start W hA
theorem ah5 (W : Way T w0 B ρ0 wS) {p : Nat} {op : Oper} (hp : ops[p]? = some op) (hU : ∀ j, j < p → T.U j = true) (hafter : ∀ j o, ops[j]? = some o → p < j → fb (bu ops.toList) p j = true) {Q : Exit → Act → World → Prop}
 (hpan : ∀ L a w ρ t, oQ ds T w0 B ρ0 wS L a w ρ t → Next T L p op → (∀ i, L i = true → i < p) → ∀ K, wpOp P ops Q p K a w) :
 ∀ (fuel : Nat) (listed : Array Bool) (a : Act) (w : World) (ρ : aV) (t : Nat), listed.size = ops.size → ((List.range ops.size).filter fun i => !listed.getD i false).length ≤ fuel → (∀ i, listed.getD i false = true → i < p) →
  oQ ds T w0 B ρ0 wS (fun i => listed.getD i false) a w ρ t → wpAny P .any ops Q fuel listed a w := by
 have hpn := (Array.getElem?_eq_some_iff.1 hp).1
 have inready : ∀ (listed : Array Bool), listed.size = ops.size → ∀ j, j ∈ Region.ready .any ops listed → ∃ o, Next T (fun i => listed.getD i false) j o := by
  intro listed hsz j hj;unfold Region.ready at hj;rw [List.mem_filter] at hj;obtain ⟨h1, h2⟩ := hj;have h1 := List.mem_range.1 h1;simp only [Bool.and_eq_true, Bool.not_eq_true'] at h2
  have ho : ops[j]? = some ops[j] := by simp [h1]
  refine ⟨ops[j], ho, ?_, fun e he hb => ?_⟩
  ·have hjl : j < listed.size := by omega
   have := h2.1;simp only [Array.getD, hjl, dif_pos] at this ⊢; exact this
  ·have h3 := h2.2
   rw [ho] at h3;simp only [ff, Option.getD_some, Array.all_eq_true'] at h3;have := h3 e he;rw [hb] at this
   simpa using this
 have notall : ∀ (listed : Array Bool), (∀ i, listed.getD i false = true → i < p) → listed.getD p false = false := by
  intro listed h
  cases hc : listed.getD p false with
  | false => rfl
  | true => have := h p hc; omega
 intro fuel
 induction fuel with
 | zero =>
  intro listed a w ρ t hsz hcnt hlt I
  exfalso
  have h0 : ((List.range ops.size).filter fun i => !listed.getD i false) = [] := List.eq_nil_of_length_eq_zero (by omega);rw [List.filter_eq_nil_iff] at h0;have h1 := h0 p (List.mem_range.2 hpn);rw [notall listed hlt] at h1;simp at h1
 | succ fuel ih =>
  intro listed a w ρ t hsz hcnt hlt I
  have hne : Region.ready .any ops listed ≠ [] := by
   intro hnil
   -- the least that has not come up could come up
   have least : ∀ i, i < ops.size → listed.getD i false = true := by
    intro i
    induction i using Nat.strongRecOn with
    | ind i ihi =>
     intro hi
     cases h : listed.getD i false with
     | true => rfl
     | false =>
      exfalso
      have ho : ops[i]? = some ops[i] := by simp [hi]
      have : i ∈ Region.ready .any ops listed := by
       unfold Region.ready;rw [List.mem_filter, List.mem_range];refine ⟨hi, ?_⟩;simp only [Bool.and_eq_true, Bool.not_eq_true'];refine ⟨?_, ?_⟩
       ·have hjl : i < listed.size := by omega
        simp only [Array.getD, hjl, dif_pos] at h ⊢; exact h
       ·rw [ho]
        simp only [ff, Option.getD_some, Array.all_eq_true'];intro e he
        cases hb : Region.binds .any e with
        | false => rfl
        | true =>
         have hlt := T.back i _ ho e he hb
         simpa using ihi e.on hlt (by omega)
      rw [hnil] at this;cases this
   have h1 := least p hpn;rw [notall listed hlt] at h1;cases h1
  refine ⟨fun hnil => absurd hnil hne, fun j hj => ?_⟩;obtain ⟨o, N⟩ := inready listed hsz j hj;have hjn := (Array.getElem?_eq_some_iff.1 N.ho).1
  rcases Nat.lt_trichotomy j p with hjp | hjp | hjp
  ·have hset : (fun i => (listed.setIfInBounds j true).getD i false) = nb (fun i => listed.getD i false) j := by
    funext i
    simp only [nb, Array.getD_eq_getD_getElem?];rw [Array.getElem?_setIfInBounds]
    by_cases e : i = j
    ·subst e; simp [show i < listed.size from by omega]
    ·rw [if_neg (fun e' => e e'.symm), if_neg e]
   refine I.step W N (hU j hjp) (fun a' w' ρ' t' I' => ih _ a' w' ρ' t' (by simp [hsz]) ?_ ?_ (by rw [hset]; exact I'))
   ·have e1 : ((List.range ops.size).filter fun i => !(listed.setIfInBounds j true).getD i false) = ((List.range ops.size).filter fun i => !listed.getD i false).filter fun i => i != j := by
     rw [List.filter_filter];apply List.filter_congr;intro i _;have : (listed.setIfInBounds j true).getD i false = nb (fun i => listed.getD i false) j i := congrFun hset i;rw [this];simp only [nb]
     by_cases e : i = j
     ·subst e; simp
     ·simp [e]
    have e2 : (((List.range ops.size).filter fun i => !listed.getD i false).filter fun i => i != j).length < ((List.range ops.size).filter fun i => !listed.getD i false).length := by
     rw [List.length_filter_lt_length_iff_exists];refine ⟨j, ?_, by simp⟩;rw [List.mem_filter, List.mem_range];have : listed.getD j false = false := N.hj;exact ⟨hjn, by rw [this]; rfl⟩
    rw [e1]; omega
   ·intro i hi
    have : nb (fun i => listed.getD i false) j i = true := by rw [← hset]; exact hi
    simp only [nb] at this
    split at this
    ·omega
    ·exact hlt i this
  ·subst hjp
   have e : o = op := by
    have := N.ho;rw [hp] at this;exact (kT this).symm
   subst e;exact hpan _ a w ρ t I N hlt _
  ·have := ig I.closed j o N.ho N.ready p (hafter j o N.ho hjp)
   rw [notall listed hlt] at this;cases this
theorem R8 (W : Way T w0 B ρ0 wS) (hm : P.follows .mixedOrders = true) {p : Nat} {op : Oper} (hp : ops[p]? = some op) (hU : ∀ j, j < p → T.U j = true) (hafter : ∀ j o, ops[j]? = some o → p < j → fb (bu ops.toList) p j = true) {id : Nat} {Q : Exit → Act → World → Prop} {w : World} (hw : wS = { w with drawn := w.drawn + 1 }) (hA : bf ds P ρ0 (T.s 0).1 a)
 (hpan : ∀ L a w ρ t, oQ ds T w0 B ρ0 wS L a w ρ t → Next T L p op → (∀ i, L i = true → i < p) → ∀ K, wpOp P ops Q p K a w) : (Code.region id ops true).wp P Q a w := by
 refine wp_region_any hm ?_;rw [← hw];refine ah5 W hp hU hafter hpan ops.size _ a wS ρ0 0 (by simp) ?_ ?_ ?_
 ·refine lS (List.length_filter_le _ _) (by simp)
 ·intro i hi
  rw [Array.getD_eq_getD_getElem?, Array.getElem?_replicate] at hi
  split at hi <;> cases hi
 ·have e : (fun i => (Array.replicate ops.size false).getD i false) = fun _ => false := by
   funext i
   rw [Array.getD_eq_getD_getElem?, Array.getElem?_replicate]
   split <;> rfl
  rw [e];exact oQ.start W hA
end
def pZ (ops : List Oper) : Bool :=
 let ms := bu ops
 ops.zipIdx.all (fun p => p.1.after.toList.all fun e => !Region.binds .any e || decide (e.on < p.2)) &&
 ops.zipIdx.all fun q => (ops.zipIdx.take q.2).all fun p => fb ms p.2 q.2 || (p.1.apart ops.toArray q.1 && !(gG p.1.op == 3 && gG q.1.op == 3))
def dB (ops : List Oper) : List (Nat × Nat) :=
 let ms := bu ops
 (ops.zipIdx.filter fun p => gG p.1.op == 2).flatMap fun p => ((ops.zipIdx.filter fun q => gG q.1.op == 3 && !fb ms q.2 p.2 && !fb ms p.2 q.2).map fun q => (p.2, q.2))
def gT (P : Program) (G : List Nat) (call : aR) (ops : Array Oper) (A : List Value) (H : AH) (i : Nat) : List Value × AH := (bJ P G call ops (ops.toList.take i) A H).getD (A, H)
def jZ (P : Program) (s : Nat → List Value × AH) (ops : Array Oper) (p : Nat × Nat) : Prop :=
 ∀ o, ops[p.1]? = some o → FA P (cf (s p.1).1) o.op (s (if p.2 < p.1 then p.2 else p.2 + 1)).2 = FA P (cf (s p.1).1) o.op (s p.1).2
open Classical in
noncomputable def No {α : Type} (p : Prop) (x : Option α) : Option α := if p then x else none
theorem iH {α : Type} {p : Prop} {x : Option α} {r : α} (h : No p x = some r) : p ∧ x = some r := by
 unfold No at h
 split at h
 ·exact ⟨by assumption, h⟩
 ·cases h
theorem fG {α : Type} {p : Prop} (h : p) (x : Option α) : No p x = x := by unfold No; rw [if_pos h]
noncomputable def dy (P : Program) (G : List Nat) (call : aR) (ops : Array Oper) (A : List Value) (H : AH) : Option (List Value × AH) :=
 match pZ ops.toList with
 | false => none
 | true => match dB ops.toList with
  | [] => bJ P G call ops ops.toList A H
  | p :: ps => No (∀ q ∈ p :: ps, jZ P (gT P G call ops A H) ops q) (bJ P G call ops ops.toList A H)
theorem dY {P : Program} {G : List Nat} {call : aR} {ops : Array Oper} {A : List Value} {H : AH} {r : List Value × AH} (h : dy P G call ops A H = some r) :
 pZ ops.toList = true ∧ (∀ p ∈ dB ops.toList, jZ P (gT P G call ops A H) ops p) ∧ bJ P G call ops ops.toList A H = some r := by
 unfold dy at h
 cases h1 : pZ ops.toList with
 | false => rw [h1] at h; cases h
 | true =>
  rw [h1] at h;refine ⟨rfl, ?_⟩
  cases h2 : dB ops.toList with
  | nil => rw [h2] at h; exact ⟨fun p hp => (by cases hp), h⟩
  | cons p ps =>
   rw [h2] at h;exact iH h
section
variable {ds : List Deferred} {P : Program} {w0 : World} {B : Nat} {ρ : aV} {H : AH} {w : World} {G : List Nat} {call : aR} {ops : Array Oper}
theorem nt (l1 l2 : List Oper) (A : List Value) (H : AH) : bJ P G call ops (l1 ++ l2) A H = (bJ P G call ops l1 A H).bind fun s => bJ P G call ops l2 s.1 s.2 := by
 induction l1 generalizing A H with
 | nil => rfl
 | cons o l ih =>
  simp only [List.cons_append, bJ];rw [Option.bind_assoc]
  congr 1
  funext s
  exact ih s.1 s.2
theorem vg {A : List Value} {r : List Value × AH} (h : bJ P G call ops ops.toList A H = some r) (i : Nat) : bJ P G call ops (ops.toList.take i) A H = some (gT P G call ops A H i) := by
 unfold gT;have e : ops.toList = ops.toList.take i ++ ops.toList.drop i := (List.take_append_drop ..).symm;rw [e, nt] at h;obtain ⟨s, hs, _⟩ := ai.1 h;rw [hs]; rfl
theorem ag9 (A : List Value) : gT P G call ops A H 0 = (A, H) := rfl
theorem ak1 {A : List Value} {r : List Value × AH} (h : bJ P G call ops ops.toList A H = some r) : gT P G call ops A H ops.size = r := by
 unfold gT;rw [show ops.size = ops.toList.length by simp, List.take_length, h]
 rfl
theorem HU {A : List Value} {r : List Value × AH} (h : bJ P G call ops ops.toList A H = some r) {i : Nat} {o : Oper} (ho : ops[i]? = some o) :
 bO P G call ops o (gT P G call ops A H i).1 (gT P G call ops A H i).2 = some (gT P G call ops A H (i + 1)) := by
 have ho' : ops.toList[i]? = some o := by simpa using ho
 have h1 := vg h (i + 1);rw [List.take_add_one, ho', Option.toList_some, nt, vg h i] at h1;simp only [aB, bJ] at h1;obtain ⟨s, hs, e⟩ := ai.1 h1;rw [hs];exact e
noncomputable def ak6 (P : Program) (G : List Nat) (call : aR) (ops : Array Oper) (A : List Value) (H : AH) (i : Nat) : Value :=
 match ops[i]? with
 | some o => if Region.wanted o (bM ops (gT P G call ops A H i).1) = true then ((dj P call (cf (gT P G call ops A H i).1) o (gT P G call ops A H i).2).map (·.1)).getD undef else undef
 | none => undef
theorem HI (h : pZ ops.toList = true) : ∀ j o, ops[j]? = some o → ∀ e ∈ o.after, Region.binds .any e = true → e.on < j := by
 intro j o ho e he hb;unfold pZ at h;simp only [Bool.and_eq_true, List.all_eq_true] at h
 have ho' : ops.toList[j]? = some o := by simpa using ho
 have hm : (o, j) ∈ ops.toList.zipIdx := by
  rw [List.mem_iff_getElem?];exact ⟨j, by rw [List.getElem?_zipIdx, ho']; simp⟩
 have := h.1 (o, j) hm e (by simpa using he)
 simpa [hb] using this
theorem HJ (h : pZ ops.toList = true) : ∀ i j oi oj, i < j → ops[i]? = some oi → ops[j]? = some oj → fb (bu ops.toList) i j = true ∨ (oi.apart ops oj = true ∧ ¬ (gG oi.op = 3 ∧ gG oj.op = 3)) := by
 intro i j oi oj hij hi hj;unfold pZ at h;simp only [Bool.and_eq_true, List.all_eq_true] at h
 have hi' : ops.toList[i]? = some oi := by simpa using hi
 have hj' : ops.toList[j]? = some oj := by simpa using hj
 have hm : (oj, j) ∈ ops.toList.zipIdx := by
  rw [List.mem_iff_getElem?];exact ⟨j, by rw [List.getElem?_zipIdx, hj']; simp⟩
 have hm2 : (oi, i) ∈ ops.toList.zipIdx.take j := by
  rw [List.mem_iff_getElem?];exact ⟨i, by rw [List.getElem?_take, if_pos hij, List.getElem?_zipIdx, hi']; simp⟩
 have := h.2 (oj, j) hm (oi, i) hm2;simp only [Bool.or_eq_true, Bool.and_eq_true, Bool.not_eq_true', Bool.and_eq_false_iff, beq_eq_false_iff_ne, Array.toArray_toList] at this
 rcases this with h1 | ⟨h1, h2⟩
 ·exact .inl h1
 ·exact .inr ⟨h1, fun h3 => by rcases h2 with h2 | h2; exact h2 h3.1; exact h2 h3.2⟩
theorem ID {j e : Nat} {oj oe : Oper} (hj : ops[j]? = some oj) (he : ops[e]? = some oe) (h2 : gG oj.op = 2) (h3 : gG oe.op = 3) (hf1 : fb (bu ops.toList) e j = false) (hf2 : fb (bu ops.toList) j e = false) : (j, e) ∈ dB ops.toList := by
 have hj' : ops.toList[j]? = some oj := by simpa using hj
 have he' : ops.toList[e]? = some oe := by simpa using he
 unfold dB;simp only [List.mem_flatMap, List.mem_filter, List.mem_map];refine ⟨(oj, j), ⟨?_, by simp [h2]⟩, (oe, e), ⟨?_, by simp [h3, hf1, hf2]⟩, rfl⟩
 ·rw [List.mem_iff_getElem?]; exact ⟨j, by rw [List.getElem?_zipIdx, hj']; simp⟩
 ·rw [List.mem_iff_getElem?]; exact ⟨e, by rw [List.getElem?_zipIdx, he']; simp⟩
noncomputable def al6 {A : List Value} {r : List Value × AH} (h : dy P G call ops A H = some r) : Tra P G call ops where
 s := gT P G call ops A H
 val := ak6 P G call ops A H
 U := fun _ => true
 step := fun i o ho => by
  obtain ⟨_, _, hr⟩ := dY h;have hs := HU hr ho;unfold bO at hs
  split at hs
  ·rename_i hok
   unfold ak6;rw [ho];simp only
   split at hs
   ·rename_i hw
    obtain ⟨⟨v, H2⟩, hv, e⟩ := au.1 hs;rw [if_pos hw, hv, ← e];exact ⟨rfl, .inl ⟨hok, hw, rfl⟩⟩
   ·rename_i hw
    rw [if_neg hw];have e := (kT hs).symm;rw [e];exact ⟨rfl, .inr ⟨.inl (by simpa using hw), rfl, rfl⟩⟩
  ·cases hs
 back := HI (dY h).1
 pair := HJ (dY h).1
 look := fun j e oj oe hj he h2 h3 hf1 hf2 => (dY h).2.1 (j, e) (ID hj he h2 h3 hf1 hf2) oj hj
theorem Ge (hcall : ox P G call) (hmono : iA call) (hm : P.follows .mixedOrders = true) {id : Nat} {Q : Exit → Act → World → Prop} {A : List Value} {a : Act} {A' : List Value} {H' : AH} (h : dy P G call ops A H = some (A', H'))
 (hA : bf ds P ρ A a) (hG : GlobRel ρ G) (hR : Rel P w0 B ρ H w) (hQ : ∀ a' w', Fu ds P w0 B G ρ H w A' H' a' w' → Q .normal a' w') : (Code.region id ops true).wp P Q a w := by
 have W : Way (al6 h) w0 B ρ w.drew := ⟨hcall, hmono, hG, hR.drew, ⟨ds, a, hA⟩⟩;refine R6 W (fun _ => rfl) hm (w := w) rfl hA (fun a' w' hp => hQ a' w' ?_);obtain ⟨ρ', h1, h2, h3, h4⟩ := hp;have e : (al6 h).s ops.size = (A', H') := ak1 (dY h).2.2;rw [e] at h1 h3 h4;exact ⟨ρ', h1, h2, eE.of_drew h3, h4⟩
end
inductive AE where
 | normal
 | exit (id : Nat)
 | ret
deriving DecidableEq
abbrev AR := AE × List Value × AH
def d9 (f : List Value → AH → Option AR) : Nat → List Value → AH → Option AR
 | 0, _, _ => none
 | n + 1, A, H => (f A H).bind fun r => match r.1 with
  | .normal => d9 f n r.2.1 r.2.2
  | _ => some r
theorem Fw {f : List Value → AH → Option AR} {n : Nat} {A : List Value} {H : AH} {r : AR} (h : d9 f n A H = some r) : ∀ m, n ≤ m → d9 f m A H = some r := by
 induction n generalizing A H with
 | zero => cases h
 | succ n ih =>
  intro m hm;obtain ⟨m, rfl⟩ : ∃ k, m = k + 1 := ⟨m - 1, by omega⟩;simp only [d9] at h ⊢;obtain ⟨s, hs, h⟩ := ai.1 h;rw [hs];simp only [aB]
  split at h
  ·exact ih h m (by omega)
  ·exact h
open Classical in
noncomputable def rE (f : List Value → AH → Option AR) (A : List Value) (H : AH) : Option AR := if h : ∃ n r, d9 f n A H = some r then some h.choose_spec.choose else none
theorem cH {f : List Value → AH → Option AR} {A : List Value} {H : AH} {r : AR} : rE f A H = some r ↔ ∃ n, d9 f n A H = some r := by
 unfold rE
 constructor
 ·intro h
  split at h
  ·rename_i hx
   cases h;exact ⟨_, hx.choose_spec.choose_spec⟩
  ·cases h
 ·rintro ⟨n, hn⟩
  have hx : ∃ n r, d9 f n A H = some r := ⟨n, r, hn⟩;rw [dif_pos hx];have h1 := Fw hx.choose_spec.choose_spec (max n hx.choose) (Nat.le_max_right ..);have h2 := Fw hn (max n hx.choose) (Nat.le_max_left ..);rw [h2] at h1;exact h1.symm
theorem X5 (f : List Value → AH → Option AR) (A : List Value) (H : AH) : rE f A H = (f A H).bind fun r => match r.1 with | .normal => rE f r.2.1 r.2.2 | _ => some r := by
 apply Option.ext;intro r;rw [cH]
 constructor
 ·rintro ⟨n, hn⟩
  cases n with
  | zero => cases hn
  | succ n =>
   simp only [d9] at hn;obtain ⟨s, hs, h⟩ := ai.1 hn;rw [hs];simp only [aB]
   split at h
   ·exact cH.2 ⟨n, h⟩
   ·exact h
 ·intro h
  obtain ⟨s, hs, h⟩ := ai.1 h
  split at h
  ·rename_i e
   obtain ⟨n, hn⟩ := cH.1 h;refine ⟨n + 1, ?_⟩;simp only [d9, hs, aB, e];exact hn
  ·rename_i e
   refine ⟨1, ?_⟩;simp only [d9, hs, aB];exact h
noncomputable def fm (P : Program) (G : List Nat) (call : aR) (ops : Array Oper) (draw : Bool) (A : List Value) (H : AH) : Option (List Value × AH) :=
 match draw with
 | true => dy P G call ops A H
 | false => bJ P G call ops ops.toList A H
noncomputable def ax (P : Program) (G : List Nat) (call : aR) : Code → List Value → AH → Option AR
 | .skip, A, H => some (.normal, A, H)
 | .label _, A, H => some (.normal, A, H)
 | .region _ ops draw, A, H => (fm P G call ops draw A H).map fun s => (.normal, s.1, s.2)
 | .seq x y, A, H => (ax P G call x A H).bind fun r => match r.1 with
  | .normal => ax P G call y r.2.1 r.2.2
  | _ => some r
 | .cond c x y, A, H => match cf A c with
  | .bool true => ax P G call x A H
  | .bool false => ax P G call y A H
  | _ => none
 | .block id x, A, H => (ax P G call x A H).map fun r => match r.1 with
  | .exit i => if i = id then (.normal, r.2.1, r.2.2) else r
  | _ => r
 | .loop x, A, H => rE (ax P G call x) A H
 | .exit id, A, H => some (.exit id, A, H)
 | .ret, A, H => some (.ret, A, H)
 | _, _, _ => none
def AE.to : AE → Exit
 | .normal => .normal
 | .exit id => .exit id
 | .ret => .ret
section
variable {ds : List Deferred} {P : Program} {w0 : World} {B : Nat} {G : List Nat} {call : aR}
theorem Fu.trans {ρ ρ1 : aV} {H H1 H2 : AH} {w w1 w2 : World} {A2 : List Value} {a2 : Act} (hR : Rel P w0 B ρ H w) (hE : eE ρ H w ρ1 H1 w1) (h : Fu ds P w0 B G ρ1 H1 w1 A2 H2 a2 w2) : Fu ds P w0 B G ρ H w A2 H2 a2 w2 := by
 obtain ⟨ρ', h1, h2, h3, h4⟩ := h;exact ⟨ρ', h1, h2, hE.trans hR h3, h4⟩
theorem yg (hcall : ox P G call) (hmono : iA call) (hm : P.follows .mixedOrders = true) : ∀ (c : Code) {Q : Exit → Act → World → Prop} {ρ : aV} {A : List Value} {H : AH} {a : Act} {w : World} {e : AE} {A' : List Value} {H' : AH},
 ax P G call c A H = some (e, A', H') → bf ds P ρ A a → GlobRel ρ G → Rel P w0 B ρ H w → (∀ a' w', Fu ds P w0 B G ρ H w A' H' a' w' → Q e.to a' w') → c.wp P Q a w := by
 intro c
 induction c with
 | skip =>
  intro Q ρ A H a w e A' H' h hA hG hR hQ;simp only [ax] at h; cases h;exact wp_skip (hQ a w ⟨ρ, hA, hG, eE.refl _ _ _, hR⟩)
 | label l =>
  intro Q ρ A H a w e A' H' h hA hG hR hQ;simp only [ax] at h; cases h;exact wp_label (hQ a w ⟨ρ, hA, hG, eE.refl _ _ _, hR⟩)
 | exit id =>
  intro Q ρ A H a w e A' H' h hA hG hR hQ;simp only [ax] at h; cases h;exact wp_exit (hQ a w ⟨ρ, hA, hG, eE.refl _ _ _, hR⟩)
 | ret =>
  intro Q ρ A H a w e A' H' h hA hG hR hQ;simp only [ax] at h; cases h;exact wp_ret (hQ a w ⟨ρ, hA, hG, eE.refl _ _ _, hR⟩)
 | region id ops draw =>
  intro Q ρ A H a w e A' H' h hA hG hR hQ;simp only [ax] at h;obtain ⟨⟨A1, H1⟩, hs, e1⟩ := au.1 h;cases e1
  cases draw with
  | true => exact Ge hcall hmono hm hs hA hG hR hQ
  | false => exact Oy hcall hs hA hG hR hQ
 | seq x y ihx ihy =>
  intro Q ρ A H a w e A' H' h hA hG hR hQ;simp only [ax] at h;obtain ⟨⟨e1, A1, H1⟩, hx, h⟩ := ai.1 h;refine wp_seq (ihx hx hA hG hR (fun a1 w1 hp => ?_))
  cases e1 with
  | normal =>
   simp only at h;obtain ⟨ρ1, hA1, hG1, hE1, hR1⟩ := hp;exact ihy h hA1 hG1 hR1 (fun a' w' hp => hQ a' w' (hp.trans hR hE1))
  | exit id => simp only at h; cases h; exact hQ a1 w1 hp
  | ret => simp only at h; cases h; exact hQ a1 w1 hp
 | cond c x y ihx ihy =>
  intro Q ρ A H a w e A' H' h hA hG hR hQ;simp only [ax] at h
  have hc : ∀ t, cf A c = .bool t → a.eval c = .bool t := by
   intro t ht
   cases c with
   | tmp u =>
    simp only [cf] at ht
    cases hx : A[u]? with
    | none => rw [hx] at ht; simp [undef] at ht
    | some x =>
     rw [hx] at ht;simp only [Option.getD_some] at ht;subst ht;obtain ⟨y, hy, hv⟩ := hA.tmps.get hx;rw [Array.getElem?_toList] at hy;simp only [Act.eval, Array.getD_eq_getD_getElem?, hy, Option.getD_some];exact hv.bool_inv
   | const v => exact ht
   | global g => cases ht
   | func f => cases ht
  split at h
  ·rename_i ht; exact wp_cond (hc _ ht) (ihx h hA hG hR hQ)
  ·rename_i ht; exact wp_cond (hc _ ht) (ihy h hA hG hR hQ)
  ·cases h
 | block id x ih =>
  intro Q ρ A H a w e A' H' h hA hG hR hQ;simp only [ax] at h;obtain ⟨⟨e1, A1, H1⟩, hx, e2⟩ := au.1 h;refine wp_block (ih hx hA hG hR (fun a1 w1 hp => ?_))
  cases e1 with
  | normal => simp only at e2; cases e2; exact hQ a1 w1 hp
  | ret => simp only at e2; cases e2; exact hQ a1 w1 hp
  | exit i =>
   simp only at e2;simp only [AE.to, Exit.inBlock]
   split at e2
   ·rename_i hi; cases e2; rw [if_pos hi]; exact hQ a1 w1 hp
   ·rename_i hi; cases e2; rw [if_neg hi]; exact hQ a1 w1 hp
 | loop x ih =>
  intro Q ρ A H a w e A' H' h hA hG hR hQ;simp only [ax] at h;obtain ⟨n, hn⟩ := cH.1 h;refine wp_loop_rounds n ?_
  clear h
  induction n generalizing ρ A H a w with
  | zero => cases hn
  | succ n ihn =>
   simp only [d9] at hn;obtain ⟨⟨e1, A1, H1⟩, hx, h⟩ := ai.1 hn;rw [rounds_succ];refine ih hx hA hG hR (fun a1 w1 hp => ?_)
   cases e1 with
   | normal =>
    simp only at h;obtain ⟨ρ1, hA1, hG1, hE1, hR1⟩ := hp;exact ihn hA1 hG1 hR1 (fun a' w' hp => hQ a' w' (hp.trans hR hE1)) h
   | exit id => simp only at h; cases h; exact hQ a1 w1 hp
   | ret => simp only at h; cases h; exact hQ a1 w1 hp
 | rangeFunc f ps x y => intro Q ρ A H a w e A' H' h; simp [ax] at h
 | scope x => intro Q ρ A H a w e A' H' h; simp [ax] at h
 | goto l => intro Q ρ A H a w e A' H' h; simp [ax] at h
 | refuse s => intro Q ρ A H a w e A' H' h; simp [ax] at h
theorem jS (hm : iA call) {ops : Array Oper} : ∀ (l : List Oper) {A : List Value} {H : AH} {r : List Value × AH}, bJ P G call ops l A H = some r → H.size ≤ r.2.size := by
 intro l
 induction l with
 | nil => intro A H r h; simp only [bJ] at h; cases h; exact cr _
 | cons o l ih =>
  intro A H r h;simp only [bJ] at h;obtain ⟨s, hs, h⟩ := ai.1 h;refine lS ?_ (ih h);unfold bO at hs
  split at hs
  ·split at hs
   ·obtain ⟨⟨v, H2⟩, hv, e⟩ := au.1 hs
    cases e; exact M0 hm hv
   ·cases hs; exact cr _
  ·cases hs
theorem yb (hm : iA call) : ∀ (c : Code) {A : List Value} {H : AH} {r : AR}, ax P G call c A H = some r → H.size ≤ r.2.2.size := by
 intro c
 induction c with
 | skip => intro A H r h; simp only [ax] at h; cases h; exact cr _
 | label l => intro A H r h; simp only [ax] at h; cases h; exact cr _
 | exit id => intro A H r h; simp only [ax] at h; cases h; exact cr _
 | ret => intro A H r h; simp only [ax] at h; cases h; exact cr _
 | region id ops draw =>
  intro A H r h;simp only [ax] at h;obtain ⟨s, hs, e1⟩ := au.1 h;cases e1
  cases draw with
  | true => exact jS hm _ (dY hs).2.2
  | false => exact jS hm _ hs
 | seq x y ihx ihy =>
  intro A H r h;simp only [ax] at h;obtain ⟨s, hx, h⟩ := ai.1 h;have h1 := ihx hx
  split at h
  ·exact lS h1 (ihy h)
  ·cases h; exact h1
 | cond c x y ihx ihy =>
  intro A H r h;simp only [ax] at h
  split at h
  ·exact ihx h
  ·exact ihy h
  ·cases h
 | block id x ih =>
  intro A H r h;simp only [ax] at h;obtain ⟨s, hx, e2⟩ := au.1 h;have h1 := ih hx
  split at e2
  ·split at e2 <;> (subst e2; exact h1)
  ·subst e2; exact h1
 | loop x ih =>
  intro A H r h;simp only [ax] at h;obtain ⟨n, hn⟩ := cH.1 h
  clear h
  induction n generalizing A H with
  | zero => cases hn
  | succ n ihn =>
   simp only [d9] at hn;obtain ⟨s, hx, h⟩ := ai.1 hn;have h1 := ih hx
   split at h
   ·exact lS h1 (ihn h)
   ·cases h; exact h1
 | rangeFunc f ps x y => intro A H r h; simp [ax] at h
 | scope x => intro A H r h; simp [ax] at h
 | goto l => intro A H r h; simp [ax] at h
 | refuse s => intro A H r h; simp [ax] at h
end
def iC (P : Program) (A : List Value) (H : AH) : ResultVar → Option Value
 | .tmp t => some (A[t]?.getD undef)
 | .cell a t => (eG P t).bind fun g => match g with
  | some n => aQ n (A[a]?.getD undef) H
  | none => aA (A[a]?.getD undef) H
def nr (P : Program) (A : List Value) (H : AH) : List ResultVar → Option (List Value)
 | [] => some []
 | r :: rs => (iC P A H r).bind fun v => (nr P A H rs).bind fun vs => some (v :: vs)
def bZ (P : Program) (A : List Value) (H : AH) (rs : List ResultVar) : Option Value := (nr P A H rs).map fun vs => match vs with
 | [v] => v
 | vs => .tuple vs.toArray
def Vp (P : Program) (rs : List ResultVar) (r : AR) : Option (Value × AH) :=
 match r.1 with
 | .exit _ => none
 | _ => (bZ P r.2.1 r.2.2 rs).map (·, r.2.2)
noncomputable def zb (P : Program) (G : List Nat) (call : aR) (n : Nat) (rs : List ResultVar) (c : Code) (args : List Value) (H : AH) : Option (Value × AH) :=
 (ax P G call c (args ++ List.replicate (n - args.length) undef) H).bind (Vp P rs)
structure DSh where
 c1 : Code
 id2 : Nat
 ops2 : Array Oper
 om : Oper
 df : Oper
 t : Nat
 k : Nat
 id3 : Nat
 ops3 : Array Oper
def PE : Code → Option DSh
 | .seq c1 (.seq (.region id2 ops2 false) (.seq (.region id3 ops3 false) .ret)) => match ops2.toList with
  | [mk, df] => match mk.dst, mk.op, mk.guard, df.dst, df.op, df.guard with
   | some t, .makeFunc (.func k) first _, none, none, .defer ⟨.value (.tmp t'), args, _⟩, none => if t = t' ∧ first = #[] ∧ args = #[] then some ⟨c1, id2, ops2, mk, df, t, k, id3, ops3⟩ else none
   | _, _, _, _, _, _ => none
  | _ => none
 | _ => none
def eo (P : Program) (k : Nat) : Prop :=
 (∃ fn, P.funcs[k]? = some fn ∧ fn.body.isSome = true ∧ fn.name ≠ "runtime.NumGoroutine") ∧
 ∀ (args : Array Value) (w : World), CallsD P k args .returning w fun e u' w' => (∃ v, e = .returned v) ∧ u' = .returning ∧ w' = w
section
variable {ds : List Deferred} {P : Program} {w0 : World} {B : Nat} {ρ : aV} {H : AH} {w : World} {G : List Nat} {call : aR}
theorem Sg {A : List Value} {a : Act} (hA : bf ds P ρ A a) (hR : Rel P w0 B ρ H w) {r : ResultVar} {v : Value} (h : iC P A H r = some v) :
 ∃ v', (match r with | .tmp t => pure (a.tmps.getD t undef) | .cell x t => do loadVar t (← asAddr (a.tmps.getD x undef)) : Sem Value).run P w = .ok v' w ∧ VRel P ρ v v' := by
 have slot : ∀ t, VRel P ρ (A[t]?.getD undef) (a.tmps.getD t undef) := fun t => ta (G := []) hA (fun g hg => by simp at hg) (x := .tmp t) rfl
 cases r with
 | tmp t => simp only [iC] at h; cases h; exact ⟨_, rfl, slot t⟩
 | cell x t =>
  simp only [iC] at h;obtain ⟨g, hg, h⟩ := ai.1 h
  cases g with
  | none =>
   obtain ⟨a', y', ha, hr, hv⟩ := afW hR h (slot x);refine ⟨y', ?_, hv⟩;simp only [ha];simp [asAddr, loadVar, qu hg]
   simpa using hr
  | some n =>
   obtain ⟨a', ys, ha, hr, hv⟩ := Jz hR h (slot x);obtain ⟨hag, hsz⟩ := qw hg w;refine ⟨.agg ys, ?_, hv⟩;simp only [ha];simp [asAddr, loadVar, hag, cG hsz, hr]
theorem af5 {A : List Value} {a : Act} (hA : bf ds P ρ A a) (hR : Rel P w0 B ρ H w) : ∀ {rs : List ResultVar} {vs : List Value}, nr P A H rs = some vs →
 ∃ vs', (rs.mapM (fun r => (match r with | .tmp t => pure (a.tmps.getD t undef) | .cell x t => do loadVar t (← asAddr (a.tmps.getD x undef)) : Sem Value))).run P w = .ok vs' w ∧ LRel P ρ vs vs' := by
 intro rs
 induction rs with
 | nil => intro vs h; simp only [nr] at h; cases h; exact ⟨[], rfl, LRel.nil⟩
 | cons r rs ih =>
  intro vs h;simp only [nr] at h;obtain ⟨v, hv, h⟩ := ai.1 h;obtain ⟨vs0, hvs, h⟩ := ai.1 h;cases h;obtain ⟨v', hr, hv'⟩ := Sg hA hR hv;obtain ⟨vs', hrs, hvs'⟩ := ih hvs;refine ⟨v' :: vs', ?_, hvs'.cons hv'⟩;rw [List.mapM_cons];simp only [Sem.run_bind, hr, Result.andThen_ok, hrs, Sem.run_pure]
theorem nW {A : List Value} {a : Act} (hA : bf ds P ρ A a) (hR : Rel P w0 B ρ H w) {fn : Func} {v : Value} (h : bZ P A H fn.results.toList = some v) :
 ∃ v', (results fn a.tmps).run P w = .ok v' w ∧ VRel P ρ v v' := by
 unfold bZ at h;obtain ⟨vs, hvs, e⟩ := au.1 h;obtain ⟨vs', hrun, hl⟩ := af5 hA hR hvs
 have hm : ∀ g : ResultVar → Sem Value, (fn.results.mapM g).run P w = ((fn.results.toList.mapM g >>= fun l => pure l.toArray : Sem (Array Value))).run P w := by
  intro g;rw [Array.mapM_eq_mapM_toList]
  rfl
 have h2 : (results fn a.tmps).run P w = .ok (if h : vs'.toArray.size = 1 then vs'.toArray[0] else .tuple vs'.toArray) w := by
  unfold results;rw [Sem.run_bind, hm, Sem.run_bind]
  erw [hrun]
  rfl
 refine ⟨_, h2, ?_⟩;have hlen := hl.1
 split at e
 ·rename_i x
  subst e
  match vs', hlen, hl with
  | [y], _, hl => simpa using hl.2 0 _ _ rfl rfl
 ·rename_i hne
  subst e
  have : ¬ vs'.toArray.size = 1 := by
   intro h1
   match vs, hlen, hne with
   | [x], _, hne => exact hne x rfl
   | [], hlen, _ => simp at hlen h1; omega
   | x :: y :: zs, hlen, _ => simp at hlen h1; omega
  rw [dif_neg this];exact .tuple (by simp [hlen]) (fun i x y hx hy => hl.2 i x y (by simpa using hx) (by simpa using hy))
end
def CLe (c1 c2 : aR) : Prop := ∀ f args H r, c1 f args H = some r → c2 f args H = some r
section
variable {P : Program} {G : List Nat} {c1 c2 : aR}
theorem amP (h : CLe c1 c2) {ev : Operand → Value} {o : Oper} {H : AH} {r : Value × AH} (hr : dj P c1 ev o H = some r) : dj P c2 ev o H = some r := by
 obtain ⟨dst, op, type, pos, after, guard⟩ := o
 cases op with
 | call c =>
  obtain ⟨callee, args, ats⟩ := c
  cases callee with
  | value f =>
   simp only [dj] at hr ⊢;obtain ⟨x, hx, hr⟩ := ai.1 hr;rw [hx];exact h _ _ _ _ hr
  | invoke r m => exact hr
  | builtin b => exact hr
 | makeMap t r => cases r <;> exact hr
 | slice t x lo hi mx => cases lo <;> cases hi <;> cases mx <;> exact hr
 | _ => exact hr
theorem oU (h : CLe c1 c2) {ops : Array Oper} {o : Oper} {A : List Value} {H : AH} {r : List Value × AH} (hr : bO P G c1 ops o A H = some r) : bO P G c2 ops o A H = some r := by
 unfold bO at hr ⊢
 split at hr
 ·rename_i hok
  rw [if_pos hok]
  split at hr
  ·rename_i hw
   rw [if_pos hw];obtain ⟨x, hx, e⟩ := au.1 hr;rw [amP h hx];exact congrArg some e
  ·rename_i hw
   rw [if_neg hw];exact hr
 ·cases hr
theorem nu (h : CLe c1 c2) {ops : Array Oper} : ∀ (l : List Oper) {A : List Value} {H : AH} {r : List Value × AH}, bJ P G c1 ops l A H = some r → bJ P G c2 ops l A H = some r := by
 intro l
 induction l with
 | nil => intro A H r hr; exact hr
 | cons o l ih =>
  intro A H r hr;simp only [bJ] at hr ⊢;obtain ⟨s, hs, hr⟩ := ai.1 hr;rw [oU h hs];exact ih hr
theorem ag8 (h : CLe c1 c2) {ops : Array Oper} {A : List Value} {H : AH} {r : List Value × AH} (hr : bJ P G c1 ops ops.toList A H = some r) : gT P G c2 ops A H = gT P G c1 ops A H := by
 funext i
 have h1 := nu h _ (vg hr i);unfold gT at h1 ⊢;rw [h1]; rfl
theorem Fv (h : CLe c1 c2) {ops : Array Oper} {A : List Value} {H : AH} {r : List Value × AH} (hr : dy P G c1 ops A H = some r) : dy P G c2 ops A H = some r := by
 obtain ⟨h1, h2, h3⟩ := dY hr;unfold dy;rw [h1];simp only
 cases h4 : dB ops.toList with
 | nil => exact nu h _ h3
 | cons p ps =>
  simp only;rw [fG ?_]
  ·exact nu h _ h3
  ·rw [ag8 h h3, ← h4]; exact h2
theorem oS (h : CLe c1 c2) : ∀ (c : Code) {A : List Value} {H : AH} {r : AR}, ax P G c1 c A H = some r → ax P G c2 c A H = some r := by
 intro c
 induction c with
 | region id ops draw =>
  intro A H r hr;simp only [ax] at hr ⊢;obtain ⟨s, hs, e1⟩ := au.1 hr
  have : fm P G c2 ops draw A H = some s := by
   cases draw with
   | true => exact Fv h hs
   | false => exact nu h _ hs
  rw [this]; exact congrArg some e1
 | seq x y ihx ihy =>
  intro A H r hr;simp only [ax] at hr ⊢;obtain ⟨s, hx, hr⟩ := ai.1 hr;rw [ihx hx];simp only [aB]
  split at hr
  ·exact ihy hr
  ·exact hr
 | cond c x y ihx ihy =>
  intro A H r hr;simp only [ax] at hr ⊢
  split at hr
  ·exact ihx hr
  ·exact ihy hr
  ·cases hr
 | block id x ih =>
  intro A H r hr;simp only [ax] at hr ⊢;obtain ⟨s, hx, e2⟩ := au.1 hr;rw [ih hx]; exact congrArg some e2
 | loop x ih =>
  intro A H r hr;simp only [ax] at hr ⊢;obtain ⟨n, hn⟩ := cH.1 hr;refine cH.2 ⟨n, ?_⟩
  clear hr
  induction n generalizing A H with
  | zero => cases hn
  | succ n ihn =>
   simp only [d9] at hn ⊢;obtain ⟨s, hx, hr⟩ := ai.1 hn;rw [ih hx];simp only [aB]
   split at hr
   ·exact ihn hr
   ·exact hr
 | _ => intro A H r hr; exact hr
end
end Go.Proofs.YthagelbepgcolaaGreatDoor.Gst
