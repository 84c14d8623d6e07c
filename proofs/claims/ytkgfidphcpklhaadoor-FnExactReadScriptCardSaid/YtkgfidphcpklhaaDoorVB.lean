/- One operation, told by content: what is told is so. One operation, told by content: loads, stores, indexes, sums. One operation, told by content: sums of numbers and strings, conversions, structs built. One operation, told by content: conversions, structs and rows built, parts of rows. One operation, told by content: structs and rows built. One operation, told by content: rows built. One operation, told by content: rows built, parts of rows, lengths, appends. -/
import Derived.Test.YtkgfidphcpklhaaDoorVA
import Derived.Laws.MakeOwn
set_option linter.unusedSimpArgs false
namespace Go.Proofs.YtkgfidphcpklhaaDoor
open Go.RowKit Pl
set_option linter.unusedVariables false
set_option linter.unusedSectionVars false

def Ran (P : Program) (X : Cx) (id : Nat) (K : Kon) (s : Sem Next) : Prop :=
  ∃ n v w', s.run P X.w = .ok n w' ∧ (n = .value v ∨ (n = .skip ∧ v = undef)) ∧ Out X id K v w'
theorem Ran.value {P : Program} {X : Cx} {id : Nat} {K : Kon} {s : Sem Value} {v : Value} {w' : World} (h : s.run P X.w = .ok v w') (ho : Out X id K v w') : Ran P X id K (do pure (.value (← s))) :=
  ⟨.value v, v, w', by simp [h], .inl rfl, ho⟩
theorem Ran.unit {P : Program} {X : Cx} {id : Nat} {K : Kon} {s : Sem Unit} {w' : World} (h : s.run P X.w = .ok () w') (ho : Out X id K undef w') : Ran P X id K (do s; pure .skip) :=
  ⟨.skip, undef, w', by simp [h], .inr ⟨rfl, rfl⟩, ho⟩

theorem args1 {X : Cx} {x : T} {v : Value} (h : Args X [x] [v]) : RS X x v := by
  obtain ⟨u, us, he, h1, h2⟩ := h
  injection he with a b; subst a; exact h1
theorem args2 {X : Cx} {x y : T} {v u : Value} (h : Args X [x, y] [v, u]) : RS X x v ∧ RS X y u := by
  obtain ⟨v', us, he, h1, h2⟩ := h
  injection he with a b; subst a b
  obtain ⟨u', us', he, h3, h4⟩ := h2
  injection he with a b; subst a; exact ⟨h1, h3⟩
theorem args3 {X : Cx} {x y z : T} {v u t : Value} (h : Args X [x, y, z] [v, u, t]) : RS X x v ∧ RS X y u ∧ RS X z t := by
  obtain ⟨v', us, he, h1, h2⟩ := h
  injection he with a b; subst a b
  exact ⟨h1, args2 h2⟩
theorem rs_int {X : Cx} {k : IntKind} {n : Int} {v : Value} (h : RS X (.int k n) v) : v = .int k n := by simpa [RS, RS1, RS0, RV] using h
theorem rs_bool {X : Cx} {b : Bool} {v : Value} (h : RS X (.bool b) v) : v = .bool b := by simpa [RS, RS1, RS0, RV] using h
theorem rs_str {X : Cx} {s : Bs} {v : Value} (h : RS X (.str s) v) : v = .string (bs s) := by simpa [RS, RS1, RS0, RV] using h
theorem mk_int (X : Cx) (k : IntKind) (n : Int) : RS X (.int k n) (.int k n) := by simp [RS, RS1, RS0, RV]
theorem mk_bool (X : Cx) (b : Bool) : RS X (.bool b) (.bool b) := by simp [RS, RS1, RS0, RV]
theorem mk_str (X : Cx) (s : Bs) : RS X (.str s) (.string (bs s)) := by simp [RS, RS1, RS0, RV]
theorem rs_ptr {X : Cx} {r i j : Nat} {v : Value} (h : RS X (.ptr r i j) v) : X.us r ∧ (∃ a, v = .pointer (some a)) ∧ ∀ e, X.H r = some e → ∃ g, X.ow g = some r ∧ v = .pointer (some ⟨g, i * e.wd + j, none⟩) := h
theorem rs_rptr {X : Cx} {c : List T} {j : Nat} {v : Value} (h : RS X (.rptr c j) v) : ∃ g o C t fr, v = .pointer (some ⟨g, o + j, none⟩) ∧ X.ow g = none ∧ X.w.heap[g]? = some (.cells C t fr) ∧ RL X.ow X.w c ((C.toList.drop o).take c.length) := h
theorem rs_ref {X : Cx} {r : Nat} {v : Value} (h : RS X (.ref r) v) : X.us r ∧ (∃ A n c, v = .slice A n c) ∧ ∀ k es, X.H r = some (.row k es) → Hdr X r k es.length v := h
/-- A value of one cell or some: its cells. -/
theorem cells_rs {X : Cx} {x : T} {v : Value} {cs : List T} (h : RS X x v) (hc : cellsT x = some cs) : RSl X cs v.cells.toList := by
  cases x <;> simp [cellsT] at hc
  case agg cs' => subst hc; obtain ⟨vs, rfl, h⟩ := h; simpa [Value.cells] using h
  all_goals subst hc
  case int => rw [rs_int h]; exact ⟨_, _, rfl, rfl, RV.rs0 (by simp [RV]), rfl⟩
  case bool => rw [rs_bool h]; exact ⟨_, _, rfl, rfl, RV.rs0 (by simp [RV]), rfl⟩
  case str => rw [rs_str h]; exact ⟨_, _, rfl, rfl, RV.rs0 (by simp [RV]), rfl⟩
  case val x =>
    have h0 : v = x ∧ x.oneCell' = true := by simpa [RS, RS1, RS0, RV] using h
    obtain ⟨rfl, h1⟩ := h0
    have hv : v.cells = #[v] := by cases v <;> first | rfl | (simp [Value.oneCell'] at h1)
    rw [hv]
    exact ⟨_, _, rfl, h1, RV.rs0 (by simp [RV, h1]), rfl⟩
  case sl k es =>
    have h0 : RV X.ow X.w (.sl k es) v := h
    have h1 := h0.one
    have hv : v.cells = #[v] := by cases v <;> first | rfl | (simp [Value.oneCell'] at h1)
    rw [hv]
    exact ⟨_, _, rfl, h1, h0.rs0, rfl⟩
  case ref r =>
    obtain ⟨h1, ⟨A, n, c, rfl⟩, h3⟩ := rs_ref h
    exact ⟨_, _, rfl, rfl, h, rfl⟩
  case ptr r i j =>
    obtain ⟨h1, ⟨A, rfl⟩, h3⟩ := rs_ptr h
    exact ⟨_, _, rfl, rfl, h, rfl⟩
  case rptr c j =>
    obtain ⟨g, o, C, t, fr, rfl, h3⟩ := rs_rptr h
    exact ⟨_, _, rfl, rfl, h, rfl⟩

theorem und_struct {P : Program} {t : TypeId} {y : Ty} {fs : List (Nat × TypeId)} (hy : TyOk P t y) (hd : y.d = .struct fs) : ∃ F : Array Field, P.underlying t = some (.struct F) ∧ F.toList.map (fun f => (f.offset, f.type)) = fs := by
  obtain ⟨d, hu, he⟩ := hy.und
  rw [hd] at he
  cases d <;> simp [TD.of] at he
  exact ⟨_, hu, he⟩
theorem und_slice {P : Program} {t e : TypeId} {y : Ty} (hy : TyOk P t y) (hd : y.d = .slice e) : P.underlying t = some (.slice e) := by
  obtain ⟨d, hu, he⟩ := hy.und
  rw [hd] at he
  cases d <;> simp [TD.of] at he
  subst he; exact hu
theorem und_array {P : Program} {t e : TypeId} {n : Nat} {y : Ty} (hy : TyOk P t y) (hd : y.d = .array n e) : P.underlying t = some (.array n e) := by
  obtain ⟨d, hu, he⟩ := hy.und
  rw [hd] at he
  cases d <;> simp [TD.of] at he
  obtain ⟨rfl, rfl⟩ := he; exact hu
theorem und_string {P : Program} {t : TypeId} {y : Ty} (hy : TyOk P t y) (hd : y.d = .string) : P.underlying t = some .string := by
  obtain ⟨d, hu, he⟩ := hy.und
  rw [hd] at he
  cases d <;> simp [TD.of] at he
  exact hu
theorem und_int {P : Program} {t : TypeId} {k : IntKind} {y : Ty} (hy : TyOk P t y) (hd : y.d = .int k) : P.underlying t = some (.int k) := by
  obtain ⟨d, hu, he⟩ := hy.und
  rw [hd] at he
  cases d <;> simp [TD.of] at he
  subst he; exact hu
theorem size_of {P : Program} {t : TypeId} {y : Ty} (hy : TyOk P t y) (w : World) : (sizeOf t).run P w = .ok y.sz w := by
  obtain ⟨i, z, hi, hs, _⟩ := hy.info
  simp [sizeOf, typeInfo, hi, hs]
theorem agg_of {P : Program} {t : TypeId} {y : Ty} (hy : TyOk P t y) (w : World) : (isAgg t).run P w = .ok y.d.agg w := by
  obtain ⟨d, hu, he⟩ := hy.und
  rw [← he]
  unfold isAgg
  rw [Sem.run_bind, run_underlying hu]
  cases d <;> rfl
theorem zero_of {P : Program} {t : TypeId} {y : Ty} (hy : TyOk P t y) (w : World) : ∃ z, (zeroValue t).run P w = .ok z w ∧ z.cells.toList = y.zero.map zv := by
  obtain ⟨i, z, hi, _, _, hz, hc⟩ := hy.info
  exact ⟨z, by simp [zeroValue, typeInfo, hi, hz], hc⟩

section
variable {P : Program} {tt : TT} (htt : TtOk P tt) {X : Cx} {id : Nat} {K : Kon} (hh : HR X) (hi : Fresh X id)
include htt hh hi

theorem eff_alloc {e : TypeId} {old : Value} (h : Eff tt (.alloc e) 0 [] X.H id K) : Ran P X id K (do pure (.value (← Instr.alloc e true old))) := by
  simp only [Eff] at h
  cases hy : tt e with
  | none => rw [hy] at h; exact h.elim
  | some y =>
    rw [hy] at h
    obtain ⟨z, hz, hc⟩ := zero_of (htt _ _ hy) X.w
    refine Ran.value (v := .pointer (some ⟨X.w.heap.size, 0, none⟩)) (w' := X.w.alloc (.cells z.cells e)) ?_ (Out.newBox hh hi h ?_)
    · simp [Instr.alloc, newVar, newRow, hz]
    · rw [hc]; exact (zok_rl (htt _ _ hy).zs).rsl
theorem eff_box {e : TypeId} {x : T} {v : Value} (hx : RS X x v) (h : Eff tt (.box e (.tmp 0)) 0 [x] X.H id K) : Ran P X id K (do pure (.value (← Instr.box e v))) := by
  simp only [Eff] at h
  split at h
  · rename_i y cs hy hc
    refine Ran.value (v := .pointer (some ⟨X.w.heap.size, 0, none⟩)) (w' := X.w.alloc (.cells v.cells e)) ?_ (Out.newBox hh hi h (cells_rs hx hc))
    simp [Instr.box, newVar, newRow]
  · exact h.elim
theorem eff_fieldAddr {st : TypeId} {f : Nat} {x : T} {v : Value} (hx : RS X x v) (h : Eff tt (.fieldAddr st (.tmp 0) f) 0 [x] X.H id K) : Ran P X id K (do pure (.value (← Instr.fieldAt st v f))) := by
  simp only [Eff] at h
  split at h <;> try exact h.elim
  rename_i y hy
  split at h <;> try exact h.elim
  rename_i fs hd
  split at h <;> try exact h.elim
  rename_i off ft hf
  split at h <;> try exact h.elim
  rename_i yf hyf
  obtain ⟨hz, h⟩ := h
  obtain ⟨F, hu, hF⟩ := und_struct (htt _ _ hy) hd
  have hF2 : ∃ fl : Field, F[f]? = some fl ∧ fl.offset = off ∧ fl.type = ft := by
    rw [← hF, List.getElem?_map] at hf
    cases hff : F.toList[f]? with
    | none => rw [hff] at hf; cases hf
    | some fl =>
      rw [hff] at hf
      simp at hf
      exact ⟨fl, by simpa using hff, hf.1, hf.2⟩
  obtain ⟨fl, hfl, rfl, rfl⟩ := hF2
  have hsz := size_of (htt _ _ hyf) X.w
  have run : ∀ g o, (Instr.fieldAt st (.pointer (some ⟨g, o, none⟩)) f).run P X.w = .ok (.pointer (some ⟨g, o + fl.offset, none⟩)) X.w := fun g o => by
    simp [Instr.fieldAt, run_underlying hu, hfl, Instr.sureAddr, fieldPlace, hsz, hz]
    unfold Addr.add
    split <;> simp_all
  split at h <;> try exact h.elim
  · rename_i r i j
    obtain ⟨h1, ⟨a, rfl⟩, h3⟩ := rs_ptr hx
    cases hH : X.H r with
    | none =>
      refine Ran.value (v := .pointer (some ((a.add fl.offset)))) (w' := X.w) ?_ (Out.same hh hi h ⟨h1, ⟨_, rfl⟩, fun e he => by rw [hH] at he; cases he⟩)
      simp [Instr.fieldAt, run_underlying hu, hfl, Instr.sureAddr, fieldPlace, hsz, hz]
    | some e =>
      obtain ⟨g, hg, hp⟩ := h3 e hH
      injection hp with hp; injection hp with hp; subst hp
      refine Ran.value (run _ _) (Out.same hh hi h ⟨h1, ⟨_, rfl⟩, fun e' he => ⟨g, hg, ?_⟩⟩)
      rw [hH] at he; injection he with he; subst he
      rw [Nat.add_assoc]
  · rename_i c j
    obtain ⟨g, o, C, t, fr, rfl, h2, h3, h4⟩ := rs_rptr hx
    exact Ran.value (run _ _) (Out.same hh hi h ⟨g, o, C, t, fr, by rw [Nat.add_assoc], h2, h3, h4⟩)
end
end Go.Proofs.YtkgfidphcpklhaaDoor
namespace Go.Proofs.YtkgfidphcpklhaaDoor
open Go.RowKit Pl
set_option linter.unusedVariables false
set_option linter.unusedSectionVars false

theorem add_off (g o j : Nat) : (⟨g, o, none⟩ : Addr).add j = ⟨g, o + j, none⟩ := by unfold Addr.add; split <;> simp_all
theorem run_load1 {P : Program} {t : TypeId} {y : Ty} (hy : TyOk P t y) (ha : y.d.agg = false) (w : World) {g o : Nat} {C : Array Value} {u : TypeId} {fr : Nat × Nat} (hC : w.heap[g]? = some (.cells C u fr)) {v : Value} (hv : C[o]? = some v) :
    (Instr.loadAt t (.pointer (some ⟨g, o, none⟩))).run P w = .ok v w := by
  have : w.cell? ⟨g, o, none⟩ = some v := by simp [World.cell?, hC, hv]
  simp [Instr.loadAt, Instr.sureAddr, loadVar, agg_of hy, ha, this]
theorem run_loadA {P : Program} {t : TypeId} {y : Ty} (hy : TyOk P t y) (ha : y.d.agg = true) (w : World) {g o : Nat} {C : Array Value} {u : TypeId} {fr : Nat × Nat} (hC : w.heap[g]? = some (.cells C u fr)) {vs : List Value}
    (hvs : ∀ j v, vs[j]? = some v → C[o + j]? = some v) (hl : vs.length = y.sz) : (Instr.loadAt t (.pointer (some ⟨g, o, none⟩))).run P w = .ok (.agg vs.toArray) w := by
  have := run_loadCells_list (P := P) w ⟨g, o, none⟩ vs (fun j v hv => by rw [add_off]; simp [World.cell?, hC, hvs j v hv])
  rw [hl] at this
  simp [Instr.loadAt, Instr.sureAddr, loadVar, agg_of hy, ha, size_of hy, this]
theorem drop_take_get {α : Type} {l : List α} {o n j : Nat} {v : α} (h : ((l.drop o).take n)[j]? = some v) : l[o + j]? = some v := by
  rw [List.getElem?_take] at h
  split at h
  · rwa [List.getElem?_drop] at h
  · cases h
theorem RS0.cell {X : Cx} {c : T} {u : Value} (h : RS0 X c u) : RS X c u := h.rs
/-- What is loaded out of a list of cells. -/
theorem load_cells {P : Program} {X : Cx} {id : Nat} {K : Kon} (hh : HR X) (hi : Fresh X id) {t : TypeId} {y : Ty} (hy : TyOk P t y) {g o j : Nat} {C : Array Value} {u : TypeId} {fr : Nat × Nat} (hC : X.w.heap[g]? = some (.cells C u fr))
    {cs : List T} {vs : List Value} (hl : RSl X cs vs) (hvs : ∀ j v, vs[j]? = some v → C[o + j]? = some v) (h : loadT y cs j fun c => K c []) : Ran P X id K (do pure (.value (← Instr.loadAt t (.pointer (some ⟨g, o + j, none⟩))))) := by
  unfold loadT at h
  cases ha : y.d.agg with
  | true =>
    rw [ha] at h
    obtain ⟨xs, hx, hlen, hk⟩ : ∃ xs, (cs.drop j).take y.sz = xs ∧ xs.length = y.sz ∧ K (.agg xs) [] := ⟨_, rfl, forceSp_eq h⟩
    have hr := (hl.drop j).take y.sz
    rw [hx] at hr
    refine Ran.value (run_loadA hy ha X.w hC (vs := (vs.drop j).take y.sz) (fun m v hm => ?_) (by rw [hr.len, hlen])) (Out.same hh hi hk ⟨_, rfl, by simpa using hr⟩)
    rw [Nat.add_assoc]; exact hvs _ _ (drop_take_get hm)
  | false =>
    rw [ha] at h
    obtain ⟨c, hc, hk⟩ := h
    obtain ⟨v, hv, _, hx⟩ := hl.get hc
    exact Ran.value (run_load1 hy ha X.w hC (hvs _ _ hv)) (Out.same hh hi (forceT_eq (K := fun c => K c []) hk) hx.rs)

theorem set_same {α : Type} {l : List α} {i : Nat} {a : α} (h : l[i]? = some a) : l.set i a = l := by
  apply List.ext_getElem?
  intro m
  rw [List.getElem?_set]
  split
  · rename_i hm; subst hm
    split
    · exact h.symm
    · rename_i hn; rw [List.getElem?_eq_none (by omega)]
  · rfl
theorem flat_rl {X : Cx} : ∀ {xs : List T} {us : List Value}, RSl X xs us → xs.all (fun c => match c with | .ref _ => false | .ptr _ _ _ => false | .rptr _ _ => false | .any => false | .agg _ => false | .tup _ => false | .fnp _ _ => false | .fnq _ _ _ => false | _ => true) = true → RL X.ow X.w xs us
  | [], _, h, _ => by cases h; simp [RL]
  | c :: xs, _, ⟨u0, us, hv, h1, h2, h3⟩, hf => by
    subst hv
    simp only [List.all_cons, Bool.and_eq_true] at hf
    simp only [RL]
    refine ⟨_, _, rfl, ?_, flat_rl h3 hf.2⟩
    cases c <;> first | exact h2 | (simp at hf)
section
variable {P : Program} {tt : TT} (htt : TtOk P tt) {X : Cx} {id : Nat} {K : Kon} (hh : HR X) (hi : Fresh X id)
include htt hh hi

theorem eff_load {t : TypeId} {x : T} {v : Value} (hx : RS X x v) (h : Eff tt (.load t (.tmp 0)) 0 [x] X.H id K) : Ran P X id K (do pure (.value (← Instr.loadAt t v))) := by
  simp only [Eff] at h
  split at h <;> try exact h.elim
  rename_i y hy
  split at h <;> try exact h.elim
  · rename_i r i j
    obtain ⟨h1, _, h3⟩ := rs_ptr hx
    split at h <;> try exact h.elim
    · rename_i cs hH
      obtain ⟨rfl, h⟩ := h
      obtain ⟨g, hg, rfl⟩ := h3 _ hH
      obtain ⟨g', C, u, fr, hg', hC, hf, hl⟩ := (hh.node _ _ hH).2
      obtain rfl := hh.inj' hH hg hg'
      have := load_cells (P := P) hh hi (htt _ _ hy) (o := 0) hC hl (fun m v hm => by simpa using hm) h
      simpa [Ent.wd] using this
    · rename_i k es hH
      obtain ⟨e, he, h⟩ := h
      obtain ⟨g, hg, rfl⟩ := h3 _ hH
      obtain ⟨_, hn⟩ := (hh.node _ _ hH).2
      rcases hn with rfl | ⟨g', C, u, fr, hg', hC, hf, hl⟩
      · cases he
      · obtain rfl := hh.inj' hH hg hg'
        obtain ⟨hr, _⟩ := RE.get hl he
        exact load_cells (P := P) hh hi (htt _ _ hy) (o := i * k) hC hr.rsl (fun m v hm => by simpa using drop_take_get hm) h
  · rename_i c j
    obtain ⟨g, o, C, u, fr, rfl, hg, hC, hr⟩ := rs_rptr hx
    exact load_cells (P := P) hh hi (htt _ _ hy) hC hr.rsl (fun m v hm => by simpa using drop_take_get hm) h

theorem eff_store {t : TypeId} {p x : T} {v u : Value} (hp : RS X p v) (hx : RS X x u) (h : Eff tt (.store t (.tmp 0) (.tmp 1)) 0 [p, x] X.H id K) : Ran P X id K (do Instr.storeAt t v u; pure .skip) := by
  simp only [Eff] at h
  split at h <;> try exact h.elim
  rename_i y xs hy hc
  obtain ⟨hlen, h⟩ := h
  have hcs := cells_rs hx hc
  split at h <;> try exact h.elim
  rename_i r i j
  obtain ⟨h1, _, h3⟩ := rs_ptr hp
  have hsz : u.cells.toList.length = y.sz := by rw [hcs.len, hlen]
  have run : ∀ (g o : Nat) (C : Array Value) (tb : TypeId) (fr : Nat × Nat), X.w.heap[g]? = some (.cells C tb fr) → FreeR fr C.size → o + y.sz ≤ C.size →
      (Instr.storeAt t (.pointer (some ⟨g, o, none⟩)) u).run P X.w = .ok () { X.w with heap := X.w.heap.setIfInBounds g (.cells (ovl C.toList o u.cells.toList).toArray tb fr) } := fun g o C tb fr hC hf ho => by
    have := run_storeBlock (P := P) g o tb fr u.cells.toList 0 C X.w hC hf (by rw [hsz]; omega) hcs.one
    simp only [Nat.add_zero] at this
    have hsz2 : u.cells.size = y.sz := by simpa using hsz
    simp [Instr.storeAt, Instr.sureAddr, storeVar, size_of (htt _ _ hy), hsz2, this]
  split at h <;> try exact h.elim
  · rename_i cs hH
    obtain ⟨rfl, hb, h⟩ := h
    obtain ⟨g, hg, rfl⟩ := h3 _ hH
    obtain ⟨g', C, tb, fr, hg', hC, hf, hl⟩ := (hh.node _ _ hH).2
    obtain rfl := hh.inj' hH hg hg'
    have hCl : C.size = cs.length := by rw [← hl.len]; simp
    have e0 : 0 * (Ent.box cs).wd + j = j := by simp
    rw [e0]
    refine Ran.unit (run g j C tb fr hC hf (by omega)) (Out.put hh hi hH hg hC ?_ ?_ h fun hs hn => ⟨g, _, tb, fr, hg, hn, ?_, ?_⟩)
    · simp [Ent.shape, ovl_length]
    · simp [ovl_length]
    · simpa [ovl_length] using hf
    · exact RSl.ovl j (hl.mono hs) (hcs.mono hs)
  · rename_i k es hH
    obtain ⟨hflat, e, he, hb, h⟩ := h
    obtain ⟨g, hg, rfl⟩ := h3 _ hH
    obtain ⟨hk, hn⟩ := (hh.node _ _ hH).2
    rcases hn with rfl | ⟨g', C, tb, fr, hg', hC, hf, hl⟩
    · cases he
    · obtain rfl := hh.inj' hH hg hg'
      obtain ⟨_, hfit⟩ := RE.get hl he
      have hfit2 : i * k + j + y.sz ≤ C.size := by rw [Nat.add_mul] at hfit; simp at hfit; omega
      refine Ran.unit (run g (i * k + j) C tb fr hC hf hfit2) (Out.put hh hi hH hg hC ?_ ?_ h fun hs hn => ⟨hk, .inr ⟨g, _, tb, fr, hg, hn, ?_, ?_⟩⟩)
      · simp [Ent.shape]
      · simp [ovl_length]
      · simpa [ovl_length] using hf
      · have hes := set_same he
        have hrl := flat_rl hcs hflat
        have := RE.ovl (xs := xs) (e := e) j (es := es) (i := i) (by rw [hes]; exact RE.mono hs.stab hl) (List.getElem?_eq_some_iff.1 he).1 (RL.mono hs.stab hrl) (by omega)
        simpa using this

theorem eff_indexAddr {t : TypeId} {x i : T} {v u : Value} (hx : RS X x v) (hiv : RS X i u) (h : Eff tt (.indexAddr t (.tmp 0) (.tmp 1)) 0 [x, i] X.H id K) : Ran P X id K (do pure (.value (← Instr.indexAt t v u))) := by
  simp only [Eff] at h
  split at h <;> try exact h.elim
  rename_i kk n y hy
  obtain rfl := rs_int hiv
  split at h <;> try exact h.elim
  · rename_i e hd
    have hu := und_slice (htt _ _ hy) hd
    split at h <;> try exact h.elim
    rename_i ye hye
    have run : ∀ (g o L c : Nat) (m : Nat), m < L → (Instr.indexAt t (.slice (some ⟨g, o, none⟩) L c) (.int kk (m : Int))).run P X.w = .ok (.pointer (some ⟨g, o + m * ye.sz, none⟩)) X.w := fun g o L c m hm => by
      have hm1 : (0 : Int) ≤ (m : Int) ∧ (m : Int) < (L : Int) := by omega
      simp [Instr.indexAt, run_underlying hu, asIntOf, hm1, size_of (htt _ _ hye), add_off]
      omega
    split at h <;> try exact h.elim
    · rename_i r
      split at h <;> try exact h.elim
      rename_i k es hH
      obtain ⟨rfl, m, rfl, hm, h⟩ := h
      obtain ⟨h1, _, h3⟩ := rs_ref hx
      rcases h3 _ _ hH with ⟨_, h0⟩ | ⟨g, c, C, tb, fr, rfl, hg, hC, _⟩
      · omega
      · refine Ran.value (run g 0 es.length c m hm) (Out.same hh hi h ⟨h1, ⟨_, rfl⟩, fun e' he' => ⟨g, hg, ?_⟩⟩)
        rw [hH] at he'; injection he' with he'; subst he'
        simp [Ent.wd]
    · rename_i k es
      obtain ⟨rfl, m, e0, rfl, he, h⟩ := h
      have hx' : RV X.ow X.w (.sl ye.sz es) v := hx
      simp only [RV] at hx'
      obtain ⟨A, c, rfl, _, hx'⟩ := hx'
      have hm := (List.getElem?_eq_some_iff.1 he).1
      rcases hx' with rfl | ⟨g, o, C, tb, fr, rfl, hg, hC, hr⟩
      · cases he
      · obtain ⟨h5, h6⟩ := RE.get hr he
        have hel := hr.elen e0 (List.mem_of_getElem? he)
        refine Ran.value (run g o es.length c m hm) (Out.same hh hi h ⟨g, o + m * ye.sz, C, tb, fr, rfl, hg, hC, ?_⟩)
        rw [hel, ← List.drop_drop]; exact h5
  · rename_i len e hd
    have hu := und_array (htt _ _ hy) hd
    split at h <;> try exact h.elim
    rename_i ye hye
    obtain ⟨m, rfl, hm, h⟩ := h
    have run : ∀ a : Addr, (Instr.indexAt t (.pointer (some a)) (.int kk (m : Int))).run P X.w = .ok (.pointer (some (a.add (m * ye.sz)))) X.w := fun a => by
      have hm1 : (0 : Int) ≤ (m : Int) ∧ (m : Int) < (len : Int) := by omega
      simp [Instr.indexAt, run_underlying hu, asIntOf, hm1, size_of (htt _ _ hye), Instr.sureAddr]
      omega
    split at h <;> try exact h.elim
    · rename_i r i j
      obtain ⟨h1, ⟨a, rfl⟩, h3⟩ := rs_ptr hx
      refine Ran.value (run a) (Out.same hh hi h ⟨h1, ⟨_, rfl⟩, fun e' he' => ?_⟩)
      obtain ⟨g, hg, hp⟩ := h3 _ he'
      injection hp with hp; injection hp with hp; subst hp
      exact ⟨g, hg, by rw [add_off, Nat.add_assoc]⟩
    · rename_i c j
      obtain ⟨g, o, C, tb, fr, rfl, hg, hC, hr⟩ := rs_rptr hx
      exact Ran.value (run _) (Out.same hh hi h ⟨g, o, C, tb, fr, by rw [add_off, Nat.add_assoc], hg, hC, hr⟩)

theorem eff_index {t : TypeId} {x i : T} {v u : Value} (hx : RS X x v) (hiv : RS X i u) (h : Eff tt (.index t (.tmp 0) (.tmp 1)) 0 [x, i] X.H id K) : Ran P X id K (do pure (.value (← Instr.index t v u))) := by
  simp only [Eff] at h
  split at h <;> try exact h.elim
  · rename_i kk n s y hy
    obtain rfl := rs_int hiv
    obtain rfl := rs_str hx
    split at h <;> try exact h.elim
    rename_i hd
    obtain ⟨m, rfl, hm, h⟩ := h
    refine Ran.value (v := .int .u8 ((s.getD m 0).toNat : Int)) ?_ (Out.same hh hi h (mk_int _ _ _))
    have hb : (bs s)[m]? = some (s.getD m 0) := by
      have h1 : m < (bs s).size := by rw [bs_size]; exact hm
      rw [getElem?_pos (bs s) m h1]
      have h2 : (bs s)[m] = s[m] := rfl
      rw [h2]; simp [List.getD, List.getElem?_eq_getElem hm]; rfl
    simp [Instr.index, run_underlying (und_string (htt _ _ hy) hd), asIntOf, hb]
  · rename_i kk n cs y hy
    obtain rfl := rs_int hiv
    split at h <;> try exact h.elim
    rename_i len e hd
    split at h <;> try exact h.elim
    rename_i ye hye
    obtain ⟨hag, hsz, m, rfl, hm, c, hc, h⟩ := h
    have h := forceT_eq (K := fun c => K c []) h
    obtain ⟨vs, rfl, hl⟩ := hx
    obtain ⟨u, hu, h1, h0⟩ := hl.get hc
    refine Ran.value (v := u) ?_ (Out.same hh hi h h0.rs)
    have hu' : vs[m]? = some u := by simpa using hu
    have hpart : (part e vs m).run P X.w = .ok u X.w := by simp [part, agg_of (htt _ _ hye), hag, hu']
    have hlt : ((m : Int) < (len : Int)) := by omega
    simp [Instr.index, run_underlying (und_array (htt _ _ hy) hd), asIntOf, size_of (htt _ _ hye), hsz, hlt, hpart]
    intro h9; omega
end
end Go.Proofs.YtkgfidphcpklhaaDoor
namespace Go.Proofs.YtkgfidphcpklhaaDoor
open Go.RowKit Pl
set_option linter.unusedVariables false
set_option linter.unusedSectionVars false

theorem beq_dec {α : Type} [DecidableEq α] [BEq α] [LawfulBEq α] (a b : α) : (a == b) = decide (a = b) := by rw [Bool.eq_iff_iff]; simp
theorem bs_inj {a b : Bs} : bs a = bs b ↔ a = b := ⟨fun h => by rw [← bs_data a, h, bs_data], fun h => by rw [h]⟩
theorem bs_toList (a : Bs) : (bs a).toList = a := by rw [toList_data, bs_data]
theorem bs_append (a b : Bs) : bs a ++ bs b = bs (a ++ b) := data_ext (by rw [data_append, bs_data, bs_data, bs_data])
theorem bs_extract (s : Bs) (i j : Nat) : (bs s).extract i j = bs ((s.drop i).take (j - i)) := data_ext (by rw [data_extract, bs_data, bs_data])

section
variable {P : Program} {X : Cx} {id : Nat} {K : Kon} (hh : HR X) (hi : Fresh X id)
include hh hi
theorem eff_bin {op : BinOp} {t : TypeId} {x y : T} {v u : Value} {ox oy : Operand} (hx : RS X x v) (hy : RS X y u) (h : binT op x y fun r => K r []) :
    Ran P X id K (do pure (.value (← (do eqGuard op t ox oy v u; binOp op t v u)))) := by
  cases x <;> cases y <;> simp only [binT] at h
  case int.int k a k' b =>
    obtain rfl := rs_int hx
    obtain rfl := rs_int hy
    rw [eqGuard_at_int]
    have fin : ∀ {r : Int}, K (.int k r) [] → (binOp op t (.int k a) (.int k' b)).run P X.w = .ok (.int k r) X.w → Ran P X id K (do pure (.value (← (do pure (); binOp op t (.int k a) (.int k' b))))) := fun hk hr => Ran.value (by simp [hr]) (Out.same hh hi hk (mk_int _ _ _))
    have finb : ∀ {r : Bool}, K (.bool r) [] → (binOp op t (.int k a) (.int k' b)).run P X.w = .ok (.bool r) X.w → Ran P X id K (do pure (.value (← (do pure (); binOp op t (.int k a) (.int k' b))))) := fun hk hr => Ran.value (by simp [hr]) (Out.same hh hi hk (mk_bool _ _))
    cases op <;> simp only at h
    case shl => obtain ⟨h1, h2, r, rfl, hk⟩ := h; exact fin hk (by rw [binOp_shl, shift_shl _ _ _ _ h1 h2]; rfl)
    case shr => obtain ⟨h1, h2, r, rfl, hk⟩ := h; exact fin hk (by rw [binOp_shr, shift_shr _ _ _ _ h1 h2]; rfl)
    case add => obtain ⟨rfl, r, rfl, hk⟩ := h; exact fin hk (by rw [binOp_add]; rfl)
    case sub => obtain ⟨rfl, r, rfl, hk⟩ := h; exact fin hk (by rw [binOp_sub]; rfl)
    case mul => obtain ⟨rfl, r, rfl, hk⟩ := h; exact fin hk (by rw [binOp_mul]; rfl)
    case quo => obtain ⟨rfl, hb, r, rfl, hk⟩ := h; exact fin hk (by rw [binOp_quo, Op.intDiv, if_neg hb]; rfl)
    case rem => obtain ⟨rfl, hb, r, rfl, hk⟩ := h; exact fin hk (by rw [binOp_rem, Op.intDiv, if_neg hb]; rfl)
    case and => obtain ⟨rfl, r, rfl, hk⟩ := h; exact fin hk (by rw [binOp_and, intBits_and]; rfl)
    case or => obtain ⟨rfl, r, rfl, hk⟩ := h; exact fin hk (by rw [binOp_or, intBits_or]; rfl)
    case xor => obtain ⟨rfl, r, rfl, hk⟩ := h; exact fin hk (by rw [binOp_xor, intBits_xor]; rfl)
    case andNot => obtain ⟨rfl, r, rfl, hk⟩ := h; exact fin hk (by rw [binOp_andNot, intBits_andNot]; rfl)
    case eql => obtain ⟨rfl, hk⟩ := h; exact finb hk (by rw [binOp_eql]; simp [beq_dec])
    case neq => obtain ⟨rfl, hk⟩ := h; exact finb hk (by rw [binOp_neq]; simp [bne, beq_dec])
    case lss => obtain ⟨rfl, hk⟩ := h; exact finb hk (by rw [binOp_lss]; rfl)
    case leq => obtain ⟨rfl, hk⟩ := h; exact finb hk (by rw [binOp_leq]; rfl)
    case gtr => obtain ⟨rfl, hk⟩ := h; exact finb hk (by rw [binOp_gtr]; rfl)
    case geq => obtain ⟨rfl, hk⟩ := h; exact finb hk (by rw [binOp_geq]; rfl)
  case str.str a b =>
    obtain rfl := rs_str hx
    obtain rfl := rs_str hy
    rw [eqGuard_at_string]
    have hbin : binOp op t (.string (bs a)) (.string (bs b)) = Op.stringOp op (bs a) (bs b) := by cases op <;> rfl
    rw [hbin]
    have finb : ∀ {r : Bool}, K (.bool r) [] → (Op.stringOp op (bs a) (bs b)).run P X.w = .ok (.bool r) X.w → Ran P X id K (do pure (.value (← (do pure (); Op.stringOp op (bs a) (bs b))))) := fun hk hr => Ran.value (by simp [hr]) (Out.same hh hi hk (mk_bool _ _))
    have hbeq : ((bs a).toList == (bs b).toList) = decide (a = b) := by rw [bs_toList, bs_toList, beq_dec]
    cases op <;> simp only at h
    case add =>
      obtain ⟨hl, hk⟩ := h
      refine Ran.value (v := .string (bs (a ++ b))) (w' := X.w) ?_ (Out.same hh hi hk (mk_str _ _))
      have : ¬ (((bs a).size + (bs b).size : Nat) : Int) > IntKind.i64.max := by rw [IntKind.max_i64, bs_size, bs_size]; omega
      simp only [Op.stringOp, if_neg this]
      rw [← bs_append]; rfl
    case eql => exact finb h (by simp only [Op.stringOp, hbeq]; rfl)
    case neq => exact finb h (by simp only [Op.stringOp, hbeq]; rfl)
    case lss => exact finb h (by simp only [Op.stringOp, bs_toList]; rfl)
    case leq => exact finb h (by simp only [Op.stringOp, hbeq]; simp only [bs_toList]; rfl)
    case gtr => exact finb h (by simp only [Op.stringOp, hbeq]; simp only [bs_toList]; rfl)
    case geq => exact finb h (by simp only [Op.stringOp, bs_toList]; rfl)
    all_goals exact h.elim
  all_goals exact h.elim
theorem zv_rsl : ∀ {zs xs : List T} {us : List Value}, sameK zs xs = true → RSl X xs us → us = xs.map zv
  | [], [], us, _, h => h
  | [], _ :: _, _, h, _ => by simp [sameK] at h
  | z :: zs, [], _, h, _ => by cases z <;> simp [sameK] at h
  | z :: zs, x :: xs, us, h, ⟨u, us', hu, _, h2, h3⟩ => by
    subst hu
    cases z <;> cases x <;> simp only [sameK, Bool.and_eq_true] at h <;> try (cases h; done)
    case int.int k n k' n' => rw [zv_rsl h.2 h3]; have : u = .int k' n' := by simpa [RS0, RV] using h2
                              subst this; rfl
    case bool.bool a b => rw [zv_rsl h h3]; have : u = .bool b := by simpa [RS0, RV] using h2
                          subst this; rfl
    case str.str a b => rw [zv_rsl h h3]; have : u = .string (bs b) := by simpa [RS0, RV] using h2
                        subst this; rfl
omit hh hi in
theorem run_eqFields (w : World) (d : Nat) : ∀ {fs : List Field} {i : Nat} {zs xs ys : List T} {A B : Array Value}, flatF P fs i zs → sameK zs xs = true → sameK zs ys = true → A.toList.drop i = xs.map zv → B.toList.drop i = ys.map zv →
    (Op.eqFields (d + 1) A B fs).run P w = .ok (eqC xs ys) w
  | [], i, zs, xs, ys, A, B, hf, hx, hy, hA, hB => by
    have : zs = [] := hf
    subst this
    cases xs <;> cases ys <;> simp [sameK] at hx hy
    rfl
  | f :: fs, i, [], xs, ys, A, B, hf, hx, hy, hA, hB => hf.elim
  | f :: fs, i, z :: zs, xs, ys, A, B, ⟨hn, ho, hu, hf⟩, hx, hy, hA, hB => by
    cases xs with
    | nil => cases z <;> simp [sameK] at hx
    | cons x xs => cases ys with
      | nil => cases z <;> simp [sameK] at hy
      | cons y ys =>
        have hA1 : A[i]? = some (zv x) := by
          have := congrArg (·[0]?) hA
          simpa using this
        have hB1 : B[i]? = some (zv y) := by
          have := congrArg (·[0]?) hB
          simpa using this
        have hA2 : A.toList.drop (i + 1) = xs.map zv := by rw [← List.drop_drop, hA]; rfl
        have hB2 : B.toList.drop (i + 1) = ys.map zv := by rw [← List.drop_drop, hB]; rfl
        simp only [Op.eqFields, ho]
        rw [if_pos hn]
        cases z <;> cases x <;> simp only [sameK, Bool.and_eq_true] at hx <;> try (cases hx; done)
        all_goals (cases y <;> simp only [sameK, Bool.and_eq_true] at hy <;> try (cases hy; done))
        case int.int.int k n k1 n1 k2 n2 =>
          have e1 : k1 = k2 := (of_decide_eq_true hx.1).symm.trans (of_decide_eq_true hy.1)
          subst e1
          have ih := run_eqFields w d hf hx.2 hy.2 hA2 hB2
          have p : ∀ (C : Array Value) (v : Value), C[i]? = some v → (part f.type C i).run P w = .ok v w := fun C v hC => by simp [part, isAgg, run_underlying hu, hC]
          simp only [Sem.run_bind, p _ _ hA1, p _ _ hB1, Result.andThen_ok, zv, run_equalIn_int _ _ _ _ _ _ _ hu, eqC]
          by_cases h : n1 = n2
          · subst h; simp [ih]
          · simp [h]
        case bool.bool.bool b b1 b2 =>
          have ih := run_eqFields w d hf hx hy hA2 hB2
          have p : ∀ (C : Array Value) (v : Value), C[i]? = some v → (part f.type C i).run P w = .ok v w := fun C v hC => by simp [part, isAgg, run_underlying hu, hC]
          simp only [Sem.run_bind, p _ _ hA1, p _ _ hB1, Result.andThen_ok, zv, run_equalIn_bool' _ _ _ _ _ hu, eqC]
          by_cases h : b1 = b2
          · subst h; simp [ih]
          · simp [h]
        case str.str.str s s1 s2 =>
          have ih := run_eqFields w d hf hx hy hA2 hB2
          have p : ∀ (C : Array Value) (v : Value), C[i]? = some v → (part f.type C i).run P w = .ok v w := fun C v hC => by simp [part, isAgg, run_underlying hu, hC]
          simp only [Sem.run_bind, p _ _ hA1, p _ _ hB1, Result.andThen_ok, zv, run_equalIn_string _ _ _ _ _ hu, eqC, bs_toList]
          by_cases h : s1 = s2
          · subst h; simp [ih]
          · simp [h]
omit hh hi in
theorem sameK_app : ∀ {us zs xs : List T}, sameK (us ++ zs) xs = true → ∃ xs1 xs2, xs = xs1 ++ xs2 ∧ sameK us xs1 = true ∧ sameK zs xs2 = true
  | [], zs, xs, h => ⟨[], xs, rfl, rfl, h⟩
  | u :: us, zs, [], h => by cases u <;> simp [sameK] at h
  | u :: us, zs, x :: xs, h => by
    have h : sameK (u :: (us ++ zs)) (x :: xs) = true := h
    cases u <;> cases x <;> simp only [sameK, Bool.and_eq_true] at h <;> try (cases h; done)
    case int.int k n k' n' =>
      obtain ⟨x1, x2, rfl, h1, h2⟩ := sameK_app h.2
      exact ⟨_ :: x1, x2, rfl, by simp only [sameK, Bool.and_eq_true]; exact ⟨h.1, h1⟩, h2⟩
    case bool.bool p q =>
      obtain ⟨x1, x2, rfl, h1, h2⟩ := sameK_app h
      exact ⟨_ :: x1, x2, rfl, by simp only [sameK]; exact h1, h2⟩
    case str.str p q =>
      obtain ⟨x1, x2, rfl, h1, h2⟩ := sameK_app h
      exact ⟨_ :: x1, x2, rfl, by simp only [sameK]; exact h1, h2⟩
omit hh hi in
theorem sameK_len : ∀ {us xs : List T}, sameK us xs = true → xs.length = us.length
  | [], [], _ => rfl
  | [], _ :: _, h => by simp [sameK] at h
  | u :: us, [], h => by cases u <;> simp [sameK] at h
  | u :: us, x :: xs, h => by
    cases u <;> cases x <;> simp only [sameK, Bool.and_eq_true] at h <;> try (cases h; done)
    all_goals first
      | (rw [List.length_cons, List.length_cons, sameK_len h.2]; done)
      | (rw [List.length_cons, List.length_cons, sameK_len h]; done)
omit hh hi in
theorem eqC_app : ∀ {us xs1 ys1 xs2 ys2 : List T}, sameK us xs1 = true → sameK us ys1 = true → eqC (xs1 ++ xs2) (ys1 ++ ys2) = (eqC xs1 ys1 && eqC xs2 ys2)
  | [], [], [], _, _, _, _ => by simp [eqC]
  | [], _ :: _, _, _, _, h, _ => by simp [sameK] at h
  | [], [], _ :: _, _, _, _, h => by simp [sameK] at h
  | u :: us, [], _, _, _, h, _ => by cases u <;> simp [sameK] at h
  | u :: us, _ :: _, [], _, _, _, h => by cases u <;> simp [sameK] at h
  | u :: us, x :: xs, y :: ys, xs2, ys2, hx, hy => by
    cases u <;> cases x <;> simp only [sameK, Bool.and_eq_true] at hx <;> try (cases hx; done)
    all_goals (cases y <;> simp only [sameK, Bool.and_eq_true] at hy <;> try (cases hy; done))
    case int.int.int => simp only [List.cons_append, eqC, eqC_app hx.2 hy.2, Bool.and_assoc]
    case bool.bool.bool => simp only [List.cons_append, eqC, eqC_app hx hy, Bool.and_assoc]
    case str.str.str => simp only [List.cons_append, eqC, eqC_app hx hy, Bool.and_assoc]
omit hh hi in
theorem run_eqN (w : World) {n : Nat} {fs : List Field} {i : Nat} {zs : List T} (hf : FlatN P n fs i zs) : ∀ (d : Nat) {xs ys : List T} {A B : Array Value}, n ≤ d → sameK zs xs = true → sameK zs ys = true → A.toList.drop i = xs.map zv → B.toList.drop i = ys.map zv →
    (Op.eqFields (d + 1) A B fs).run P w = .ok (eqC xs ys) w := by
  induction hf with
  | flat h => intro d xs ys A B _ hx hy hA hB; exact run_eqFields w d h hx hy hA hB
  | @cell n f fs i z zs hn ho hu hf ih =>
    intro d xs ys A B hd hx hy hA hB
    cases xs with
    | nil => cases z <;> simp [sameK] at hx
    | cons x xs => cases ys with
      | nil => cases z <;> simp [sameK] at hy
      | cons y ys =>
        have hA1 : A[i]? = some (zv x) := by
          have := congrArg (·[0]?) hA
          simpa using this
        have hB1 : B[i]? = some (zv y) := by
          have := congrArg (·[0]?) hB
          simpa using this
        have hA2 : A.toList.drop (i + 1) = xs.map zv := by rw [← List.drop_drop, hA]; rfl
        have hB2 : B.toList.drop (i + 1) = ys.map zv := by rw [← List.drop_drop, hB]; rfl
        simp only [Op.eqFields, ho]
        rw [if_pos hn]
        cases z <;> cases x <;> simp only [sameK, Bool.and_eq_true] at hx <;> try (cases hx; done)
        all_goals (cases y <;> simp only [sameK, Bool.and_eq_true] at hy <;> try (cases hy; done))
        case int.int.int k n k1 n1 k2 n2 =>
          have e1 : k1 = k2 := (of_decide_eq_true hx.1).symm.trans (of_decide_eq_true hy.1)
          subst e1
          have ih := ih d hd hx.2 hy.2 hA2 hB2
          have p : ∀ (C : Array Value) (v : Value), C[i]? = some v → (part f.type C i).run P w = .ok v w := fun C v hC => by simp [part, isAgg, run_underlying hu, hC]
          simp only [Sem.run_bind, p _ _ hA1, p _ _ hB1, Result.andThen_ok, zv, run_equalIn_int _ _ _ _ _ _ _ hu, eqC]
          by_cases h : n1 = n2
          · subst h; simp [ih]
          · simp [h]
        case bool.bool.bool b b1 b2 =>
          have ih := ih d hd hx hy hA2 hB2
          have p : ∀ (C : Array Value) (v : Value), C[i]? = some v → (part f.type C i).run P w = .ok v w := fun C v hC => by simp [part, isAgg, run_underlying hu, hC]
          simp only [Sem.run_bind, p _ _ hA1, p _ _ hB1, Result.andThen_ok, zv, run_equalIn_bool' _ _ _ _ _ hu, eqC]
          by_cases h : b1 = b2
          · subst h; simp [ih]
          · simp [h]
        case str.str.str s s1 s2 =>
          have ih := ih d hd hx hy hA2 hB2
          have p : ∀ (C : Array Value) (v : Value), C[i]? = some v → (part f.type C i).run P w = .ok v w := fun C v hC => by simp [part, isAgg, run_underlying hu, hC]
          simp only [Sem.run_bind, p _ _ hA1, p _ _ hB1, Result.andThen_ok, zv, run_equalIn_string _ _ _ _ _ hu, eqC, bs_toList]
          by_cases h : s1 = s2
          · subst h; simp [ih]
          · simp [h]
  | @sub n f fs i G us zs hn ho hu hst hsz hG hf ihG ih =>
    intro d xs ys A B hd hx hy hA hB
    obtain ⟨d, rfl⟩ : ∃ m, d = m + 1 := ⟨d - 1, by omega⟩
    obtain ⟨x1, x2, rfl, hx1, hx2⟩ := sameK_app hx
    obtain ⟨y1, y2, rfl, hy1, hy2⟩ := sameK_app hy
    have lx := sameK_len hx1
    have ly := sameK_len hy1
    have cut : ∀ (C : Array Value) (z1 z2 : List T), z1.length = us.length → C.toList.drop i = (z1 ++ z2).map zv → (C.extract i (i + us.length)).toList.drop 0 = z1.map zv ∧ C.toList.drop (i + us.length) = z2.map zv := fun C z1 z2 hl hC => by
      refine ⟨?_, ?_⟩
      · rw [List.drop_zero, Array.toList_extract, List.extract_eq_take_drop, hC, List.map_append, List.take_append_of_le_length (by rw [List.length_map]; omega), List.take_of_length_le (by rw [List.length_map]; omega)]
      · rw [← List.drop_drop, hC, List.map_append, List.drop_append_of_le_length (by rw [List.length_map]; omega), List.drop_of_length_le (by rw [List.length_map]; omega), List.nil_append]
    obtain ⟨a1, a2⟩ := cut A x1 x2 lx hA
    obtain ⟨b1, b2⟩ := cut B y1 y2 ly hB
    have hfo : P.fieldsOf f.type = G := by simp [Program.fieldsOf, hu]
    have p : ∀ (C : Array Value), (part f.type C i).run P w = .ok (.agg (C.extract i (i + us.length))) w := fun C => by simp [part, isAgg, run_underlying hu, hsz]
    have e := run_equalIn_agg w (d + 1) f.type (A.extract i (i + us.length)) (B.extract i (i + us.length)) (by rw [hfo]; exact hu) hst
    rw [hfo] at e
    simp only [Op.eqFields, ho]
    rw [if_pos hn]
    have ihG := ihG d (by omega) hx1 hy1 a1 b1
    have ih := ih (d + 1) hd hx2 hy2 a2 b2
    rw [eqC_app hx1 hy1]
    simp only [Sem.run_bind, p, Result.andThen_ok, e, ihG]
    cases h : eqC x1 y1
    · simp
    · simp [ih]
theorem eff_binA {tt : TT} (htt : TtOk P tt) {op : BinOp} {t : TypeId} {xs ys : List T} {v u : Value} {ox oy : Operand} (hx : RS X (.agg xs) v) (hy : RS X (.agg ys) u) (h : eqT tt op t xs ys fun r => K r []) :
    Ran P X id K (do pure (.value (← (do eqGuard op t ox oy v u; binOp op t v u)))) := by
  unfold eqT at h
  split at h <;> try exact h.elim
  rename_i y hty
  obtain ⟨hc, h1, h2, h⟩ := h
  obtain ⟨g1, g2, F, g3, n4, n5, g4⟩ := (htt _ _ hty).cm hc
  obtain ⟨vs, rfl, hl⟩ := hx
  obtain ⟨us, rfl, hr⟩ := hy
  have e1 := zv_rsl hh hi h1 hl
  have e2 := zv_rsl hh hi h2 hr
  have hfo : P.fieldsOf t = F := by simp [Program.fieldsOf, g3]
  have key : (Op.equalIn 10000 t (.agg vs) (.agg us)).run P X.w = .ok (eqC xs ys) X.w := by
    rw [run_equalIn_agg _ _ _ _ _ (by rw [hfo]; exact g3) g2, hfo]
    exact run_eqN X.w g4 9998 (by omega) h1 h2 (by simpa using e1) (by simpa using e2)
  cases op <;> simp only at h <;> try exact h.elim
  · exact Ran.value (v := .bool (eqC xs ys)) (by simp [run_eqGuard_agg _ _ _ _ _ _ _ g1, run_eql_struct, key]) (Out.same hh hi h (mk_bool _ _))
  · exact Ran.value (v := .bool (!eqC xs ys)) (by simp [run_eqGuard_agg _ _ _ _ _ _ _ g1, run_neq_struct, key]) (Out.same hh hi h (mk_bool _ _))
theorem eff_binB {tt : TT} (htt : TtOk P tt) {op : BinOp} {t : TypeId} {a b : Bool} {v u : Value} {ox oy : Operand} (hx : RS X (.bool a) v) (hy : RS X (.bool b) u) (h : eqB tt op t a b fun r => K r []) :
    Ran P X id K (do pure (.value (← (do eqGuard op t ox oy v u; binOp op t v u)))) := by
  obtain rfl := rs_bool hx
  obtain rfl := rs_bool hy
  unfold eqB at h
  split at h <;> try exact h.elim
  rename_i y hty
  split at h <;> try exact h.elim
  rename_i hd
  have hu : P.underlying t = some .bool := by
    obtain ⟨d, h1, h2⟩ := (htt _ _ hty).und
    rw [hd] at h2
    cases d <;> simp [TD.of] at h2
    exact h1
  rw [eqGuard_at_bool]
  have key : (Op.equal t (.bool a) (.bool b)).run P X.w = .ok (decide (a = b)) X.w := by
    have := run_equalIn_bool' (P := P) X.w 9999 t a b hu
    rw [beq_dec] at this; exact this
  cases op <;> simp only at h <;> try exact h.elim
  · exact Ran.value (v := .bool (decide (a = b))) (by simp [binOp, key]) (Out.same hh hi h (mk_bool _ _))
  · exact Ran.value (v := .bool (!decide (a = b))) (by simp [binOp, key]) (Out.same hh hi h (mk_bool _ _))
theorem eff_un {op : UnOp} {x : T} {v : Value} (hx : RS X x v) (h : unT op x fun r => K r []) : Ran P X id K (do pure (.value (← Op.unary op v))) := by
  cases op <;> cases x <;> simp only [unT] at h
  case not.bool b => obtain rfl := rs_bool hx; exact Ran.value (v := .bool !b) rfl (Out.same hh hi h (mk_bool _ _))
  case neg.int k n => obtain rfl := rs_int hx; obtain ⟨r, rfl, h⟩ := h; exact Ran.value (v := .int k _) rfl (Out.same hh hi h (mk_int _ _ _))
  case xor.int k n => obtain rfl := rs_int hx; obtain ⟨r, rfl, h⟩ := h; exact Ran.value (v := .int k _) rfl (Out.same hh hi h (mk_int _ _ _))
  all_goals exact h.elim
theorem eff_move {x : T} {v : Value} (hx : RS X x v) (h : forceT x fun x => K x []) : Ran P X id K (pure (.value v)) :=
  ⟨_, v, X.w, rfl, .inl rfl, Out.same hh hi (forceT_eq (K := fun x => K x []) h) hx⟩
theorem eff_pick {c a b : T} {vc va vb : Value} (hc : RS X c vc) (ha : RS X a va) (hb : RS X b vb) (h : CondT c (forceT a fun a => K a []) (forceT b fun b => K b [])) : Ran P X id K (do pure (.value (if ← asBool vc then va else vb))) := by
  cases c <;> simp only [CondT] at h
  case bool b0 =>
    obtain rfl := rs_bool hc
    cases b0
    · exact ⟨_, vb, X.w, by simp [asBool], .inl rfl, Out.same hh hi (forceT_eq (K := fun x => K x []) (h.2 rfl)) hb⟩
    · exact ⟨_, va, X.w, by simp [asBool], .inl rfl, Out.same hh hi (forceT_eq (K := fun x => K x []) (h.1 rfl)) ha⟩
  all_goals exact h.elim
theorem eff_extract {x : T} {v : Value} {i : Nat} {tt : TT} (hx : RS X x v) (h : Eff tt (.extract (.tmp 0) i) 0 [x] X.H id K) : Ran P X id K (do pure (.value (← Instr.extract v i))) := by
  simp only [Eff] at h
  split at h <;> try exact h.elim
  rename_i cs
  split at h <;> try exact h.elim
  rename_i c hc
  obtain ⟨vs, rfl, hl⟩ : ∃ vs, v = .tuple vs ∧ RSt X cs vs.toList := hx
  have : ∃ u, vs[i]? = some u ∧ RS1 X c u := by
    have key : ∀ (cs : List T) (us : List Value) (i : Nat), RSt X cs us → cs[i]? = some c → ∃ u, us[i]? = some u ∧ RS1 X c u := by
      intro cs
      induction cs with
      | nil => intro us i _ hc; simp at hc
      | cons c0 cs ih =>
        rintro us i ⟨u0, us, rfl, h1, h2⟩ hc
        cases i with
        | zero => simp at hc; subst hc; exact ⟨u0, rfl, h1⟩
        | succ i => simp at hc; simpa using ih us i h2 hc
    simpa using key cs vs.toList i hl hc
  obtain ⟨u, hu, h1⟩ := this
  exact Ran.value (v := u) (w' := X.w) (by simp [Instr.extract, hu]) (Out.same hh hi (forceT_eq (K := fun c => K c []) h) h1.rs)
theorem eff_nilCheck {x : T} {v : Value} {tt : TT} {o : Operand} {ρ : Operand → Value} (hρ : ρ o = v) (hx : RS X x v) (h : Eff tt (.nilCheck o) 0 [x] X.H id K) : ∃ a, v = .pointer (some a) ∧ Out X id K v X.w := by
  simp only [Eff] at h
  split at h <;> try exact h.elim
  · obtain ⟨h1, ⟨a, rfl⟩, h3⟩ := rs_ptr hx
    exact ⟨a, rfl, Out.same hh hi h hx⟩
  · obtain ⟨g, o, C, t, fr, rfl, h3⟩ := rs_rptr hx
    exact ⟨_, rfl, Out.same hh hi h hx⟩
end
end Go.Proofs.YtkgfidphcpklhaaDoor
namespace Go.Proofs.YtkgfidphcpklhaaDoor
open Go.RowKit Pl
set_option linter.unusedVariables false
set_option linter.unusedSectionVars false

theorem isU8_und {P : Program} {tt : TT} (htt : TtOk P tt) {e : TypeId} (h : isU8 tt e = true) : P.underlying e = some (.int .u8) := by
  unfold isU8 at h
  split at h <;> try (cases h; done)
  rename_i y hy
  split at h <;> try (cases h; done)
  rename_i hd
  exact und_int (htt _ _ hy) hd
theorem isBytes_und {P : Program} {tt : TT} (htt : TtOk P tt) {t : TypeId} {y : Ty} (hy : tt t = some y) (h : isBytes tt y = true) : ∃ e, P.underlying t = some (.slice e) ∧ P.underlying e = some (.int .u8) := by
  unfold isBytes at h
  split at h <;> try (cases h; done)
  rename_i e hd
  exact ⟨e, und_slice (htt _ _ hy) hd, isU8_und htt h⟩
theorem isStr_und {P : Program} {tt : TT} (htt : TtOk P tt) {t : TypeId} {y : Ty} (hy : tt t = some y) (h : isStr y = true) : P.underlying t = some .string := by
  unfold isStr at h
  split at h <;> try (cases h; done)
  rename_i hd
  exact und_string (htt _ _ hy) hd
theorem sliceSz_und {P : Program} {tt : TT} (htt : TtOk P tt) {t : TypeId} {y : Ty} {k : Nat} (hy : tt t = some y) (h : sliceSz tt y = some k) : ∃ e ye, P.underlying t = some (.slice e) ∧ tt e = some ye ∧ ye.sz = k := by
  unfold sliceSz at h
  split at h <;> try (cases h; done)
  rename_i e hd
  split at h <;> try (cases h; done)
  rename_i ye hye
  injection h with h
  exact ⟨e, ye, und_slice (htt _ _ hy) hd, hye, h⟩
theorem bytes_rl {ow : Own} {w : World} : ∀ (l : Bs), RE ow w 1 (bytesE l) (l.map fun b => Value.int .u8 (b.toNat : Int))
  | [] => by simp [bytesE, RE]
  | b :: l => by
    simp only [bytesE, List.map_cons, RE]
    exact ⟨[.int .u8 (b.toNat : Int)], _, rfl, rfl, by simp [byteE, RL, RV], bytes_rl l⟩
/-- Cells that read as bytes. -/
theorem re_bytes {ow : Own} {w : World} {k : Nat} : ∀ {l : Bs} {vs : List Value}, RE ow w k (bytesE l) vs → l ≠ [] → k = 1 ∧ ∀ j : Nat, (h : j < l.length) → vs[j]? = some (.int .u8 (l[j].toNat : Int))
  | [], _, _, h => absurd rfl h
  | b :: l, vs, h, _ => by
    simp only [bytesE, List.map_cons, RE] at h
    obtain ⟨us, rest, rfl, hk, h1, h2⟩ := h
    have hk1 : k = 1 := by rw [← hk, h1.len]; rfl
    subst hk1
    simp only [byteE, RL, RV] at h1
    obtain ⟨u, us', rfl, rfl, rfl⟩ := h1
    refine ⟨rfl, fun j hj => ?_⟩
    cases j with
    | zero => rfl
    | succ j =>
      simp at hj
      have := (re_bytes (l := l) h2 (by intro e; subst e; simp at hj)).2 j hj
      simpa using this
section
variable {P : Program} {tt : TT} (htt : TtOk P tt) {X : Cx} {id : Nat} {K : Kon} (hh : HR X) (hi : Fresh X id)
include htt hh hi

theorem conv_bytes {src dst : TypeId} (hs : ∃ e, P.underlying src = some (.slice e) ∧ P.underlying e = some (.int .u8)) (hd : P.underlying dst = some .string) {l : Bs} {A : Option Addr} {c : Nat} {k : Nat}
    (hA : bytesE l = [] ∨ ∃ g o C t fr, A = some ⟨g, o, none⟩ ∧ X.w.heap[g]? = some (.cells C t fr) ∧ RE X.ow X.w k (bytesE l) (C.toList.drop o)) (h : K (.str l) []) :
    Ran P X id K (do pure (.value (← convert src dst (.slice A (bytesE l).length c)))) := by
  obtain ⟨e, hsu, he⟩ := hs
  refine Ran.value (v := .string (bs l)) (w' := X.w) ?_ (Out.same hh hi h (mk_str _ _))
  have hlen : (bytesE l).length = l.length := by simp [bytesE]
  rw [hlen]
  by_cases hl : l = []
  · subst hl
    cases A with
    | none => exact run_convert_bytes_nil X.w _ _ hsu he _ _ _ hd
    | some a => exact run_convert_bytes_back X.w _ _ _ a c [] hsu he hd (fun j hj => by simp at hj)
  · rcases hA with hA | ⟨g, o, C, t, fr, rfl, hC, hr⟩
    · exact absurd (by cases l with | nil => rfl | cons b l => simp [bytesE] at hA) hl
    · obtain ⟨rfl, hj⟩ := re_bytes hr hl
      refine run_convert_bytes_back X.w _ _ _ _ c l hsu he hd (fun j hjl => ?_)
      rw [add_off]
      have := hj j hjl
      rw [List.getElem?_drop] at this
      simpa [World.cell?, hC] using this
theorem eff_convert {src dst : TypeId} {x : T} {v : Value} {ox : Operand} (hx : RS X x v) (h : Eff tt (.convert src dst ox) 0 [x] X.H id K) : Ran P X id K (do pure (.value (← convert src dst v))) := by
  simp only [Eff] at h
  split at h <;> try exact h.elim
  rename_i ys yd hys hyd
  obtain ⟨ds, hsu, hds⟩ := (htt _ _ hys).und
  split at h <;> try exact h.elim
  · rename_i k k' n hd
    obtain rfl := rs_int hx
    obtain ⟨r, rfl, h⟩ := h
    have hdu := und_int (htt _ _ hyd) hd
    exact Ran.value (v := .int k (k.wrap n)) (by simp [convert, run_underlying hsu, run_underlying hdu, Conv.intToInt]) (Out.same hh hi h (mk_int _ _ _))
  · rename_i s hd
    obtain rfl := rs_str hx
    have hdu := und_string (htt _ _ hyd) hd
    exact Ran.value (v := .string (bs s)) (by simp [convert, run_underlying hsu, run_underlying hdu]) (Out.same hh hi h (mk_str _ _))
  · rename_i e s hd
    obtain ⟨hst, h8, hl, h⟩ := h
    obtain rfl := rs_str hx
    have hdu := und_slice (htt _ _ hyd) hd
    have heu := isU8_und htt h8
    have hcn := grownCap_ge X.w (bs s).size 0 e
    have hcm : grownCap X.w (bs s).size 0 e ≤ maxLen := grownCap_le_maxLen X.w _ 0 e (by rw [bs_size]; unfold maxLen; omega)
    have hrun := run_bytes_of_string (P := P) X.w src dst e (bs s) (isStr_und htt hys hst) hdu heu
    generalize grownCap X.w (bs s).size 0 e = c at hcn hcm hrun
    rw [bs_size] at hrun hcn
    have hd0 : (bs s).data.toList = s := bs_data s
    have hd1 : (bs s).data.size = s.length := by rw [← Array.length_toList, hd0]
    have hsz : (bytesRow (bs s) c).size = c := by simp only [bytesRow, Array.size_append, Array.size_map, Array.size_replicate, bs_size, hd1]; omega
    refine Ran.value hrun (Out.newRow hh hi (k := 1) X.w.drew rfl rfl rfl rfl h (by omega) (by simp [bytesE]) (by omega) hcn hcm (.inr (Nat.le_refl _)) ?_)
    exact (bytes_rl (ow := X.ow) (w := X.w) s).ext (us := (bytesRow (bs s) c).toList) ⟨List.replicate (c - s.length) (.int .u8 0), by simp only [bytesRow, Array.toList_append, Array.toList_map, Array.toList_replicate, hd0, bs_size]; rw [List.take_of_length_le (by simp [bytesE])]⟩
  · rename_i r hd
    split at h <;> try exact h.elim
    rename_i k es hH
    obtain ⟨h8, l, rfl, h⟩ := h
    obtain ⟨h1, _, h3⟩ := rs_ref hx
    have hb := isBytes_und htt hys h8
    have hdu := und_string (htt _ _ hyd) hd
    rcases h3 _ _ hH with ⟨rfl, h0⟩ | ⟨g, c, C, t, fr, rfl, hg, hC, _⟩
    · have : bytesE l = [] := List.eq_nil_of_length_eq_zero h0
      have := conv_bytes htt hh hi (A := none) (c := 0) (k := k) hb hdu (.inl this) h
      rw [h0] at this; exact this
    · obtain ⟨_, hn⟩ := (hh.node _ _ hH).2
      refine conv_bytes htt hh hi (k := k) hb hdu ?_ h
      rcases hn with hn | ⟨g', C', t', fr', hg', hC', hf, hl⟩
      · exact .inl hn
      · obtain rfl := hh.inj' hH hg hg'
        exact .inr ⟨g, 0, C', t', fr', rfl, hC', by simpa using hl⟩
  · rename_i k es hd
    obtain ⟨h8, l, rfl, h⟩ := h
    have hx' : RV X.ow X.w (.sl k (bytesE l)) v := hx
    simp only [RV] at hx'
    obtain ⟨A, c, rfl, _, hx'⟩ := hx'
    refine conv_bytes htt hh hi (k := k) (isBytes_und htt hys h8) (und_string (htt _ _ hyd) hd) ?_ h
    rcases hx' with hx' | ⟨g, o, C, t, fr, hA, _, hC, hr⟩
    · exact .inl hx'
    · exact .inr ⟨g, o, C, t, fr, hA, hC, hr⟩
  · rename_i v0 hd
    obtain ⟨h8, rfl, h⟩ := h
    have hx' : v = nilV ∧ nilV.oneCell' = true := by simpa [RS, RS1, RS0, RV] using hx
    obtain ⟨rfl, _⟩ := hx'
    exact conv_bytes htt hh hi (l := []) (A := none) (c := 0) (k := 1) (isBytes_und htt hys h8) (und_string (htt _ _ hyd) hd) (.inl rfl) h
end
end Go.Proofs.YtkgfidphcpklhaaDoor
namespace Go.Proofs.YtkgfidphcpklhaaDoor
open Go.RowKit Pl
set_option linter.unusedVariables false
set_option linter.unusedSectionVars false

theorem foldl_ovl : ∀ (l : List Value) (n off : Nat) (A : Array Value), ((l.zipIdx n).foldl (fun cs (p : Value × Nat) => cs.setIfInBounds (off + p.2) p.1) A).toList = ovl A.toList (off + n) l
  | [], n, off, A => rfl
  | v :: l, n, off, A => by
    rw [List.zipIdx_cons, List.foldl_cons, foldl_ovl l (n + 1) off]
    simp [ovl, Nat.add_assoc]
/-- Parts and their values. -/
def PartsOf (X : Cx) : List (Nat × T) → List (Nat × Value) → Prop
  | [], vs => vs = []
  | (i, x) :: l, vs => ∃ v us, vs = (i, v) :: us ∧ RS X x v ∧ PartsOf X l us
theorem parts_zip {X : Cx} {ρ : Operand → Value} : ∀ (ps : List (Nat × Operand)) (xs : List T), Args X xs ((ps.map (·.2)).map ρ) → PartsOf X (zipParts ps xs) (ps.map fun p => (p.1, ρ p.2))
  | [], xs, h => rfl
  | (i, o) :: ps, [], h => by cases h
  | (i, o) :: ps, x :: xs, ⟨u, us, he, h1, h2⟩ => by
    rw [List.map_cons, List.map_cons] at he
    injection he with a b
    subst a b
    exact ⟨_, _, rfl, h1, parts_zip ps xs h2⟩
theorem fill_sound {X : Cx} {place place' : Nat → Option (Nat × Nat)} (hp : ∀ i q, place i = some q → place' i = some q) : ∀ {l : List (Nat × T)} {vl : List (Nat × Value)} {cells cells' : List T} {A : Array Value},
    PartsOf X l vl → RSl X cells A.toList → fillT place cells l = some cells' → ∃ A', Instr.fill place' A vl = some A' ∧ RSl X cells' A'.toList
  | [], _, cells, cells', A, h, hc, hf => by
    cases h
    simp [fillT] at hf; subst hf
    exact ⟨A, rfl, hc⟩
  | (i, x) :: l, _, cells, cells', A, ⟨v, us, hv, h1, h2⟩, hc, hf => by
    subst hv
    simp only [fillT] at hf
    split at hf <;> try (cases hf; done)
    rename_i o sz xs hpl hcx
    have hcs := cells_rs h1 hcx
    cases hb : (Nat.beq xs.length sz && Nat.ble (o + sz) cells.length) with
    | false => rw [hb] at hf; cases hf
    | true =>
      rw [hb] at hf
      simp only [Bool.and_eq_true] at hb
      have e1 := Nat.eq_of_beq_eq_true hb.1
      have e2 := Nat.le_of_ble_eq_true hb.2
      have hlen : v.cells.size = sz := by rw [← e1, ← hcs.len]; simp
      have hA : A.size = cells.length := by rw [← hc.len]; simp
      have hcond : ¬ (v.cells.size ≠ sz || decide (o + v.cells.size > A.size)) = true := by simp [hlen]; omega
      obtain ⟨A', h3, h4⟩ := fill_sound (A := v.cells.zipIdx.foldl (fun cs (p : Value × Nat) => cs.setIfInBounds (o + p.2) p.1) A) hp h2 (cells := ovl cells o xs) (by
        rw [← Array.foldl_toList, Array.toList_zipIdx, foldl_ovl, Nat.add_zero]
        exact RSl.ovl o hc hcs) hf
      refine ⟨A', ?_, h4⟩
      simp only [Instr.fill, hp _ _ hpl]
      rw [if_neg (by simpa using hcond)]
      exact h3

section
variable {P : Program} {tt : TT} (htt : TtOk P tt) {X : Cx} {id : Nat} {K : Kon} (hh : HR X) (hi : Fresh X id)
include htt hh hi
theorem info_some {e : TypeId} {y : Ty} (hy : tt e = some y) : ∃ i, P.info? e = some i ∧ i.size = y.sz := by
  obtain ⟨i, z, h1, h2, _⟩ := (htt _ _ hy).info
  exact ⟨i, h1, h2⟩
theorem eff_build {t : TypeId} {parts : Array (Nat × Operand)} {xs : List T} {ρ : Operand → Value} (hx : Args X xs ((parts.toList.map (·.2)).map ρ)) (h : Eff tt (.build t parts) 0 xs X.H id K) :
    Ran P X id K (do pure (.value (← Instr.build t (parts.map fun (i, x) => (i, ρ x))))) := by
  simp only [Eff] at h
  have hp := parts_zip parts.toList xs hx
  have hpl : (parts.map fun (i, x) => (i, ρ x)).toList = parts.toList.map fun p => (p.1, ρ p.2) := by simp
  split at h <;> try exact h.elim
  rename_i y hy
  obtain ⟨it, z, hit, hsz, hby, hz, hzc⟩ := (htt _ _ hy).info
  have hz0 : RSl X y.zero z.cells.toList := by rw [hzc]; exact (zok_rl (htt _ _ hy).zs).rsl
  split at h <;> try exact h.elim
  · rename_i fs hd
    obtain ⟨hall, h⟩ := h
    obtain ⟨F, hu, hF⟩ := und_struct (htt _ _ hy) hd
    split at h <;> try exact h.elim
    rename_i cells hf
    have hmap : ∃ places, F.toList.mapM (fun f => (P.info? f.type).map fun i => (f.offset, i.size)) = some places ∧ ∀ i q, placeS tt fs i = some q → places[i]? = some q := by
      have key : ∀ (l : List Field), (l.map (fun f => (f.offset, f.type))).all (fun f => (tt f.2).isSome) = true → ∃ places, l.mapM (fun f => (P.info? f.type).map fun i => (f.offset, i.size)) = some places ∧ ∀ i q, placeS tt (l.map (fun f => (f.offset, f.type))) i = some q → places[i]? = some q := by
        intro l
        induction l with
        | nil => intro _; exact ⟨[], rfl, fun i q hq => by simp [placeS] at hq⟩
        | cons f l ih =>
          intro ha
          simp at ha
          obtain ⟨yf, hyf⟩ := Option.isSome_iff_exists.1 ha.1
          obtain ⟨places, h1, h2⟩ := ih (by simpa using ha.2)
          obtain ⟨i0, hi0, hs0⟩ := info_some htt hh hi hyf
          refine ⟨(f.offset, i0.size) :: places, by simp [List.mapM_cons, hi0, h1], fun i q hq => ?_⟩
          cases i with
          | zero => simp [placeS, hyf] at hq; rw [← hq, hs0]; rfl
          | succ i => simpa using h2 i q (by simpa [placeS] using hq)
      rw [← hF] at hall ⊢
      exact key _ hall
    obtain ⟨places, h1, h2⟩ := hmap
    obtain ⟨A', h3, h4⟩ := fill_sound (place' := (places[·]?)) h2 hp hz0 hf
    refine Ran.value (v := .agg A') (w' := X.w) (run_build X.w t _ A' ?_) (Out.same hh hi h ⟨A', rfl, h4⟩)
    unfold Program.built
    rw [hpl]
    simp only [hit, hu, hz, h1]
    simpa using h3
  · rename_i n e hd
    have hu := und_array (htt _ _ hy) hd
    split at h <;> try exact h.elim
    rename_i ye hye
    obtain ⟨ie, hie, hse⟩ := info_some htt hh hi hye
    split at h <;> try exact h.elim
    rename_i cells hf
    obtain ⟨A', h3, h4⟩ := fill_sound (place' := fun i => some (i * ie.size, ie.size)) (fun i q hq => by rw [hse]; exact hq) hp hz0 hf
    refine Ran.value (v := .agg A') (w' := X.w) (run_build X.w t _ A' ?_) (Out.same hh hi h ⟨A', rfl, h4⟩)
    unfold Program.built
    rw [hpl]
    simp only [hit, hu, hz, hie]
    exact h3
end
end Go.Proofs.YtkgfidphcpklhaaDoor
namespace Go.Proofs.YtkgfidphcpklhaaDoor
open Go.RowKit Pl
set_option linter.unusedVariables false
set_option linter.unusedSectionVars false

def Cx.dropL (X : Cx) : List Nat → Cx
  | [] => X
  | r :: l => (X.drop r).dropL l
theorem dropL_H (X : Cx) : ∀ (l : List Nat), (X.dropL l).H = updL X.H (goneU l)
  | [] => rfl
  | r :: l => dropL_H (X.drop r) l
theorem dropL_w (X : Cx) : ∀ (l : List Nat), (X.dropL l).w = X.w
  | [] => rfl
  | r :: l => dropL_w (X.drop r) l
theorem dropL_nx (X : Cx) : ∀ (l : List Nat), (X.dropL l).us = X.us
  | [] => rfl
  | r :: l => dropL_nx (X.drop r) l
theorem dropL_fresh {X : Cx} {id : Nat} (l : List Nat) (h : Fresh X id) : Fresh (X.dropL l) id := fun r h1 h2 h3 => h r h1 h2 (by rwa [dropL_nx] at h3)
theorem dropL_win (X : Cx) (id : Nat) (l : List Nat) : (X.dropL l).win id = X.win id := by unfold Cx.win; rw [dropL_nx]
theorem same_dropL (X : Cx) : ∀ (l : List Nat), Same X (X.dropL l)
  | [] => .refl X
  | r :: l => (same_drop X r).trans (same_dropL (X.drop r) l)
theorem HR.dropL {X : Cx} (hh : HR X) : ∀ (l : List Nat), HR (X.dropL l)
  | [] => hh
  | r :: l => HR.dropL (hh.drop r) l
theorem drop_ow {X : Cx} {r g : Nat} (h : X.ow g = none) : (X.drop r).ow g = none := by
  show (if r ≠ 0 ∧ X.ow g = some r then none else X.ow g) = none
  rw [h]; simp
theorem dropL_none {X : Cx} {g : Nat} : ∀ (l : List Nat), X.ow g = none → (X.dropL l).ow g = none
  | [], h => h
  | r :: l, h => dropL_none l (drop_ow h)
theorem dropL_ow {X : Cx} {r g : Nat} (hr : r ≠ 0) : ∀ (l : List Nat), r ∈ l → X.ow g = some r → (X.dropL l).ow g = none
  | r' :: l, hm, h => by
    by_cases he : r' = r
    · subst he
      exact dropL_none l (drop_own hr h)
    · cases hm with
      | head => exact absurd rfl he
      | tail _ hm => exact dropL_ow hr l hm (by show (if r' ≠ 0 ∧ X.ow g = some r' then none else X.ow g) = some r; rw [h, if_neg (fun e => he (by have := e.2; injection this with e; exact e.symm))])
/-- A row that was given up is read still. -/
theorem ref_sl {X X' : Cx} (hh : HR X) (hs : Stab X.ow X.w X'.ow X'.w) {r k : Nat} {es : List (List T)} {u : Value} (hr : RS0 X (.ref r) u) (hH : X.H r = some (.row k es)) (hn : ∀ g, X.ow g = some r → X'.ow g = none) (hw : ∀ g, X.ow g = some r → X'.w.heap[g]? = X.w.heap[g]?) : RV X'.ow X'.w (.sl k es) u := by
  obtain ⟨_, _, h3⟩ := hr
  simp only [RV]
  rcases h3 _ _ hH with ⟨rfl, h0⟩ | ⟨g, c, C, t, fr, rfl, hg, hC, _, _, hle, _⟩
  · exact ⟨none, 0, by rw [h0]; rfl, by rw [h0]; exact Nat.le_refl _, .inl (List.eq_nil_of_length_eq_zero h0)⟩
  · refine ⟨_, c, rfl, hle, ?_⟩
    obtain ⟨_, hnd⟩ := (hh.node _ _ hH).2
    rcases hnd with hnd | ⟨g', C', t', fr', hg', hC', hf, hl⟩
    · exact .inl hnd
    · obtain rfl := hh.inj' hH hg hg'
      exact .inr ⟨g, 0, C', t', fr', rfl, hn g hg, (hw g hg).trans hC', RE.mono hs (by simpa using hl)⟩
theorem frz_sound {X : Cx} (hh : HR X) {gone : List Nat} : ∀ {xs ys : List T} {rs : List Nat} {us : List Value}, frz X.H xs = some (ys, rs) → RSl X xs us → (∀ r ∈ rs, r ∈ gone) → RL (X.dropL gone).ow (X.dropL gone).w ys us
  | [], ys, rs, us, hf, h, hg => by
    cases h
    simp [frz] at hf
    obtain ⟨rfl, rfl⟩ := hf
    simp [RL]
  | c :: xs, ys, rs, us, hf, ⟨u, us', hu, h1, h2, h3⟩, hg => by
    subst hu
    simp only [frz] at hf
    split at hf <;> try (cases hf; done)
    rename_i ds rs0 hds
    have hs := same_dropL X gone
    have rest : (∀ r ∈ rs0, r ∈ gone) → RL (X.dropL gone).ow (X.dropL gone).w ds us' := frz_sound hh hds h3
    cases c <;> simp only at hf <;> try (cases hf; done)
    case ref r =>
      split at hf <;> try (cases hf; done)
      rename_i k es hH
      injection hf with hf; injection hf with a b; subst a b
      simp only [RL]
      exact ⟨u, us', rfl, ref_sl hh hs.stab h2 hH (fun g hg' => dropL_ow (hh.ne hH) gone (hg r (by simp)) hg') (fun g _ => by rw [dropL_w]), rest (fun r' hr' => hg r' (by simp [hr']))⟩
    all_goals
      injection hf with hf; injection hf with a b; subst a b
      simp only [RL]
      exact ⟨u, us', rfl, RV.mono hs.stab h2, rest hg⟩
theorem Out.dropped {X : Cx} {id : Nat} {K : Kon} (hh : HR X) (hi : Fresh X id) {x : T} {v : Value} {r : Nat} (h : K x [(r, none)]) (hx : RS (X.drop r) x v) : Out X id K v X.w :=
  ⟨x, [(r, none)], { X.drop r with us := X.win id }, h, rfl, rfl, rfl, (same_drop X r).trans (same_nx (X.drop r) (fun _ h => .inl h) _ rfl rfl rfl rfl), (hh.drop r).nx (fun _ h => .inl h) _ rfl rfl rfl rfl, hx.mono (same_nx (X.drop r) (fun _ h => .inl h) _ rfl rfl rfl rfl)⟩
theorem ovl_full {α : Type} {e ys : List α} (h : ys.length = e.length) : ovl e 0 ys = ys := by
  rw [ovl_eq ys e 0 (by omega), h]; simp
theorem fillE_gone (H : Hp) (sz : Nat) : ∀ {l : List (Nat × T)} {es es' : List (List T)} {g g' : List Nat}, fillE H sz es g l = some (es', g') → ∀ r ∈ g, r ∈ g'
  | [], es, es', g, g', h => by simp [fillE] at h; obtain ⟨_, rfl⟩ := h; exact fun r hr => hr
  | (i, x) :: l, es, es', g, g', h => by
    simp only [fillE] at h
    split at h <;> try (cases h; done)
    split at h <;> try (cases h; done)
    rename_i ys rs _
    cases hb : (Nat.beq ys.length sz && Nat.blt i es.length) with
    | false => rw [hb] at h; cases h
    | true => rw [hb] at h; exact fun r hr => fillE_gone H sz h r (by simp [hr])
theorem fillE_sound {X : Cx} (hh : HR X) {sz : Nat} {gone : List Nat} : ∀ {l : List (Nat × T)} {vl : List (Nat × Value)} {es es' : List (List T)} {g0 : List Nat} {A : Array Value},
    PartsOf X l vl → RE (X.dropL gone).ow (X.dropL gone).w sz es A.toList → A.size = es.length * sz → fillE X.H sz es g0 l = some (es', gone) → ∃ A', Instr.fill (fun i => some (i * sz, sz)) A vl = some A' ∧ RE (X.dropL gone).ow (X.dropL gone).w sz es' A'.toList ∧ A'.size = A.size ∧ es'.length = es.length
  | [], _, es, es', g0, A, h, hc, hA, hf => by
    cases h
    simp [fillE] at hf; obtain ⟨rfl, _⟩ := hf
    exact ⟨A, rfl, hc, rfl, rfl⟩
  | (i, x) :: l, _, es, es', g0, A, ⟨v, us, hv, h1, h2⟩, hc, hA, hf => by
    subst hv
    simp only [fillE] at hf
    split at hf <;> try (cases hf; done)
    rename_i xs hcx
    split at hf <;> try (cases hf; done)
    rename_i ys rs hfz
    cases hb : (Nat.beq ys.length sz && Nat.blt i es.length) with
    | false => rw [hb] at hf; cases hf
    | true =>
      rw [hb] at hf
      simp only [Bool.and_eq_true] at hb
      have e1 := Nat.eq_of_beq_eq_true hb.1
      have e2 : i < es.length := by have h5 := hb.2; simp [Nat.blt] at h5; omega
      have hcs := cells_rs h1 hcx
      have hrl := frz_sound hh hfz hcs (gone := gone) (fun r hr => fillE_gone X.H sz hf r (by simp [hr]))
      have hlen : v.cells.size = sz := by rw [← e1, ← hrl.len]; simp
      have hfit : i * sz + sz ≤ A.size := by
        rw [hA]
        calc i * sz + sz = (i + 1) * sz := by rw [Nat.add_mul]; omega
          _ ≤ es.length * sz := Nat.mul_le_mul_right _ e2
      have hcond : ¬ (v.cells.size ≠ sz || decide (i * sz + v.cells.size > A.size)) = true := by simp [hlen]; omega
      have hel : es[i].length = sz := hc.elen _ (List.getElem_mem e2)
      have hre : RE (X.dropL gone).ow (X.dropL gone).w sz (es.set i ys) (v.cells.zipIdx.foldl (fun cs (p : Value × Nat) => cs.setIfInBounds (i * sz + p.2) p.1) A).toList := by
        rw [← Array.foldl_toList, Array.toList_zipIdx, foldl_ovl, Nat.add_zero]
        have := RE.ovl (e := es[i]) (xs := ys) 0 (es := es) (i := i) (by rw [set_same (List.getElem?_eq_getElem e2)]; exact hc) e2 hrl (by omega)
        rw [ovl_full (by omega)] at this
        simpa using this
      have hsz : (v.cells.zipIdx.foldl (fun cs (p : Value × Nat) => cs.setIfInBounds (i * sz + p.2) p.1) A).size = A.size := by
        rw [← Array.length_toList, ← Array.foldl_toList, Array.toList_zipIdx, foldl_ovl, ovl_length]; simp
      obtain ⟨A', h3, h4, h5, h6⟩ := fillE_sound hh h2 hre (by rw [hsz, hA]; simp) hf
      refine ⟨A', ?_, h4, by rw [h5, hsz], by rw [h6]; simp⟩
      simp only [Instr.fill]
      rw [if_neg (by simpa using hcond)]
      exact h3
theorem range_mod (z : List Value) : ∀ (n : Nat), (List.range (n * z.length)).map (fun i => z.getD (i % z.length) undef) = (List.replicate n z).flatten
  | 0 => by simp
  | n + 1 => by
    have hk : (n + 1) * z.length = z.length + n * z.length := by rw [Nat.add_mul]; omega
    rw [hk, List.range_add, List.map_append, List.replicate_succ, List.flatten_cons, ← range_mod z n]
    congr 1
    · apply List.ext_getElem
      · simp
      · intro i h1 h2
        simp at h1
        simp [Nat.mod_eq_of_lt h1, List.getD, List.getElem?_eq_getElem h1]
    · rw [List.map_map]
      apply List.map_congr_left
      intro i _
      simp
theorem re_replicate {ow : Own} {w : World} {zs : List T} {vs r : List Value} (h : RL ow w zs vs) : ∀ (n : Nat), RE ow w zs.length (List.replicate n zs) ((List.replicate n vs).flatten ++ r)
  | 0 => by simp [RE]
  | n + 1 => by
    simp only [List.replicate_succ, RE, List.flatten_cons]
    exact ⟨vs, (List.replicate n vs).flatten ++ r, by simp, h.len, h, re_replicate h n⟩
theorem zeros_row (ow : Own) (w : World) {P : Program} {t : TypeId} {y : Ty} (hy : TyOk P t y) {z : Value} (hz : z.cells.toList = y.zero.map zv) (n : Nat) (hsz : y.sz ≠ 0) :
    RE ow w y.sz (List.replicate n y.zero) ((Array.range (n * y.sz)).map (fun i => z.cells[i % z.cells.size]!)).toList := by
  have hl : z.cells.toList.length = y.sz := by rw [hz, List.length_map, hy.len]
  have hl2 : z.cells.size = y.sz := by simpa using hl
  have h1 : ((Array.range (n * y.sz)).map (fun i => z.cells[i % z.cells.size]!)).toList = (List.replicate n z.cells.toList).flatten := by
    rw [← range_mod, hl]
    simp only [Array.toList_map, Array.toList_range]
    apply List.map_congr_left
    intro i _
    have : i % z.cells.size < z.cells.size := Nat.mod_lt _ (by omega)
    rw [getElem!_pos z.cells _ this]
    simp [List.getD, hl2]
    rw [Array.getElem?_eq_getElem (by rw [← hl2]; exact this)]
    simp [hl2]
  rw [h1, ← hy.len]
  have := re_replicate (r := []) (show RL ow w y.zero z.cells.toList by rw [hz]; exact zok_rl hy.zs) n
  simpa using this
end Go.Proofs.YtkgfidphcpklhaaDoor
namespace Go.Proofs.YtkgfidphcpklhaaDoor
open Go.RowKit Pl
set_option linter.unusedVariables false
set_option linter.unusedSectionVars false

theorem str_part (s : Bs) (i j : Nat) : (bs s).extract i j = bs ((s.take j).drop i) := by
  rw [bs_extract]
  congr 1
  rw [List.drop_take]
theorem elem_und {P : Program} {t e : TypeId} (h : P.underlying t = some (.slice e)) : P.underlying t = some (.slice (P.elem t)) ∧ P.elem t = e := by
  have : P.elem t = e := by simp [Program.elem, h]
  exact ⟨by rw [this]; exact h, this⟩
/-- A part of a slice that is only read. -/
theorem rv_part {ow : Own} {w : World} {k : Nat} {es : List (List T)} {A : Option Addr} {c i j : Nat} (hij : i ≤ j) (hj : j ≤ es.length) (hc : es.length ≤ c)
    (hA : es = [] ∨ ∃ g o C t fr, A = some ⟨g, o, none⟩ ∧ ow g = none ∧ w.heap[g]? = some (.cells C t fr) ∧ RE ow w k es (C.toList.drop o)) : RV ow w (.sl k ((es.take j).drop i)) (sliced A i j c k) := by
  have hl : ((es.take j).drop i).length = j - i := by simp; omega
  simp only [RV, sliced]
  refine ⟨_, c - i, by rw [hl], by rw [hl]; omega, ?_⟩
  rcases hA with rfl | ⟨g, o, C, t, fr, rfl, hg, hC, hr⟩
  · left; simp
  · by_cases hci : c = i
    · left
      exact List.eq_nil_of_length_eq_zero (by rw [hl]; omega)
    · right
      refine ⟨g, o + i * k, C, t, fr, by simp [hci, add_off], hg, hC, ?_⟩
      rw [← List.drop_drop]
      exact (hr.take j).drop i

section
variable {P : Program} {tt : TT} (htt : TtOk P tt) {X : Cx} {id : Nat} {K : Kon} (hh : HR X) (hi : Fresh X id)
include htt hh hi
theorem eff_buildSlice {t : TypeId} {len : Nat} {parts : Array (Nat × Operand)} {xs : List T} {ρ : Operand → Value} (hx : Args X xs ((parts.toList.map (·.2)).map ρ)) (h : Eff tt (.buildSlice t len parts) 0 xs X.H id K) :
    Ran P X id K (do pure (.value (← Instr.buildSlice t len (parts.map fun (i, x) => (i, ρ x))))) := by
  simp only [Eff] at h
  have hp := parts_zip parts.toList xs hx
  have hpl : (parts.map fun (i, x) => (i, ρ x)).toList = parts.toList.map fun p => (p.1, ρ p.2) := by simp
  split at h <;> try exact h.elim
  rename_i y hy
  split at h <;> try exact h.elim
  rename_i e hd
  have hu := und_slice (htt _ _ hy) hd
  split at h <;> try exact h.elim
  rename_i ye hye
  obtain ⟨hble, hsz, h⟩ := h
  split at h <;> try exact h.elim
  rename_i es gone hf
  obtain ⟨z, hz, hzc⟩ := zero_of (htt _ _ hye) X.w
  have hbl := Nat.le_of_ble_eq_true hble
  obtain ⟨A', h3, h4, h5, h6⟩ := fillE_sound hh (A := (Array.range (len * ye.sz)).map (fun i => z.cells[i % z.cells.size]!)) hp (zeros_row _ _ (htt _ _ hye) hzc len hsz) (by simp) hf
  have hlen0 : es.length = len := by rw [h6]; simp
  have hfinal := Out.newRow (X := X.dropL gone) (id := id) (K := fun x u => K x (goneU gone ++ u)) (hh.dropL gone) (dropL_fresh gone hi) (k := ye.sz) (n := len) (c := len) (es := es) (C := A') (t := e) (fr := (0, 0)) (X.dropL gone).w rfl rfl rfl rfl h (by omega) hlen0.symm
    (by rw [h5]; simp) (Nat.le_refl _) (by
      have : len ≤ len * ye.sz := Nat.le_mul_of_pos_right _ (by omega)
      unfold maxLen; omega) (.inl (Nat.le_refl _)) h4
  refine Ran.value (v := .slice (some ⟨X.w.heap.size, 0, none⟩) len len) (w' := X.w.alloc (.cells A' e)) ?_ ?_
  · have hif : ¬ (len * ye.sz > 2 ^ 24) := by omega
    simp only [Instr.buildSlice, Sem.run_bind, run_underlying hu, Result.andThen_ok, size_of (htt _ _ hye), hif, if_false]
    by_cases h0 : len * ye.sz = 0
    · have hl0 : len = 0 := by
        rcases Nat.mul_eq_zero.1 h0 with h1 | h1
        · exact h1
        · exact absurd h1 hsz
      subst hl0
      simp only [Nat.zero_mul] at h3 ⊢
      have e1 : ((Array.range 0).map (fun i => z.cells[i % z.cells.size]!)) = #[] := by simp
      rw [e1] at h3
      have e3 : ∀ f : Nat → Value, (Array.range 0).map f = #[] := fun f => by simp [Array.range]
      simp [h3, hpl, newRow, e3]
    · simp only [h0, if_false, Sem.run_bind, hz, Result.andThen_ok, Sem.run_pure, hpl, h3, newRow, run_newObj, World.alloc_eq]
  · obtain ⟨x, upd, X', hk, hw, hn, hH, hs, hr, hv⟩ := hfinal
    rw [dropL_w] at hw hv
    exact ⟨x, goneU gone ++ upd, X', hk, hw, hn.trans (dropL_win X id gone), by
      rw [hH, dropL_H]
      have key : ∀ (a : Upd) (H : Hp) (b : Upd), updL (updL H a) b = updL H (a ++ b) := fun a => by
        induction a with
        | nil => intro H b; rfl
        | cons p a ih => intro H b; obtain ⟨r, e⟩ := p; exact ih _ _
      exact key _ _ _, (same_dropL X gone).trans hs, hr, hv⟩
theorem eff_makeSlice {t : TypeId} {l c : T} {vl vc : Value} {ol oc : Operand} (hl : RS X l vl) (hc : RS X c vc) (h : Eff tt (.makeSlice t ol oc) 0 [l, c] X.H id K) : Ran P X id K (do pure (.value (← Instr.makeSlice t vl vc))) := by
  simp only [Eff] at h
  split at h <;> try exact h.elim
  rename_i k n k' n' y hy
  split at h <;> try exact h.elim
  rename_i e hd
  have hu := und_slice (htt _ _ hy) hd
  split at h <;> try exact h.elim
  rename_i ye hye
  obtain ⟨hsz, hble, m, rfl, rfl, hm, h⟩ := h
  obtain rfl := rs_int hl
  obtain rfl := rs_int hc
  obtain ⟨it, z, hit, hs, hb, hz, hzc⟩ := (htt _ _ hye).info
  have hbl := Nat.le_of_ble_eq_true hble
  have hbytes : (it.bytes : Int) * (m : Int) ≤ 281474976710656 := by
    have h1 : it.bytes * m ≤ 100000 * 1000000000 := Nat.mul_le_mul (by omega) (by omega)
    have : ((it.bytes * m : Nat) : Int) ≤ 281474976710656 := by omega
    rwa [Int.natCast_mul] at this
  have hr := run_make (P := P) X.w t e it z hu hit hz k k' m m (by omega) (Int.le_refl _) hbytes (by omega)
  simp only [Int.toNat_natCast] at hr
  refine Ran.value hr (Out.newRow hh hi (k := ye.sz) X.w rfl rfl rfl rfl h (by omega) (by simp) (by simp [madeCells, hs]) (Nat.le_refl _) (by unfold maxLen; omega) (.inl (Nat.le_refl _)) ?_)
  have := zeros_row X.ow X.w (htt _ _ hye) hzc m hsz
  rw [hs]
  exact this

theorem eff_slice1 {t : TypeId} {x a : T} {vx va : Value} {ox oa : Operand} (hx : RS X x vx) (ha : RS X a va) (h : Eff tt (.slice t ox (some oa) none none) 0 [x, a] X.H id K) : Ran P X id K (do pure (.value (← Instr.sliceAt t vx (some va) none none))) := by
  simp only [Eff] at h
  split at h <;> try exact h.elim
  · rename_i k n s y hy
    obtain rfl := rs_int ha
    obtain rfl := rs_str hx
    obtain ⟨hst, i, rfl, hil, h⟩ := h
    have hu := isStr_und htt hy hst
    refine Ran.value (v := .string (bs (s.drop i))) (w' := X.w) ?_ (Out.same hh hi h (mk_str _ _))
    rw [run_sliceAt_string X.w _ _ _ _ _ hu, run_slice_string_l X.w _ _ hu _ _ (by omega) (by rw [bs_size]; omega)]
    rw [Int.toNat_natCast, bs_size, str_part, List.take_length]
  · rename_i k n kz es y hy
    obtain rfl := rs_int ha
    obtain ⟨hsz, i, rfl, hil, h⟩ := h
    obtain ⟨e, ye, hu, hye, rfl⟩ := sliceSz_und htt hy hsz
    have hx' : RV X.ow X.w (.sl ye.sz es) vx := hx
    simp only [RV] at hx'
    obtain ⟨A, c, rfl, hc, hA⟩ := hx'
    obtain ⟨hu2, hel⟩ := elem_und hu
    refine Ran.value (v := sliced A i es.length c ye.sz) (w' := X.w) ?_ (Out.same hh hi h (RV.rs0 ?_).rs)
    · rw [run_sliceAt_slice X.w _ _ _ _ _ hu2, run_slice_l X.w _ _ _ _ hu2 _ _ (by omega) (by omega), hel, size_of (htt _ _ hye), Int.toNat_natCast]
      rfl
    · have := rv_part (i := i) (j := es.length) hil (Nat.le_refl _) hc hA
      rwa [List.take_length] at this
  · rename_i k n r y hy
    obtain rfl := rs_int ha
    split at h <;> try exact h.elim
    rename_i kz es hH
    obtain ⟨hsz, i, rfl, hil, h⟩ := h
    obtain ⟨e, ye, hu, hye, rfl⟩ := sliceSz_und htt hy hsz
    obtain ⟨hu2, hel⟩ := elem_und hu
    have hx' := ref_sl hh (same_drop X r).stab hx hH (fun g hg => drop_own (hh.ne hH) hg) (fun g _ => rfl)
    simp only [RV] at hx'
    obtain ⟨A, c, rfl, hc, hA⟩ := hx'
    refine Ran.value (v := sliced A i es.length c ye.sz) (w' := X.w) ?_ (Out.dropped hh hi h ?_)
    · rw [run_sliceAt_slice X.w _ _ _ _ _ hu2, run_slice_l X.w _ _ _ _ hu2 _ _ (by omega) (by omega), hel, size_of (htt _ _ hye), Int.toNat_natCast]
      rfl
    · have := rv_part (i := i) (j := es.length) hil (Nat.le_refl _) hc hA
      rw [List.take_length] at this
      exact (RV.rs0 this).rs
theorem eff_slice2 {t : TypeId} {x a : T} {vx va : Value} {ox oa : Operand} (hx : RS X x vx) (ha : RS X a va) (h : Eff tt (.slice t ox none (some oa) none) 0 [x, a] X.H id K) : Ran P X id K (do pure (.value (← Instr.sliceAt t vx none (some va) none))) := by
  simp only [Eff] at h
  split at h <;> try exact h.elim
  · rename_i k n s y hy
    obtain rfl := rs_int ha
    obtain rfl := rs_str hx
    obtain ⟨hst, i, rfl, hil, h⟩ := h
    have hu := isStr_und htt hy hst
    refine Ran.value (v := .string (bs (s.take i))) (w' := X.w) ?_ (Out.same hh hi h (mk_str _ _))
    rw [run_sliceAt_string X.w _ _ _ _ _ hu, run_slice_string_h X.w _ _ hu _ _ (by omega) (by rw [bs_size]; omega)]
    rw [Int.toNat_natCast, str_part, List.drop_zero]
  · rename_i k n kz es y hy
    obtain rfl := rs_int ha
    obtain ⟨hsz, i, rfl, hil, h⟩ := h
    obtain ⟨e, ye, hu, hye, rfl⟩ := sliceSz_und htt hy hsz
    have hx' : RV X.ow X.w (.sl ye.sz es) vx := hx
    simp only [RV] at hx'
    obtain ⟨A, c, rfl, hc, hA⟩ := hx'
    obtain ⟨hu2, hel⟩ := elem_und hu
    refine Ran.value (v := sliced A 0 i c ye.sz) (w' := X.w) ?_ (Out.same hh hi h (RV.rs0 ?_).rs)
    · rw [run_sliceAt_slice X.w _ _ _ _ _ hu2, run_slice_h X.w _ _ _ _ hu2 _ _ (by omega) (by omega), hel, size_of (htt _ _ hye), Int.toNat_natCast]
      rfl
    · have := rv_part (i := 0) (j := i) (Nat.zero_le _) hil hc hA
      rwa [List.drop_zero] at this
  · rename_i k n r y hy
    obtain rfl := rs_int ha
    split at h <;> try exact h.elim
    rename_i kz es hH
    obtain ⟨hsz, i, rfl, hil, h⟩ := h
    obtain ⟨e, ye, hu, hye, rfl⟩ := sliceSz_und htt hy hsz
    obtain ⟨hu2, hel⟩ := elem_und hu
    have hx' := ref_sl hh (same_drop X r).stab hx hH (fun g hg => drop_own (hh.ne hH) hg) (fun g _ => rfl)
    simp only [RV] at hx'
    obtain ⟨A, c, rfl, hc, hA⟩ := hx'
    refine Ran.value (v := sliced A 0 i c ye.sz) (w' := X.w) ?_ (Out.dropped hh hi h ?_)
    · rw [run_sliceAt_slice X.w _ _ _ _ _ hu2, run_slice_h X.w _ _ _ _ hu2 _ _ (by omega) (by omega), hel, size_of (htt _ _ hye), Int.toNat_natCast]
      rfl
    · have := rv_part (i := 0) (j := i) (Nat.zero_le _) hil hc hA
      rw [List.drop_zero] at this
      exact (RV.rs0 this).rs
theorem eff_slice3 {t : TypeId} {x a b : T} {vx va vb : Value} {ox oa ob : Operand} (hx : RS X x vx) (ha : RS X a va) (hb : RS X b vb) (h : Eff tt (.slice t ox (some oa) (some ob) none) 0 [x, a, b] X.H id K) : Ran P X id K (do pure (.value (← Instr.sliceAt t vx (some va) (some vb) none))) := by
  simp only [Eff] at h
  split at h <;> try exact h.elim
  · rename_i k n k' n' s y hy
    obtain rfl := rs_int ha
    obtain rfl := rs_int hb
    obtain rfl := rs_str hx
    obtain ⟨hst, i, j, rfl, rfl, hij, hjl, h⟩ := h
    have hu := isStr_und htt hy hst
    refine Ran.value (v := .string (bs ((s.take j).drop i))) (w' := X.w) ?_ (Out.same hh hi h (mk_str _ _))
    rw [run_sliceAt_string X.w _ _ _ _ _ hu, run_slice_string X.w _ _ _ _ _ _ hu (by omega) (by omega) (by rw [bs_size]; omega)]
    rw [Int.toNat_natCast, Int.toNat_natCast, str_part]
  · rename_i k n k' n' kz es y hy
    obtain rfl := rs_int ha
    obtain rfl := rs_int hb
    obtain ⟨hsz, i, j, rfl, rfl, hij, hjl, h⟩ := h
    obtain ⟨e, ye, hu, hye, rfl⟩ := sliceSz_und htt hy hsz
    have hx' : RV X.ow X.w (.sl ye.sz es) vx := hx
    simp only [RV] at hx'
    obtain ⟨A, c, rfl, hc, hA⟩ := hx'
    obtain ⟨hu2, hel⟩ := elem_und hu
    refine Ran.value (v := sliced A i j c ye.sz) (w' := X.w) ?_ (Out.same hh hi h (RV.rs0 (rv_part hij hjl hc hA)).rs)
    rw [run_sliceAt_slice X.w _ _ _ _ _ hu2, run_slice_lh X.w _ _ _ _ hu2 _ _ _ _ (by omega) (by omega) (by omega), hel, size_of (htt _ _ hye), Int.toNat_natCast, Int.toNat_natCast]
    rfl
end
end Go.Proofs.YtkgfidphcpklhaaDoor
