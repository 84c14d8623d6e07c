/- One operation, told by content: what is told is so. -/
import Derived.Test.YtkdajahiaedoiaaV3
namespace Go.Proofs.Ytkdajahiaedoiaa
open Go.RowKit Pl
set_option linter.unusedVariables false
set_option linter.unusedSectionVars false

def Ran (P : Program) (X : Cx) (id : Nat) (K : Kon) (s : Sem Next) : Prop :=
  ∃ n v w', s.run P X.w = .ok n w' ∧ (n = .value v ∨ (n = .skip ∧ v = undef)) ∧ Out X id K v w'
theorem Ran.value {P : Program} {X : Cx} {id : Nat} {K : Kon} {s : Sem Value} {v : Value} {w' : World} (h : s.run P X.w = .ok v w') (ho : Out X id K v w') : Ran P X id K (do pure (.value (← s))) :=
  ⟨.value v, v, w', by simp [h], .inl rfl, ho⟩
theorem Ran.unit {P : Program} {X : Cx} {id : Nat} {K : Kon} {s : Sem Unit} {w' : World} (h : s.run P X.w = .ok () w') (ho : Out X id K undef w') : Ran P X id K (do s; pure .skip) :=
  ⟨.skip, undef, w', by simp [h], .inr ⟨rfl, rfl⟩, ho⟩

theorem args1 {X : Cx} {x : T} {v : Value} (h : Args X [x] [v]) : RS X x v := by
  obtain ⟨u, us, he, h1, h2⟩ := h
  injection he with a b; subst a; exact h1
theorem args2 {X : Cx} {x y : T} {v u : Value} (h : Args X [x, y] [v, u]) : RS X x v ∧ RS X y u := by
  obtain ⟨v', us, he, h1, h2⟩ := h
  injection he with a b; subst a b
  obtain ⟨u', us', he, h3, h4⟩ := h2
  injection he with a b; subst a; exact ⟨h1, h3⟩
theorem args3 {X : Cx} {x y z : T} {v u t : Value} (h : Args X [x, y, z] [v, u, t]) : RS X x v ∧ RS X y u ∧ RS X z t := by
  obtain ⟨v', us, he, h1, h2⟩ := h
  injection he with a b; subst a b
  exact ⟨h1, args2 h2⟩
theorem rs_int {X : Cx} {k : IntKind} {n : Int} {v : Value} (h : RS X (.int k n) v) : v = .int k n := by simpa [RS, RS1, RS0, RV] using h
theorem rs_bool {X : Cx} {b : Bool} {v : Value} (h : RS X (.bool b) v) : v = .bool b := by simpa [RS, RS1, RS0, RV] using h
theorem rs_str {X : Cx} {s : Bs} {v : Value} (h : RS X (.str s) v) : v = .string (bs s) := by simpa [RS, RS1, RS0, RV] using h
theorem mk_int (X : Cx) (k : IntKind) (n : Int) : RS X (.int k n) (.int k n) := by simp [RS, RS1, RS0, RV]
theorem mk_bool (X : Cx) (b : Bool) : RS X (.bool b) (.bool b) := by simp [RS, RS1, RS0, RV]
theorem mk_str (X : Cx) (s : Bs) : RS X (.str s) (.string (bs s)) := by simp [RS, RS1, RS0, RV]
theorem rs_ptr {X : Cx} {r i j : Nat} {v : Value} (h : RS X (.ptr r i j) v) : X.us r ∧ (∃ a, v = .pointer (some a)) ∧ ∀ e, X.H r = some e → ∃ g, X.ow g = some r ∧ v = .pointer (some ⟨g, i * e.wd + j, none⟩) := h
theorem rs_rptr {X : Cx} {c : List T} {j : Nat} {v : Value} (h : RS X (.rptr c j) v) : ∃ g o C t fr, v = .pointer (some ⟨g, o + j, none⟩) ∧ X.ow g = none ∧ X.w.heap[g]? = some (.cells C t fr) ∧ RL X.ow X.w c ((C.toList.drop o).take c.length) := h
theorem rs_ref {X : Cx} {r : Nat} {v : Value} (h : RS X (.ref r) v) : X.us r ∧ (∃ A n c, v = .slice A n c) ∧ ∀ k es, X.H r = some (.row k es) → Hdr X r k es.length v := h
/-- A value of one cell or some: its cells. -/
theorem cells_rs {X : Cx} {x : T} {v : Value} {cs : List T} (h : RS X x v) (hc : cellsT x = some cs) : RSl X cs v.cells.toList := by
  cases x <;> simp [cellsT] at hc
  case agg cs' => subst hc; obtain ⟨vs, rfl, h⟩ := h; simpa [Value.cells] using h
  all_goals subst hc
  case int => rw [rs_int h]; exact ⟨_, _, rfl, rfl, RV.rs0 (by simp [RV]), rfl⟩
  case bool => rw [rs_bool h]; exact ⟨_, _, rfl, rfl, RV.rs0 (by simp [RV]), rfl⟩
  case str => rw [rs_str h]; exact ⟨_, _, rfl, rfl, RV.rs0 (by simp [RV]), rfl⟩
  case val x =>
    have h0 : v = x ∧ x.oneCell' = true := by simpa [RS, RS1, RS0, RV] using h
    obtain ⟨rfl, h1⟩ := h0
    have hv : v.cells = #[v] := by cases v <;> first | rfl | (simp [Value.oneCell'] at h1)
    rw [hv]
    exact ⟨_, _, rfl, h1, RV.rs0 (by simp [RV, h1]), rfl⟩
  case sl k es =>
    have h0 : RV X.ow X.w (.sl k es) v := h
    have h1 := h0.one
    have hv : v.cells = #[v] := by cases v <;> first | rfl | (simp [Value.oneCell'] at h1)
    rw [hv]
    exact ⟨_, _, rfl, h1, h0.rs0, rfl⟩
  case ref r =>
    obtain ⟨h1, ⟨A, n, c, rfl⟩, h3⟩ := rs_ref h
    exact ⟨_, _, rfl, rfl, h, rfl⟩
  case ptr r i j =>
    obtain ⟨h1, ⟨A, rfl⟩, h3⟩ := rs_ptr h
    exact ⟨_, _, rfl, rfl, h, rfl⟩
  case rptr c j =>
    obtain ⟨g, o, C, t, fr, rfl, h3⟩ := rs_rptr h
    exact ⟨_, _, rfl, rfl, h, rfl⟩

theorem und_struct {P : Program} {t : TypeId} {y : Ty} {fs : List (Nat × TypeId)} (hy : TyOk P t y) (hd : y.d = .struct fs) : ∃ F : Array Field, P.underlying t = some (.struct F) ∧ F.toList.map (fun f => (f.offset, f.type)) = fs := by
  obtain ⟨d, hu, he⟩ := hy.und
  rw [hd] at he
  cases d <;> simp [TD.of] at he
  exact ⟨_, hu, he⟩
theorem und_slice {P : Program} {t e : TypeId} {y : Ty} (hy : TyOk P t y) (hd : y.d = .slice e) : P.underlying t = some (.slice e) := by
  obtain ⟨d, hu, he⟩ := hy.und
  rw [hd] at he
  cases d <;> simp [TD.of] at he
  subst he; exact hu
theorem und_array {P : Program} {t e : TypeId} {n : Nat} {y : Ty} (hy : TyOk P t y) (hd : y.d = .array n e) : P.underlying t = some (.array n e) := by
  obtain ⟨d, hu, he⟩ := hy.und
  rw [hd] at he
  cases d <;> simp [TD.of] at he
  obtain ⟨rfl, rfl⟩ := he; exact hu
theorem und_string {P : Program} {t : TypeId} {y : Ty} (hy : TyOk P t y) (hd : y.d = .string) : P.underlying t = some .string := by
  obtain ⟨d, hu, he⟩ := hy.und
  rw [hd] at he
  cases d <;> simp [TD.of] at he
  exact hu
theorem und_int {P : Program} {t : TypeId} {k : IntKind} {y : Ty} (hy : TyOk P t y) (hd : y.d = .int k) : P.underlying t = some (.int k) := by
  obtain ⟨d, hu, he⟩ := hy.und
  rw [hd] at he
  cases d <;> simp [TD.of] at he
  subst he; exact hu
theorem size_of {P : Program} {t : TypeId} {y : Ty} (hy : TyOk P t y) (w : World) : (sizeOf t).run P w = .ok y.sz w := by
  obtain ⟨i, z, hi, hs, _⟩ := hy.info
  simp [sizeOf, typeInfo, hi, hs]
theorem agg_of {P : Program} {t : TypeId} {y : Ty} (hy : TyOk P t y) (w : World) : (isAgg t).run P w = .ok y.d.agg w := by
  obtain ⟨d, hu, he⟩ := hy.und
  rw [← he]
  unfold isAgg
  rw [Sem.run_bind, run_underlying hu]
  cases d <;> rfl
theorem zero_of {P : Program} {t : TypeId} {y : Ty} (hy : TyOk P t y) (w : World) : ∃ z, (zeroValue t).run P w = .ok z w ∧ z.cells.toList = y.zero.map zv := by
  obtain ⟨i, z, hi, _, _, hz, hc⟩ := hy.info
  exact ⟨z, by simp [zeroValue, typeInfo, hi, hz], hc⟩

section
variable {P : Program} {tt : TT} (htt : TtOk P tt) {X : Cx} {id : Nat} {K : Kon} (hh : HR X) (hi : Fresh X id)
include htt hh hi

theorem eff_alloc {e : TypeId} {old : Value} (h : Eff tt (.alloc e) 0 [] X.H id K) : Ran P X id K (do pure (.value (← Instr.alloc e true old))) := by
  simp only [Eff] at h
  cases hy : tt e with
  | none => rw [hy] at h; exact h.elim
  | some y =>
    rw [hy] at h
    obtain ⟨z, hz, hc⟩ := zero_of (htt _ _ hy) X.w
    refine Ran.value (v := .pointer (some ⟨X.w.heap.size, 0, none⟩)) (w' := X.w.alloc (.cells z.cells e)) ?_ (Out.newBox hh hi h ?_)
    · simp [Instr.alloc, newVar, newRow, hz]
    · rw [hc]; exact (zok_rl (htt _ _ hy).zs).rsl
theorem eff_box {e : TypeId} {x : T} {v : Value} (hx : RS X x v) (h : Eff tt (.box e (.tmp 0)) 0 [x] X.H id K) : Ran P X id K (do pure (.value (← Instr.box e v))) := by
  simp only [Eff] at h
  split at h
  · rename_i y cs hy hc
    refine Ran.value (v := .pointer (some ⟨X.w.heap.size, 0, none⟩)) (w' := X.w.alloc (.cells v.cells e)) ?_ (Out.newBox hh hi h (cells_rs hx hc))
    simp [Instr.box, newVar, newRow]
  · exact h.elim
theorem eff_fieldAddr {st : TypeId} {f : Nat} {x : T} {v : Value} (hx : RS X x v) (h : Eff tt (.fieldAddr st (.tmp 0) f) 0 [x] X.H id K) : Ran P X id K (do pure (.value (← Instr.fieldAt st v f))) := by
  simp only [Eff] at h
  split at h <;> try exact h.elim
  rename_i y hy
  split at h <;> try exact h.elim
  rename_i fs hd
  split at h <;> try exact h.elim
  rename_i off ft hf
  split at h <;> try exact h.elim
  rename_i yf hyf
  obtain ⟨hz, h⟩ := h
  obtain ⟨F, hu, hF⟩ := und_struct (htt _ _ hy) hd
  have hF2 : ∃ fl : Field, F[f]? = some fl ∧ fl.offset = off ∧ fl.type = ft := by
    rw [← hF, List.getElem?_map] at hf
    cases hff : F.toList[f]? with
    | none => rw [hff] at hf; cases hf
    | some fl =>
      rw [hff] at hf
      simp at hf
      exact ⟨fl, by simpa using hff, hf.1, hf.2⟩
  obtain ⟨fl, hfl, rfl, rfl⟩ := hF2
  have hsz := size_of (htt _ _ hyf) X.w
  have run : ∀ g o, (Instr.fieldAt st (.pointer (some ⟨g, o, none⟩)) f).run P X.w = .ok (.pointer (some ⟨g, o + fl.offset, none⟩)) X.w := fun g o => by
    simp [Instr.fieldAt, run_underlying hu, hfl, Instr.sureAddr, fieldPlace, hsz, hz]
    unfold Addr.add
    split <;> simp_all
  split at h <;> try exact h.elim
  · rename_i r i j
    obtain ⟨h1, ⟨a, rfl⟩, h3⟩ := rs_ptr hx
    cases hH : X.H r with
    | none =>
      refine Ran.value (v := .pointer (some ((a.add fl.offset)))) (w' := X.w) ?_ (Out.same hh hi h ⟨h1, ⟨_, rfl⟩, fun e he => by rw [hH] at he; cases he⟩)
      simp [Instr.fieldAt, run_underlying hu, hfl, Instr.sureAddr, fieldPlace, hsz, hz]
    | some e =>
      obtain ⟨g, hg, hp⟩ := h3 e hH
      injection hp with hp; injection hp with hp; subst hp
      refine Ran.value (run _ _) (Out.same hh hi h ⟨h1, ⟨_, rfl⟩, fun e' he => ⟨g, hg, ?_⟩⟩)
      rw [hH] at he; injection he with he; subst he
      rw [Nat.add_assoc]
  · rename_i c j
    obtain ⟨g, o, C, t, fr, rfl, h2, h3, h4⟩ := rs_rptr hx
    exact Ran.value (run _ _) (Out.same hh hi h ⟨g, o, C, t, fr, by rw [Nat.add_assoc], h2, h3, h4⟩)
end
end Go.Proofs.Ytkdajahiaedoiaa
