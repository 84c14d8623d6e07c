/- One operation, told by content: structs and rows built. -/
import Derived.Test.YtkdajahiaedoiaaV7
namespace Go.Proofs.Ytkdajahiaedoiaa
open Go.RowKit Pl
set_option linter.unusedVariables false
set_option linter.unusedSectionVars false

theorem foldl_ovl : ∀ (l : List Value) (n off : Nat) (A : Array Value), ((l.zipIdx n).foldl (fun cs (p : Value × Nat) => cs.setIfInBounds (off + p.2) p.1) A).toList = ovl A.toList (off + n) l
  | [], n, off, A => rfl
  | v :: l, n, off, A => by
    rw [List.zipIdx_cons, List.foldl_cons, foldl_ovl l (n + 1) off]
    simp [ovl, Nat.add_assoc]
/-- Parts and their values. -/
def PartsOf (X : Cx) : List (Nat × T) → List (Nat × Value) → Prop
  | [], vs => vs = []
  | (i, x) :: l, vs => ∃ v us, vs = (i, v) :: us ∧ RS X x v ∧ PartsOf X l us
theorem parts_zip {X : Cx} {ρ : Operand → Value} : ∀ (ps : List (Nat × Operand)) (xs : List T), Args X xs ((ps.map (·.2)).map ρ) → PartsOf X (zipParts ps xs) (ps.map fun p => (p.1, ρ p.2))
  | [], xs, h => rfl
  | (i, o) :: ps, [], h => by cases h
  | (i, o) :: ps, x :: xs, ⟨u, us, he, h1, h2⟩ => by
    rw [List.map_cons, List.map_cons] at he
    injection he with a b
    subst a b
    exact ⟨_, _, rfl, h1, parts_zip ps xs h2⟩
theorem fill_sound {X : Cx} {place place' : Nat → Option (Nat × Nat)} (hp : ∀ i q, place i = some q → place' i = some q) : ∀ {l : List (Nat × T)} {vl : List (Nat × Value)} {cells cells' : List T} {A : Array Value},
    PartsOf X l vl → RSl X cells A.toList → fillT place cells l = some cells' → ∃ A', Instr.fill place' A vl = some A' ∧ RSl X cells' A'.toList
  | [], _, cells, cells', A, h, hc, hf => by
    cases h
    simp [fillT] at hf; subst hf
    exact ⟨A, rfl, hc⟩
  | (i, x) :: l, _, cells, cells', A, ⟨v, us, hv, h1, h2⟩, hc, hf => by
    subst hv
    simp only [fillT] at hf
    split at hf <;> try (cases hf; done)
    rename_i o sz xs hpl hcx
    have hcs := cells_rs h1 hcx
    cases hb : (Nat.beq xs.length sz && Nat.ble (o + sz) cells.length) with
    | false => rw [hb] at hf; cases hf
    | true =>
      rw [hb] at hf
      simp only [Bool.and_eq_true] at hb
      have e1 := Nat.eq_of_beq_eq_true hb.1
      have e2 := Nat.le_of_ble_eq_true hb.2
      have hlen : v.cells.size = sz := by rw [← e1, ← hcs.len]; simp
      have hA : A.size = cells.length := by rw [← hc.len]; simp
      have hcond : ¬ (v.cells.size ≠ sz || decide (o + v.cells.size > A.size)) = true := by simp [hlen]; omega
      obtain ⟨A', h3, h4⟩ := fill_sound (A := v.cells.zipIdx.foldl (fun cs (p : Value × Nat) => cs.setIfInBounds (o + p.2) p.1) A) hp h2 (cells := ovl cells o xs) (by
        rw [← Array.foldl_toList, Array.toList_zipIdx, foldl_ovl, Nat.add_zero]
        exact RSl.ovl o hc hcs) hf
      refine ⟨A', ?_, h4⟩
      simp only [Instr.fill, hp _ _ hpl]
      rw [if_neg (by simpa using hcond)]
      exact h3

section
variable {P : Program} {tt : TT} (htt : TtOk P tt) {X : Cx} {id : Nat} {K : Kon} (hh : HR X) (hi : Fresh X id)
include htt hh hi
theorem info_some {e : TypeId} {y : Ty} (hy : tt e = some y) : ∃ i, P.info? e = some i ∧ i.size = y.sz := by
  obtain ⟨i, z, h1, h2, _⟩ := (htt _ _ hy).info
  exact ⟨i, h1, h2⟩
theorem eff_build {t : TypeId} {parts : Array (Nat × Operand)} {xs : List T} {ρ : Operand → Value} (hx : Args X xs ((parts.toList.map (·.2)).map ρ)) (h : Eff tt (.build t parts) 0 xs X.H id K) :
    Ran P X id K (do pure (.value (← Instr.build t (parts.map fun (i, x) => (i, ρ x))))) := by
  simp only [Eff] at h
  have hp := parts_zip parts.toList xs hx
  have hpl : (parts.map fun (i, x) => (i, ρ x)).toList = parts.toList.map fun p => (p.1, ρ p.2) := by simp
  split at h <;> try exact h.elim
  rename_i y hy
  obtain ⟨it, z, hit, hsz, hby, hz, hzc⟩ := (htt _ _ hy).info
  have hz0 : RSl X y.zero z.cells.toList := by rw [hzc]; exact (zok_rl (htt _ _ hy).zs).rsl
  split at h <;> try exact h.elim
  · rename_i fs hd
    obtain ⟨hall, h⟩ := h
    obtain ⟨F, hu, hF⟩ := und_struct (htt _ _ hy) hd
    split at h <;> try exact h.elim
    rename_i cells hf
    have hmap : ∃ places, F.toList.mapM (fun f => (P.info? f.type).map fun i => (f.offset, i.size)) = some places ∧ ∀ i q, placeS tt fs i = some q → places[i]? = some q := by
      have key : ∀ (l : List Field), (l.map (fun f => (f.offset, f.type))).all (fun f => (tt f.2).isSome) = true → ∃ places, l.mapM (fun f => (P.info? f.type).map fun i => (f.offset, i.size)) = some places ∧ ∀ i q, placeS tt (l.map (fun f => (f.offset, f.type))) i = some q → places[i]? = some q := by
        intro l
        induction l with
        | nil => intro _; exact ⟨[], rfl, fun i q hq => by simp [placeS] at hq⟩
        | cons f l ih =>
          intro ha
          simp at ha
          obtain ⟨yf, hyf⟩ := Option.isSome_iff_exists.1 ha.1
          obtain ⟨places, h1, h2⟩ := ih (by simpa using ha.2)
          obtain ⟨i0, hi0, hs0⟩ := info_some htt hh hi hyf
          refine ⟨(f.offset, i0.size) :: places, by simp [List.mapM_cons, hi0, h1], fun i q hq => ?_⟩
          cases i with
          | zero => simp [placeS, hyf] at hq; rw [← hq, hs0]; rfl
          | succ i => simpa using h2 i q (by simpa [placeS] using hq)
      rw [← hF] at hall ⊢
      exact key _ hall
    obtain ⟨places, h1, h2⟩ := hmap
    obtain ⟨A', h3, h4⟩ := fill_sound (place' := (places[·]?)) h2 hp hz0 hf
    refine Ran.value (v := .agg A') (w' := X.w) (run_build X.w t _ A' ?_) (Out.same hh hi h ⟨A', rfl, h4⟩)
    unfold Program.built
    rw [hpl]
    simp only [hit, hu, hz, h1]
    simpa using h3
  · rename_i n e hd
    have hu := und_array (htt _ _ hy) hd
    split at h <;> try exact h.elim
    rename_i ye hye
    obtain ⟨ie, hie, hse⟩ := info_some htt hh hi hye
    split at h <;> try exact h.elim
    rename_i cells hf
    obtain ⟨A', h3, h4⟩ := fill_sound (place' := fun i => some (i * ie.size, ie.size)) (fun i q hq => by rw [hse]; exact hq) hp hz0 hf
    refine Ran.value (v := .agg A') (w' := X.w) (run_build X.w t _ A' ?_) (Out.same hh hi h ⟨A', rfl, h4⟩)
    unfold Program.built
    rw [hpl]
    simp only [hit, hu, hz, hie]
    exact h3
end
end Go.Proofs.Ytkdajahiaedoiaa
