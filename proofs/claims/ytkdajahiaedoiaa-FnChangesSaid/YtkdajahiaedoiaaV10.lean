/- One operation, told by content: rows built, parts of rows, lengths, appends. -/
import Derived.Test.YtkdajahiaedoiaaV9
namespace Go.Proofs.Ytkdajahiaedoiaa
open Go.RowKit Pl
set_option linter.unusedVariables false
set_option linter.unusedSectionVars false

theorem str_part (s : Bs) (i j : Nat) : (bs s).extract i j = bs ((s.take j).drop i) := by
  rw [bs_extract]
  congr 1
  rw [List.drop_take]
theorem elem_und {P : Program} {t e : TypeId} (h : P.underlying t = some (.slice e)) : P.underlying t = some (.slice (P.elem t)) ∧ P.elem t = e := by
  have : P.elem t = e := by simp [Program.elem, h]
  exact ⟨by rw [this]; exact h, this⟩
/-- A part of a slice that is only read. -/
theorem rv_part {ow : Own} {w : World} {k : Nat} {es : List (List T)} {A : Option Addr} {c i j : Nat} (hij : i ≤ j) (hj : j ≤ es.length) (hc : es.length ≤ c)
    (hA : es = [] ∨ ∃ g o C t fr, A = some ⟨g, o, none⟩ ∧ ow g = none ∧ w.heap[g]? = some (.cells C t fr) ∧ RE ow w k es (C.toList.drop o)) : RV ow w (.sl k ((es.take j).drop i)) (sliced A i j c k) := by
  have hl : ((es.take j).drop i).length = j - i := by simp; omega
  simp only [RV, sliced]
  refine ⟨_, c - i, by rw [hl], by rw [hl]; omega, ?_⟩
  rcases hA with rfl | ⟨g, o, C, t, fr, rfl, hg, hC, hr⟩
  · left; simp
  · by_cases hci : c = i
    · left
      exact List.eq_nil_of_length_eq_zero (by rw [hl]; omega)
    · right
      refine ⟨g, o + i * k, C, t, fr, by simp [hci, add_off], hg, hC, ?_⟩
      rw [← List.drop_drop]
      exact (hr.take j).drop i

section
variable {P : Program} {tt : TT} (htt : TtOk P tt) {X : Cx} {id : Nat} {K : Kon} (hh : HR X) (hi : Fresh X id)
include htt hh hi
theorem eff_buildSlice {t : TypeId} {len : Nat} {parts : Array (Nat × Operand)} {xs : List T} {ρ : Operand → Value} (hx : Args X xs ((parts.toList.map (·.2)).map ρ)) (h : Eff tt (.buildSlice t len parts) 0 xs X.H id K) :
    Ran P X id K (do pure (.value (← Instr.buildSlice t len (parts.map fun (i, x) => (i, ρ x))))) := by
  simp only [Eff] at h
  have hp := parts_zip parts.toList xs hx
  have hpl : (parts.map fun (i, x) => (i, ρ x)).toList = parts.toList.map fun p => (p.1, ρ p.2) := by simp
  split at h <;> try exact h.elim
  rename_i y hy
  split at h <;> try exact h.elim
  rename_i e hd
  have hu := und_slice (htt _ _ hy) hd
  split at h <;> try exact h.elim
  rename_i ye hye
  obtain ⟨hble, hsz, h⟩ := h
  split at h <;> try exact h.elim
  rename_i es gone hf
  obtain ⟨z, hz, hzc⟩ := zero_of (htt _ _ hye) X.w
  have hbl := Nat.le_of_ble_eq_true hble
  obtain ⟨A', h3, h4, h5, h6⟩ := fillE_sound hh (A := (Array.range (len * ye.sz)).map (fun i => z.cells[i % z.cells.size]!)) hp (zeros_row _ _ (htt _ _ hye) hzc len hsz) (by simp) hf
  have hlen0 : es.length = len := by rw [h6]; simp
  have hfinal := Out.newRow (X := X.dropL gone) (id := id) (K := fun x u => K x (goneU gone ++ u)) (hh.dropL gone) (dropL_fresh gone hi) (k := ye.sz) (n := len) (c := len) (es := es) (C := A') (t := e) (fr := (0, 0)) (X.dropL gone).w rfl rfl rfl rfl h (by omega) hlen0.symm
    (by rw [h5]; simp) (Nat.le_refl _) (by
      have : len ≤ len * ye.sz := Nat.le_mul_of_pos_right _ (by omega)
      unfold maxLen; omega) (.inl (Nat.le_refl _)) h4
  refine Ran.value (v := .slice (some ⟨X.w.heap.size, 0, none⟩) len len) (w' := X.w.alloc (.cells A' e)) ?_ ?_
  · have hif : ¬ (len * ye.sz > 2 ^ 24) := by omega
    simp only [Instr.buildSlice, Sem.run_bind, run_underlying hu, Result.andThen_ok, size_of (htt _ _ hye), hif, if_false]
    by_cases h0 : len * ye.sz = 0
    · have hl0 : len = 0 := by
        rcases Nat.mul_eq_zero.1 h0 with h1 | h1
        · exact h1
        · exact absurd h1 hsz
      subst hl0
      simp only [Nat.zero_mul] at h3 ⊢
      have e1 : ((Array.range 0).map (fun i => z.cells[i % z.cells.size]!)) = #[] := by simp
      rw [e1] at h3
      have e3 : ∀ f : Nat → Value, (Array.range 0).map f = #[] := fun f => by simp [Array.range]
      simp [h3, hpl, newRow, e3]
    · simp only [h0, if_false, Sem.run_bind, hz, Result.andThen_ok, Sem.run_pure, hpl, h3, newRow, run_newObj, World.alloc_eq]
  · obtain ⟨x, upd, X', hk, hw, hn, hH, hs, hr, hv⟩ := hfinal
    rw [dropL_w] at hw hv
    exact ⟨x, goneU gone ++ upd, X', hk, hw, hn.trans (dropL_win X id gone), by
      rw [hH, dropL_H]
      have key : ∀ (a : Upd) (H : Hp) (b : Upd), updL (updL H a) b = updL H (a ++ b) := fun a => by
        induction a with
        | nil => intro H b; rfl
        | cons p a ih => intro H b; obtain ⟨r, e⟩ := p; exact ih _ _
      exact key _ _ _, (same_dropL X gone).trans hs, hr, hv⟩
theorem eff_makeSlice {t : TypeId} {l c : T} {vl vc : Value} {ol oc : Operand} (hl : RS X l vl) (hc : RS X c vc) (h : Eff tt (.makeSlice t ol oc) 0 [l, c] X.H id K) : Ran P X id K (do pure (.value (← Instr.makeSlice t vl vc))) := by
  simp only [Eff] at h
  split at h <;> try exact h.elim
  rename_i k n k' n' y hy
  split at h <;> try exact h.elim
  rename_i e hd
  have hu := und_slice (htt _ _ hy) hd
  split at h <;> try exact h.elim
  rename_i ye hye
  obtain ⟨hsz, hble, m, rfl, rfl, hm, h⟩ := h
  obtain rfl := rs_int hl
  obtain rfl := rs_int hc
  obtain ⟨it, z, hit, hs, hb, hz, hzc⟩ := (htt _ _ hye).info
  have hbl := Nat.le_of_ble_eq_true hble
  have hbytes : (it.bytes : Int) * (m : Int) ≤ 281474976710656 := by
    have h1 : it.bytes * m ≤ 100000 * 1000000000 := Nat.mul_le_mul (by omega) (by omega)
    have : ((it.bytes * m : Nat) : Int) ≤ 281474976710656 := by omega
    rwa [Int.natCast_mul] at this
  have hr := run_make (P := P) X.w t e it z hu hit hz k k' m m (by omega) (Int.le_refl _) hbytes (by omega)
  simp only [Int.toNat_natCast] at hr
  refine Ran.value hr (Out.newRow hh hi (k := ye.sz) X.w rfl rfl rfl rfl h (by omega) (by simp) (by simp [madeCells, hs]) (Nat.le_refl _) (by unfold maxLen; omega) (.inl (Nat.le_refl _)) ?_)
  have := zeros_row X.ow X.w (htt _ _ hye) hzc m hsz
  rw [hs]
  exact this

theorem eff_slice1 {t : TypeId} {x a : T} {vx va : Value} {ox oa : Operand} (hx : RS X x vx) (ha : RS X a va) (h : Eff tt (.slice t ox (some oa) none none) 0 [x, a] X.H id K) : Ran P X id K (do pure (.value (← Instr.sliceAt t vx (some va) none none))) := by
  simp only [Eff] at h
  split at h <;> try exact h.elim
  · rename_i k n s y hy
    obtain rfl := rs_int ha
    obtain rfl := rs_str hx
    obtain ⟨hst, i, rfl, hil, h⟩ := h
    have hu := isStr_und htt hy hst
    refine Ran.value (v := .string (bs (s.drop i))) (w' := X.w) ?_ (Out.same hh hi h (mk_str _ _))
    rw [run_sliceAt_string X.w _ _ _ _ _ hu, run_slice_string_l X.w _ _ hu _ _ (by omega) (by rw [bs_size]; omega)]
    rw [Int.toNat_natCast, bs_size, str_part, List.take_length]
  · rename_i k n kz es y hy
    obtain rfl := rs_int ha
    obtain ⟨hsz, i, rfl, hil, h⟩ := h
    obtain ⟨e, ye, hu, hye, rfl⟩ := sliceSz_und htt hy hsz
    have hx' : RV X.ow X.w (.sl ye.sz es) vx := hx
    simp only [RV] at hx'
    obtain ⟨A, c, rfl, hc, hA⟩ := hx'
    obtain ⟨hu2, hel⟩ := elem_und hu
    refine Ran.value (v := sliced A i es.length c ye.sz) (w' := X.w) ?_ (Out.same hh hi h (RV.rs0 ?_).rs)
    · rw [run_sliceAt_slice X.w _ _ _ _ _ hu2, run_slice_l X.w _ _ _ _ hu2 _ _ (by omega) (by omega), hel, size_of (htt _ _ hye), Int.toNat_natCast]
      rfl
    · have := rv_part (i := i) (j := es.length) hil (Nat.le_refl _) hc hA
      rwa [List.take_length] at this
  · rename_i k n r y hy
    obtain rfl := rs_int ha
    split at h <;> try exact h.elim
    rename_i kz es hH
    obtain ⟨hsz, i, rfl, hil, h⟩ := h
    obtain ⟨e, ye, hu, hye, rfl⟩ := sliceSz_und htt hy hsz
    obtain ⟨hu2, hel⟩ := elem_und hu
    have hx' := ref_sl hh (same_drop X r).stab hx hH (fun g hg => drop_own (hh.ne hH) hg) (fun g _ => rfl)
    simp only [RV] at hx'
    obtain ⟨A, c, rfl, hc, hA⟩ := hx'
    refine Ran.value (v := sliced A i es.length c ye.sz) (w' := X.w) ?_ (Out.dropped hh hi h ?_)
    · rw [run_sliceAt_slice X.w _ _ _ _ _ hu2, run_slice_l X.w _ _ _ _ hu2 _ _ (by omega) (by omega), hel, size_of (htt _ _ hye), Int.toNat_natCast]
      rfl
    · have := rv_part (i := i) (j := es.length) hil (Nat.le_refl _) hc hA
      rw [List.take_length] at this
      exact (RV.rs0 this).rs
theorem eff_slice2 {t : TypeId} {x a : T} {vx va : Value} {ox oa : Operand} (hx : RS X x vx) (ha : RS X a va) (h : Eff tt (.slice t ox none (some oa) none) 0 [x, a] X.H id K) : Ran P X id K (do pure (.value (← Instr.sliceAt t vx none (some va) none))) := by
  simp only [Eff] at h
  split at h <;> try exact h.elim
  · rename_i k n s y hy
    obtain rfl := rs_int ha
    obtain rfl := rs_str hx
    obtain ⟨hst, i, rfl, hil, h⟩ := h
    have hu := isStr_und htt hy hst
    refine Ran.value (v := .string (bs (s.take i))) (w' := X.w) ?_ (Out.same hh hi h (mk_str _ _))
    rw [run_sliceAt_string X.w _ _ _ _ _ hu, run_slice_string_h X.w _ _ hu _ _ (by omega) (by rw [bs_size]; omega)]
    rw [Int.toNat_natCast, str_part, List.drop_zero]
  · rename_i k n kz es y hy
    obtain rfl := rs_int ha
    obtain ⟨hsz, i, rfl, hil, h⟩ := h
    obtain ⟨e, ye, hu, hye, rfl⟩ := sliceSz_und htt hy hsz
    have hx' : RV X.ow X.w (.sl ye.sz es) vx := hx
    simp only [RV] at hx'
    obtain ⟨A, c, rfl, hc, hA⟩ := hx'
    obtain ⟨hu2, hel⟩ := elem_und hu
    refine Ran.value (v := sliced A 0 i c ye.sz) (w' := X.w) ?_ (Out.same hh hi h (RV.rs0 ?_).rs)
    · rw [run_sliceAt_slice X.w _ _ _ _ _ hu2, run_slice_h X.w _ _ _ _ hu2 _ _ (by omega) (by omega), hel, size_of (htt _ _ hye), Int.toNat_natCast]
      rfl
    · have := rv_part (i := 0) (j := i) (Nat.zero_le _) hil hc hA
      rwa [List.drop_zero] at this
  · rename_i k n r y hy
    obtain rfl := rs_int ha
    split at h <;> try exact h.elim
    rename_i kz es hH
    obtain ⟨hsz, i, rfl, hil, h⟩ := h
    obtain ⟨e, ye, hu, hye, rfl⟩ := sliceSz_und htt hy hsz
    obtain ⟨hu2, hel⟩ := elem_und hu
    have hx' := ref_sl hh (same_drop X r).stab hx hH (fun g hg => drop_own (hh.ne hH) hg) (fun g _ => rfl)
    simp only [RV] at hx'
    obtain ⟨A, c, rfl, hc, hA⟩ := hx'
    refine Ran.value (v := sliced A 0 i c ye.sz) (w' := X.w) ?_ (Out.dropped hh hi h ?_)
    · rw [run_sliceAt_slice X.w _ _ _ _ _ hu2, run_slice_h X.w _ _ _ _ hu2 _ _ (by omega) (by omega), hel, size_of (htt _ _ hye), Int.toNat_natCast]
      rfl
    · have := rv_part (i := 0) (j := i) (Nat.zero_le _) hil hc hA
      rw [List.drop_zero] at this
      exact (RV.rs0 this).rs
theorem eff_slice3 {t : TypeId} {x a b : T} {vx va vb : Value} {ox oa ob : Operand} (hx : RS X x vx) (ha : RS X a va) (hb : RS X b vb) (h : Eff tt (.slice t ox (some oa) (some ob) none) 0 [x, a, b] X.H id K) : Ran P X id K (do pure (.value (← Instr.sliceAt t vx (some va) (some vb) none))) := by
  simp only [Eff] at h
  split at h <;> try exact h.elim
  · rename_i k n k' n' s y hy
    obtain rfl := rs_int ha
    obtain rfl := rs_int hb
    obtain rfl := rs_str hx
    obtain ⟨hst, i, j, rfl, rfl, hij, hjl, h⟩ := h
    have hu := isStr_und htt hy hst
    refine Ran.value (v := .string (bs ((s.take j).drop i))) (w' := X.w) ?_ (Out.same hh hi h (mk_str _ _))
    rw [run_sliceAt_string X.w _ _ _ _ _ hu, run_slice_string X.w _ _ _ _ _ _ hu (by omega) (by omega) (by rw [bs_size]; omega)]
    rw [Int.toNat_natCast, Int.toNat_natCast, str_part]
  · rename_i k n k' n' kz es y hy
    obtain rfl := rs_int ha
    obtain rfl := rs_int hb
    obtain ⟨hsz, i, j, rfl, rfl, hij, hjl, h⟩ := h
    obtain ⟨e, ye, hu, hye, rfl⟩ := sliceSz_und htt hy hsz
    have hx' : RV X.ow X.w (.sl ye.sz es) vx := hx
    simp only [RV] at hx'
    obtain ⟨A, c, rfl, hc, hA⟩ := hx'
    obtain ⟨hu2, hel⟩ := elem_und hu
    refine Ran.value (v := sliced A i j c ye.sz) (w' := X.w) ?_ (Out.same hh hi h (RV.rs0 (rv_part hij hjl hc hA)).rs)
    rw [run_sliceAt_slice X.w _ _ _ _ _ hu2, run_slice_lh X.w _ _ _ _ hu2 _ _ _ _ (by omega) (by omega) (by omega), hel, size_of (htt _ _ hye), Int.toNat_natCast, Int.toNat_natCast]
    rfl
end
end Go.Proofs.Ytkdajahiaedoiaa
