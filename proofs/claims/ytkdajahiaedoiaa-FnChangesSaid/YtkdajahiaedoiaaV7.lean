/- One operation, told by content: conversions, structs and rows built, parts of rows. -/
import Derived.Test.YtkdajahiaedoiaaV6
namespace Go.Proofs.Ytkdajahiaedoiaa
open Go.RowKit Pl
set_option linter.unusedVariables false
set_option linter.unusedSectionVars false

theorem isU8_und {P : Program} {tt : TT} (htt : TtOk P tt) {e : TypeId} (h : isU8 tt e = true) : P.underlying e = some (.int .u8) := by
  unfold isU8 at h
  split at h <;> try (cases h; done)
  rename_i y hy
  split at h <;> try (cases h; done)
  rename_i hd
  exact und_int (htt _ _ hy) hd
theorem isBytes_und {P : Program} {tt : TT} (htt : TtOk P tt) {t : TypeId} {y : Ty} (hy : tt t = some y) (h : isBytes tt y = true) : ∃ e, P.underlying t = some (.slice e) ∧ P.underlying e = some (.int .u8) := by
  unfold isBytes at h
  split at h <;> try (cases h; done)
  rename_i e hd
  exact ⟨e, und_slice (htt _ _ hy) hd, isU8_und htt h⟩
theorem isStr_und {P : Program} {tt : TT} (htt : TtOk P tt) {t : TypeId} {y : Ty} (hy : tt t = some y) (h : isStr y = true) : P.underlying t = some .string := by
  unfold isStr at h
  split at h <;> try (cases h; done)
  rename_i hd
  exact und_string (htt _ _ hy) hd
theorem sliceSz_und {P : Program} {tt : TT} (htt : TtOk P tt) {t : TypeId} {y : Ty} {k : Nat} (hy : tt t = some y) (h : sliceSz tt y = some k) : ∃ e ye, P.underlying t = some (.slice e) ∧ tt e = some ye ∧ ye.sz = k := by
  unfold sliceSz at h
  split at h <;> try (cases h; done)
  rename_i e hd
  split at h <;> try (cases h; done)
  rename_i ye hye
  injection h with h
  exact ⟨e, ye, und_slice (htt _ _ hy) hd, hye, h⟩
theorem bytes_rl {ow : Own} {w : World} : ∀ (l : Bs), RE ow w 1 (bytesE l) (l.map fun b => Value.int .u8 (b.toNat : Int))
  | [] => by simp [bytesE, RE]
  | b :: l => by
    simp only [bytesE, List.map_cons, RE]
    exact ⟨[.int .u8 (b.toNat : Int)], _, rfl, rfl, by simp [byteE, RL, RV], bytes_rl l⟩
/-- Cells that read as bytes. -/
theorem re_bytes {ow : Own} {w : World} {k : Nat} : ∀ {l : Bs} {vs : List Value}, RE ow w k (bytesE l) vs → l ≠ [] → k = 1 ∧ ∀ j : Nat, (h : j < l.length) → vs[j]? = some (.int .u8 (l[j].toNat : Int))
  | [], _, _, h => absurd rfl h
  | b :: l, vs, h, _ => by
    simp only [bytesE, List.map_cons, RE] at h
    obtain ⟨us, rest, rfl, hk, h1, h2⟩ := h
    have hk1 : k = 1 := by rw [← hk, h1.len]; rfl
    subst hk1
    simp only [byteE, RL, RV] at h1
    obtain ⟨u, us', rfl, rfl, rfl⟩ := h1
    refine ⟨rfl, fun j hj => ?_⟩
    cases j with
    | zero => rfl
    | succ j =>
      simp at hj
      have := (re_bytes (l := l) h2 (by intro e; subst e; simp at hj)).2 j hj
      simpa using this
section
variable {P : Program} {tt : TT} (htt : TtOk P tt) {X : Cx} {id : Nat} {K : Kon} (hh : HR X) (hi : Fresh X id)
include htt hh hi

theorem conv_bytes {src dst : TypeId} (hs : ∃ e, P.underlying src = some (.slice e) ∧ P.underlying e = some (.int .u8)) (hd : P.underlying dst = some .string) {l : Bs} {A : Option Addr} {c : Nat} {k : Nat}
    (hA : bytesE l = [] ∨ ∃ g o C t fr, A = some ⟨g, o, none⟩ ∧ X.w.heap[g]? = some (.cells C t fr) ∧ RE X.ow X.w k (bytesE l) (C.toList.drop o)) (h : K (.str l) []) :
    Ran P X id K (do pure (.value (← convert src dst (.slice A (bytesE l).length c)))) := by
  obtain ⟨e, hsu, he⟩ := hs
  refine Ran.value (v := .string (bs l)) (w' := X.w) ?_ (Out.same hh hi h (mk_str _ _))
  have hlen : (bytesE l).length = l.length := by simp [bytesE]
  rw [hlen]
  by_cases hl : l = []
  · subst hl
    cases A with
    | none => exact run_convert_bytes_nil X.w _ _ hsu he _ _ _ hd
    | some a => exact run_convert_bytes_back X.w _ _ _ a c [] hsu he hd (fun j hj => by simp at hj)
  · rcases hA with hA | ⟨g, o, C, t, fr, rfl, hC, hr⟩
    · exact absurd (by cases l with | nil => rfl | cons b l => simp [bytesE] at hA) hl
    · obtain ⟨rfl, hj⟩ := re_bytes hr hl
      refine run_convert_bytes_back X.w _ _ _ _ c l hsu he hd (fun j hjl => ?_)
      rw [add_off]
      have := hj j hjl
      rw [List.getElem?_drop] at this
      simpa [World.cell?, hC] using this
theorem eff_convert {src dst : TypeId} {x : T} {v : Value} {ox : Operand} (hx : RS X x v) (h : Eff tt (.convert src dst ox) 0 [x] X.H id K) : Ran P X id K (do pure (.value (← convert src dst v))) := by
  simp only [Eff] at h
  split at h <;> try exact h.elim
  rename_i ys yd hys hyd
  obtain ⟨ds, hsu, hds⟩ := (htt _ _ hys).und
  split at h <;> try exact h.elim
  · rename_i k k' n hd
    obtain rfl := rs_int hx
    obtain ⟨r, rfl, h⟩ := h
    have hdu := und_int (htt _ _ hyd) hd
    exact Ran.value (v := .int k (k.wrap n)) (by simp [convert, run_underlying hsu, run_underlying hdu, Conv.intToInt]) (Out.same hh hi h (mk_int _ _ _))
  · rename_i s hd
    obtain rfl := rs_str hx
    have hdu := und_string (htt _ _ hyd) hd
    exact Ran.value (v := .string (bs s)) (by simp [convert, run_underlying hsu, run_underlying hdu]) (Out.same hh hi h (mk_str _ _))
  · rename_i e s hd
    obtain ⟨hst, h8, hl, h⟩ := h
    obtain rfl := rs_str hx
    have hdu := und_slice (htt _ _ hyd) hd
    have heu := isU8_und htt h8
    have hcn := grownCap_ge X.w (bs s).size 0 e
    have hcm : grownCap X.w (bs s).size 0 e ≤ maxLen := grownCap_le_maxLen X.w _ 0 e (by rw [bs_size]; unfold maxLen; omega)
    have hrun := run_bytes_of_string (P := P) X.w src dst e (bs s) (isStr_und htt hys hst) hdu heu
    generalize grownCap X.w (bs s).size 0 e = c at hcn hcm hrun
    rw [bs_size] at hrun hcn
    have hd0 : (bs s).data.toList = s := bs_data s
    have hd1 : (bs s).data.size = s.length := by rw [← Array.length_toList, hd0]
    have hsz : (bytesRow (bs s) c).size = c := by simp only [bytesRow, Array.size_append, Array.size_map, Array.size_replicate, bs_size, hd1]; omega
    refine Ran.value hrun (Out.newRow hh hi (k := 1) X.w.drew rfl rfl rfl rfl h (by omega) (by simp [bytesE]) (by omega) hcn hcm (.inr (Nat.le_refl _)) ?_)
    exact (bytes_rl (ow := X.ow) (w := X.w) s).ext (us := (bytesRow (bs s) c).toList) ⟨List.replicate (c - s.length) (.int .u8 0), by simp only [bytesRow, Array.toList_append, Array.toList_map, Array.toList_replicate, hd0, bs_size]; rw [List.take_of_length_le (by simp [bytesE])]⟩
  · rename_i r hd
    split at h <;> try exact h.elim
    rename_i k es hH
    obtain ⟨h8, l, rfl, h⟩ := h
    obtain ⟨h1, _, h3⟩ := rs_ref hx
    have hb := isBytes_und htt hys h8
    have hdu := und_string (htt _ _ hyd) hd
    rcases h3 _ _ hH with ⟨rfl, h0⟩ | ⟨g, c, C, t, fr, rfl, hg, hC, _⟩
    · have : bytesE l = [] := List.eq_nil_of_length_eq_zero h0
      have := conv_bytes htt hh hi (A := none) (c := 0) (k := k) hb hdu (.inl this) h
      rw [h0] at this; exact this
    · obtain ⟨_, hn⟩ := (hh.node _ _ hH).2
      refine conv_bytes htt hh hi (k := k) hb hdu ?_ h
      rcases hn with hn | ⟨g', C', t', fr', hg', hC', hf, hl⟩
      · exact .inl hn
      · obtain rfl := hh.inj' hH hg hg'
        exact .inr ⟨g, 0, C', t', fr', rfl, hC', by simpa using hl⟩
  · rename_i k es hd
    obtain ⟨h8, l, rfl, h⟩ := h
    have hx' : RV X.ow X.w (.sl k (bytesE l)) v := hx
    simp only [RV] at hx'
    obtain ⟨A, c, rfl, _, hx'⟩ := hx'
    refine conv_bytes htt hh hi (k := k) (isBytes_und htt hys h8) (und_string (htt _ _ hyd) hd) ?_ h
    rcases hx' with hx' | ⟨g, o, C, t, fr, hA, _, hC, hr⟩
    · exact .inl hx'
    · exact .inr ⟨g, o, C, t, fr, hA, hC, hr⟩
  · rename_i v0 hd
    obtain ⟨h8, rfl, h⟩ := h
    have hx' : v = nilV ∧ nilV.oneCell' = true := by simpa [RS, RS1, RS0, RV] using hx
    obtain ⟨rfl, _⟩ := hx'
    exact conv_bytes htt hh hi (l := []) (A := none) (c := 0) (k := 1) (isBytes_und htt hys h8) (und_string (htt _ _ hyd) hd) (.inl rfl) h
end
end Go.Proofs.Ytkdajahiaedoiaa
