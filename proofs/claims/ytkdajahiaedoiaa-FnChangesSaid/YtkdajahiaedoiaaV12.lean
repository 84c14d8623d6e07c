/- One operation, told by content: lengths and appends, proved. -/
import Derived.Test.YtkdajahiaedoiaaV11
namespace Go.Proofs.Ytkdajahiaedoiaa
open Go.RowKit Pl
set_option linter.unusedVariables false
set_option linter.unusedSectionVars false

theorem updL_append : ∀ (a : Upd) (H : Hp) (b : Upd), updL (updL H a) b = updL H (a ++ b)
  | [], H, b => rfl
  | (r, e) :: a, H, b => updL_append a _ b
section
variable {P : Program} {tt : TT} (htt : TtOk P tt) {X : Cx} {id : Nat} {K : Kon} (hh : HR X) (hi : Fresh X id)
include htt hh hi
theorem eff_len {c : Call} {ty : TypeId} {x : T} {v : Value} {consts : Array Bool} (hc : c.callee = .builtin .len) (hx : RS X x v) (h : Eff tt (.call c) 0 [x] X.H id K) : ∃ u, (builtin .len c.argTypes ty consts #[v]).run P X.w = .ok (.value u) X.w ∧ Out X id K u X.w := by
  simp only [Eff, hc] at h
  split at h <;> try exact h.elim
  rename_i t hat
  have hat2 : c.argTypes = #[t] := by rw [← Array.toArray_toList (xs := c.argTypes), hat]
  rw [hat2]
  split at h <;> try exact h.elim
  rename_i y hy
  have lenS : ∀ {A : Option Addr} {n c : Nat}, (sliceSz tt y).isSome = true → (builtin .len #[t] ty consts #[.slice A n c]).run P X.w = .ok (.value (.int .i64 (n : Int))) X.w := fun {A n c} hs => by
    obtain ⟨k, hk⟩ := Option.isSome_iff_exists.1 hs
    obtain ⟨e, ye, hu, _, _⟩ := sliceSz_und htt hy hk
    simp [builtin, Builtin.len_, run_underlying hu, goInt]
  split at h <;> try exact h.elim
  · rename_i s
    obtain ⟨hst, h⟩ := h
    obtain rfl := rs_str hx
    refine ⟨.int .i64 (s.length : Int), ?_, Out.same hh hi h (mk_int _ _ _)⟩
    simp [builtin, Builtin.len_, run_underlying (isStr_und htt hy hst), goInt, bs_size]
  · rename_i k es
    obtain ⟨hs, n, rfl, h⟩ := h
    have hx' : RV X.ow X.w (.sl k es) v := hx
    simp only [RV] at hx'
    obtain ⟨A, c, rfl, _⟩ := hx'
    exact ⟨_, lenS hs, Out.same hh hi h (mk_int _ _ _)⟩
  · rename_i r
    split at h <;> try exact h.elim
    rename_i k es hH
    obtain ⟨hs, n, rfl, h⟩ := h
    obtain ⟨_, _, h3⟩ := rs_ref hx
    rcases h3 _ _ hH with ⟨rfl, h0⟩ | ⟨g, c, C, t, fr, rfl, _⟩
    · rw [h0] at h
      exact ⟨_, lenS hs, Out.same hh hi h (mk_int _ _ _)⟩
    · exact ⟨_, lenS hs, Out.same hh hi h (mk_int _ _ _)⟩
  · obtain ⟨hs, rfl, h⟩ := h
    have hx' : v = nilV ∧ nilV.oneCell' = true := by simpa [RS, RS1, RS0, RV] using hx
    obtain ⟨rfl, _⟩ := hx'
    exact ⟨_, lenS hs, Out.same hh hi h (mk_int _ _ _)⟩

/-- The base of an append. -/
theorem app_grown {t u ty e : TypeId} {ye : Ty} (ht : P.underlying t = some (.slice e)) (hye : tt e = some ye) (hu : SlOrStr P u) {gone : List Nat} {base : Option Addr} {n c : Nat} {x : Value} {es0 es : List (List T)} {us0 us : List Value}
    (hsz : ye.sz ≠ 0) (h0l : us0.length = n * ye.sz) (hn : n = es0.length) (ho : ∀ w : World, w.heap = X.w.heap → (Builtin.firstCells ye.sz n (.slice base n c)).run P w = .ok us0.toArray w) (hr0 : RE X.ow X.w ye.sz es0 us0)
    (hs : Src P X ye.sz es x us) (hroom : c < n + es.length) (hby : ye.by8 ≤ 100000) (hlen : ((es0 ++ es).length : Int) ≤ 1000000000)
    (h : K (.ref id) (goneU gone ++ [(id, some (.row ye.sz (es0 ++ es)))])) : ∃ v w', (Builtin.append_ #[t, u] ty #[.slice base n c, x]).run P X.w = .ok v w' ∧ Out X id K v w' := by
  obtain ⟨it, z, hit, hsz2, hb2, hz, hzc⟩ := (htt _ _ hye).info
  have hlen2 : n + es.length ≤ 1000000000 := by rw [List.length_append] at hlen; omega
  have hge := grownCap_ge X.w (n + es.length) c e
  have hcm : grownCap X.w (n + es.length) c e ≤ maxLen := grownCap_le_maxLen X.w _ c e (by unfold maxLen; omega)
  have hfit : Builtin.nextslicecap (n + es.length) c * it.bytes ≤ 281474976710656 := growslice_fits hroom (by
    calc (n + es.length) * it.bytes ≤ 1000000000 * 100000 := Nat.mul_le_mul hlen2 (by omega)
      _ ≤ 140737488355328 := by decide)
  have hrun := run_app_grow (P := P) X.w (ty := ty) ht hit hz hu base n c es.length x us0 us hs.len (by rw [hsz2]; exact hs.run _ rfl) (by rw [hsz2]; exact ho _ rfl) hroom (by omega) hfit
  have hzl : z.cells.size = ye.sz := by have := (htt _ _ hye).len; rw [← Array.length_toList, hzc, List.length_map, this]
  refine ⟨_, _, hrun, ?_⟩
  have hdw : (X.dropL gone).w = X.w := dropL_w X gone
  have hst := (same_dropL X gone).stab
  have hfinal := Out.newRow (X := X.dropL gone) (id := id) (K := fun x u => K x (goneU gone ++ u)) (hh.dropL gone) (dropL_fresh gone hi) (k := ye.sz) (n := n + es.length) (c := grownCap X.w (n + es.length) c e) (es := es0 ++ es)
    (C := us0.toArray ++ us.toArray ++ Builtin.zeroCells z.cells (grownCap X.w (n + es.length) c e - (n + es.length))) (t := e) (fr := (0, 0)) X.w.drew (by rw [hdw]; rfl) (by rw [hdw]; rfl) (by rw [hdw]; rfl) (by rw [hdw]; rfl) h (by omega) (by simp [hn]) (by
      simp only [Array.size_append, List.size_toArray, Builtin.zeroCells, Array.size_map, Array.size_range, hzl, h0l, hs.cnt, ← Nat.add_mul]
      congr 1; omega) hge hcm (.inl (Nat.le_refl _)) (by
      have := RE.app (r := (Builtin.zeroCells z.cells (grownCap X.w (n + es.length) c e - (n + es.length))).toList) (RE.mono hst hr0) (by rw [h0l, hn]) (RE.mono hst hs.rel)
      simpa using this)
  obtain ⟨xx, upd, X', hk, hw, hnx, hH, hsm, hr, hv⟩ := hfinal
  rw [hdw] at hv
  exact ⟨xx, goneU gone ++ upd, X', hk, hw, hnx.trans (dropL_win X id gone), by rw [hH, dropL_H, updL_append], (same_dropL X gone).trans hsm, hr, hv⟩
theorem eff_append {c : Call} {ty : TypeId} {x z : T} {v u : Value} {consts : Array Bool} (hc : c.callee = .builtin .append) (hx : RS X x v) (hz : RS X z u) (h : Eff tt (.call c) 0 [x, z] X.H id K) :
    ∃ q w', (builtin .append c.argTypes ty consts #[v, u]).run P X.w = .ok (.value q) w' ∧ Out X id K q w' := by
  simp only [Eff, hc] at h
  split at h <;> try exact h.elim
  rename_i t tu hat
  have hat2 : c.argTypes = #[t, tu] := by rw [← Array.toArray_toList (xs := c.argTypes), hat]
  rw [hat2]
  split at h <;> try exact h.elim
  rename_i y yu hy hyu
  split at h <;> try exact h.elim
  rename_i e hd
  have ht := und_slice (htt _ _ hy) hd
  split at h <;> try exact h.elim
  rename_i ye hye
  obtain ⟨it, zz, hit, hsz2, hb2, _⟩ := (htt _ _ hye).info
  suffices hgoal : ∃ q w', (Builtin.append_ #[t, tu] ty #[v, u]).run P X.w = .ok q w' ∧ Out X id K q w' by
    obtain ⟨q, w', hr, ho⟩ := hgoal
    exact ⟨q, w', by simp [builtin, hr], ho⟩
  unfold appT at h
  split at h <;> try exact h.elim
  · -- nil
    rename_i v0
    obtain ⟨rfl, h⟩ := h
    have hx' : v = nilV ∧ nilV.oneCell' = true := by simpa [RS, RS1, RS0, RV] using hx
    obtain ⟨rfl, _⟩ := hx'
    obtain ⟨k, es, us, ⟨rfl, hsz, hble, hlen, h⟩, hs, hu⟩ := news_sound htt hh hyu hye hz h
    have hbl := Nat.le_of_ble_eq_true hble
    by_cases hm : es.length = 0
    · have he : es = [] := List.eq_nil_of_length_eq_zero hm
      subst he
      have hus : us = [] := List.eq_nil_of_length_eq_zero (by simpa using hs.cnt)
      subst hus
      refine ⟨nilV, X.w, ?_, Out.emptyRow (gone := []) hh hi (by omega) h⟩
      have := run_app_room (P := P) X.w (ty := ty) ht hit hu none 0 0 0 u [] hs.len (by rw [hsz2]; exact hs.run _ rfl) (Nat.le_refl _)
      simpa [nilV] using this
    · exact app_grown htt hh hi (gone := []) (es0 := []) (us0 := []) ht hye hu hsz (by simp) rfl (fun w _ => by simp [Builtin.firstCells]) (by simp [RE]) hs (by omega) hbl hlen h
  · rename_i r
    split at h <;> try exact h.elim
    rename_i k0 es0 hH
    obtain ⟨hne, h⟩ := h
    obtain ⟨k, es, us, ⟨rfl, rfl, hsz, hble, hlen, h⟩, hs, hu⟩ := news_sound htt hh hyu hye hz h
    have hbl := Nat.le_of_ble_eq_true hble
    obtain ⟨_, _, h3⟩ := rs_ref hx
    obtain ⟨hk0, hnd⟩ := (hh.node _ _ hH).2
    rcases h3 _ _ hH with ⟨rfl, h0⟩ | ⟨g, cc, C, tb, fr, rfl, hg, hC, hf, hcs, hle, hmx⟩
    · have he0 : es0 = [] := List.eq_nil_of_length_eq_zero h0
      subst he0
      by_cases hm : es.length = 0
      · have he : es = [] := List.eq_nil_of_length_eq_zero hm
        subst he
        have hus : us = [] := List.eq_nil_of_length_eq_zero (by simpa using hs.cnt)
        subst hus
        refine ⟨nilV, X.w, ?_, Out.emptyRow (gone := [r]) hh hi (by omega) h⟩
        have := run_app_room (P := P) X.w (ty := ty) ht hit hu none 0 0 0 u [] hs.len (by rw [hsz2]; exact hs.run _ rfl) (Nat.le_refl _)
        simpa [nilV] using this
      · exact app_grown htt hh hi (gone := [r]) (es0 := []) (us0 := []) ht hye hu hsz (by simp) rfl (fun w _ => by simp [Builtin.firstCells]) (by simp [RE]) hs (by omega) hbl hlen h
    · -- the row's own block
      have hold : es0 = [] ∨ RE X.ow X.w ye.sz es0 C.toList := by
        rcases hnd with hnd | ⟨g', C', t', fr', hg', hC', hf', hl⟩
        · exact .inl hnd
        · obtain rfl := hh.inj' hH hg hg'
          rw [hC] at hC'; injection hC' with hC'; injection hC' with a b c'; subst a b c'
          exact .inr hl
      have hold2 : RE X.ow X.w ye.sz es0 C.toList := by
        rcases hold with rfl | hl
        · simp [RE]
        · exact hl
      have hCl : C.toList.length = C.size := Array.length_toList
      have hfit0 : es0.length * ye.sz ≤ C.size := by rw [hcs]; exact Nat.mul_le_mul_right _ hle
      by_cases hroom : es0.length + es.length ≤ cc
      · have hfit : es0.length * ye.sz + us.length ≤ C.size := by rw [hs.cnt, hcs, ← Nat.add_mul]; exact Nat.mul_le_mul_right _ hroom
        have hst := run_storeBlock (P := P) g (es0.length * ye.sz) tb fr us 0 C X.w hC hf (by omega) hs.one
        have hrr := run_app_room (P := P) X.w (ty := ty) ht hit hu (some ⟨g, 0, none⟩) es0.length cc es.length u us hs.len (by rw [hsz2]; exact hs.run _ rfl) hroom
        simp only [hsz2, add_off, Nat.zero_add, hst, Result.andThen_ok, Nat.add_zero] at hrr
        refine ⟨_, _, hrr, ?_⟩
        have hmv := move_facts hh hi (r := r) (id := id) (e := .row ye.sz (es0 ++ es)) (g := g) (C0 := C) (C := (ovl C.toList (es0.length * ye.sz) us).toArray) (t := tb) (fr := fr) hH hg hC
          (fun hsm hgg => ⟨hk0, .inr ⟨g, _, tb, fr, by simp [Cx.move], hgg, by simpa [ovl_length] using hf, by
            have := RE.app (r := C.toList.drop (es0.length * ye.sz + us.length)) (RE.mono hsm.stab (hold2.ext (us := C.toList.take (es0.length * ye.sz)) ⟨[], by simp⟩)) (by rw [List.length_take, hCl]; omega) (RE.mono hsm.stab hs.rel)
            rw [← ovl_eq us C.toList (es0.length * ye.sz) (by simpa using hfit)] at this
            simpa using this⟩⟩)
        obtain ⟨m1, m2, m3, m4⟩ := hmv
        refine ⟨.ref id, _, _, h, rfl, rfl, rfl, m1, m2, ⟨.inr ⟨Nat.le_refl _, by omega⟩, ⟨_, _, _, rfl⟩, fun k' es' he => ?_⟩⟩
        change updE (updE X.H r none) id _ id = _ at he
        rw [updE_same] at he; injection he with he; injection he with a b; subst a b
        refine .inr ⟨g, cc, _, tb, fr, by simp, m4, m3, by simpa [ovl_length] using hf, by simpa [ovl_length] using hcs, by simpa using hroom, hmx⟩
      · exact app_grown htt hh hi (gone := [r]) (es0 := es0) (us0 := C.toList.take (es0.length * ye.sz)) ht hye hu hsz (by rw [List.length_take, hCl]; omega) rfl
          (fun w hw => run_firstCells_some (P := P) w ye.sz es0.length ⟨g, 0, none⟩ _ _ _ (by rw [List.length_take, hCl]; omega) (fun j q hq => by
            rw [add_off]
            have hq2 : C.toList[j]? = some q := by
              rw [List.getElem?_take] at hq
              split at hq
              · exact hq
              · cases hq
            simp only [World.cell?, hw, hC]
            simpa using hq2)) (hold2.ext ⟨[], by simp⟩) hs (by omega) hbl hlen h
end
end Go.Proofs.Ytkdajahiaedoiaa
