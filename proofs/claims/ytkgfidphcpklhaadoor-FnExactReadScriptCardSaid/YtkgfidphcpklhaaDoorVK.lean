/- One operation, told by content: lengths and appends, proved. Contracts by content, and what a call does. Contracts by content, and what a call does. What a call leaves behind. -/
import Derived.Test.YtkgfidphcpklhaaDoorV11
set_option linter.unusedSimpArgs false
namespace Go.Proofs.YtkgfidphcpklhaaDoor
open Go.RowKit Pl
set_option linter.unusedVariables false
set_option linter.unusedSectionVars false

theorem updL_append : ∀ (a : Upd) (H : Hp) (b : Upd), updL (updL H a) b = updL H (a ++ b)
  | [], H, b => rfl
  | (r, e) :: a, H, b => updL_append a _ b
section
variable {P : Program} {tt : TT} (htt : TtOk P tt) {X : Cx} {id : Nat} {K : Kon} (hh : HR X) (hi : Fresh X id)
include htt hh hi
theorem eff_len {c : Call} {ty : TypeId} {x : T} {v : Value} {consts : Array Bool} (hc : c.callee = .builtin .len) (hx : RS X x v) (h : Eff tt (.call c) 0 [x] X.H id K) : ∃ u, (builtin .len c.argTypes ty consts #[v]).run P X.w = .ok (.value u) X.w ∧ Out X id K u X.w := by
  simp only [Eff, hc] at h
  split at h <;> try exact h.elim
  rename_i t hat
  have hat2 : c.argTypes = #[t] := by rw [← Array.toArray_toList (xs := c.argTypes), hat]
  rw [hat2]
  split at h <;> try exact h.elim
  rename_i y hy
  have lenS : ∀ {A : Option Addr} {n c : Nat}, (sliceSz tt y).isSome = true → (builtin .len #[t] ty consts #[.slice A n c]).run P X.w = .ok (.value (.int .i64 (n : Int))) X.w := fun {A n c} hs => by
    obtain ⟨k, hk⟩ := Option.isSome_iff_exists.1 hs
    obtain ⟨e, ye, hu, _, _⟩ := sliceSz_und htt hy hk
    simp [builtin, Builtin.len_, run_underlying hu, goInt]
  split at h <;> try exact h.elim
  · rename_i s
    obtain ⟨hst, h⟩ := h
    obtain rfl := rs_str hx
    refine ⟨.int .i64 (s.length : Int), ?_, Out.same hh hi h (mk_int _ _ _)⟩
    simp [builtin, Builtin.len_, run_underlying (isStr_und htt hy hst), goInt, bs_size]
  · rename_i k es
    obtain ⟨hs, n, rfl, h⟩ := h
    have hx' : RV X.ow X.w (.sl k es) v := hx
    simp only [RV] at hx'
    obtain ⟨A, c, rfl, _⟩ := hx'
    exact ⟨_, lenS hs, Out.same hh hi h (mk_int _ _ _)⟩
  · rename_i r
    split at h <;> try exact h.elim
    rename_i k es hH
    obtain ⟨hs, n, rfl, h⟩ := h
    obtain ⟨_, _, h3⟩ := rs_ref hx
    rcases h3 _ _ hH with ⟨rfl, h0⟩ | ⟨g, c, C, t, fr, rfl, _⟩
    · rw [h0] at h
      exact ⟨_, lenS hs, Out.same hh hi h (mk_int _ _ _)⟩
    · exact ⟨_, lenS hs, Out.same hh hi h (mk_int _ _ _)⟩
  · obtain ⟨hs, rfl, h⟩ := h
    have hx' : v = nilV ∧ nilV.oneCell' = true := by simpa [RS, RS1, RS0, RV] using hx
    obtain ⟨rfl, _⟩ := hx'
    exact ⟨_, lenS hs, Out.same hh hi h (mk_int _ _ _)⟩

theorem eff_min {c : Call} {ty : TypeId} {x z : T} {v v2 : Value} {consts : Array Bool} (hc : c.callee = .builtin .min) (hx : RS X x v) (hz : RS X z v2) (h : Eff tt (.call c) 0 [x, z] X.H id K) : ∃ u, (builtin .min c.argTypes ty consts #[v, v2]).run P X.w = .ok (.value u) X.w ∧ Out X id K u X.w := by
  simp only [Eff, hc] at h
  split at h <;> try exact h.elim
  rename_i k n k2 m
  obtain ⟨r, rfl, h⟩ := h
  have h1 : v = .int k n := by simpa [RS, RS1, RS0, RV] using hx
  have h2 : v2 = .int k2 m := by simpa [RS, RS1, RS0, RV] using hz
  subst h1
  subst h2
  refine ⟨_, ?_, Out.same hh hi h (mk_int _ _ _)⟩
  simp [builtin, Builtin.min_, Builtin.min2]
theorem eff_max {c : Call} {ty : TypeId} {x z : T} {v v2 : Value} {consts : Array Bool} (hc : c.callee = .builtin .max) (hx : RS X x v) (hz : RS X z v2) (h : Eff tt (.call c) 0 [x, z] X.H id K) : ∃ u, (builtin .max c.argTypes ty consts #[v, v2]).run P X.w = .ok (.value u) X.w ∧ Out X id K u X.w := by
  simp only [Eff, hc] at h
  split at h <;> try exact h.elim
  rename_i k n k2 m
  obtain ⟨r, rfl, h⟩ := h
  have h1 : v = .int k n := by simpa [RS, RS1, RS0, RV] using hx
  have h2 : v2 = .int k2 m := by simpa [RS, RS1, RS0, RV] using hz
  subst h1
  subst h2
  refine ⟨_, ?_, Out.same hh hi h (mk_int _ _ _)⟩
  simp [builtin, Builtin.max_, Builtin.max2]

/-- The base of an append. -/
theorem app_grown {t u ty e : TypeId} {ye : Ty} (ht : P.underlying t = some (.slice e)) (hye : tt e = some ye) {gone : List Nat} {base : Option Addr} {n c : Nat} {x : Value} {es0 es : List (List T)} {us0 us : List Value}
    (hsz : ye.sz ≠ 0) (h0l : us0.length = n * ye.sz) (hn : n = es0.length) (ho : ∀ w : World, w.heap = X.w.heap → (Builtin.firstCells ye.sz n (.slice base n c)).run P w = .ok us0.toArray w) (hr0 : RE X.ow X.w ye.sz es0 us0)
    (hs : Src P X u e ye.sz es x us) (hroom : c < n + es.length) (hby : ye.by8 ≤ 100000) (hlen : ((es0 ++ es).length : Int) ≤ 1000000000)
    (h : K (.ref id) (goneU gone ++ [(id, some (.row ye.sz (es0 ++ es)))])) : ∃ v w', (Builtin.append_ #[t, u] ty #[.slice base n c, x]).run P X.w = .ok v w' ∧ Out X id K v w' := by
  obtain ⟨it, z, hit, hsz2, hb2, hz, hzc⟩ := (htt _ _ hye).info
  have hlen2 : n + es.length ≤ 1000000000 := by rw [List.length_append] at hlen; omega
  have hge := grownCap_ge X.w (n + es.length) c e
  have hcm : grownCap X.w (n + es.length) c e ≤ maxLen := grownCap_le_maxLen X.w _ c e (by unfold maxLen; omega)
  have hfit : Builtin.nextslicecap (n + es.length) c * it.bytes ≤ 281474976710656 := growslice_fits hroom (by
    calc (n + es.length) * it.bytes ≤ 1000000000 * 100000 := Nat.mul_le_mul hlen2 (by omega)
      _ ≤ 140737488355328 := by decide)
  have hrun := run_app_grow (P := P) X.w (ty := ty) ht hit hz base n c es.length x us0 us (hs.src it hit hsz2 _ rfl) (by rw [hsz2]; exact ho _ rfl) hroom (by omega) hfit
  have hzl : z.cells.size = ye.sz := by have := (htt _ _ hye).len; rw [← Array.length_toList, hzc, List.length_map, this]
  refine ⟨_, _, hrun, ?_⟩
  have hdw : (X.dropL gone).w = X.w := dropL_w X gone
  have hst := (same_dropL X gone).stab
  have hfinal := Out.newRow (X := X.dropL gone) (id := id) (K := fun x u => K x (goneU gone ++ u)) (hh.dropL gone) (dropL_fresh gone hi) (k := ye.sz) (n := n + es.length) (c := grownCap X.w (n + es.length) c e) (es := es0 ++ es)
    (C := us0.toArray ++ us.toArray ++ Builtin.zeroCells z.cells (grownCap X.w (n + es.length) c e - (n + es.length))) (t := e) (fr := (0, 0)) X.w.drew (by rw [hdw]; rfl) (by rw [hdw]; rfl) (by rw [hdw]; rfl) (by rw [hdw]; rfl) h (by omega) (by simp [hn]) (by
      simp only [Array.size_append, List.size_toArray, Builtin.zeroCells, Array.size_map, Array.size_range, hzl, h0l, hs.cnt, ← Nat.add_mul]
      congr 1; omega) hge hcm (.inl (Nat.le_refl _)) (by
      have := RE.app (r := (Builtin.zeroCells z.cells (grownCap X.w (n + es.length) c e - (n + es.length))).toList) (RE.mono hst hr0) (by rw [h0l, hn]) (RE.mono hst hs.rel)
      simpa using this)
  obtain ⟨xx, upd, X', hk, hw, hnx, hH, hsm, hr, hv⟩ := hfinal
  rw [hdw] at hv
  exact ⟨xx, goneU gone ++ upd, X', hk, hw, hnx.trans (dropL_win X id gone), by rw [hH, dropL_H, updL_append], (same_dropL X gone).trans hsm, hr, hv⟩
theorem eff_append {c : Call} {ty : TypeId} {x z : T} {v u : Value} {consts : Array Bool} (hc : c.callee = .builtin .append) (hx : RS X x v) (hz : RS X z u) (h : Eff tt (.call c) 0 [x, z] X.H id K) :
    ∃ q w', (builtin .append c.argTypes ty consts #[v, u]).run P X.w = .ok (.value q) w' ∧ Out X id K q w' := by
  simp only [Eff, hc] at h
  split at h <;> try exact h.elim
  rename_i t tu hat
  have hat2 : c.argTypes = #[t, tu] := by rw [← Array.toArray_toList (xs := c.argTypes), hat]
  rw [hat2]
  split at h <;> try exact h.elim
  rename_i y yu hy hyu
  split at h <;> try exact h.elim
  rename_i e hd
  have ht := und_slice (htt _ _ hy) hd
  split at h <;> try exact h.elim
  rename_i ye hye
  obtain ⟨it, zz, hit, hsz2, hb2, _⟩ := (htt _ _ hye).info
  suffices hgoal : ∃ q w', (Builtin.append_ #[t, tu] ty #[v, u]).run P X.w = .ok q w' ∧ Out X id K q w' by
    obtain ⟨q, w', hr, ho⟩ := hgoal
    exact ⟨q, w', by simp [builtin, hr], ho⟩
  unfold appT at h
  split at h <;> try exact h.elim
  · -- nil
    rename_i v0
    obtain ⟨rfl, h⟩ := h
    have hx' : v = nilV ∧ nilV.oneCell' = true := by simpa [RS, RS1, RS0, RV] using hx
    obtain ⟨rfl, _⟩ := hx'
    obtain ⟨k, es, us, ⟨rfl, hsz, hble, hlen, h⟩, hs⟩ := news_sound htt hh hyu hye hz h
    have hbl := Nat.le_of_ble_eq_true hble
    by_cases hm : es.length = 0
    · have he : es = [] := List.eq_nil_of_length_eq_zero hm
      subst he
      have hus : us = [] := List.eq_nil_of_length_eq_zero (by simpa using hs.cnt)
      subst hus
      refine ⟨nilV, X.w, ?_, Out.emptyRow (gone := []) hh hi (by omega) h⟩
      have := run_app_room (P := P) X.w (ty := ty) ht hit none 0 0 0 u [] (hs.src it hit hsz2 _ rfl) (Nat.le_refl _)
      simpa [nilV] using this
    · exact app_grown htt hh hi (gone := []) (es0 := []) (us0 := []) ht hye hsz (by simp) rfl (fun w _ => by simp [Builtin.firstCells]) (by simp [RE]) hs (by omega) hbl hlen h
  · rename_i r
    split at h <;> try exact h.elim
    rename_i k0 es0 hH
    obtain ⟨hne, h⟩ := h
    obtain ⟨k, es, us, ⟨rfl, rfl, hsz, hble, hlen, h⟩, hs⟩ := news_sound htt hh hyu hye hz h
    have hbl := Nat.le_of_ble_eq_true hble
    obtain ⟨_, _, h3⟩ := rs_ref hx
    obtain ⟨hk0, hnd⟩ := (hh.node _ _ hH).2
    rcases h3 _ _ hH with ⟨rfl, h0⟩ | ⟨g, cc, C, tb, fr, rfl, hg, hC, hf, hcs, hle, hmx⟩
    · have he0 : es0 = [] := List.eq_nil_of_length_eq_zero h0
      subst he0
      by_cases hm : es.length = 0
      · have he : es = [] := List.eq_nil_of_length_eq_zero hm
        subst he
        have hus : us = [] := List.eq_nil_of_length_eq_zero (by simpa using hs.cnt)
        subst hus
        refine ⟨nilV, X.w, ?_, Out.emptyRow (gone := [r]) hh hi (by omega) h⟩
        have := run_app_room (P := P) X.w (ty := ty) ht hit none 0 0 0 u [] (hs.src it hit hsz2 _ rfl) (Nat.le_refl _)
        simpa [nilV] using this
      · exact app_grown htt hh hi (gone := [r]) (es0 := []) (us0 := []) ht hye hsz (by simp) rfl (fun w _ => by simp [Builtin.firstCells]) (by simp [RE]) hs (by omega) hbl hlen h
    · -- the row's own block
      have hold : es0 = [] ∨ RE X.ow X.w ye.sz es0 C.toList := by
        rcases hnd with hnd | ⟨g', C', t', fr', hg', hC', hf', hl⟩
        · exact .inl hnd
        · obtain rfl := hh.inj' hH hg hg'
          rw [hC] at hC'; injection hC' with hC'; injection hC' with a b c'; subst a b c'
          exact .inr hl
      have hold2 : RE X.ow X.w ye.sz es0 C.toList := by
        rcases hold with rfl | hl
        · simp [RE]
        · exact hl
      have hCl : C.toList.length = C.size := Array.length_toList
      have hfit0 : es0.length * ye.sz ≤ C.size := by rw [hcs]; exact Nat.mul_le_mul_right _ hle
      by_cases hroom : es0.length + es.length ≤ cc
      · have hfit : es0.length * ye.sz + us.length ≤ C.size := by rw [hs.cnt, hcs, ← Nat.add_mul]; exact Nat.mul_le_mul_right _ hroom
        have hst := run_storeBlock (P := P) g (es0.length * ye.sz) tb fr us 0 C X.w hC hf (by omega) hs.one
        have hrr := run_app_room (P := P) X.w (ty := ty) ht hit (some ⟨g, 0, none⟩) es0.length cc es.length u us (hs.src it hit hsz2 _ rfl) hroom
        simp only [hsz2, add_off, Nat.zero_add, hst, Result.andThen_ok, Nat.add_zero] at hrr
        refine ⟨_, _, hrr, ?_⟩
        have hmv := move_facts hh hi (r := r) (id := id) (e := .row ye.sz (es0 ++ es)) (g := g) (C0 := C) (C := (ovl C.toList (es0.length * ye.sz) us).toArray) (t := tb) (fr := fr) hH hg hC
          (fun hsm hgg => ⟨hk0, .inr ⟨g, _, tb, fr, by simp [Cx.move], hgg, by simpa [ovl_length] using hf, by
            have := RE.app (r := C.toList.drop (es0.length * ye.sz + us.length)) (RE.mono hsm.stab (hold2.ext (us := C.toList.take (es0.length * ye.sz)) ⟨[], by simp⟩)) (by rw [List.length_take, hCl]; omega) (RE.mono hsm.stab hs.rel)
            rw [← ovl_eq us C.toList (es0.length * ye.sz) (by simpa using hfit)] at this
            simpa using this⟩⟩)
        obtain ⟨m1, m2, m3, m4⟩ := hmv
        refine ⟨.ref id, _, _, h, rfl, rfl, rfl, m1, m2, ⟨.inr ⟨Nat.le_refl _, by omega⟩, ⟨_, _, _, rfl⟩, fun k' es' he => ?_⟩⟩
        change updE (updE X.H r none) id _ id = _ at he
        rw [updE_same] at he; injection he with he; injection he with a b; subst a b
        refine .inr ⟨g, cc, _, tb, fr, by simp, m4, m3, by simpa [ovl_length] using hf, by simpa [ovl_length] using hcs, by simpa using hroom, hmx⟩
      · exact app_grown htt hh hi (gone := [r]) (es0 := es0) (us0 := C.toList.take (es0.length * ye.sz)) ht hye hsz (by rw [List.length_take, hCl]; omega) rfl
          (fun w hw => run_firstCells_some (P := P) w ye.sz es0.length ⟨g, 0, none⟩ _ _ _ (by rw [List.length_take, hCl]; omega) (fun j q hq => by
            rw [add_off]
            have hq2 : C.toList[j]? = some q := by
              rw [List.getElem?_take] at hq
              split at hq
              · exact hq
              · cases hq
            simp only [World.cell?, hw, hC]
            simpa using hq2)) (hold2.ext ⟨[], by simp⟩) hs (by omega) hbl hlen h
end
end Go.Proofs.YtkgfidphcpklhaaDoor
namespace Go.Proofs.YtkgfidphcpklhaaDoor
open Go.RowKit Pl
set_option linter.unusedVariables false
set_option linter.unusedSectionVars false

/-! ### every operation that calls nobody -/
theorem eff_sound {P : Program} {tt : TT} (htt : TtOk P tt) {X : Cx} {id : Nat} {K : Kon} (hh : HR X) (hi : Fresh X id) {o : Oper} {a : Act} {args : List T}
    (ha : Args X args ((opnds o.op).map a.eval)) (h : Eff tt o.op o.type args X.H id K) : Ran P X id K (execOp a.eval o) := by
  obtain ⟨dst, op, ty, pos, after, guard⟩ := o
  have l0 : ∀ {f : T → Prop}, args = [] → (opnds op).map a.eval = [] → True := fun _ _ => trivial
  cases op <;> simp only [opnds, List.map_cons, List.map_nil] at ha
  case move x => match args, ha, h with
    | [y], ha, h => exact eff_move hh hi (args1 ha) h
  case assign x => match args, ha, h with
    | [y], ha, h => exact eff_move hh hi (args1 ha) h
  case pick c x y => match args, ha, h with
    | [t, u, v], ha, h => obtain ⟨h1, h2, h3⟩ := args3 ha; exact eff_pick hh hi h1 h2 h3 h
  case alloc e => match args, ha, h with
    | [], ha, h => exact eff_alloc htt hh hi h
  case box e x => match args, ha, h with
    | [y], ha, h => exact eff_box htt hh hi (args1 ha) h
  case build t ps => exact eff_build htt hh hi ha h
  case buildSlice t n ps => exact eff_buildSlice htt hh hi ha h
  case load t x => match args, ha, h with
    | [y], ha, h => exact eff_load htt hh hi (args1 ha) h
  case store t x y => match args, ha, h with
    | [u, v], ha, h => obtain ⟨h1, h2⟩ := args2 ha; exact eff_store htt hh hi h1 h2 h
  case nilCheck x => match args, ha, h with
    | [y], ha, h =>
      obtain ⟨ad, hv, ho⟩ := eff_nilCheck (tt := tt) (o := x) (ρ := a.eval) (v := a.eval x) hh hi rfl (args1 ha) h
      refine ⟨.value (a.eval x), a.eval x, X.w, ?_, .inl rfl, ho⟩
      simp [execOp, hv]
  case binOp op t x y yt => match args, ha, h with
    | [u, v], ha, h =>
      obtain ⟨h1, h2⟩ := args2 ha
      cases u <;> cases v <;> first | exact eff_bin hh hi h1 h2 h | exact eff_binA hh hi htt h1 h2 h | exact eff_binB hh hi htt h1 h2 h
  case unOp op t x => match args, ha, h with
    | [y], ha, h => exact eff_un hh hi (args1 ha) h
  case convert s d x => match args, ha, h with
    | [y], ha, h => exact eff_convert (ox := x) htt hh hi (args1 ha) h
  case makeSlice t l c => match args, ha, h with
    | [u, v], ha, h => obtain ⟨h1, h2⟩ := args2 ha; exact eff_makeSlice (ol := l) (oc := c) htt hh hi h1 h2 h
  case slice t x lo hi' mx =>
    cases lo <;> cases hi' <;> cases mx <;> simp only [Option.toList, List.append_nil, List.nil_append, List.map_cons, List.map_nil, List.singleton_append, List.cons_append] at ha
    case some.none.none l => match args, ha, h with
      | [u, v], ha, h => obtain ⟨h1, h2⟩ := args2 ha; exact eff_slice1 (ox := x) (oa := l) htt hh hi h1 h2 h
    case none.some.none l => match args, ha, h with
      | [u, v], ha, h => obtain ⟨h1, h2⟩ := args2 ha; exact eff_slice2 (ox := x) (oa := l) htt hh hi h1 h2 h
    case some.some.none l m => match args, ha, h with
      | [u, v, t], ha, h => obtain ⟨h1, h2, h3⟩ := args3 ha; exact eff_slice3 (ox := x) (oa := l) (ob := m) htt hh hi h1 h2 h3 h
    all_goals (simp only [Eff] at h)
  case makeFunc fn fa fb =>
    simp only [Eff] at h
    split at h <;> try exact h.elim
    rotate_left
    · rename_i f r i j s k l hfirst
      obtain ⟨rfl, rfl, rfl, rfl, h⟩ := h
      rw [hfirst, List.nil_append] at ha
      have hb : ∃ y y', fb.toList = [y, y'] := by
        cases hq : fb.toList with
        | nil => rw [hq] at ha; obtain ⟨_, _, q, _⟩ := ha; cases q
        | cons y l =>
          rw [hq] at ha
          obtain ⟨_, _, q, _, q2⟩ := ha
          cases hl : l with
          | nil => rw [hl] at q; obtain ⟨_, _, q3, _⟩ := q2; subst q3; simp at q
          | cons y' l' =>
            obtain ⟨_, _, q3, _, q4⟩ := q2
            have : _ = [] := q4
            subst this
            subst q3
            rw [hl] at q
            simp only [List.map_cons, List.cons.injEq] at q
            exact ⟨y, y', by rw [List.map_eq_nil_iff.1 q.2.2]⟩
      obtain ⟨y, y', hb⟩ := hb
      rw [hb] at ha
      have e1 : fa = #[] := by rw [← Array.toArray_toList (xs := fa), hfirst]
      have e2 : fb = #[y, y'] := by rw [← Array.toArray_toList (xs := fb), hb]
      subst e1 e2
      obtain ⟨hy, hy'⟩ := args2 ha
      refine ⟨.value (.func (.func f) #[] #[a.eval y, a.eval y']), .func (.func f) #[] #[a.eval y, a.eval y'], X.w, ?_, .inl rfl, ?_⟩
      · simp [execOp, Instr.makeFunc]
      · exact Out.same hh hi h ⟨_, _, rfl, hy, hy'⟩
    rename_i f r i j hfirst
    obtain ⟨rfl, rfl, h⟩ := h
    rw [hfirst, List.nil_append] at ha
    have hb : ∃ y, fb.toList = [y] := by
      cases hq : fb.toList with
      | nil => rw [hq] at ha; obtain ⟨_, _, q, _⟩ := ha; cases q
      | cons y l =>
        rw [hq] at ha
        obtain ⟨_, _, q, _, q2⟩ := ha
        have : _ = [] := q2
        subst this
        simp only [List.map_cons, List.cons.injEq] at q
        exact ⟨y, by rw [List.map_eq_nil_iff.1 q.2]⟩
    obtain ⟨y, hb⟩ := hb
    rw [hb] at ha
    have e1 : fa = #[] := by rw [← Array.toArray_toList (xs := fa), hfirst]
    have e2 : fb = #[y] := by rw [← Array.toArray_toList (xs := fb), hb]
    subst e1 e2
    have hy := args1 ha
    refine ⟨.value (.func (.func f) #[] #[a.eval y]), .func (.func f) #[] #[a.eval y], X.w, ?_, .inl rfl, ?_⟩
    · simp [execOp, Instr.makeFunc]
    · exact Out.same hh hi h ⟨_, rfl, hy⟩
  case fieldAddr s x f => match args, ha, h with
    | [y], ha, h => exact eff_fieldAddr htt hh hi (args1 ha) h
  case indexAddr t x i => match args, ha, h with
    | [u, v], ha, h => obtain ⟨h1, h2⟩ := args2 ha; exact eff_indexAddr htt hh hi h1 h2 h
  case index t x i => match args, ha, h with
    | [u, v], ha, h => obtain ⟨h1, h2⟩ := args2 ha; exact eff_index htt hh hi h1 h2 h
  case extract x i => match args, ha, h with
    | [y], ha, h => exact eff_extract (tt := tt) hh hi (args1 ha) h
  case call c =>
    cases hc : c.callee with
    | value f => simp only [Eff, hc] at h
    | invoke r m => simp only [Eff, hc] at h
    | builtin b =>
      simp only [hc, List.nil_append] at ha
      cases b <;> try (simp only [Eff, hc] at h; done)
      case append =>
        match hargs : args, ha, h with
        | [x, z], ha, h =>
          obtain ⟨u, us, he, h1, u2, us2, rfl, h2, h3⟩ := ha
          have h3' : us2 = [] := h3
          subst h3'
          obtain ⟨q, w', hr, ho⟩ := eff_append htt hh hi (ty := ty) (consts := c.args.map fun | .const _ => true | _ => false) hc h1 h2 h
          refine ⟨.value q, q, w', ?_, .inl rfl, ho⟩
          have hm : c.args.map a.eval = #[u, u2] := by rw [← Array.toArray_toList (xs := c.args.map a.eval), Array.toList_map, he]
          simp only [execOp, resolve, hc, invoke, Sem.run_bind, Sem.run_pure, Result.andThen_ok, hm]
          exact hr
        | [], ha, h => simp only [Eff, hc] at h
        | [_], ha, h => simp only [Eff, hc] at h
        | _ :: _ :: _ :: _, ha, h => simp only [Eff, hc] at h
      case min =>
        match hargs : args, ha, h with
        | [x, z], ha, h =>
          obtain ⟨u, us, he, h1, u2, us2, rfl, h2, h3⟩ := ha
          have h3' : us2 = [] := h3
          subst h3'
          obtain ⟨q, hr, ho⟩ := eff_min htt hh hi (ty := ty) (consts := c.args.map fun | .const _ => true | _ => false) hc h1 h2 h
          refine ⟨.value q, q, X.w, ?_, .inl rfl, ho⟩
          have hm : c.args.map a.eval = #[u, u2] := by rw [← Array.toArray_toList (xs := c.args.map a.eval), Array.toList_map, he]
          simp only [execOp, resolve, hc, invoke, Sem.run_bind, Sem.run_pure, Result.andThen_ok, hm]
          exact hr
        | [], ha, h => simp only [Eff, hc] at h
        | [_], ha, h => simp only [Eff, hc] at h
        | _ :: _ :: _ :: _, ha, h => simp only [Eff, hc] at h
      case max =>
        match hargs : args, ha, h with
        | [x, z], ha, h =>
          obtain ⟨u, us, he, h1, u2, us2, rfl, h2, h3⟩ := ha
          have h3' : us2 = [] := h3
          subst h3'
          obtain ⟨q, hr, ho⟩ := eff_max htt hh hi (ty := ty) (consts := c.args.map fun | .const _ => true | _ => false) hc h1 h2 h
          refine ⟨.value q, q, X.w, ?_, .inl rfl, ho⟩
          have hm : c.args.map a.eval = #[u, u2] := by rw [← Array.toArray_toList (xs := c.args.map a.eval), Array.toList_map, he]
          simp only [execOp, resolve, hc, invoke, Sem.run_bind, Sem.run_pure, Result.andThen_ok, hm]
          exact hr
        | [], ha, h => simp only [Eff, hc] at h
        | [_], ha, h => simp only [Eff, hc] at h
        | _ :: _ :: _ :: _, ha, h => simp only [Eff, hc] at h
      case len =>
        match hargs : args, ha, h with
        | [x], ha, h =>
          obtain ⟨u, us, he, h1, h3⟩ := ha
          have h3' : us = [] := h3
          subst h3'
          obtain ⟨q, hr, ho⟩ := eff_len htt hh hi (ty := ty) (consts := c.args.map fun | .const _ => true | _ => false) hc h1 h
          refine ⟨.value q, q, X.w, ?_, .inl rfl, ho⟩
          have hm : c.args.map a.eval = #[u] := by rw [← Array.toArray_toList (xs := c.args.map a.eval), Array.toList_map, he]
          simp only [execOp, resolve, hc, invoke, Sem.run_bind, Sem.run_pure, Result.andThen_ok, hm]
          exact hr
        | [], ha, h => simp only [Eff, hc] at h
        | _ :: _ :: _, ha, h => simp only [Eff, hc] at h
  all_goals (simp only [Eff] at h)
end Go.Proofs.YtkgfidphcpklhaaDoor
namespace Go.Proofs.YtkgfidphcpklhaaDoor
open Go.RowKit Pl
set_option linter.unusedVariables false
set_option linter.unusedSectionVars false

/-- An entry of which nothing is said any more is written as a row of elements of no cells. -/
def live : Ent → Option Ent
  | .row 0 _ => none
  | e => some e
theorem live_some {e e1 : Ent} (h : live e = some e1) : e1 = e := by
  unfold live at h
  split at h
  · cases h
  · injection h with h; exact h.symm
def idxE (He : List Ent) (r : Nat) : Option Ent := if r = 0 then none else match He[r - 1]? with
  | some e => live e
  | none => none
/-- A contract: called with arguments that read as ts, beside the entries He (numbers 1, 2, ..), the function returns what reads as r, beside He'. -/
def CT (P : Program) (f : FuncId) (He : List Ent) (ts : List T) (r : T) (He' : List Ent) : Prop :=
  (∃ fn, P.funcs[f]? = some fn ∧ (fn.name == "runtime.NumGoroutine") = false ∧ fn.body.isNone = false) ∧
  ∀ X : Cx, HR X → X.H = idxE He → (X.us = fun i => i < He.length + 1) → ∀ vs, Args X ts vs →
    Calls P f vs.toArray X.w fun e w' => ∃ v X', e = .returned v ∧ X'.w = w' ∧ X'.H = idxE He' ∧ (X'.us = fun i => i < He'.length + 1) ∧ HR X' ∧ RS X' r v ∧ Same X X'

def ren0 (ρ : Nat → Nat) : T → T
  | .ref r => .ref (ρ r)
  | .ptr r i j => .ptr (ρ r) i j
  | .fnp f r => .fnp f (ρ r)
  | .fnq f r s => .fnq f (ρ r) (ρ s)
  | x => x
def ren1 (ρ : Nat → Nat) : T → T
  | .agg cs => .agg (cs.map (ren0 ρ))
  | x => ren0 ρ x
def ren2 (ρ : Nat → Nat) : T → T
  | .tup cs => .tup (cs.map (ren1 ρ))
  | x => ren1 ρ x
def renE (ρ : Nat → Nat) : Ent → Ent
  | .box cs => .box (cs.map (ren0 ρ))
  | .row k es => .row k es
/-- The caller's number of the callee's r. -/
def rho (σ : List Nat) (id : Nat) (r : Nat) : Nat := bif Nat.ble r σ.length then σ.getD (r - 1) 0 else id + (r - σ.length - 1)
/-- An argument as the caller has it, and as the callee reads it. -/
def AM0 (σ : List Nat) (H : Hp) (x t : T) : Prop := match x with
  | .ref r => match t with
    | .sl k es => H r = some (.row k es) ∧ σ.contains r = false
    | .ref i => i ≠ 0 ∧ σ[i - 1]? = some r
    | _ => False
  | .ptr r a b => match t with
    | .ptr i a' b' => i ≠ 0 ∧ σ[i - 1]? = some r ∧ a' = a ∧ b' = b
    | _ => False
  | .val v => match t with
    | .sl _ es => v = nilV ∧ es = []
    | .val v' => v = v'
    | _ => False
  | .agg _ => False
  | .tup _ => False
  | .fnp _ _ => False
  | .fnq _ _ _ => False
  | x => t = x
def AMl (σ : List Nat) (H : Hp) : List T → List T → Prop
  | [], ts => ts = []
  | x :: xs, ts => match ts with
    | t :: ts' => AM0 σ H x t ∧ AMl σ H xs ts'
    | [] => False
def AM1 (σ : List Nat) (H : Hp) (x t : T) : Prop := match x with
  | .agg xs => match t with
    | .agg ts => AMl σ H xs ts
    | _ => False
  | x => AM0 σ H x t
def AM (σ : List Nat) (H : Hp) : List T → List T → Prop
  | [], ts => ts = []
  | x :: xs, ts => match ts with
    | t :: ts' => AM1 σ H x t ∧ AM σ H xs ts'
    | [] => False
def scope0 (m : Nat) : T → Bool
  | .ref r => Nat.blt 0 r && Nat.ble r m
  | .ptr r _ _ => Nat.blt 0 r && Nat.ble r m
  | .fnp _ _ => false
  | .fnq _ _ _ => false
  | _ => true
def scope1 (m : Nat) : T → Bool
  | .agg cs => cs.all (scope0 m)
  | x => scope0 m x
def scope2 (m : Nat) : T → Bool
  | .tup cs => cs.all (scope1 m)
  | x => scope1 m x
def scopeE (m : Nat) : Ent → Bool
  | .box cs => cs.all (scope0 m)
  | .row _ _ => true
/-- The entries that the callee may write. -/
def HM (σ : List Nat) (H : Hp) (m : Nat) : List Nat → List Ent → Prop
  | [], He => He = []
  | s :: l, He => match He with
    | e :: He' => H s = some (renE (rho σ 0) e) ∧ (match e with | .box cs => cs.all (scope0 m) = true | .row _ _ => True) ∧ HM σ H m l He'
    | [] => False
/-- Nothing in it is read of another's memory. -/
def own0 : T → Prop
  | .sl _ es => es = []
  | .rptr _ _ => False
  | _ => True
def own1 : T → Prop
  | .agg cs => ∀ c ∈ cs, own0 c
  | x => own0 x
def own2 : T → Prop
  | .tup cs => ∀ c ∈ cs, own1 c
  | x => own1 x
def ownE : Ent → Prop
  | .box cs => ∀ c ∈ cs, own0 c
  | .row _ es => ∀ e ∈ es, ∀ c ∈ e, own0 c
def noRef0 : T → Bool
  | .ref _ => false
  | _ => true
def noRef1 : T → Bool
  | .agg cs => cs.all noRef0
  | x => noRef0 x
def liveR (ρ : Nat → Nat) (e : Ent) : Option Ent := match live e with
  | some e => some (renE ρ e)
  | none => none
theorem live_map {ρ : Nat → Nat} {e e' : Ent} (h : liveR ρ e = some e') : live e = some e ∧ renE ρ e = e' := by
  unfold liveR at h
  split at h
  · rename_i e1 he
    have := live_some he
    subst this
    injection h with h
    exact ⟨he, h⟩
  · cases h
theorem live_ne {ρ : Nat → Nat} {e : Ent} {x : Option Ent} (hx : x = liveR ρ e) (h : x ≠ none) : live e = some e := by
  subst hx
  cases hl : live e with
  | none => exact absurd (by unfold liveR; rw [hl]) h
  | some e1 => rw [live_some hl]
def callU (ρ : Nat → Nat) : List Ent → Nat → Upd
  | [], _ => []
  | e :: l, i => (ρ i, liveR ρ e) :: callU ρ l (i + 1)
/-- A call. -/
def CallP0 (P : Program) (f : FuncId) (xs : List T) (H : Hp) (id : Nat) (K : List Nat → Kon) : Prop :=
  ∃ σ He ts r He', CT P f He ts r He' ∧ AM σ H xs ts ∧ HM σ H He.length σ He ∧ (σ.Nodup ∧ 0 ∉ σ) ∧ (He.length ≤ He'.length ∧ He'.length ≤ He.length + 16) ∧
    (scope2 He'.length r = true ∧ He'.all (scopeE He'.length) = true) ∧ (xs.all noRef1 = true ∨ (own2 r ∧ ∀ e ∈ He', ownE e)) ∧ K σ (ren2 (rho σ id) r) (callU (rho σ id) He' 1)

theorem HM.get {σ : List Nat} {H : Hp} {m : Nat} : ∀ {l : List Nat} {He : List Ent} {i : Nat} {e : Ent}, HM σ H m l He → He[i]? = some e → ∃ s, l[i]? = some s ∧ H s = some (renE (rho σ 0) e) ∧ (match e with | .box cs => cs.all (scope0 m) = true | .row _ _ => True)
  | [], He, i, e, h, he => by have : He = [] := h; subst this; simp at he
  | s :: l, [], i, e, h, he => h.elim
  | s :: l, e0 :: He, i, e, h, he => by
    obtain ⟨h1, h2, h3⟩ := h
    cases i with
    | zero => simp at he; subst he; exact ⟨s, rfl, h1, h2⟩
    | succ i => simp at he; simpa using HM.get h3 he
theorem HM.len {σ : List Nat} {H : Hp} {m : Nat} : ∀ {l : List Nat} {He : List Ent}, HM σ H m l He → l.length = He.length
  | [], He, h => by have : He = [] := h; subst this; rfl
  | s :: l, [], h => h.elim
  | s :: l, e0 :: He, h => by simp [HM.len h.2.2]
theorem renE_shape (ρ : Nat → Nat) (e : Ent) : (renE ρ e).shape = e.shape := by cases e <;> simp [renE, Ent.shape]
theorem renE_wd (ρ : Nat → Nat) (e : Ent) : (renE ρ e).wd = e.wd := Ent.wd_shape (renE_shape ρ e)

/-- Numbers that are read by value. -/
def byv0 (s : Nat) : T → Prop
  | .ref r => r = s
  | _ => False
def byv1 (s : Nat) : T → Prop
  | .agg cs => ∃ c ∈ cs, byv0 s c
  | x => byv0 s x
open Classical in
/-- What the callee sees: the blocks that are handed over keep an owner; those that are read have none; all others are strangers'. -/
noncomputable def calleeOw (Y : Cx) (σ : List Nat) (by_ : Nat → Prop) : Own := fun g => match Y.ow g with
  | none => none
  | some s => if s ∈ σ then some (σ.idxOf s + 1) else if s ≠ 0 ∧ by_ s then none else some 0
noncomputable def calleeX (Y : Cx) (σ : List Nat) (by_ : Nat → Prop) (He : List Ent) : Cx := { H := idxE He, ow := calleeOw Y σ by_, w := Y.w, us := fun i => i < He.length + 1 }
theorem idxE_some {He : List Ent} {r : Nat} {e : Ent} : idxE He r = some e ↔ r ≠ 0 ∧ He[r - 1]? = some e ∧ live e = some e := by
  unfold idxE
  by_cases h : r = 0
  · simp [h]
  · rw [if_neg h]
    cases hg : He[r - 1]? with
    | none => simp
    | some e0 =>
      refine ⟨fun hl => ?_, fun hl => ?_⟩
      · have he : live e0 = some e := hl
        have := live_some he
        subst this
        exact ⟨h, rfl, he⟩
      · obtain ⟨_, h1, h2⟩ := hl
        injection h1 with h1; subst h1
        exact h2
theorem idxE_lt {He : List Ent} {r : Nat} {e : Ent} (h : idxE He r = some e) : 0 < r ∧ r ≤ He.length := by
  obtain ⟨h1, h2, _⟩ := idxE_some.1 h
  have := (List.getElem?_eq_some_iff.1 h2).1
  omega
section
variable {Y : Cx} {σ : List Nat} {by_ : Nat → Prop} {He : List Ent} (hh : HR Y) (hm : HM σ Y.H He.length σ He) (hnd : σ.Nodup) (h0 : 0 ∉ σ)
include hh hm hnd h0
theorem cow_none {g : Nat} (h : Y.ow g = none) : calleeOw Y σ by_ g = none := by simp [calleeOw, h]
theorem cow_at {g i s : Nat} (hi : i ≠ 0) (hs : σ[i - 1]? = some s) (h : Y.ow g = some s) : calleeOw Y σ by_ g = some i := by
  have hm' : s ∈ σ := List.mem_of_getElem? hs
  have hlt := (List.getElem?_eq_some_iff.1 hs).1
  have hx : σ.idxOf s = i - 1 := by
    have := List.getElem?_eq_some_iff.1 hs
    obtain ⟨h1, h2⟩ := this
    rw [← h2]
    exact hnd.idxOf_getElem _ h1
  simp only [calleeOw, h, hm', if_true, hx]
  congr 1; omega
theorem cow_inv {g i : Nat} (h : calleeOw Y σ by_ g = some i) (hi : i ≠ 0) : ∃ s, Y.ow g = some s ∧ σ[i - 1]? = some s := by
  unfold calleeOw at h
  cases hy : Y.ow g with
  | none => rw [hy] at h; cases h
  | some s =>
    rw [hy] at h
    simp only at h
    split at h
    · rename_i hs
      injection h with h
      refine ⟨s, rfl, ?_⟩
      rw [← h, Nat.add_sub_cancel, List.getElem?_eq_getElem (List.idxOf_lt_length_of_mem hs), List.getElem_idxOf]
    · split at h
      · cases h
      · injection h with h; exact absurd h.symm hi
theorem sig_lt {i s : Nat} (hs : σ[i]? = some s) : ∃ e, He[i]? = some e ∧ Y.H s = some (renE (rho σ 0) e) ∧ Y.us s ∧ s ≠ 0 := by
  have hl := hm.len
  have hi := (List.getElem?_eq_some_iff.1 hs).1
  obtain ⟨s', h1, h2, _⟩ := hm.get (List.getElem?_eq_getElem (show i < He.length by omega))
  rw [hs] at h1; injection h1 with h1; subst h1
  exact ⟨_, List.getElem?_eq_getElem (by omega), h2, (hh.node _ _ h2).1, fun h => h0 (h ▸ List.mem_of_getElem? hs)⟩
theorem cstab : Stab Y.ow Y.w (calleeX Y σ by_ He).ow (calleeX Y σ by_ He).w := fun g _ h => ⟨cow_none hh hm hnd h0 h, rfl⟩
theorem back_ref {i s k n : Nat} {u : Value} (hi : i ≠ 0) (hs : σ[i - 1]? = some s) (h : Hdr Y s k n u) : Hdr (calleeX Y σ by_ He) i k n u := by
  rcases h with h | ⟨g, c, C, t, fr, hv, hg, hr⟩
  · exact .inl h
  · exact .inr ⟨g, c, C, t, fr, hv, cow_at hh hm hnd h0 hi hs hg, hr⟩
theorem rs_ref_back {i s : Nat} {u : Value} (hi : i ≠ 0) (hs : σ[i - 1]? = some s) (h : RS0 Y (.ref s) u) : RS0 (calleeX Y σ by_ He) (.ref i) u := by
  obtain ⟨h1, h2, h3⟩ := h
  have hl := hm.len
  have hil := (List.getElem?_eq_some_iff.1 hs).1
  refine ⟨by show i < He.length + 1; omega, h2, fun k es he => ?_⟩
  obtain ⟨_, he2, _⟩ := idxE_some.1 he
  obtain ⟨e, h4, h5, _⟩ := sig_lt hh hm hnd h0 hs
  rw [h4] at he2; injection he2 with he2; subst he2
  exact back_ref hh hm hnd h0 hi hs (h3 _ _ h5)
theorem rs_ptr_back {i s a b : Nat} {u : Value} (hi : i ≠ 0) (hs : σ[i - 1]? = some s) (h : RS0 Y (.ptr s a b) u) : RS0 (calleeX Y σ by_ He) (.ptr i a b) u := by
  obtain ⟨h1, h2, h3⟩ := h
  have hl := hm.len
  have hil := (List.getElem?_eq_some_iff.1 hs).1
  refine ⟨by show i < He.length + 1; omega, h2, fun e he => ?_⟩
  obtain ⟨_, he2, _⟩ := idxE_some.1 he
  obtain ⟨e', h4, h5, _⟩ := sig_lt hh hm hnd h0 hs
  rw [h4] at he2; injection he2 with he2; subst he2
  obtain ⟨g, hg, hv⟩ := h3 _ h5
  rw [renE_wd] at hv
  exact ⟨g, cow_at hh hm hnd h0 hi hs hg, hv⟩
theorem back0 {c : T} {u : Value} (hc : scope0 He.length c = true) (h : RS0 Y (ren0 (rho σ 0) c) u) : RS0 (calleeX Y σ by_ He) c u := by
  have hl := hm.len
  have key : ∀ r, (Nat.blt 0 r && Nat.ble r He.length) = true → r ≠ 0 ∧ σ[r - 1]? = some (rho σ 0 r) := fun r hr => by
    simp only [Bool.and_eq_true] at hr
    have h1 : 0 < r := by have := hr.1; simp [Nat.blt] at this; omega
    have h2 := Nat.le_of_ble_eq_true hr.2
    refine ⟨by omega, ?_⟩
    have hb : Nat.ble r σ.length = true := Nat.ble_eq_true_of_le (by omega)
    simp only [rho, hb, cond_true]
    rw [List.getElem?_eq_getElem (by omega)]
    simp [List.getD, List.getElem?_eq_getElem (show r - 1 < σ.length by omega)]
  cases c
  case ref r => obtain ⟨a, b⟩ := key r hc; exact rs_ref_back hh hm hnd h0 a b h
  case ptr r i j => obtain ⟨a, b⟩ := key r hc; exact rs_ptr_back hh hm hnd h0 a b h
  case rptr c j =>
    obtain ⟨g, o, C, t, fr, hv, hg, hC, hr⟩ := h
    exact ⟨g, o, C, t, fr, hv, cow_none hh hm hnd h0 hg, hC, RL.mono (cstab hh hm hnd h0) hr⟩
  case any => trivial
  case fnp f r => cases hc
  case fnq f r s => cases hc
  all_goals exact RV.mono (cstab hh hm hnd h0) h
theorem calleeHR : HR (calleeX Y σ by_ He) := by
  have hl := hm.len
  refine ⟨fun g g' r hr h1 h2 => ?_, fun g r hg => ?_, fun r e he => ?_, rfl, by show 0 < He.length + 1; omega, hh.gl.mono (cstab hh hm hnd h0)⟩
  · have hr0 : r ≠ 0 := fun h => by subst h; exact hr rfl
    obtain ⟨s, a, b⟩ := cow_inv hh hm hnd h0 h1 hr0
    obtain ⟨s', a', b'⟩ := cow_inv hh hm hnd h0 h2 hr0
    rw [b] at b'; injection b' with b'; subst b'
    obtain ⟨e, _, h5, _⟩ := sig_lt hh hm hnd h0 b
    exact hh.inj' h5 a a'
  · by_cases hr0 : r = 0
    · subst hr0
      refine ⟨?_, by show 0 < He.length + 1; omega⟩
      change calleeOw Y σ by_ g = some 0 at hg
      cases hy : Y.ow g with
      | none => rw [cow_none hh hm hnd h0 hy] at hg; cases hg
      | some s => exact (hh.lt g s hy).1
    · obtain ⟨s, a, b⟩ := cow_inv hh hm hnd h0 hg hr0
      have := (List.getElem?_eq_some_iff.1 b).1
      exact ⟨(hh.lt g s a).1, by show r < He.length + 1; omega⟩
  · obtain ⟨hr0, he2, _⟩ := idxE_some.1 he
    have hb := idxE_lt he
    refine ⟨by show r < He.length + 1; omega, ?_⟩
    obtain ⟨s, h1, h2, h3⟩ := hm.get he2
    have hn := (hh.node _ _ h2).2
    cases e with
    | box cs =>
      obtain ⟨g, C, t, fr, hg, hC, hf, hrl⟩ := hn
      refine ⟨g, C, t, fr, cow_at hh hm hnd h0 hr0 h1 hg, hC, hf, ?_⟩
      have key : ∀ (cs : List T) (us : List Value), cs.all (scope0 He.length) = true → RSl Y (cs.map (ren0 (rho σ 0))) us → RSl (calleeX Y σ by_ He) cs us := by
        intro cs
        induction cs with
        | nil => intro us _ h; exact h
        | cons c cs ih =>
          rintro us hc ⟨u, us', hu, q1, q2, q3⟩
          simp only [List.all_cons, Bool.and_eq_true] at hc
          exact ⟨u, us', hu, q1, back0 hh hm hnd h0 hc.1 q2, ih us' hc.2 q3⟩
      exact key cs _ h3 hrl
    | row k es =>
      refine ⟨hn.1, ?_⟩
      rcases hn.2 with q | ⟨g, C, t, fr, hg, hC, hf, hrl⟩
      · exact .inl q
      · exact .inr ⟨g, C, t, fr, cow_at hh hm hnd h0 hr0 h1 hg, hC, hf, RE.mono (cstab hh hm hnd h0) hrl⟩
theorem am0_sound {x t : T} {v : Value} (hx : RS0 Y x v) (hb : ∀ s, byv0 s x → by_ s) (h : AM0 σ Y.H x t) : RS0 (calleeX Y σ by_ He) t v := by
  cases x <;> simp only [AM0] at h
  case ref r =>
    cases t <;> simp only at h
    case sl k es =>
      obtain ⟨h1, h2⟩ := h
      have hr : r ∉ σ := by simpa using h2
      refine (ref_sl hh (cstab hh hm hnd h0) hx h1 (fun g hg => ?_) (fun g _ => rfl)).rs0
      show calleeOw Y σ by_ g = none
      have hb1 : by_ r := hb r rfl
      simp only [calleeOw, hg]
      rw [if_neg hr, if_pos ⟨hh.ne h1, hb1⟩]
    case ref i => exact rs_ref_back hh hm hnd h0 h.1 h.2 hx
  case ptr r a b =>
    cases t <;> simp only at h
    case ptr i a' b' =>
      obtain ⟨h1, h2, rfl, rfl⟩ := h
      exact rs_ptr_back hh hm hnd h0 h1 h2 hx
  case val v0 =>
    have hx' : v = v0 ∧ v0.oneCell' = true := by simpa [RS0, RV] using hx
    cases t <;> simp only at h
    case sl k es =>
      obtain ⟨rfl, rfl⟩ := h
      obtain ⟨rfl, _⟩ := hx'
      exact RV.rs0 (by simp only [RV]; exact ⟨none, 0, rfl, Nat.le_refl _, .inl trivial⟩)
    case val v' => subst h; exact RV.rs0 (by simpa only [RV] using hx')
  case rptr c j =>
    subst h
    obtain ⟨g, o, C, t, fr, hv, hg, hC, hr⟩ := hx
    exact ⟨g, o, C, t, fr, hv, cow_none hh hm hnd h0 hg, hC, RL.mono (cstab hh hm hnd h0) hr⟩
  case any => subst h; trivial
  all_goals (subst h; exact RV.mono (cstab hh hm hnd h0) hx)
theorem am1_sound {x t : T} {v : Value} (hx : RS1 Y x v) (hb : ∀ s, byv1 s x → by_ s) (h : AM1 σ Y.H x t) : RS1 (calleeX Y σ by_ He) t v := by
  have one : ∀ {x t : T} {v : Value}, RS0 Y x v → (∀ s, byv0 s x → by_ s) → AM0 σ Y.H x t → RS1 (calleeX Y σ by_ He) t v := fun hx hb h => by
    have h1 := am0_sound hh hm hnd h0 hx hb h
    rename_i x t v
    cases t <;> first | exact h1 | (simp only [RS0, RV] at h1; done)
  cases x
  case agg cs =>
    cases t <;> simp only [AM1] at h
    case agg ts =>
      obtain ⟨vs, hv, hl⟩ := hx
      refine ⟨vs, hv, ?_⟩
      have hb' : ∀ s, (∃ c ∈ cs, byv0 s c) → by_ s := hb
      clear hb hv
      generalize vs.toList = us at hl
      induction cs generalizing ts us with
      | nil => have : ts = [] := h; subst this; exact hl
      | cons c cs ih =>
        obtain ⟨u, us', hu, q1, q2, q3⟩ := hl
        cases ts with
        | nil => exact h.elim
        | cons t ts =>
          exact ⟨u, us', hu, q1, am0_sound hh hm hnd h0 q2 (fun s hs => hb' s ⟨c, by simp, hs⟩) h.1, ih ts h.2 (fun s ⟨c', hc', hs⟩ => hb' s ⟨c', by simp [hc'], hs⟩) us' q3⟩
  all_goals (simp only [RS1] at hx; simp only [AM1] at h; exact one hx hb h)
theorem am_sound : ∀ {xs ts : List T} {vs : List Value}, Args Y xs vs → (∀ x ∈ xs, ∀ s, byv1 s x → by_ s) → AM σ Y.H xs ts → Args (calleeX Y σ by_ He) ts vs
  | [], ts, vs, ha, _, h => by have : ts = [] := h; subst this; exact ha
  | x :: xs, [], vs, ha, _, h => h.elim
  | x :: xs, t :: ts, vs, ⟨u, us, hu, h1, h2⟩, hb, h => by
    refine ⟨u, us, hu, ?_, am_sound h2 (fun x hx => hb x (by simp [hx])) h.2⟩
    have hx1 : RS1 Y x u := by
      cases x
      case tup cs => exact (by simpa [AM1, AM0] using h.1 : False).elim
      all_goals exact h1
    exact (am1_sound hh hm hnd h0 hx1 (fun s hs => hb x (by simp) s hs) h.1).rs
end
end Go.Proofs.YtkgfidphcpklhaaDoor
namespace Go.Proofs.YtkgfidphcpklhaaDoor
open Go.RowKit Pl
set_option linter.unusedVariables false
set_option linter.unusedSectionVars false

theorem own_rv {ow ow' : Own} {w w' : World} {c : T} {u : Value} (hc : own0 c) (h : RV ow w c u) : RV ow' w' c u := by
  cases c <;> simp only [RV] at h ⊢ <;> try exact h
  case sl k es =>
    have he : es = [] := hc
    subst he
    obtain ⟨A, cc, hv, hl, _⟩ := h
    exact ⟨A, cc, hv, hl, .inl rfl⟩
theorem own_rl {ow ow' : Own} {w w' : World} : ∀ {cs : List T} {us : List Value}, (∀ c ∈ cs, own0 c) → RL ow w cs us → RL ow' w' cs us
  | [], us, _, h => by simpa only [RL] using h
  | c :: cs, us, hc, h => by
    simp only [RL] at h ⊢
    obtain ⟨u, us', hu, h1, h2⟩ := h
    exact ⟨u, us', hu, own_rv (hc c (by simp)) h1, own_rl (fun c h => hc c (by simp [h])) h2⟩
theorem own_re {ow ow' : Own} {w w' : World} {k : Nat} : ∀ {es : List (List T)} {us : List Value}, (∀ e ∈ es, ∀ c ∈ e, own0 c) → RE ow w k es us → RE ow' w' k es us
  | [], us, _, h => by simp only [RE]
  | e :: es, us, hc, h => by
    simp only [RE] at h ⊢
    obtain ⟨vs, rest, hu, hl, h1, h2⟩ := h
    exact ⟨vs, rest, hu, hl, own_rl (hc e (by simp)) h1, own_re (fun e h => hc e (by simp [h])) h2⟩
theorem noRef_byv {xs : List T} (h : xs.all noRef1 = true) : ∀ x ∈ xs, ∀ s, ¬ byv1 s x := by
  intro x hx s hb
  have h1 := List.all_eq_true.1 h x hx
  cases x <;> simp only [byv1, byv0] at hb
  case ref r => simp [noRef1, noRef0] at h1
  case agg cs =>
    obtain ⟨c, hc, hb⟩ := hb
    simp only [noRef1] at h1
    have h2 := List.all_eq_true.1 h1 c hc
    cases c <;> simp only [byv0] at hb
    simp [noRef0] at h2
theorem callU_other {ρ : Nat → Nat} : ∀ {l : List Ent} {a : Nat} {H : Hp} {r : Nat}, (∀ i, i < l.length → ρ (a + i) ≠ r) → updL H (callU ρ l a) r = H r
  | [], a, H, r, _ => rfl
  | e :: l, a, H, r, h => by
    simp only [callU, updL]
    rw [callU_other (fun i hi => by have := h (i + 1) (by simp; omega); rwa [show a + (i + 1) = a + 1 + i by omega] at this), updE_other]
    exact fun hr => h 0 (by simp) (by simpa using hr.symm)
theorem callU_at {ρ : Nat → Nat} : ∀ {l : List Ent} {a i : Nat} {H : Hp} {e : Ent}, (∀ j k, j < l.length → k < l.length → ρ (a + j) = ρ (a + k) → j = k) → l[i]? = some e → updL H (callU ρ l a) (ρ (a + i)) = liveR ρ e
  | [], a, i, H, e, _, h => by simp at h
  | e0 :: l, a, i, H, e, hinj, h => by
    simp only [callU, updL]
    cases i with
    | zero =>
      simp at h; subst h
      rw [callU_other, Nat.add_zero, updE_same]
      intro i hi hr
      have := hinj (i + 1) 0 (by simp; omega) (by simp) (by rw [show a + (i + 1) = a + 1 + i by omega]; exact hr)
      omega
    | succ i =>
      simp at h
      have := callU_at (ρ := ρ) (a := a + 1) (i := i) (H := updE H (ρ a) (liveR ρ e0)) (fun j k hj hk he => by
        have := hinj (j + 1) (k + 1) (by simp; omega) (by simp; omega) (by rw [show a + (j + 1) = a + 1 + j by omega, show a + (k + 1) = a + 1 + k by omega]; exact he)
        omega) h
      rwa [show a + (i + 1) = a + 1 + i by omega]

open Classical in
/-- What the caller has then. -/
noncomputable def backX (Y : Cx) (σ : List Nat) (id : Nat) (ow : Own) (X' : Cx) (He' : List Ent) : Cx :=
  { H := updL Y.H (callU (rho σ id) He' 1)
    ow := fun g => match X'.ow g with
      | none => if ow g = none then Y.ow g else none
      | some i => if i = 0 then (if ow g = some 0 then Y.ow g else some 0) else some (rho σ id i)
    w := X'.w
    us := Y.win id }

theorem call_sound0 {P : Program} {Y : Cx} {id : Nat} {K : Kon} (hh : HR Y) (hi : Fresh Y id) {f : FuncId} {xs : List T} {vs : List Value} (ha : Args Y xs vs) (h : CallP0 P f xs Y.H id fun _ => K) :
    Calls P f vs.toArray Y.w fun e w' => ∃ v, e = .returned v ∧ Out Y id K v w' := by
  obtain ⟨σ, He, ts, r, He', hct, ham, hm, ⟨hnd, h0⟩, ⟨hl1, hl2⟩, ⟨hsc1, hsc2⟩, hown, hk⟩ := h
  have hl := hm.len
  let by_ : Nat → Prop := fun s => ∃ x ∈ xs, byv1 s x
  have hX := calleeHR (by_ := by_) hh hm hnd h0
  have hargs := am_sound (by_ := by_) hh hm hnd h0 ha (fun x hx s hs => ⟨x, hx, hs⟩) ham
  refine (hct.2 (calleeX Y σ by_ He) hX rfl rfl vs hargs).mono ?_
  rintro e w' ⟨v, X', rfl, rfl, hH', hn', hr', hv', hs'⟩
  refine ⟨v, rfl, ?_⟩
  -- the numbers
  have rlo : ∀ i, i ≠ 0 → i ≤ He.length → σ[i - 1]? = some (rho σ id i) := fun i h1 h2 => by
    have hb : Nat.ble i σ.length = true := Nat.ble_eq_true_of_le (by omega)
    simp only [rho, hb, cond_true]
    rw [List.getElem?_eq_getElem (by omega)]
    simp [List.getD, List.getElem?_eq_getElem (show i - 1 < σ.length by omega)]
  have rhi : ∀ i, He.length < i → rho σ id i = id + (i - He.length - 1) := fun i h1 => by
    have hb : Nat.ble i σ.length = false := by
      cases hb : Nat.ble i σ.length with
      | false => rfl
      | true => have := Nat.le_of_ble_eq_true hb; omega
    unfold rho
    rw [hb, cond_false, hl]
  have siglt : ∀ i s, σ[i]? = some s → Y.us s ∧ s ≠ 0 := fun i s hs => by
    obtain ⟨e, _, _, a, b⟩ := sig_lt hh hm hnd h0 hs
    exact ⟨a, b⟩
  have rinj : ∀ i j, i ≠ 0 → j ≠ 0 → i ≤ He'.length → j ≤ He'.length → rho σ id i = rho σ id j → i = j := fun i j h1 h2 hil hjl he => by
    by_cases hi1 : i ≤ He.length <;> by_cases hj1 : j ≤ He.length
    · have a := rlo i h1 hi1
      have b := rlo j h2 hj1
      rw [he] at a
      obtain ⟨p, a⟩ := List.getElem?_eq_some_iff.1 a
      obtain ⟨q, b⟩ := List.getElem?_eq_some_iff.1 b
      have p1 := hnd.idxOf_getElem _ p
      have q1 := hnd.idxOf_getElem _ q
      rw [a.trans b.symm] at p1
      have := p1.symm.trans q1
      omega
    · have a := (siglt _ _ (rlo i h1 hi1)).1
      rw [he, rhi j (by omega)] at a; exact absurd a (hi _ (by omega) (by omega))
    · have a := (siglt _ _ (rlo j h2 hj1)).1
      rw [← he, rhi i (by omega)] at a; exact absurd a (hi _ (by omega) (by omega))
    · rw [rhi i (by omega), rhi j (by omega)] at he; omega
  have rne : ∀ i, i ≠ 0 → i ≤ He'.length → rho σ id i ≠ 0 := fun i h1 hil => by
    by_cases hi1 : i ≤ He.length
    · exact (siglt _ _ (rlo i h1 hi1)).2
    · rw [rhi i (by omega)]; exact fun hz => hi 0 (by omega) (by omega) hh.pos
  have rlt : ∀ i, i ≠ 0 → i ≤ He'.length → Y.win id (rho σ id i) := fun i h1 h2 => by
    by_cases hi1 : i ≤ He.length
    · exact .inl (siglt _ _ (rlo i h1 hi1)).1
    · rw [rhi i (by omega)]; exact .inr ⟨by omega, by omega⟩
  have rold : ∀ i, i ≠ 0 → i ≤ He'.length → Y.us (rho σ id i) → i ≤ He.length := fun i h1 hil h2 => by
    by_cases hi1 : i ≤ He.length
    · exact hi1
    · rw [rhi i (by omega)] at h2; exact absurd h2 (hi _ (by omega) (by omega))
  -- the entries
  let Z := backX Y σ id (calleeOw Y σ by_) X' He'
  have hat : ∀ i e, i ≠ 0 → He'[i - 1]? = some e → Z.H (rho σ id i) = liveR (rho σ id) e := fun i e h1 h2 => by
    have := callU_at (ρ := rho σ id) (l := He') (a := 1) (i := i - 1) (H := Y.H) (e := e) (fun j k _ _ he => by have := rinj _ _ (by omega) (by omega) (by omega) (by omega) he; omega) h2
    rwa [show 1 + (i - 1) = i by omega] at this
  have hoth : ∀ r, (∀ i, i ≠ 0 → i ≤ He'.length → rho σ id i ≠ r) → Z.H r = Y.H r := fun r h1 =>
    callU_other (fun i hi => h1 _ (by omega) (by omega))
  have himg : ∀ r, (∃ i, i ≠ 0 ∧ i ≤ He'.length ∧ rho σ id i = r) ∨ (∀ i, i ≠ 0 → i ≤ He'.length → rho σ id i ≠ r) := fun r => by
    by_cases hx : ∃ i, i ≠ 0 ∧ i ≤ He'.length ∧ rho σ id i = r
    · exact .inl hx
    · exact .inr fun i h1 h2 h3 => hx ⟨i, h1, h2, h3⟩
  have hsig : ∀ s, s ∈ σ → ∃ i, i ≠ 0 ∧ i ≤ He.length ∧ σ[i - 1]? = some s ∧ rho σ id i = s := fun s hs => by
    obtain ⟨j, hj⟩ := List.getElem?_of_mem hs
    have hjl := (List.getElem?_eq_some_iff.1 hj).1
    have := rlo (j + 1) (by omega) (by omega)
    rw [Nat.add_sub_cancel, hj] at this
    injection this with this
    exact ⟨j + 1, by omega, by omega, by simpa using hj, this.symm⟩
  -- whose block is whose
  have hwY : ∀ g, g < Y.w.heap.size → (calleeOw Y σ by_ g = none ∨ calleeOw Y σ by_ g = some 0) → X'.ow g = calleeOw Y σ by_ g ∧ X'.w.heap[g]? = Y.w.heap[g]? := fun g hg hc => by
    rcases hc with hc | hc
    · obtain ⟨a, b⟩ := hs'.stab g hg hc
      exact ⟨by rw [a, hc], b⟩
    · obtain ⟨a, b⟩ := hs'.fra g hc
      exact ⟨by rw [a, hc], b⟩
  have hZow : ∀ g, (calleeOw Y σ by_ g = none ∨ calleeOw Y σ by_ g = some 0) → g < Y.w.heap.size → Z.ow g = Y.ow g := fun g hc hg => by
    obtain ⟨a, _⟩ := hwY g hg hc
    show (match X'.ow g with | none => _ | some i => _) = _
    rcases hc with hc | hc
    · rw [a, hc]; simp [hc]
    · rw [a, hc]; simp [hc]
  have hZinv : ∀ g r, Z.ow g = some r → (∃ i, i ≠ 0 ∧ X'.ow g = some i ∧ r = rho σ id i) ∨ r = 0 ∧ X'.ow g = some 0 ∨ (Y.ow g = some r ∧ r ∉ σ) := fun g r hg => by
    change (match X'.ow g with | none => if calleeOw Y σ by_ g = none then Y.ow g else none | some i => if i = 0 then (if calleeOw Y σ by_ g = some 0 then Y.ow g else some 0) else some (rho σ id i)) = some r at hg
    have notσ : Y.ow g = some r → (calleeOw Y σ by_ g = none ∨ calleeOw Y σ by_ g = some 0) → r ∉ σ := fun hy hc hr => by
      obtain ⟨i, h1, h2, h3, _⟩ := hsig r hr
      rw [cow_at hh hm hnd h0 h1 h3 hy] at hc
      rcases hc with hc | hc
      · cases hc
      · injection hc with hc; exact h1 hc
    split at hg
    · split at hg
      · rename_i h1 h2; exact .inr (.inr ⟨hg, notσ hg (.inl h2)⟩)
      · cases hg
    · rename_i i hxi
      split at hg
      · rename_i h1; subst h1
        split at hg
        · rename_i h2; exact .inr (.inr ⟨hg, notσ hg (.inr h2)⟩)
        · injection hg with hg; exact .inr (.inl ⟨hg.symm, hxi⟩)
      · rename_i h1; injection hg with hg; exact .inl ⟨i, h1, hxi, hg.symm⟩
  have hZat : ∀ g i, i ≠ 0 → X'.ow g = some i → Z.ow g = some (rho σ id i) := fun g i h1 h2 => by
    show (match X'.ow g with | none => _ | some i => _) = _
    rw [h2]; simp [h1]
  have hcb : ∀ g s, Y.ow g = some s → s ∉ σ → calleeOw Y σ by_ g = none ∨ calleeOw Y σ by_ g = some 0 := fun g s hy hs => by
    simp only [calleeOw, hy, hs, if_false]
    by_cases hb : s ≠ 0 ∧ by_ s
    · left; rw [if_pos hb]
    · right; rw [if_neg hb]
  have hsame : Same Y Z := by
    refine ⟨fun r hr => .inl hr, hs'.os, hs'.tape, hs'.output, hs'.size, fun g hg hn => ?_, fun r hr e' he' => ?_, fun g hg => ?_, fun r hr hne g hg => ?_⟩
    · have hc : calleeOw Y σ by_ g = none := cow_none hh hm hnd h0 hn
      exact ⟨by rw [hZow g (.inl hc) hg, hn], (hwY g hg (.inl hc)).2⟩
    · rcases himg r with ⟨i, h1, h2, rfl⟩ | h1
      · have hi1 := rold i h1 h2 hr
        have hgi : He'[i - 1]? = some He'[i - 1] := List.getElem?_eq_getElem (by omega)
        rw [hat i _ h1 hgi] at he'
        obtain ⟨hlv, he'⟩ := live_map he'
        subst he'
        obtain ⟨e, q1, q2⟩ := hs'.ent i (by show i < He.length + 1; omega) _ (by rw [hH']; exact idxE_some.2 ⟨h1, hgi, hlv⟩)
        obtain ⟨_, q3, _⟩ := idxE_some.1 q1
        obtain ⟨e0, q4, q5, _⟩ := sig_lt hh hm hnd h0 (rlo i h1 hi1)
        rw [q3] at q4; injection q4 with q4; subst q4
        exact ⟨_, q5, by rw [renE_shape, renE_shape]; exact q2⟩
      · rw [hoth r h1] at he'; exact ⟨e', he', rfl⟩
    · have hc := hcb g 0 hg h0
      have hgl := (hh.lt g 0 hg).1
      exact ⟨by rw [hZow g hc hgl, hg], (hwY g hgl hc).2⟩
    · have hgl := (hh.lt g r hg).1
      by_cases hrs : r ∈ σ
      · obtain ⟨i, h1, h2, h3, rfl⟩ := hsig r hrs
        have hxi : calleeOw Y σ by_ g = some i := cow_at hh hm hnd h0 h1 h3 hg
        have hgi : He'[i - 1]? = some He'[i - 1] := List.getElem?_eq_getElem (by omega)
        have hlv := live_ne (hat i _ h1 hgi) hne
        obtain ⟨a, b⟩ := hs'.pin i (by show i < He.length + 1; omega) (by rw [hH', idxE_some.2 ⟨h1, hgi, hlv⟩]; simp) g hxi
        exact ⟨hZat g i h1 a, b⟩
      · have hc := hcb g r hg hrs
        refine ⟨by rw [hZow g hc hgl, hg], fun C t fr hC => ⟨C, ?_, rfl⟩⟩
        show X'.w.heap[g]? = _
        rw [(hwY g hgl hc).2, hC]
  -- what reads there reads here
  have fstab : xs.all noRef1 = true → Stab X'.ow X'.w Z.ow Z.w := fun hno g hg hn => by
    refine ⟨?_, rfl⟩
    show (match X'.ow g with | none => if calleeOw Y σ by_ g = none then Y.ow g else none | some i => _) = none
    rw [hn]
    simp only
    split
    · rename_i hc
      cases hy : Y.ow g with
      | none => rfl
      | some s =>
        exfalso
        unfold calleeOw at hc
        rw [hy] at hc
        simp only at hc
        split at hc
        · cases hc
        · split at hc
          · rename_i hb
            obtain ⟨_, x, hx, hbx⟩ := hb
            exact noRef_byv hno x hx s hbx
          · cases hc
    · rfl
  have fhdr : ∀ i k n u, i ≠ 0 → Hdr X' i k n u → Hdr Z (rho σ id i) k n u := fun i k n u h1 h2 => by
    rcases h2 with h2 | ⟨g, c, C, t, fr, hv, hg, hr⟩
    · exact .inl h2
    · exact .inr ⟨g, c, C, t, fr, hv, hZat g i h1 hg, hr⟩
  have scop : ∀ r, (Nat.blt 0 r && Nat.ble r He'.length) = true → r ≠ 0 ∧ r ≤ He'.length := fun r hr => by
    simp only [Bool.and_eq_true] at hr
    have h1 : 0 < r := by have := hr.1; simp [Nat.blt] at this; omega
    exact ⟨by omega, Nat.le_of_ble_eq_true hr.2⟩
  have f0 : ∀ c u, scope0 He'.length c = true → (xs.all noRef1 = true ∨ own0 c) → RS0 X' c u → RS0 Z (ren0 (rho σ id) c) u := fun c u hc ho h => by
    cases c
    case ref j =>
      obtain ⟨h1, h2⟩ := scop j hc
      obtain ⟨q1, q2, q3⟩ := h
      refine ⟨rlt j h1 h2, q2, fun k es he => ?_⟩
      have hgj : He'[j - 1]? = some He'[j - 1] := List.getElem?_eq_getElem (by omega)
      rw [hat j _ h1 hgj] at he
      obtain ⟨hlv, he⟩ := live_map he
      cases hej : He'[j - 1] with
      | box cs => rw [hej] at he; simp [renE] at he
      | row k' es' =>
        rw [hej] at he hlv; simp only [renE] at he; injection he with a b; subst a b
        exact fhdr j _ _ _ h1 (q3 _ _ (by rw [hH']; exact idxE_some.2 ⟨h1, by rw [hgj, hej], hlv⟩))
    case ptr j a b =>
      obtain ⟨h1, h2⟩ := scop j hc
      obtain ⟨q1, q2, q3⟩ := h
      refine ⟨rlt j h1 h2, q2, fun e he => ?_⟩
      have hgj : He'[j - 1]? = some He'[j - 1] := List.getElem?_eq_getElem (by omega)
      rw [hat j _ h1 hgj] at he
      obtain ⟨hlv, he⟩ := live_map he
      subst he
      obtain ⟨g, hg, hv⟩ := q3 _ (by rw [hH']; exact idxE_some.2 ⟨h1, hgj, hlv⟩)
      exact ⟨g, hZat g j h1 hg, by rw [renE_wd]; exact hv⟩
    case rptr cs j =>
      rcases ho with ho | ho
      · obtain ⟨g, o, C, t, fr, hv, hg, hC, hr⟩ := h
        exact ⟨g, o, C, t, fr, hv, (fstab ho g (lt_of_heap hC) hg).1, hC, RL.mono (fstab ho) hr⟩
      · exact ho.elim
    case any => trivial
    case fnp f j => cases hc
    case fnq f j s => cases hc
    all_goals
      rcases ho with ho | ho
      · exact RV.mono (fstab ho) h
      · exact own_rv (ow := X'.ow) (w := X'.w) ho h
  have fl : ∀ cs us, cs.all (scope0 He'.length) = true → (xs.all noRef1 = true ∨ ∀ c ∈ cs, own0 c) → RSl X' cs us → RSl Z (cs.map (ren0 (rho σ id))) us := by
    intro cs
    induction cs with
    | nil => intro us _ _ h; exact h
    | cons c cs ih =>
      rintro us hc ho ⟨u, us', hu, q1, q2, q3⟩
      simp only [List.all_cons, Bool.and_eq_true] at hc
      exact ⟨u, us', hu, q1, f0 c u hc.1 (ho.imp _root_.id fun h => h c (by simp)) q2, ih us' hc.2 (ho.imp _root_.id fun h c hc => h c (by simp [hc])) q3⟩
  have f1 : ∀ c u, scope1 He'.length c = true → (xs.all noRef1 = true ∨ own1 c) → RS1 X' c u → RS1 Z (ren1 (rho σ id) c) u := fun c u hc ho h => by
    cases c
    case agg cs => obtain ⟨us, hu, hl⟩ := h; exact ⟨us, hu, fl cs _ hc ho hl⟩
    case ref j => exact f0 (.ref j) u hc ho h
    case ptr j a b => exact f0 (.ptr j a b) u hc ho h
    case rptr cs j => exact f0 (.rptr cs j) u hc ho h
    case fnp f j => exact f0 (.fnp f j) u hc ho h
    case fnq f j s => exact f0 (.fnq f j s) u hc ho h
    case sl k es => exact f0 (.sl k es) u hc ho h
    case any => trivial
    case int k n => exact f0 (.int k n) u hc ho h
    case bool b => exact f0 (.bool b) u hc ho h
    case str s => exact f0 (.str s) u hc ho h
    case val v => exact f0 (.val v) u hc ho h
    case tup cs => exact f0 (.tup cs) u hc ho h
  have ft : ∀ cs us, cs.all (scope1 He'.length) = true → (xs.all noRef1 = true ∨ ∀ c ∈ cs, own1 c) → RSt X' cs us → RSt Z (cs.map (ren1 (rho σ id))) us := by
    intro cs
    induction cs with
    | nil => intro us _ _ h; exact h
    | cons c cs ih =>
      rintro us hc ho ⟨u, us', hu, q2, q3⟩
      simp only [List.all_cons, Bool.and_eq_true] at hc
      exact ⟨u, us', hu, f1 c u hc.1 (ho.imp _root_.id fun h => h c (by simp)) q2, ih us' hc.2 (ho.imp _root_.id fun h c hc => h c (by simp [hc])) q3⟩
  have f2 : RS Z (ren2 (rho σ id) r) v := by
    have ho : xs.all noRef1 = true ∨ own2 r := hown.imp _root_.id fun h => h.1
    cases r with
    | tup cs => obtain ⟨us, hu, hl⟩ := hv'; exact ⟨us, hu, ft cs _ hsc1 ho hl⟩
    | int k n => exact (f1 (.int k n) v hsc1 ho hv').rs
    | bool b => exact (f1 (.bool b) v hsc1 ho hv').rs
    | str s => exact (f1 (.str s) v hsc1 ho hv').rs
    | val x => exact (f1 (.val x) v hsc1 ho hv').rs
    | agg cs => exact (f1 (.agg cs) v hsc1 ho hv').rs
    | sl k es => exact (f1 (.sl k es) v hsc1 ho hv').rs
    | ref j => exact (f1 (.ref j) v hsc1 ho hv').rs
    | ptr j a b => exact (f1 (.ptr j a b) v hsc1 ho hv').rs
    | rptr cs j => exact (f1 (.rptr cs j) v hsc1 ho hv').rs
    | fnp f j => exact (f1 (.fnp f j) v hsc1 ho hv').rs
    | fnq f j s => exact (f1 (.fnq f j s) v hsc1 ho hv').rs
    | any => trivial
  refine ⟨_, _, Z, hk, rfl, rfl, rfl, hsame, ⟨fun g g' r hr h1 h2 => ?_, fun g r hg => ?_, fun r e he => ?_, ?_, .inl hh.pos, hh.gl.mono hsame.stab⟩, f2⟩
  · have hr0 : r ≠ 0 := fun h => by
      subst h
      rw [hoth 0 (fun i h1 h2 => rne i h1 h2), hh.zero] at hr; exact hr rfl
    have notimg : ∀ r, Y.us r → r ∉ σ → ∀ i, i ≠ 0 → i ≤ He'.length → rho σ id i ≠ r := fun r h1 h2 i h3 h4 h5 => by
      have := rold i h3 h4 (h5 ▸ h1)
      exact h2 (h5 ▸ List.mem_of_getElem? (rlo i h3 this))
    have hlti : ∀ g i, X'.ow g = some i → i ≤ He'.length := fun g i h => by have h2 := (hr'.lt g i h).2; rw [hn'] at h2; exact Nat.le_of_lt_succ h2
    rcases hZinv g r h1 with ⟨i, a1, a2, a3⟩ | ⟨a1, _⟩ | ⟨a1, a2⟩
    · rcases hZinv g' r h2 with ⟨j, b1, b2, b3⟩ | ⟨b1, _⟩ | ⟨b1, b2⟩
      · have := rinj i j a1 b1 (hlti g i a2) (hlti g' j b2) (a3.symm.trans b3)
        subst this
        refine hr'.inj g g' i ?_ a2 b2
        have hl2 := hlti g i a2
        have hgi : He'[i - 1]? = some He'[i - 1] := List.getElem?_eq_getElem (by omega)
        have hlv := live_ne (hat i _ a1 hgi) (a3 ▸ hr)
        rw [hH', idxE_some.2 ⟨a1, hgi, hlv⟩]; simp
      · exact absurd b1 hr0
      · exact absurd a3.symm (notimg r (hh.lt _ _ b1).2 b2 i a1 (hlti g i a2))
    · exact absurd a1 hr0
    · rcases hZinv g' r h2 with ⟨j, b1, b2, b3⟩ | ⟨b1, _⟩ | ⟨b1, b2⟩
      · exact absurd b3.symm (notimg r (hh.lt _ _ a1).2 a2 j b1 (hlti g' j b2))
      · exact absurd b1 hr0
      · rw [hoth r (notimg r (hh.lt _ _ a1).2 a2)] at hr
        exact hh.inj g g' r hr a1 b1
  · rcases hZinv g r hg with ⟨i, a1, a2, a3⟩ | ⟨a1, a2⟩ | ⟨a1, a2⟩
    · obtain ⟨p1, p2⟩ := hr'.lt g i a2
      exact ⟨p1, by rw [a3]; exact rlt i a1 (by rw [hn'] at p2; exact Nat.le_of_lt_succ p2)⟩
    · exact ⟨(hr'.lt g 0 a2).1, .inl (a1 ▸ hh.pos)⟩
    · obtain ⟨p1, p2⟩ := hh.lt g r a1
      exact ⟨Nat.lt_of_lt_of_le p1 hs'.size, .inl p2⟩
  · rcases himg r with ⟨i, h1, h2, rfl⟩ | h1
    · have hgi : He'[i - 1]? = some He'[i - 1] := List.getElem?_eq_getElem (by omega)
      rw [hat i _ h1 hgi] at he
      obtain ⟨hlv, he⟩ := live_map he
      subst he
      refine ⟨rlt i h1 h2, ?_⟩
      have hnode := (hr'.node i _ (by rw [hH']; exact idxE_some.2 ⟨h1, hgi, hlv⟩)).2
      have hmem : He'[i - 1] ∈ He' := List.getElem_mem _
      have hsc := List.all_eq_true.1 hsc2 _ hmem
      have ho : xs.all noRef1 = true ∨ ownE He'[i - 1] := hown.imp _root_.id fun h => h.2 _ hmem
      generalize He'[i - 1] = e at hnode hsc ho
      cases e with
      | box cs =>
        obtain ⟨g, C, t, fr, hg, hC, hf, hrl⟩ := hnode
        exact ⟨g, C, t, fr, hZat g i h1 hg, hC, hf, fl cs _ hsc ho hrl⟩
      | row k es =>
        refine ⟨hnode.1, hnode.2.imp _root_.id ?_⟩
        rintro ⟨g, C, t, fr, hg, hC, hf, hrl⟩
        refine ⟨g, C, t, fr, hZat g i h1 hg, hC, hf, ?_⟩
        rcases ho with ho | ho
        · exact RE.mono (fstab ho) hrl
        · exact own_re ho hrl
    · rw [hoth r h1] at he
      obtain ⟨p1, p2⟩ := hh.node r e he
      refine ⟨.inl p1, p2.mono hsame p1 (by rw [hoth r h1, he]; simp) (fun g hg => ?_)⟩
      have hrs : r ∉ σ := fun hr => by
        obtain ⟨i, q1, q2, _, q3⟩ := hsig r hr
        exact h1 i q1 (by omega) q3
      exact (hwY g (hh.lt g r hg).1 (hcb g r hg hrs)).2
  · rw [hoth 0 (fun i h1 h2 => rne i h1 h2)]; exact hh.zero
/-! ### rows that are given up by a call -/
def frz0 (gs : List Nat) (H : Hp) : T → T
  | .ref r => bif gs.contains r then (match H r with
    | some (.row k es) => .sl k es
    | _ => .ref r) else .ref r
  | x => x
def frz1 (gs : List Nat) (H : Hp) : T → T
  | .agg cs => .agg (cs.map (frz0 gs H))
  | x => frz0 gs H x
/-- A call; the rows gs are given up before it. -/
def CallP (P : Program) (f : FuncId) (xs : List T) (H : Hp) (id : Nat) (K : List Nat → Kon) : Prop :=
  ∃ gs, CallP0 P f (xs.map (frz1 gs H)) (updL H (goneU gs)) id fun σ x u => K σ x (goneU gs ++ u)
theorem frz0_sound {X : Cx} (hh : HR X) (gs : List Nat) {x : T} {v : Value} (hx : RS0 X x v) : RS0 (X.dropL gs) (frz0 gs X.H x) v := by
  cases x
  case ref r =>
    simp only [frz0]
    cases hg : gs.contains r with
    | false => exact hx.mono (same_dropL X gs)
    | true =>
      simp only [cond_true]
      split
      · rename_i k es hH
        have hm : r ∈ gs := by simpa using hg
        exact (ref_sl hh (same_dropL X gs).stab hx hH (fun g h => dropL_ow (hh.ne hH) gs hm h) (fun g _ => by rw [dropL_w])).rs0
      · exact hx.mono (same_dropL X gs)
  all_goals exact hx.mono (same_dropL X gs)
theorem frz1_sound {X : Cx} (hh : HR X) (gs : List Nat) {x : T} {v : Value} (hx : RS X x v) : RS (X.dropL gs) (frz1 gs X.H x) v := by
  cases x
  case agg cs =>
    obtain ⟨vs, hv, hl⟩ := hx
    refine ⟨vs, hv, ?_⟩
    clear hv
    generalize vs.toList = us at hl
    induction cs generalizing us with
    | nil => exact hl
    | cons c cs ih =>
      obtain ⟨u, us', hu, q1, q2, q3⟩ := hl
      exact ⟨u, us', hu, q1, frz0_sound hh gs q2, ih us' q3⟩
  case ref r =>
    have h0 : RS0 X (.ref r) v := hx
    have h1 := frz0_sound hh gs h0
    have hs : frz1 gs X.H (.ref r) = frz0 gs X.H (.ref r) := rfl
    rw [hs]
    have key : ∀ y : T, (∃ k es, y = .sl k es) ∨ (∃ r, y = .ref r) → RS0 (X.dropL gs) y v → RS (X.dropL gs) y v := by
      rintro y (⟨k, es, rfl⟩ | ⟨r, rfl⟩) h
      · exact h
      · exact h
    refine key _ ?_ h1
    simp only [frz0]
    cases gs.contains r with
    | false => exact .inr ⟨r, rfl⟩
    | true =>
      simp only [cond_true]
      split
      · exact .inl ⟨_, _, rfl⟩
      · exact .inr ⟨r, rfl⟩
  all_goals exact hx.mono (same_dropL X gs)
theorem frz_args {X : Cx} (hh : HR X) (gs : List Nat) : ∀ {xs : List T} {vs : List Value}, Args X xs vs → Args (X.dropL gs) (xs.map (frz1 gs X.H)) vs
  | [], vs, h => h
  | x :: xs, vs, ⟨u, us, hu, h1, h2⟩ => ⟨u, us, hu, frz1_sound hh gs h1, frz_args hh gs h2⟩
theorem updL_app : ∀ (u v : Upd) (H : Hp), updL H (u ++ v) = updL (updL H u) v
  | [], v, H => rfl
  | (r, e) :: u, v, H => updL_app u v (updE H r e)
theorem call_sound {P : Program} {Y : Cx} {id : Nat} {K : Kon} (hh : HR Y) (hi : Fresh Y id) {f : FuncId} {xs : List T} {vs : List Value} (ha : Args Y xs vs) (h : CallP P f xs Y.H id fun _ => K) :
    Calls P f vs.toArray Y.w fun e w' => ∃ v, e = .returned v ∧ Out Y id K v w' := by
  obtain ⟨gs, h⟩ := h
  have hc := call_sound0 (K := fun x u => K x (goneU gs ++ u)) (hh.dropL gs) (dropL_fresh gs hi) (frz_args hh gs ha) (by rw [dropL_H]; exact h)
  rw [dropL_w] at hc
  refine hc.mono ?_
  rintro e w' ⟨v, he, x, u, X', hk, hw, hu, hH, hs, hr, hv⟩
  exact ⟨v, he, x, _, X', hk, hw, by rw [hu, dropL_win], by rw [hH, dropL_H, updL_app], (same_dropL Y gs).trans hs, hr, hv⟩
end Go.Proofs.YtkgfidphcpklhaaDoor
