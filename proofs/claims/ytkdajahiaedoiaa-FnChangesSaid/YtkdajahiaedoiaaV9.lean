/- One operation, told by content: rows built. -/
import Derived.Test.YtkdajahiaedoiaaV8
import Derived.Laws.MakeOwn
namespace Go.Proofs.Ytkdajahiaedoiaa
open Go.RowKit Pl
set_option linter.unusedVariables false
set_option linter.unusedSectionVars false

def Cx.dropL (X : Cx) : List Nat → Cx
  | [] => X
  | r :: l => (X.drop r).dropL l
theorem dropL_H (X : Cx) : ∀ (l : List Nat), (X.dropL l).H = updL X.H (goneU l)
  | [] => rfl
  | r :: l => dropL_H (X.drop r) l
theorem dropL_w (X : Cx) : ∀ (l : List Nat), (X.dropL l).w = X.w
  | [] => rfl
  | r :: l => dropL_w (X.drop r) l
theorem dropL_nx (X : Cx) : ∀ (l : List Nat), (X.dropL l).us = X.us
  | [] => rfl
  | r :: l => dropL_nx (X.drop r) l
theorem dropL_fresh {X : Cx} {id : Nat} (l : List Nat) (h : Fresh X id) : Fresh (X.dropL l) id := fun r h1 h2 h3 => h r h1 h2 (by rwa [dropL_nx] at h3)
theorem dropL_win (X : Cx) (id : Nat) (l : List Nat) : (X.dropL l).win id = X.win id := by unfold Cx.win; rw [dropL_nx]
theorem same_dropL (X : Cx) : ∀ (l : List Nat), Same X (X.dropL l)
  | [] => .refl X
  | r :: l => (same_drop X r).trans (same_dropL (X.drop r) l)
theorem HR.dropL {X : Cx} (hh : HR X) : ∀ (l : List Nat), HR (X.dropL l)
  | [] => hh
  | r :: l => HR.dropL (hh.drop r) l
theorem drop_ow {X : Cx} {r g : Nat} (h : X.ow g = none) : (X.drop r).ow g = none := by
  show (if r ≠ 0 ∧ X.ow g = some r then none else X.ow g) = none
  rw [h]; simp
theorem dropL_none {X : Cx} {g : Nat} : ∀ (l : List Nat), X.ow g = none → (X.dropL l).ow g = none
  | [], h => h
  | r :: l, h => dropL_none l (drop_ow h)
theorem dropL_ow {X : Cx} {r g : Nat} (hr : r ≠ 0) : ∀ (l : List Nat), r ∈ l → X.ow g = some r → (X.dropL l).ow g = none
  | r' :: l, hm, h => by
    by_cases he : r' = r
    · subst he
      exact dropL_none l (drop_own hr h)
    · cases hm with
      | head => exact absurd rfl he
      | tail _ hm => exact dropL_ow hr l hm (by show (if r' ≠ 0 ∧ X.ow g = some r' then none else X.ow g) = some r; rw [h, if_neg (fun e => he (by have := e.2; injection this with e; exact e.symm))])
/-- A row that was given up is read still. -/
theorem ref_sl {X X' : Cx} (hh : HR X) (hs : Stab X.ow X.w X'.ow X'.w) {r k : Nat} {es : List (List T)} {u : Value} (hr : RS0 X (.ref r) u) (hH : X.H r = some (.row k es)) (hn : ∀ g, X.ow g = some r → X'.ow g = none) (hw : ∀ g, X.ow g = some r → X'.w.heap[g]? = X.w.heap[g]?) : RV X'.ow X'.w (.sl k es) u := by
  obtain ⟨_, _, h3⟩ := hr
  simp only [RV]
  rcases h3 _ _ hH with ⟨rfl, h0⟩ | ⟨g, c, C, t, fr, rfl, hg, hC, _, _, hle, _⟩
  · exact ⟨none, 0, by rw [h0]; rfl, by rw [h0]; exact Nat.le_refl _, .inl (List.eq_nil_of_length_eq_zero h0)⟩
  · refine ⟨_, c, rfl, hle, ?_⟩
    obtain ⟨_, hnd⟩ := (hh.node _ _ hH).2
    rcases hnd with hnd | ⟨g', C', t', fr', hg', hC', hf, hl⟩
    · exact .inl hnd
    · obtain rfl := hh.inj' hH hg hg'
      exact .inr ⟨g, 0, C', t', fr', rfl, hn g hg, (hw g hg).trans hC', RE.mono hs (by simpa using hl)⟩
theorem frz_sound {X : Cx} (hh : HR X) {gone : List Nat} : ∀ {xs ys : List T} {rs : List Nat} {us : List Value}, frz X.H xs = some (ys, rs) → RSl X xs us → (∀ r ∈ rs, r ∈ gone) → RL (X.dropL gone).ow (X.dropL gone).w ys us
  | [], ys, rs, us, hf, h, hg => by
    cases h
    simp [frz] at hf
    obtain ⟨rfl, rfl⟩ := hf
    simp [RL]
  | c :: xs, ys, rs, us, hf, ⟨u, us', hu, h1, h2, h3⟩, hg => by
    subst hu
    simp only [frz] at hf
    split at hf <;> try (cases hf; done)
    rename_i ds rs0 hds
    have hs := same_dropL X gone
    have rest : (∀ r ∈ rs0, r ∈ gone) → RL (X.dropL gone).ow (X.dropL gone).w ds us' := frz_sound hh hds h3
    cases c <;> simp only at hf <;> try (cases hf; done)
    case ref r =>
      split at hf <;> try (cases hf; done)
      rename_i k es hH
      injection hf with hf; injection hf with a b; subst a b
      simp only [RL]
      exact ⟨u, us', rfl, ref_sl hh hs.stab h2 hH (fun g hg' => dropL_ow (hh.ne hH) gone (hg r (by simp)) hg') (fun g _ => by rw [dropL_w]), rest (fun r' hr' => hg r' (by simp [hr']))⟩
    all_goals
      injection hf with hf; injection hf with a b; subst a b
      simp only [RL]
      exact ⟨u, us', rfl, RV.mono hs.stab h2, rest hg⟩
theorem Out.dropped {X : Cx} {id : Nat} {K : Kon} (hh : HR X) (hi : Fresh X id) {x : T} {v : Value} {r : Nat} (h : K x [(r, none)]) (hx : RS (X.drop r) x v) : Out X id K v X.w :=
  ⟨x, [(r, none)], { X.drop r with us := X.win id }, h, rfl, rfl, rfl, (same_drop X r).trans (same_nx (X.drop r) (fun _ h => .inl h) _ rfl rfl rfl rfl), (hh.drop r).nx (fun _ h => .inl h) _ rfl rfl rfl rfl, hx.mono (same_nx (X.drop r) (fun _ h => .inl h) _ rfl rfl rfl rfl)⟩
theorem ovl_full {α : Type} {e ys : List α} (h : ys.length = e.length) : ovl e 0 ys = ys := by
  rw [ovl_eq ys e 0 (by omega), h]; simp
theorem fillE_gone (H : Hp) (sz : Nat) : ∀ {l : List (Nat × T)} {es es' : List (List T)} {g g' : List Nat}, fillE H sz es g l = some (es', g') → ∀ r ∈ g, r ∈ g'
  | [], es, es', g, g', h => by simp [fillE] at h; obtain ⟨_, rfl⟩ := h; exact fun r hr => hr
  | (i, x) :: l, es, es', g, g', h => by
    simp only [fillE] at h
    split at h <;> try (cases h; done)
    split at h <;> try (cases h; done)
    rename_i ys rs _
    cases hb : (Nat.beq ys.length sz && Nat.blt i es.length) with
    | false => rw [hb] at h; cases h
    | true => rw [hb] at h; exact fun r hr => fillE_gone H sz h r (by simp [hr])
theorem fillE_sound {X : Cx} (hh : HR X) {sz : Nat} {gone : List Nat} : ∀ {l : List (Nat × T)} {vl : List (Nat × Value)} {es es' : List (List T)} {g0 : List Nat} {A : Array Value},
    PartsOf X l vl → RE (X.dropL gone).ow (X.dropL gone).w sz es A.toList → A.size = es.length * sz → fillE X.H sz es g0 l = some (es', gone) → ∃ A', Instr.fill (fun i => some (i * sz, sz)) A vl = some A' ∧ RE (X.dropL gone).ow (X.dropL gone).w sz es' A'.toList ∧ A'.size = A.size ∧ es'.length = es.length
  | [], _, es, es', g0, A, h, hc, hA, hf => by
    cases h
    simp [fillE] at hf; obtain ⟨rfl, _⟩ := hf
    exact ⟨A, rfl, hc, rfl, rfl⟩
  | (i, x) :: l, _, es, es', g0, A, ⟨v, us, hv, h1, h2⟩, hc, hA, hf => by
    subst hv
    simp only [fillE] at hf
    split at hf <;> try (cases hf; done)
    rename_i xs hcx
    split at hf <;> try (cases hf; done)
    rename_i ys rs hfz
    cases hb : (Nat.beq ys.length sz && Nat.blt i es.length) with
    | false => rw [hb] at hf; cases hf
    | true =>
      rw [hb] at hf
      simp only [Bool.and_eq_true] at hb
      have e1 := Nat.eq_of_beq_eq_true hb.1
      have e2 : i < es.length := by have h5 := hb.2; simp [Nat.blt] at h5; omega
      have hcs := cells_rs h1 hcx
      have hrl := frz_sound hh hfz hcs (gone := gone) (fun r hr => fillE_gone X.H sz hf r (by simp [hr]))
      have hlen : v.cells.size = sz := by rw [← e1, ← hrl.len]; simp
      have hfit : i * sz + sz ≤ A.size := by
        rw [hA]
        calc i * sz + sz = (i + 1) * sz := by rw [Nat.add_mul]; omega
          _ ≤ es.length * sz := Nat.mul_le_mul_right _ e2
      have hcond : ¬ (v.cells.size ≠ sz || decide (i * sz + v.cells.size > A.size)) = true := by simp [hlen]; omega
      have hel : es[i].length = sz := hc.elen _ (List.getElem_mem e2)
      have hre : RE (X.dropL gone).ow (X.dropL gone).w sz (es.set i ys) (v.cells.zipIdx.foldl (fun cs (p : Value × Nat) => cs.setIfInBounds (i * sz + p.2) p.1) A).toList := by
        rw [← Array.foldl_toList, Array.toList_zipIdx, foldl_ovl, Nat.add_zero]
        have := RE.ovl (e := es[i]) (xs := ys) 0 (es := es) (i := i) (by rw [set_same (List.getElem?_eq_getElem e2)]; exact hc) e2 hrl (by omega)
        rw [ovl_full (by omega)] at this
        simpa using this
      have hsz : (v.cells.zipIdx.foldl (fun cs (p : Value × Nat) => cs.setIfInBounds (i * sz + p.2) p.1) A).size = A.size := by
        rw [← Array.length_toList, ← Array.foldl_toList, Array.toList_zipIdx, foldl_ovl, ovl_length]; simp
      obtain ⟨A', h3, h4, h5, h6⟩ := fillE_sound hh h2 hre (by rw [hsz, hA]; simp) hf
      refine ⟨A', ?_, h4, by rw [h5, hsz], by rw [h6]; simp⟩
      simp only [Instr.fill]
      rw [if_neg (by simpa using hcond)]
      exact h3
theorem range_mod (z : List Value) : ∀ (n : Nat), (List.range (n * z.length)).map (fun i => z.getD (i % z.length) undef) = (List.replicate n z).flatten
  | 0 => by simp
  | n + 1 => by
    have hk : (n + 1) * z.length = z.length + n * z.length := by rw [Nat.add_mul]; omega
    rw [hk, List.range_add, List.map_append, List.replicate_succ, List.flatten_cons, ← range_mod z n]
    congr 1
    · apply List.ext_getElem
      · simp
      · intro i h1 h2
        simp at h1
        simp [Nat.mod_eq_of_lt h1, List.getD, List.getElem?_eq_getElem h1]
    · rw [List.map_map]
      apply List.map_congr_left
      intro i _
      simp
theorem re_replicate {ow : Own} {w : World} {zs : List T} {vs r : List Value} (h : RL ow w zs vs) : ∀ (n : Nat), RE ow w zs.length (List.replicate n zs) ((List.replicate n vs).flatten ++ r)
  | 0 => by simp [RE]
  | n + 1 => by
    simp only [List.replicate_succ, RE, List.flatten_cons]
    exact ⟨vs, (List.replicate n vs).flatten ++ r, by simp, h.len, h, re_replicate h n⟩
theorem zeros_row (ow : Own) (w : World) {P : Program} {t : TypeId} {y : Ty} (hy : TyOk P t y) {z : Value} (hz : z.cells.toList = y.zero.map zv) (n : Nat) (hsz : y.sz ≠ 0) :
    RE ow w y.sz (List.replicate n y.zero) ((Array.range (n * y.sz)).map (fun i => z.cells[i % z.cells.size]!)).toList := by
  have hl : z.cells.toList.length = y.sz := by rw [hz, List.length_map, hy.len]
  have hl2 : z.cells.size = y.sz := by simpa using hl
  have h1 : ((Array.range (n * y.sz)).map (fun i => z.cells[i % z.cells.size]!)).toList = (List.replicate n z.cells.toList).flatten := by
    rw [← range_mod, hl]
    simp only [Array.toList_map, Array.toList_range]
    apply List.map_congr_left
    intro i _
    have : i % z.cells.size < z.cells.size := Nat.mod_lt _ (by omega)
    rw [getElem!_pos z.cells _ this]
    simp [List.getD, hl2]
    rw [Array.getElem?_eq_getElem (by rw [← hl2]; exact this)]
    simp [hl2]
  rw [h1, ← hy.len]
  have := re_replicate (r := []) (show RL ow w y.zero z.cells.toList by rw [hz]; exact zok_rl hy.zs) n
  simpa using this
end Go.Proofs.Ytkdajahiaedoiaa
