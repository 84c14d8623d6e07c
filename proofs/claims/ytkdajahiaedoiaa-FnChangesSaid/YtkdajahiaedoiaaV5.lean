/- One operation, told by content: loads, stores, indexes, sums. -/
import Derived.Test.YtkdajahiaedoiaaV4
namespace Go.Proofs.Ytkdajahiaedoiaa
open Go.RowKit Pl
set_option linter.unusedVariables false
set_option linter.unusedSectionVars false

theorem add_off (g o j : Nat) : (⟨g, o, none⟩ : Addr).add j = ⟨g, o + j, none⟩ := by unfold Addr.add; split <;> simp_all
theorem run_load1 {P : Program} {t : TypeId} {y : Ty} (hy : TyOk P t y) (ha : y.d.agg = false) (w : World) {g o : Nat} {C : Array Value} {u : TypeId} {fr : Nat × Nat} (hC : w.heap[g]? = some (.cells C u fr)) {v : Value} (hv : C[o]? = some v) :
    (Instr.loadAt t (.pointer (some ⟨g, o, none⟩))).run P w = .ok v w := by
  have : w.cell? ⟨g, o, none⟩ = some v := by simp [World.cell?, hC, hv]
  simp [Instr.loadAt, Instr.sureAddr, loadVar, agg_of hy, ha, this]
theorem run_loadA {P : Program} {t : TypeId} {y : Ty} (hy : TyOk P t y) (ha : y.d.agg = true) (w : World) {g o : Nat} {C : Array Value} {u : TypeId} {fr : Nat × Nat} (hC : w.heap[g]? = some (.cells C u fr)) {vs : List Value}
    (hvs : ∀ j v, vs[j]? = some v → C[o + j]? = some v) (hl : vs.length = y.sz) : (Instr.loadAt t (.pointer (some ⟨g, o, none⟩))).run P w = .ok (.agg vs.toArray) w := by
  have := run_loadCells_list (P := P) w ⟨g, o, none⟩ vs (fun j v hv => by rw [add_off]; simp [World.cell?, hC, hvs j v hv])
  rw [hl] at this
  simp [Instr.loadAt, Instr.sureAddr, loadVar, agg_of hy, ha, size_of hy, this]
theorem drop_take_get {α : Type} {l : List α} {o n j : Nat} {v : α} (h : ((l.drop o).take n)[j]? = some v) : l[o + j]? = some v := by
  rw [List.getElem?_take] at h
  split at h
  · rwa [List.getElem?_drop] at h
  · cases h
theorem RS0.cell {X : Cx} {c : T} {u : Value} (h : RS0 X c u) : RS X c u := h.rs
/-- What is loaded out of a list of cells. -/
theorem load_cells {P : Program} {X : Cx} {id : Nat} {K : Kon} (hh : HR X) (hi : Fresh X id) {t : TypeId} {y : Ty} (hy : TyOk P t y) {g o j : Nat} {C : Array Value} {u : TypeId} {fr : Nat × Nat} (hC : X.w.heap[g]? = some (.cells C u fr))
    {cs : List T} {vs : List Value} (hl : RSl X cs vs) (hvs : ∀ j v, vs[j]? = some v → C[o + j]? = some v) (h : loadT y cs j fun c => K c []) : Ran P X id K (do pure (.value (← Instr.loadAt t (.pointer (some ⟨g, o + j, none⟩))))) := by
  unfold loadT at h
  cases ha : y.d.agg with
  | true =>
    rw [ha] at h
    obtain ⟨xs, hx, hlen, hk⟩ : ∃ xs, (cs.drop j).take y.sz = xs ∧ xs.length = y.sz ∧ K (.agg xs) [] := ⟨_, rfl, forceSp_eq h⟩
    have hr := (hl.drop j).take y.sz
    rw [hx] at hr
    refine Ran.value (run_loadA hy ha X.w hC (vs := (vs.drop j).take y.sz) (fun m v hm => ?_) (by rw [hr.len, hlen])) (Out.same hh hi hk ⟨_, rfl, by simpa using hr⟩)
    rw [Nat.add_assoc]; exact hvs _ _ (drop_take_get hm)
  | false =>
    rw [ha] at h
    obtain ⟨c, hc, hk⟩ := h
    obtain ⟨v, hv, _, hx⟩ := hl.get hc
    exact Ran.value (run_load1 hy ha X.w hC (hvs _ _ hv)) (Out.same hh hi (forceT_eq (K := fun c => K c []) hk) hx.rs)

theorem set_same {α : Type} {l : List α} {i : Nat} {a : α} (h : l[i]? = some a) : l.set i a = l := by
  apply List.ext_getElem?
  intro m
  rw [List.getElem?_set]
  split
  · rename_i hm; subst hm
    split
    · exact h.symm
    · rename_i hn; rw [List.getElem?_eq_none (by omega)]
  · rfl
theorem flat_rl {X : Cx} : ∀ {xs : List T} {us : List Value}, RSl X xs us → xs.all (fun c => match c with | .ref _ => false | .ptr _ _ _ => false | .rptr _ _ => false | .any => false | .agg _ => false | .tup _ => false | _ => true) = true → RL X.ow X.w xs us
  | [], _, h, _ => by cases h; simp [RL]
  | c :: xs, _, ⟨u0, us, hv, h1, h2, h3⟩, hf => by
    subst hv
    simp only [List.all_cons, Bool.and_eq_true] at hf
    simp only [RL]
    refine ⟨_, _, rfl, ?_, flat_rl h3 hf.2⟩
    cases c <;> first | exact h2 | (simp at hf)
section
variable {P : Program} {tt : TT} (htt : TtOk P tt) {X : Cx} {id : Nat} {K : Kon} (hh : HR X) (hi : Fresh X id)
include htt hh hi

theorem eff_load {t : TypeId} {x : T} {v : Value} (hx : RS X x v) (h : Eff tt (.load t (.tmp 0)) 0 [x] X.H id K) : Ran P X id K (do pure (.value (← Instr.loadAt t v))) := by
  simp only [Eff] at h
  split at h <;> try exact h.elim
  rename_i y hy
  split at h <;> try exact h.elim
  · rename_i r i j
    obtain ⟨h1, _, h3⟩ := rs_ptr hx
    split at h <;> try exact h.elim
    · rename_i cs hH
      obtain ⟨rfl, h⟩ := h
      obtain ⟨g, hg, rfl⟩ := h3 _ hH
      obtain ⟨g', C, u, fr, hg', hC, hf, hl⟩ := (hh.node _ _ hH).2
      obtain rfl := hh.inj' hH hg hg'
      have := load_cells (P := P) hh hi (htt _ _ hy) (o := 0) hC hl (fun m v hm => by simpa using hm) h
      simpa [Ent.wd] using this
    · rename_i k es hH
      obtain ⟨e, he, h⟩ := h
      obtain ⟨g, hg, rfl⟩ := h3 _ hH
      obtain ⟨_, hn⟩ := (hh.node _ _ hH).2
      rcases hn with rfl | ⟨g', C, u, fr, hg', hC, hf, hl⟩
      · cases he
      · obtain rfl := hh.inj' hH hg hg'
        obtain ⟨hr, _⟩ := RE.get hl he
        exact load_cells (P := P) hh hi (htt _ _ hy) (o := i * k) hC hr.rsl (fun m v hm => by simpa using drop_take_get hm) h
  · rename_i c j
    obtain ⟨g, o, C, u, fr, rfl, hg, hC, hr⟩ := rs_rptr hx
    exact load_cells (P := P) hh hi (htt _ _ hy) hC hr.rsl (fun m v hm => by simpa using drop_take_get hm) h

theorem eff_store {t : TypeId} {p x : T} {v u : Value} (hp : RS X p v) (hx : RS X x u) (h : Eff tt (.store t (.tmp 0) (.tmp 1)) 0 [p, x] X.H id K) : Ran P X id K (do Instr.storeAt t v u; pure .skip) := by
  simp only [Eff] at h
  split at h <;> try exact h.elim
  rename_i y xs hy hc
  obtain ⟨hlen, h⟩ := h
  have hcs := cells_rs hx hc
  split at h <;> try exact h.elim
  rename_i r i j
  obtain ⟨h1, _, h3⟩ := rs_ptr hp
  have hsz : u.cells.toList.length = y.sz := by rw [hcs.len, hlen]
  have run : ∀ (g o : Nat) (C : Array Value) (tb : TypeId) (fr : Nat × Nat), X.w.heap[g]? = some (.cells C tb fr) → FreeR fr C.size → o + y.sz ≤ C.size →
      (Instr.storeAt t (.pointer (some ⟨g, o, none⟩)) u).run P X.w = .ok () { X.w with heap := X.w.heap.setIfInBounds g (.cells (ovl C.toList o u.cells.toList).toArray tb fr) } := fun g o C tb fr hC hf ho => by
    have := run_storeBlock (P := P) g o tb fr u.cells.toList 0 C X.w hC hf (by rw [hsz]; omega) hcs.one
    simp only [Nat.add_zero] at this
    have hsz2 : u.cells.size = y.sz := by simpa using hsz
    simp [Instr.storeAt, Instr.sureAddr, storeVar, size_of (htt _ _ hy), hsz2, this]
  split at h <;> try exact h.elim
  · rename_i cs hH
    obtain ⟨rfl, hb, h⟩ := h
    obtain ⟨g, hg, rfl⟩ := h3 _ hH
    obtain ⟨g', C, tb, fr, hg', hC, hf, hl⟩ := (hh.node _ _ hH).2
    obtain rfl := hh.inj' hH hg hg'
    have hCl : C.size = cs.length := by rw [← hl.len]; simp
    have e0 : 0 * (Ent.box cs).wd + j = j := by simp
    rw [e0]
    refine Ran.unit (run g j C tb fr hC hf (by omega)) (Out.put hh hi hH hg hC ?_ ?_ h fun hs hn => ⟨g, _, tb, fr, hg, hn, ?_, ?_⟩)
    · simp [Ent.shape, ovl_length]
    · simp [ovl_length]
    · simpa [ovl_length] using hf
    · exact RSl.ovl j (hl.mono hs) (hcs.mono hs)
  · rename_i k es hH
    obtain ⟨hflat, e, he, hb, h⟩ := h
    obtain ⟨g, hg, rfl⟩ := h3 _ hH
    obtain ⟨hk, hn⟩ := (hh.node _ _ hH).2
    rcases hn with rfl | ⟨g', C, tb, fr, hg', hC, hf, hl⟩
    · cases he
    · obtain rfl := hh.inj' hH hg hg'
      obtain ⟨_, hfit⟩ := RE.get hl he
      have hfit2 : i * k + j + y.sz ≤ C.size := by rw [Nat.add_mul] at hfit; simp at hfit; omega
      refine Ran.unit (run g (i * k + j) C tb fr hC hf hfit2) (Out.put hh hi hH hg hC ?_ ?_ h fun hs hn => ⟨hk, .inr ⟨g, _, tb, fr, hg, hn, ?_, ?_⟩⟩)
      · simp [Ent.shape]
      · simp [ovl_length]
      · simpa [ovl_length] using hf
      · have hes := set_same he
        have hrl := flat_rl hcs hflat
        have := RE.ovl (xs := xs) (e := e) j (es := es) (i := i) (by rw [hes]; exact RE.mono hs.stab hl) (List.getElem?_eq_some_iff.1 he).1 (RL.mono hs.stab hrl) (by omega)
        simpa using this

theorem eff_indexAddr {t : TypeId} {x i : T} {v u : Value} (hx : RS X x v) (hiv : RS X i u) (h : Eff tt (.indexAddr t (.tmp 0) (.tmp 1)) 0 [x, i] X.H id K) : Ran P X id K (do pure (.value (← Instr.indexAt t v u))) := by
  simp only [Eff] at h
  split at h <;> try exact h.elim
  rename_i kk n y hy
  obtain rfl := rs_int hiv
  split at h <;> try exact h.elim
  · rename_i e hd
    have hu := und_slice (htt _ _ hy) hd
    split at h <;> try exact h.elim
    rename_i ye hye
    have run : ∀ (g o L c : Nat) (m : Nat), m < L → (Instr.indexAt t (.slice (some ⟨g, o, none⟩) L c) (.int kk (m : Int))).run P X.w = .ok (.pointer (some ⟨g, o + m * ye.sz, none⟩)) X.w := fun g o L c m hm => by
      have hm1 : (0 : Int) ≤ (m : Int) ∧ (m : Int) < (L : Int) := by omega
      simp [Instr.indexAt, run_underlying hu, asIntOf, hm1, size_of (htt _ _ hye), add_off]
      omega
    split at h <;> try exact h.elim
    · rename_i r
      split at h <;> try exact h.elim
      rename_i k es hH
      obtain ⟨rfl, m, rfl, hm, h⟩ := h
      obtain ⟨h1, _, h3⟩ := rs_ref hx
      rcases h3 _ _ hH with ⟨_, h0⟩ | ⟨g, c, C, tb, fr, rfl, hg, hC, _⟩
      · omega
      · refine Ran.value (run g 0 es.length c m hm) (Out.same hh hi h ⟨h1, ⟨_, rfl⟩, fun e' he' => ⟨g, hg, ?_⟩⟩)
        rw [hH] at he'; injection he' with he'; subst he'
        simp [Ent.wd]
    · rename_i k es
      obtain ⟨rfl, m, e0, rfl, he, h⟩ := h
      have hx' : RV X.ow X.w (.sl ye.sz es) v := hx
      simp only [RV] at hx'
      obtain ⟨A, c, rfl, _, hx'⟩ := hx'
      have hm := (List.getElem?_eq_some_iff.1 he).1
      rcases hx' with rfl | ⟨g, o, C, tb, fr, rfl, hg, hC, hr⟩
      · cases he
      · obtain ⟨h5, h6⟩ := RE.get hr he
        have hel := hr.elen e0 (List.mem_of_getElem? he)
        refine Ran.value (run g o es.length c m hm) (Out.same hh hi h ⟨g, o + m * ye.sz, C, tb, fr, rfl, hg, hC, ?_⟩)
        rw [hel, ← List.drop_drop]; exact h5
  · rename_i len e hd
    have hu := und_array (htt _ _ hy) hd
    split at h <;> try exact h.elim
    rename_i ye hye
    obtain ⟨m, rfl, hm, h⟩ := h
    have run : ∀ a : Addr, (Instr.indexAt t (.pointer (some a)) (.int kk (m : Int))).run P X.w = .ok (.pointer (some (a.add (m * ye.sz)))) X.w := fun a => by
      have hm1 : (0 : Int) ≤ (m : Int) ∧ (m : Int) < (len : Int) := by omega
      simp [Instr.indexAt, run_underlying hu, asIntOf, hm1, size_of (htt _ _ hye), Instr.sureAddr]
      omega
    split at h <;> try exact h.elim
    · rename_i r i j
      obtain ⟨h1, ⟨a, rfl⟩, h3⟩ := rs_ptr hx
      refine Ran.value (run a) (Out.same hh hi h ⟨h1, ⟨_, rfl⟩, fun e' he' => ?_⟩)
      obtain ⟨g, hg, hp⟩ := h3 _ he'
      injection hp with hp; injection hp with hp; subst hp
      exact ⟨g, hg, by rw [add_off, Nat.add_assoc]⟩
    · rename_i c j
      obtain ⟨g, o, C, tb, fr, rfl, hg, hC, hr⟩ := rs_rptr hx
      exact Ran.value (run _) (Out.same hh hi h ⟨g, o, C, tb, fr, by rw [add_off, Nat.add_assoc], hg, hC, hr⟩)

theorem eff_index {t : TypeId} {x i : T} {v u : Value} (hx : RS X x v) (hiv : RS X i u) (h : Eff tt (.index t (.tmp 0) (.tmp 1)) 0 [x, i] X.H id K) : Ran P X id K (do pure (.value (← Instr.index t v u))) := by
  simp only [Eff] at h
  split at h <;> try exact h.elim
  rename_i kk n s y hy
  obtain rfl := rs_int hiv
  obtain rfl := rs_str hx
  split at h <;> try exact h.elim
  rename_i hd
  obtain ⟨m, rfl, hm, h⟩ := h
  refine Ran.value (v := .int .u8 ((s.getD m 0).toNat : Int)) ?_ (Out.same hh hi h (mk_int _ _ _))
  have hb : (bs s)[m]? = some (s.getD m 0) := by
    have h1 : m < (bs s).size := by rw [bs_size]; exact hm
    rw [getElem?_pos (bs s) m h1]
    have h2 : (bs s)[m] = s[m] := rfl
    rw [h2]; simp [List.getD, List.getElem?_eq_getElem hm]; rfl
  simp [Instr.index, run_underlying (und_string (htt _ _ hy) hd), asIntOf, hb]
end
end Go.Proofs.Ytkdajahiaedoiaa
