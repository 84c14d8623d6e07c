/- One operation, told by content: lengths and appends. -/
import Derived.Test.YtkgfidphcpklhaaDoorVB
set_option linter.unusedSimpArgs false
namespace Go.Proofs.YtkgfidphcpklhaaDoor
open Go.RowKit Pl
set_option linter.unusedVariables false
set_option linter.unusedSectionVars false

/-! ### append, from whatever source -/
def SlOrStr (P : Program) (u : TypeId) : Prop := (∃ e, P.underlying u = some (.slice e)) ∨ P.underlying u = some .string
/-- What is appended: the cells of a slice or of a string, or zeros, so many as a number says. -/
def AppSrc (P : Program) (w : World) (u : TypeId) (i : TypeInfo) (m : Nat) (x : Value) (news : List Value) : Prop :=
  (SlOrStr P u ∧ Builtin.lenOf x = pure m ∧ (Builtin.firstCells i.size m x).run P w = .ok news.toArray w) ∨
  (∃ kk z, P.underlying u = some (.int kk) ∧ x = .int kk (m : Int) ∧ i.zero = some z ∧ i.size ≠ 0 ∧ (m : Int) ≤ 1000000000 ∧ i.bytes ≤ 100000 ∧ news.toArray = Builtin.zeroCells z.cells m)
theorem wrap_fit {n : Int} (h1 : -9223372036854775808 ≤ n) (h2 : n ≤ 9223372036854775807) : IntKind.i64.wrap n = n := by
  show (if (true && decide (n % 2 ^ 64 ≥ 2 ^ (64 - 1))) = true then n % 2 ^ 64 - 2 ^ 64 else n % 2 ^ 64) = n
  simp only [Bool.true_and, decide_eq_true_eq, show (2 : Int) ^ 64 = 18446744073709551616 from rfl, show (2 : Int) ^ (64 - 1) = 9223372036854775808 from rfl]
  split <;> omega
theorem wrap_small {m : Nat} (h : (m : Int) ≤ 1000000000) : IntKind.i64.wrap (m : Int) = (m : Int) := wrap_fit (by omega) (by omega)
theorem wrap_zero : IntKind.i64.wrap 0 = 0 := by decide
theorem zeros_none (cs : Array Value) : Builtin.zeroCells cs 0 = #[] := by simp [Builtin.zeroCells, Array.range]
theorem zeros_fit {m b : Nat} (h1 : (m : Int) ≤ 1000000000) (h2 : b ≤ 100000) : ¬ (281474976710656 < (m : Int) * (b : Int)) := by
  have h3 : m * b ≤ 1000000000 * 100000 := Nat.mul_le_mul (by omega) h2
  have h4 : ((m * b : Nat) : Int) ≤ 100000000000000 := by omega
  rw [Int.natCast_mul] at h4
  omega
theorem run_app_room {P : Program} (w : World) {t u ty e : TypeId} {i : TypeInfo} (ht : P.underlying t = some (.slice e)) (hi : P.info? e = some i)
    (base : Option Addr) (n c m : Nat) (x : Value) (news : List Value) (hs : AppSrc P w u i m x news) (hroom : n + m ≤ c) :
    (Builtin.append_ #[t, u] ty #[.slice base n c, x]).run P w = (match base with
      | some a => ((storeCells (a.add (n * i.size)) news).run P w).andThen fun _ w' => .ok (.slice base (n + m) c) w'
      | none => .ok (.slice none (n + m) c) w) := by
  rcases hs with ⟨⟨e2, hu⟩ | hu, hlen, hx⟩ | ⟨kk, z, hu, rfl, hz, hsz, h9, hb, hn⟩
  · cases base with
    | none => simp [Builtin.append_, run_underlying ht, run_underlying hu, sizeOf, typeInfo, hi, hlen, hroom, hx]
    | some a => simp [Builtin.append_, run_underlying ht, run_underlying hu, sizeOf, typeInfo, hi, hlen, hroom, hx]
  · cases base with
    | none => simp [Builtin.append_, run_underlying ht, run_underlying hu, sizeOf, typeInfo, hi, hlen, hroom, hx]
    | some a => simp [Builtin.append_, run_underlying ht, run_underlying hu, sizeOf, typeInfo, hi, hlen, hroom, hx]
  · have hw : IntKind.i64.wrap (m : Int) = (m : Int) := wrap_small h9
    have h0 : ¬ ((m : Int) < 0) := by omega
    have hf := zeros_fit h9 hb
    have hl : news = (Builtin.zeroCells z.cells m).toList := by rw [← hn]
    by_cases hm : m = 0
    · subst hm
      rw [zeros_none] at hl
      subst hl
      have hn0 : n ≤ c := by omega
      have hn1 : ¬ (c < n) := by omega
      cases base with
      | none => simp [Builtin.append_, run_underlying ht, run_underlying hu, sizeOf, typeInfo, hi, asInt, asIntOf, wrap_zero, hn0, hn1]
      | some a => simp [Builtin.append_, run_underlying ht, run_underlying hu, sizeOf, typeInfo, hi, asInt, asIntOf, wrap_zero, hn0, hn1]
    · have hms : ¬ (m * i.size = 0) := fun h => (Nat.mul_eq_zero.1 h).elim hm hsz
      subst hl
      cases base with
      | none => simp [Builtin.append_, run_underlying ht, run_underlying hu, sizeOf, typeInfo, zeroValue, hi, hz, asInt, asIntOf, hw, h0, hf, hroom, hms, hm, hsz]
      | some a => simp [Builtin.append_, run_underlying ht, run_underlying hu, sizeOf, typeInfo, zeroValue, hi, hz, asInt, asIntOf, hw, h0, hf, hroom, hms, hm, hsz]
theorem run_app_grow {P : Program} (w : World) {t u ty e : TypeId} {i : TypeInfo} {z : Value} (ht : P.underlying t = some (.slice e)) (hi : P.info? e = some i) (hz : i.zero = some z)
    (base : Option Addr) (n c m : Nat) (x : Value) (olds news : List Value) (hs : AppSrc P w.drew u i m x news)
    (ho : (Builtin.firstCells i.size n (.slice base n c)).run P w.drew = .ok olds.toArray w.drew) (hroom : c < n + m) (h63 : ((n + m : Nat) : Int) ≤ 9223372036854775807) (hfit : Builtin.nextslicecap (n + m) c * i.bytes ≤ 281474976710656) :
    (Builtin.append_ #[t, u] ty #[.slice base n c, x]).run P w = .ok (.slice (some ⟨w.heap.size, 0, none⟩) (n + m) (grownCap w (n + m) c e))
      (w.drew.alloc (.cells (olds.toArray ++ news.toArray ++ Builtin.zeroCells z.cells (grownCap w (n + m) c e - (n + m))) e)) := by
  have hn : ¬ (n + m ≤ c) := by omega
  have h63' : ¬ (9223372036854775807 < ((n : Int) + (m : Int))) := by omega
  have h48' : ¬ (281474976710656 < Builtin.nextslicecap (n + m) c * i.bytes) := by omega
  rcases hs with ⟨⟨e2, hu⟩ | hu, hlen, hx⟩ | ⟨kk, z2, hu, rfl, hz2, hsz, h9, hb, hne⟩
  · simp [Builtin.append_, run_underlying ht, run_underlying hu, sizeOf, typeInfo, zeroValue, hi, hz, hlen, hn, h63', h48', Question.forced, hx, ho, newRow, grownCap]
    congr 2
    apply Array.ext'
    simp [List.append_assoc]
  · simp [Builtin.append_, run_underlying ht, run_underlying hu, sizeOf, typeInfo, zeroValue, hi, hz, hlen, hn, h63', h48', Question.forced, hx, ho, newRow, grownCap]
    congr 2
    apply Array.ext'
    simp [List.append_assoc]
  · rw [hz] at hz2; injection hz2 with hz2; subst hz2
    have hw : IntKind.i64.wrap (m : Int) = (m : Int) := wrap_small h9
    have h0 : ¬ ((m : Int) < 0) := by omega
    have hf := zeros_fit h9 hb
    have hl : news = (Builtin.zeroCells z.cells m).toList := by rw [← hne]
    subst hl
    by_cases hm : m = 0
    · subst hm
      have hn2 : ¬ (n ≤ c) := by omega
      have h63b : ¬ (9223372036854775807 < (n : Int)) := by omega
      have h48b : ¬ (281474976710656 < Builtin.nextslicecap n c * i.bytes) := by simpa using h48'
      simp [Builtin.append_, run_underlying ht, run_underlying hu, sizeOf, typeInfo, zeroValue, hi, hz, asInt, asIntOf, wrap_zero, hn2, h63b, h48b, Question.forced, ho, newRow, grownCap, zeros_none]
    · have hms : ¬ (m * i.size = 0) := fun h => (Nat.mul_eq_zero.1 h).elim hm hsz
      simp [Builtin.append_, run_underlying ht, run_underlying hu, sizeOf, typeInfo, zeroValue, hi, hz, asInt, asIntOf, hw, h0, hf, hn, h63', h48', Question.forced, ho, newRow, grownCap, hms, hm, hsz]
      try (congr 2; apply Array.ext'; simp [List.append_assoc])

/-- The source of an append, read. -/
structure Src (P : Program) (X : Cx) (u e : TypeId) (k : Nat) (es : List (List T)) (v : Value) (us : List Value) : Prop where
  src : ∀ it, P.info? e = some it → it.size = k → ∀ w : World, w.heap = X.w.heap → AppSrc P w u it es.length v us
  cnt : us.length = es.length * k
  rel : RE X.ow X.w k es us
  one : ∀ v ∈ us, v.oneCell' = true
theorem re_one {ow : Own} {w : World} {k : Nat} : ∀ {es : List (List T)} {us : List Value}, RE ow w k es us → us.length = es.length * k → ∀ v ∈ us, v.oneCell' = true
  | [], us, _, hl, v, hv => by
    have : us = [] := List.eq_nil_of_length_eq_zero (by simpa using hl)
    subst this; cases hv
  | e :: es, _, h, hl, v, hv => by
    simp only [RE] at h
    obtain ⟨xs, rest, rfl, hx, h1, h2⟩ := h
    rw [List.length_append, List.length_cons, Nat.add_mul, hx] at hl
    rcases List.mem_append.1 hv with hv | hv
    · exact h1.one v hv
    · exact re_one h2 (by omega) v hv
theorem src_cells {P : Program} {X : Cx} {u e : TypeId} {k : Nat} {es : List (List T)} {A : Option Addr} {c : Nat} (hu : SlOrStr P u) (h : es = [] ∨ ∃ g o C t fr, A = some ⟨g, o, none⟩ ∧ X.w.heap[g]? = some (.cells C t fr) ∧ RE X.ow X.w k es (C.toList.drop o)) :
    ∃ us, Src P X u e k es (.slice A es.length c) us := by
  rcases h with rfl | ⟨g, o, C, t, fr, rfl, hC, hr⟩
  · refine ⟨[], ⟨fun it hit hk w hw => .inl ⟨hu, rfl, ?_⟩, by simp, by simp [RE], by simp⟩⟩
    cases A with
    | none => simp [Builtin.firstCells]
    | some a => simp [Builtin.firstCells, loadCells, loadCellsFrom]
  · have hlen := hr.len
    refine ⟨(C.toList.drop o).take (es.length * k), ⟨fun it hit hk w hw => .inl ⟨hu, rfl, ?_⟩, by rw [List.length_take]; omega, hr.ext ⟨[], by simp [List.take_take]⟩, ?_⟩⟩
    · rw [hk]
      exact run_firstCells_some (P := P) w k es.length ⟨g, o, none⟩ es.length c _ (by rw [List.length_take]; omega) (fun j v hv => by
        rw [add_off]
        have := drop_take_get hv
        simp only [World.cell?, hw, hC]
        simpa using this)
    · exact re_one (hr.ext ⟨[], by simp [List.take_take]⟩) (by rw [List.length_take]; omega)
theorem news_sound {P : Program} {tt : TT} (htt : TtOk P tt) {X : Cx} (hh : HR X) {ye yu : Ty} {u : TypeId} {e : TypeId} (hyu : tt u = some yu) (hye : tt e = some ye) {z : T} {v : Value} {K : Nat → List (List T) → Prop} (hz : RS X z v) (h : newsT tt X.H ye yu z K) :
    ∃ k es us, K k es ∧ Src P X u e k es v us := by
  unfold newsT at h
  split at h <;> try exact h.elim
  · rename_i s
    split at h <;> try exact h.elim
    rename_i k es hH
    obtain ⟨hsz, hk⟩ := h
    obtain ⟨e', ye', hu', _, _⟩ := sliceSz_und htt hyu hsz
    obtain ⟨_, _, h3⟩ := rs_ref hz
    rcases h3 _ _ hH with ⟨rfl, h0⟩ | ⟨g, c, C, t, fr, rfl, hg, hC, _⟩
    · have he : es = [] := List.eq_nil_of_length_eq_zero h0
      subst he
      obtain ⟨us, hs⟩ := src_cells (P := P) (X := X) (u := u) (e := e) (k := k) (es := []) (A := none) (c := 0) (.inl ⟨_, hu'⟩) (.inl rfl)
      exact ⟨k, [], us, hk, hs⟩
    · obtain ⟨_, hn⟩ := (hh.node _ _ hH).2
      have : es = [] ∨ ∃ g' o C t fr, (some ⟨g, 0, none⟩ : Option Addr) = some ⟨g', o, none⟩ ∧ X.w.heap[g']? = some (.cells C t fr) ∧ RE X.ow X.w k es (C.toList.drop o) := by
        rcases hn with hn | ⟨g', C', t', fr', hg', hC', hf, hl⟩
        · exact .inl hn
        · obtain rfl := hh.inj' hH hg hg'
          exact .inr ⟨g, 0, C', t', fr', rfl, hC', by simpa using hl⟩
      obtain ⟨us, hs⟩ := src_cells (P := P) (u := u) (e := e) (c := c) (.inl ⟨_, hu'⟩) this
      exact ⟨k, es, us, hk, hs⟩
  · rename_i k es
    obtain ⟨hsz, hk⟩ := h
    obtain ⟨e', ye', hu', _, _⟩ := sliceSz_und htt hyu hsz
    have hx' : RV X.ow X.w (.sl k es) v := hz
    simp only [RV] at hx'
    obtain ⟨A, c, rfl, hc, hA⟩ := hx'
    have : es = [] ∨ ∃ g o C t fr, A = some ⟨g, o, none⟩ ∧ X.w.heap[g]? = some (.cells C t fr) ∧ RE X.ow X.w k es (C.toList.drop o) := by
      rcases hA with hA | ⟨g, o, C, t, fr, hA, _, hC, hr⟩
      · exact .inl hA
      · exact .inr ⟨g, o, C, t, fr, hA, hC, hr⟩
    obtain ⟨us, hs⟩ := src_cells (P := P) (u := u) (e := e) (c := c) (.inl ⟨_, hu'⟩) this
    exact ⟨k, es, us, hk, hs⟩
  · obtain ⟨rfl, hsz, hk⟩ := h
    obtain ⟨e', ye', hu', _, _⟩ := sliceSz_und htt hyu hsz
    have hx' : v = nilV ∧ nilV.oneCell' = true := by simpa [RS, RS1, RS0, RV] using hz
    obtain ⟨rfl, _⟩ := hx'
    obtain ⟨us, hs⟩ := src_cells (P := P) (X := X) (u := u) (e := e) (k := ye.sz) (es := []) (A := none) (c := 0) (.inl ⟨_, hu'⟩) (.inl rfl)
    exact ⟨_, [], us, hk, hs⟩
  · rename_i b
    obtain ⟨hst, _, hk⟩ := h
    have hu' := isStr_und htt hyu hst
    obtain rfl := rs_str hz
    refine ⟨1, bytesE b, b.map fun x => Value.int .u8 (x.toNat : Int), hk, ⟨fun it hit hk1 w hw => .inl ⟨.inr hu', by simp [Builtin.lenOf, bs_size, bytesE], ?_⟩, by simp [bytesE], bytes_rl b, ?_⟩⟩
    · have hb : ((bs b).extract 0 b.length) = bs b := by
        rw [str_part, List.drop_zero, List.take_length]
      simp only [Builtin.firstCells, bytesE, List.length_map, hb]
      simp [bs]
    · intro v hv
      simp at hv
      obtain ⟨x, _, rfl⟩ := hv
      rfl
  · rename_i kk n
    obtain ⟨hd, hsz, hble, m, rfl, hm, hk⟩ := h
    have hu' : P.underlying u = some (.int kk) := by
      split at hd <;> try exact hd.elim
      rename_i k' hd'
      subst hd
      exact und_int (htt _ _ hyu) hd'
    obtain rfl := rs_int hz
    obtain ⟨it, z, hit, hs, hb, hz, hzc⟩ := (htt _ _ hye).info
    have hbl := Nat.le_of_ble_eq_true hble
    have hzl : z.cells.size = ye.sz := by have := (htt _ _ hye).len; rw [← Array.length_toList, hzc, List.length_map, this]
    have hre := zeros_row X.ow X.w (htt _ _ hye) hzc m hsz
    have hcl : (Builtin.zeroCells z.cells m).toList.length = (List.replicate m ye.zero).length * ye.sz := by simp [Builtin.zeroCells, hzl]
    have he : (Builtin.zeroCells z.cells m).toList = ((Array.range (m * ye.sz)).map (fun i => z.cells[i % z.cells.size]!)).toList := by simp [Builtin.zeroCells, hzl]
    rw [← he] at hre
    refine ⟨ye.sz, List.replicate m ye.zero, (Builtin.zeroCells z.cells m).toList, hk, ⟨fun it' hit' hk1 w hw => .inr ⟨kk, z, hu', by simp, ?_, by omega, by simpa using hm, ?_, by simp⟩, hcl, hre, re_one hre hcl⟩⟩
    · rw [hit] at hit'; injection hit' with hit'; subst hit'; exact hz
    · rw [hit] at hit'; injection hit' with hit'; subst hit'; omega

/-! ### a row grows in its own block, under a new number -/
def Cx.move (X : Cx) (r id : Nat) (e : Ent) (g : Nat) (C : Array Value) (t : TypeId) (fr : Nat × Nat) : Cx :=
  { H := updE (updE X.H r none) id (some e), ow := fun j => if j = g then some id else if X.ow j = some r then none else X.ow j, w := { X.w with heap := X.w.heap.setIfInBounds g (.cells C t fr) }, us := X.win id }
section
variable {X : Cx} {id : Nat} {K : Kon} (hh : HR X) (hi : Fresh X id)
include hh hi
theorem move_facts {r : Nat} {e0 e : Ent} {g : Nat} {C0 C : Array Value} {t : TypeId} {fr : Nat × Nat} (h0 : X.H r = some e0) (hg : X.ow g = some r) (hC : X.w.heap[g]? = some (.cells C0 t fr))
    (hnode : Same X (X.move r id e g C t fr) → (X.move r id e g C t fr).w.heap[g]? = some (.cells C t fr) → Node (X.move r id e g C t fr) id e) : Same X (X.move r id e g C t fr) ∧ HR (X.move r id e g C t fr) ∧ (X.move r id e g C t fr).w.heap[g]? = some (.cells C t fr) ∧ (X.move r id e g C t fr).ow g = some id := by
  have hlt := lt_of_heap hC
  have hrn := (hh.node _ _ h0).1
  have hget : ∀ i, (X.move r id e g C t fr).w.heap[i]? = if i = g then some (.cells C t fr) else X.w.heap[i]? := fun i => by
    show (X.w.heap.setIfInBounds g _)[i]? = _
    rw [Array.getElem?_setIfInBounds]
    by_cases hi : g = i
    · subst hi; simp [hlt]
    · rw [if_neg hi, if_neg (fun h => hi h.symm)]
  have how : ∀ j i, (X.move r id e g C t fr).ow j = some i → (j = g ∧ i = id) ∨ (j ≠ g ∧ i ≠ r ∧ X.ow j = some i) := fun j i h => by
    change (if j = g then some id else if X.ow j = some r then none else X.ow j) = some i at h
    split at h
    · injection h with h; exact .inl ⟨by assumption, h.symm⟩
    · split at h
      · cases h
      · rename_i h1 h2
        exact .inr ⟨h1, fun hir => h2 (by rw [h, hir]), h⟩
  have hH : ∀ i, (X.move r id e g C t fr).H i = if i = id then some e else if i = r then none else X.H i := fun i => by
    show updE (updE X.H r none) id (some e) i = _
    by_cases h1 : i = id
    · subst h1; rw [updE_same]; simp
    · rw [updE_other _ _ h1, if_neg h1]
      by_cases h2 : i = r
      · subst h2; rw [updE_same]; simp
      · rw [updE_other _ _ h2, if_neg h2]
  have hs : Same X (X.move r id e g C t fr) := by
    refine ⟨fun _ h => .inl h, rfl, rfl, rfl, by show _ ≤ (X.w.heap.setIfInBounds g _).size; simp, fun i hi hno => ⟨?_, ?_⟩, fun i hi' e' he => ?_, fun i hi0 => ?_, fun i hi' hne j hj => ⟨?_, fun C' t' fr' hC' => ?_⟩⟩
    · show (if i = g then some id else if X.ow i = some r then none else X.ow i) = none
      have : i ≠ g := fun h => by subst h; rw [hg] at hno; cases hno
      rw [if_neg this, hno]; simp
    · rw [hget, if_neg]
      intro h; subst h; rw [hg] at hno; cases hno
    · rw [hH, if_neg (hi.ne hi')] at he
      split at he
      · cases he
      · exact ⟨e', he, rfl⟩
    · have h1 : i ≠ g := fun h => by subst h; rw [hg] at hi0; injection hi0 with hi0; exact hh.ne h0 hi0
      refine ⟨?_, by rw [hget, if_neg h1]⟩
      show (if i = g then some id else if X.ow i = some r then none else X.ow i) = some 0
      rw [if_neg h1, hi0, if_neg (fun h => hh.ne h0 (by injection h with h; exact h.symm))]
    · rw [hH, if_neg (hi.ne hi')] at hne
      have hir : i ≠ r := fun h => by subst h; simp at hne
      show (if j = g then some id else if X.ow j = some r then none else X.ow j) = some i
      have hjg : j ≠ g := fun h => by subst h; rw [hg] at hj; injection hj with hj; exact hir hj.symm
      rw [if_neg hjg, hj, if_neg (fun h => hir (by injection h))]
    · rw [hH, if_neg (hi.ne hi')] at hne
      have hir : i ≠ r := fun h => by subst h; simp at hne
      have hjg : j ≠ g := fun h => by subst h; rw [hg] at hj; injection hj with hj; exact hir hj.symm
      rw [hget, if_neg hjg]
      exact ⟨C', hC', rfl⟩
  have hgg : (X.move r id e g C t fr).w.heap[g]? = some (.cells C t fr) := by rw [hget, if_pos rfl]
  refine ⟨hs, ⟨fun a b i hi0 h1 h2 => ?_, fun a i h1 => ?_, fun i e' he => ?_, by rw [hH, if_neg (hi.ne hh.pos)]; split <;> first | rfl | exact hh.zero, .inl hh.pos, hh.gl.mono hs.stab⟩, hgg, by show (if g = g then some id else _) = some id; simp⟩
  · rcases how _ _ h1 with ⟨p1, p2⟩ | ⟨h3, h4, h5⟩ <;> rcases how _ _ h2 with ⟨p3, p4⟩ | ⟨h6, h7, h8⟩
    · omega
    · subst p2; exact absurd rfl (hi.ne (hh.lt _ _ h8).2)
    · subst p4; exact absurd rfl (hi.ne (hh.lt _ _ h5).2)
    · rw [hH, if_neg (hi.ne (hh.lt _ _ h5).2), if_neg h4] at hi0
      exact hh.inj _ _ _ hi0 h5 h8
  · rcases how _ _ h1 with ⟨rfl, rfl⟩ | ⟨h3, h4, h5⟩
    · exact ⟨by show a < (X.w.heap.setIfInBounds a _).size; simpa using hlt, .inr ⟨Nat.le_refl _, by omega⟩⟩
    · obtain ⟨q1, q2⟩ := hh.lt _ _ h5
      exact ⟨by show a < (X.w.heap.setIfInBounds g _).size; simpa using q1, .inl q2⟩
  · rw [hH] at he
    split at he
    · rename_i h1; subst h1
      injection he with he; subst he
      exact ⟨.inr ⟨Nat.le_refl _, by omega⟩, hnode hs hgg⟩
    · split at he
      · cases he
      · rename_i h1 h2
        obtain ⟨q1, q2⟩ := hh.node i e' he
        refine ⟨.inl q1, q2.mono hs q1 (by rw [hH, if_neg h1, if_neg h2, he]; simp) (fun j hj => ?_)⟩
        rw [hget, if_neg]
        intro h; subst h; rw [hg] at hj; injection hj with hj; exact h2 hj.symm
theorem Out.emptyRow {k : Nat} {gone : List Nat} (hk : 0 < k) (h : K (.ref id) (goneU gone ++ [(id, some (.row k []))])) : Out X id K nilV X.w := by
  have hd := same_dropL X gone
  have hr := hh.dropL gone
  have hkey : ∀ (a : Upd) (H : Hp) (b : Upd), updL (updL H a) b = updL H (a ++ b) := fun a => by
    induction a with
    | nil => intro H b; rfl
    | cons p a ih => intro H b; obtain ⟨r, e⟩ := p; exact ih _ _
  let Y : Cx := { X.dropL gone with H := updE (X.dropL gone).H id (some (.row k [])), us := X.win id }
  have hfr := dropL_fresh gone hi
  have hno : ∀ g, (X.dropL gone).ow g ≠ some id := fun g h => hfr.ne (hr.lt g id h).2 rfl
  have hs : Same (X.dropL gone) Y := by
    refine ⟨fun r h => .inl (by rwa [dropL_nx] at h), rfl, rfl, rfl, Nat.le_refl _, fun g _ h => ⟨h, rfl⟩, fun r hr e' he => ?_, fun g h => ⟨h, rfl⟩, fun r hr _ g hg => ⟨hg, fun C t fr hC => ⟨C, hC, rfl⟩⟩⟩
    change updE (X.dropL gone).H id _ r = _ at he
    rw [updE_other _ _ (hfr.ne hr)] at he
    exact ⟨e', he, rfl⟩
  refine ⟨.ref id, _, Y, h, dropL_w X gone, rfl, ?_, hd.trans hs, ⟨fun g g' r h0 h1 h2 => hr.inj g g' r (by change updE (X.dropL gone).H id _ r ≠ none at h0; rwa [updE_other _ _ (hfr.ne (hr.lt g r h1).2)] at h0) h1 h2, fun g r hg => ?_, fun r e he => ?_, by show updE (X.dropL gone).H id _ 0 = none; rw [updE_other _ _ (hi.ne hh.pos)]; exact hr.zero, .inl hh.pos, hr.gl.mono hs.stab⟩, ⟨.inr ⟨Nat.le_refl _, by omega⟩, ⟨_, _, _, rfl⟩, fun k' es' he => ?_⟩⟩
  · show updE (X.dropL gone).H id _ = _
    rw [dropL_H, ← hkey]; rfl
  · obtain ⟨q1, q2⟩ := hr.lt g r hg
    exact ⟨q1, .inl (by rwa [dropL_nx] at q2)⟩
  · change updE (X.dropL gone).H id _ r = _ at he
    by_cases hrid : r = id
    · subst hrid
      rw [updE_same] at he; injection he with he; subst he
      exact ⟨.inr ⟨Nat.le_refl _, by omega⟩, hk, .inl rfl⟩
    · rw [updE_other _ _ hrid] at he
      obtain ⟨q1, q2⟩ := hr.node r e he
      refine ⟨.inl (by rwa [dropL_nx] at q1), q2.mono hs q1 (by show updE (X.dropL gone).H id _ r ≠ none; rw [updE_other _ _ hrid, he]; simp) (fun g _ => rfl)⟩
  · change updE (X.dropL gone).H id _ id = _ at he
    rw [updE_same] at he; injection he with he; injection he with a b; subst a b
    exact .inl ⟨rfl, rfl⟩
end
end Go.Proofs.YtkgfidphcpklhaaDoor
