/- Functions by content: what an old walk says of a fresh row; who is blamed, by the program. -/
import Derived.Test.YtfgfkhmldlpmkaaGreatDoorBlp
namespace Go.Proofs.YtfgfkhmldlpmkaaGreatDoor
open Go.RowKit Pl
set_option linter.unusedVariables false
set_option linter.unusedSimpArgs false

theorem old_ctV {P : Program} {f : FuncId} {ts : List T} {r : T} (hfn : ∃ fn, P.funcs[f]? = some fn ∧ (fn.name == "runtime.NumGoroutine") = false ∧ fn.body.isNone = false)
    (h : ∀ X : Cx, HR X → ∀ vs, Args X ts vs → Calls P f vs.toArray X.w fun e w' => ∃ v, e = .returned v ∧ Below X.w.heap.size X.w w' ∧ RS { X with w := w' } r v) : CT P f [] ts r [] := by
  refine ⟨hfn, fun X hh hH hu vs ha => ?_⟩
  refine (h X hh vs ha).mono ?_
  rintro e w' ⟨v, rfl, hb, hr⟩
  have hgl : Gl { X with w := w' } := Gl.mono (X := X) (X' := { X with w := w' }) (fun g (hg : g < X.w.heap.size) hn => ⟨hn, hb.block g hg⟩) hh.gl
  have hno : ∀ r, X.H r = none := fun r => by rw [hH]; exact idxE_nil r
  refine ⟨v, { X with w := w' }, rfl, rfl, hH, hu, ⟨fun g g' r hr => absurd (hno r) hr, fun g r hg => ?_, fun r e he => ?_, hh.zero, hh.pos, hgl⟩, hr, ?_⟩
  · obtain ⟨a, b⟩ := hh.lt g r hg
    exact ⟨Nat.lt_of_lt_of_le a hb.size, b⟩
  · have := hno r
    rw [show X.H r = some e from he] at this; cases this
  · refine ⟨fun _ h => h, hb.os, hb.tape, hb.output, hb.size, fun g hg hn => ⟨hn, hb.block g hg⟩, fun r _ e' he => ?_, fun g hg => ⟨hg, hb.block g (hh.lt g 0 hg).1⟩, fun r _ hn => absurd (hno r) hn⟩
    have := hno r
    rw [show X.H r = some e' from he] at this; cases this
theorem re_cells {ow : Own} {w : World} {K : Nat} : ∀ (z : List (List T)) (vs : List Value) (k : Nat) (e : List T), RE ow w K z vs → z[k]? = some e → ∃ us, us.length = K ∧ RL ow w e us ∧ ∀ j, j < K → vs[k * K + j]? = us[j]?
  | [], _, k, e, _, hk => by simp at hk
  | e0 :: z, vs, 0, e, h, hk => by
    simp only [RE] at h
    obtain ⟨us, rest, rfl, hl, hr, -⟩ := h
    obtain rfl : e0 = e := by simpa using hk
    exact ⟨us, hl, hr, fun j hj => by rw [Nat.zero_mul, Nat.zero_add, List.getElem?_append_left (by omega)]⟩
  | e0 :: z, vs, k + 1, e, h, hk => by
    simp only [RE] at h
    obtain ⟨us, rest, rfl, hl, -, hE⟩ := h
    obtain ⟨us', h1, h2, h3⟩ := re_cells z rest k e hE (by simpa using hk)
    refine ⟨us', h1, h2, fun j hj => ?_⟩
    have e1 : (k + 1) * K + j = us.length + (k * K + j) := by rw [Nat.succ_mul, hl]; omega
    rw [e1, List.getElem?_append_right (by omega), Nat.add_sub_cancel_left]
    exact h3 j hj
theorem re_ints {ow : Own} {w : World} : ∀ (L : List Int) (vs : List Value), vs.take L.length = L.map (Value.int .i64) → RE ow w 1 (tkE L) vs
  | [], vs, _ => by simp [tkE, RE]
  | x :: L, vs, h => by
    cases vs with
    | nil => simp at h
    | cons v vs =>
      simp only [List.length_cons, List.take_succ_cons, List.map_cons, List.cons.injEq] at h
      have ih := re_ints (ow := ow) (w := w) L vs h.2
      simp only [tkE, List.map_cons, RE] at ih ⊢
      exact ⟨[v], vs, rfl, rfl, by simp [RL, RV, h.1], ih⟩
theorem prRd_of {ow : Own} {w : World} {z : List (List T)} {hd : Nat → Int} {A : Option Addr} (hp : ∀ k, k < z.length → PrAt z hd k)
    (h : z = [] ∨ ∃ g o C t fr, A = some ⟨g, o, none⟩ ∧ ow g = none ∧ w.heap[g]? = some (.cells C t fr) ∧ RE ow w 16 z (C.toList.drop o)) : PrRd w A z.length hd := by
  intro k hk
  rcases h with rfl | ⟨g, o, C, t, fr, rfl, -, hC, hE⟩
  · simp at hk
  obtain ⟨p1, p2, p3, p4, p5, p6, p7, p8, p9, p10, p11, p12, p13, p14, p15, hz⟩ := hp k hk
  obtain ⟨us, hl, hr, hv⟩ := re_cells z _ k _ hE hz
  have hcell : ∀ j v, us[j]? = some v → j < 16 → w.cell? ⟨g, o + k * 16 + j, none⟩ = some v := fun j v hj hj16 => by
    have := hv j hj16
    rw [hj, List.getElem?_drop] at this
    simp only [World.cell?, hC]
    simp only [Option.isSome_none, Bool.false_eq_true, if_false]
    rw [← Array.getElem?_toList, Nat.add_assoc]
    exact this
  simp only [RL] at hr
  obtain ⟨v0, r0, rfl, h0, v1, r1, rfl, h1, v2, r2, rfl, h2, v3, r3, rfl, h3, v4, r4, rfl, h4, v5, r5, rfl, h5, v6, r6, rfl, h6, v7, r7, rfl, h7, v8, r8, rfl, h8, v9, r9, rfl, h9, v10, r10, rfl, h10, v11, r11, rfl, h11, v12, r12, rfl, h12, v13, r13, rfl, h13, v14, r14, rfl, h14, v15, r15, rfl, h15, rfl⟩ := hr
  simp only [RV] at h0 h1 h2 h3 h4 h5 h6 h7 h8 h9 h10 h11 h12 h13 h14 h15
  subst h0
  subst h1
  subst h2
  subst h3
  subst h4
  obtain ⟨A5, c5, rfl, -⟩ := h5
  obtain ⟨A6, c6, rfl, -⟩ := h6
  obtain ⟨A7, c7, rfl, -⟩ := h7
  subst h8
  subst h9
  subst h10
  subst h11
  subst h12
  obtain ⟨A13, c13, rfl, -⟩ := h13
  obtain ⟨A14, c14, rfl, -⟩ := h14
  obtain ⟨A15, c15, rfl, -⟩ := h15
  exact ⟨g, o, rfl, lt_of_heap hC, _, _, _, _, _, _, _, _, _, _, _, _, _, _, _, _, _, _, _, _, _, _, _, _, _, _, _, hcell 0 _ rfl (by decide), hcell 1 _ rfl (by decide), hcell 2 _ rfl (by decide), hcell 3 _ rfl (by decide), hcell 4 _ rfl (by decide), hcell 5 _ rfl (by decide), hcell 6 _ rfl (by decide), hcell 7 _ rfl (by decide), hcell 8 _ rfl (by decide), hcell 9 _ rfl (by decide), hcell 10 _ rfl (by decide), hcell 11 _ rfl (by decide), hcell 12 _ rfl (by decide), hcell 13 _ rfl (by decide), hcell 14 _ rfl (by decide), hcell 15 _ rfl (by decide)⟩
theorem c_BlamedIn (z : List (List T)) (hd : Nat → Int) (hz : z.length ≤ 1048576) (hp : ∀ k, k < z.length → PrAt z hd k) (hw : ∀ k, k < z.length → -9223372036854775808 ≤ hd k ∧ hd k ≤ 9223372036854775807) :
    CT Tryz.prog 48 [] [.sl 16 z] (.sl 1 (tkE (insHs (hdL hd z.length)))) [] := by
  refine old_ctV ⟨_, Tryz.func48, rfl, rfl⟩ fun X hh vs ha => ?_
  obtain ⟨v, us, rfl, hv, rfl⟩ := ha
  have hv : RV X.ow X.w (.sl 16 z) v := hv
  simp only [RV] at hv
  obtain ⟨A, c, rfl, hc, hE⟩ := hv
  refine (blamed_any A z.length c hd X.w hz (prRd_of hp hE) fun k hk => ?_).mono ?_
  · have := hw k hk
    show (decide (IntKind.i64.min ≤ hd k) && decide (hd k ≤ IntKind.i64.max)) = true
    rw [show IntKind.i64.min = -9223372036854775808 from rfl, show IntKind.i64.max = 9223372036854775807 from rfl]
    simp [this.1, this.2]
  · rintro e w' ⟨v, rfl, hown, hb⟩
    have hl : (addHs (hdL hd z.length)).length = (insHs (hdL hd z.length)).length := by rw [← blamed_eq]; simp
    rw [blamed_eq, hl] at hown
    refine ⟨v, rfl, hb, ?_⟩
    generalize insHs (hdL hd z.length) = L at hown
    show RV X.ow w' (.sl 1 (tkE L)) v
    simp only [RV]
    rcases hown.2 with ⟨rfl, h0⟩ | ⟨g, cap, cur, rfl, hg, hC, h1, h2, h3, h4⟩
    · obtain rfl : L = [] := List.eq_nil_of_length_eq_zero h0
      exact ⟨none, 0, rfl, Nat.le_refl _, .inl rfl⟩
    · refine ⟨some ⟨g, 0, none⟩, cap, by rw [tk_len], by rw [tk_len]; exact h1, .inr ⟨g, 0, cur, _, _, rfl, ?_, hC, ?_⟩⟩
      · cases ho : X.ow g with
        | none => rfl
        | some r => have := (hh.lt g r ho).1; omega
      · rw [List.drop_zero]
        exact re_ints L _ (by simpa using h4)
end Go.Proofs.YtfgfkhmldlpmkaaGreatDoor
