/- What a contract by content says of a call from outside. -/
import Derived.Test.YtkgfidphcpklhaaDoorV21
import Derived.Test.YtkgfidphcpklhaaDoorFBE
set_option linter.unusedSimpArgs false
namespace Go.Proofs.YtkgfidphcpklhaaDoor
open Go.RowKit Pl
set_option linter.unusedVariables false

/-- What the walk is told of a slice of integers that came in: it is nil, or it leads to a row. -/
def IsRow (k : IntKind) (w : World) (a : Option Addr) (len cap : Nat) (zs : List Int) : Prop :=
  (a = none ∧ len = 0 ∧ cap = 0 ∧ zs = []) ∨
  ∃ x, a = some x ∧ len ≤ cap ∧ cap ≤ maxLen ∧ zs.length = cap ∧ (∀ i, i < zs.length → w.cell? (x.add i) = some (.int k (zs.getD i 0))) ∧ ∀ n ∈ zs, (Lit.int k n).wf = true
/-- The memory of a call that owns nothing. -/
def cx0 (w : World) : Cx := { H := idxE [], ow := fun _ => none, w := w, us := fun i => i < 1 }
theorem cx0_hr (w : World) (hg : Gl (cx0 w)) : HR (cx0 w) where
  gl := hg
  inj := fun g g' r h _ _ => absurd (by simp [cx0, idxE]) h
  lt := fun g r h => by cases h
  node := fun r e h => by have : idxE [] r = some e := h; simp [idxE] at this
  zero := rfl
  pos := by show 0 < 1; omega
theorem ct_walk {P : Program} {f : FuncId} {ts : List T} (h : CT P f [] ts (.bool true) []) (w : World) (hg : Gl (cx0 w)) {vs : List Value} (ha : Args (cx0 w) ts vs) :
    Calls P f vs.toArray w fun e w' => e = .returned (.bool true) ∧ Below w.heap.size w w' := by
  refine (h.2 (cx0 w) (cx0_hr w hg) rfl rfl vs ha).mono ?_
  rintro e w' ⟨v, X', rfl, rfl, _, _, _, hv, hs⟩
  have hv : v = .bool true := by simpa only [RS, RS1, RS0, RV] using hv
  subst hv
  exact ⟨rfl, ⟨hs.os, hs.tape, hs.output, hs.size, fun k hk => (hs.stab k hk rfl).2⟩⟩
theorem re_row8 {ow : Own} {w : World} : ∀ {c : Bs} {vs : List Value}, (∀ i (h : i < c.length), vs[i]? = some (.int .u8 ((c[i]).toNat : Int))) → RE ow w 1 (bytesE c) vs
  | [], vs, _ => by simp [bytesE, RE]
  | b :: c, vs, h => by
    have h0 := h 0 (by simp)
    cases vs with
    | nil => simp at h0
    | cons v vs =>
      simp at h0
      subst h0
      simp only [bytesE, List.map_cons, RE]
      refine ⟨[_], vs, rfl, rfl, ?_, re_row8 fun i hi => ?_⟩
      · simp [byteE, RL, RV]
      · have := h (i + 1) (by simp; omega)
        simpa using this
theorem isRow_rv {w : World} {a : Option Addr} {len cap : Nat} {zs : List Int} (h : IsRow .u8 w a len cap zs) : ∃ c : Bs, c.length = len ∧ RS (cx0 w) (.sl 1 (bytesE c)) (.slice a len cap) := by
  rcases h with ⟨rfl, rfl, rfl, rfl⟩ | ⟨x, rfl, hl, hm, hz, hcell, hwf⟩
  · exact ⟨[], rfl, (RV.rs0 (by simp only [RV]; exact ⟨none, 0, rfl, Nat.le_refl _, .inl rfl⟩)).rs⟩
  · have hb : ∀ n ∈ zs, 0 ≤ n ∧ n ≤ 255 := fun n hn => by
      have := hwf n hn
      simp [Lit.wf, IntKind.min, IntKind.max, IntKind.signed, IntKind.bits] at this
      omega
    refine ⟨(zs.take len).map fun n => UInt8.ofNat n.toNat, by simp; omega, (RV.rs0 ?_).rs⟩
    simp only [RV]
    refine ⟨some x, cap, by congr 1; simp [bytesE]; omega, by simp [bytesE]; omega, ?_⟩
    by_cases h0 : len = 0
    · subst h0; left; simp [bytesE]
    · right
      have hc0 := hcell 0 (by omega)
      obtain ⟨g, o, s⟩ := x
      cases s with
      | some s =>
        simp [World.cell?, Addr.add] at hc0
        split at hc0 <;> simp at hc0
      | none =>
        have hadd : ∀ i, (⟨g, o, none⟩ : Addr).add i = ⟨g, o + i, none⟩ := fun i => by unfold Addr.add; split <;> simp_all
        rw [hadd] at hc0
        simp only [World.cell?] at hc0
        cases hg : w.heap[g]? with
        | none => rw [hg] at hc0; cases hc0
        | some ob =>
          cases ob with
          | cells C t fr =>
            refine ⟨g, o, C, t, fr, rfl, rfl, hg, re_row8 fun i hi => ?_⟩
            have hi' : i < len := by simp at hi; omega
            have hc := hcell i (by omega)
            rw [hadd] at hc
            simp only [World.cell?, hg] at hc
            simp at hc
            have hn := hb (zs.getD i 0) (by simp [List.getD, List.getElem?_eq_getElem (show i < zs.length by omega)])
            rw [List.getElem?_drop, Array.getElem?_toList, hc]
            congr 2
            simp [List.getD, List.getElem?_eq_getElem (show i < zs.length by omega)] at hn ⊢
            omega
          | _ => rw [hg] at hc0; cases hc0
theorem rs0_string (w : World) (s : ByteArray) : RS (cx0 w) (.str s.data.toList) (.string s) := by
  have := mk_str (cx0 w) s.data.toList
  rwa [data_bs] at this
theorem rs0_int (w : World) (k : IntKind) (n : Int) : RS (cx0 w) (.int k n) (.int k n) := mk_int _ _ _
end Go.Proofs.YtkgfidphcpklhaaDoor
