/- What a contract by content says of a call from outside. -/
import Derived.Test.YtfgkjgfigjpkoaaDoorVd
import Derived.Test.YtfgkjgfigjpkoaaDoorFa
namespace Go.Proofs.YtfgkjgfigjpkoaaDoor
set_option linter.unusedVariables false
set_option linter.unusedSimpArgs false
set_option linter.unusedSectionVars false
open Go.RowKit Pl
def zc2 (k : IntKind) (w : World) (a : Option Addr) (len cap : Nat) (zs : List Int) : Prop :=
 (a = none ∧ len = 0 ∧ cap = 0 ∧ zs = []) ∨
 ∃ x, a = some x ∧ len ≤ cap ∧ cap ≤ maxLen ∧ zs.length = cap ∧ (∀ i, i < zs.length → w.cell? (x.add i) = some (.int k (zs.getD i 0))) ∧ ∀ n ∈ zs, (Lit.int k n).wf = true
def cx0 (w : World) : Cx := { H := idxE [], ow := fun _ => none, w := w, us := fun i => i < 1 }
theorem cx0_hr (w : World) (hg : Gl (cx0 w)) : HR (cx0 w) where
 gl := hg
 inj := fun g g' r h _ _ => absurd (by simp [cx0, idxE]) h
 lt := fun g r h => by cases h
 node := fun r e h => by have : idxE [] r = some e := h; simp [idxE] at this
 zero := rfl
 pos := by show 0 < 1; omega
theorem zc3 {P : Program} {f : FuncId} {ts : List T} (h : CT P f [] ts (.bool true) []) (w : World) (hg : Gl (cx0 w)) {vs : List Value} (ha : Args (cx0 w) ts vs) :
 Calls P f vs.toArray w fun e w' => e = .returned (.bool true) ∧ Below w.heap.size w w' := by
 refine (h.2 (cx0 w) (cx0_hr w hg) rfl rfl vs ha).mono ?_
 rintro e w' ⟨v, X', rfl, rfl, _, _, _, hv, hs⟩
 have hv : v = .bool true := by simpa only [RS, RS1, RS0, RV] using hv
 subst hv
 exact ⟨rfl, ⟨hs.os, hs.tape, hs.output, hs.size, fun k hk => (hs.stab k hk rfl).2⟩⟩
theorem z9l {ow : Own} {w : World} : ∀ {c : Bs} {vs : List Value}, (∀ i (h : i < c.length), vs[i]? = some (.int .u8 ((c[i]).toNat : Int))) → RE ow w 1 (z0n c) vs
 | [], vs, _ => by simp [z0n, RE]
 | b :: c, vs, h => by
   have h0 := h 0 (by simp)
   cases vs with
   | nil => simp at h0
   | cons v vs =>
     simp at h0
     subst h0
     simp only [z0n, List.map_cons, RE]
     refine ⟨[_], vs, rfl, rfl, ?_, z9l fun i hi => ?_⟩
     ·simp [z4e, RL, RV]
     ·have := h (i + 1) (by simp; omega)
      simpa using this
theorem zaj {w : World} {a : Option Addr} {len cap : Nat} {zs : List Int} (h : zc2 .u8 w a len cap zs) : ∃ c : Bs, c.length = len ∧ RS (cx0 w) (.sl 1 (z0n c)) (.slice a len cap) := by
 rcases h with ⟨rfl, rfl, rfl, rfl⟩ | ⟨x, rfl, hl, hm, hz, hcell, hwf⟩
 ·exact ⟨[], rfl, (RV.rs0 (by simp only [RV]; exact ⟨none, 0, rfl, Nat.le_refl _, .inl rfl⟩)).rs⟩
 ·have hb : ∀ n ∈ zs, 0 ≤ n ∧ n ≤ 255 := fun n hn => by
   have := hwf n hn
   simp [Lit.wf, IntKind.min, IntKind.max, IntKind.signed, IntKind.bits] at this
   omega
  refine ⟨(zs.take len).map fun n => UInt8.ofNat n.toNat, by simp; omega, (RV.rs0 ?_).rs⟩
  simp only [RV]
  refine ⟨some x, cap, by congr 1; simp [z0n]; omega, by simp [z0n]; omega, ?_⟩
  by_cases h0 : len = 0
  ·subst h0; left; simp [z0n]
  ·right
   have hc0 := hcell 0 (by omega)
   obtain ⟨g, o, s⟩ := x
   cases s with
   | some s =>
     simp [World.cell?, Addr.add] at hc0
     split at hc0 <;> simp at hc0
   | none =>
     have hadd : ∀ i, (⟨g, o, none⟩ : Addr).add i = ⟨g, o + i, none⟩ := fun i => by unfold Addr.add; split <;> simp_all
     rw [hadd] at hc0
     simp only [World.cell?] at hc0
     cases hg : w.heap[g]? with
     | none => rw [hg] at hc0; cases hc0
     | some ob =>
       cases ob with
       | cells C t fr =>
         refine ⟨g, o, C, t, fr, rfl, rfl, hg, z9l fun i hi => ?_⟩
         have hi' : i < len := by simp at hi; omega
         have hc := hcell i (by omega)
         rw [hadd] at hc
         simp only [World.cell?, hg] at hc
         simp at hc
         have hn := hb (zs.getD i 0) (by simp [List.getD, List.getElem?_eq_getElem (show i < zs.length by omega)])
         rw [List.getElem?_drop, Array.getElem?_toList, hc]
         congr 2
         simp [List.getD, List.getElem?_eq_getElem (show i < zs.length by omega)] at hn ⊢
         omega
       | _ => rw [hg] at hc0; cases hc0
end Go.Proofs.YtfgkjgfigjpkoaaDoor
