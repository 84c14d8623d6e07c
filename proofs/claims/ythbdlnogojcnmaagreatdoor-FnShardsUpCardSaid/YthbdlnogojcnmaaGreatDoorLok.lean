/- Functions by content: a shard that is as its disk tells; what holds of its parts. -/
import Derived.Test.YthbdlnogojcnmaaGreatDoorLsw
import Derived.Test.YthbdlnogojcnmaaGreatDoorIhx
namespace Go.Proofs.YthbdlnogojcnmaaGreatDoor
set_option linter.unusedVariables false
set_option linter.unusedSimpArgs false
set_option linter.unusedSectionVars false
open Go.RowKit Pl
theorem zeR : shardN = z0W := rfl
theorem zhU {a K : Int} {m : Nat} {ts : List Bs} {s : Sv} (h : LogOk a K m ts s) (hm : m ≤ 90) : svOf a K (z0Y (dkOf shardN ts) z0W) = s := by
 rw [← zeR, ze8 (by decide) (h.rc.up hm)]
 exact h.sv.symm
theorem zeS {a K : Int} {m : Nat} {ts : List Bs} {s : Sv} (h : LogOk a K m ts s) (hm : m ≤ 90) : (dkOf shardN ts).length ≤ 1000 ∧ (s.vs.length ≤ 1000 ∧ s.tk.length ≤ 1000 ∧ s.al.length ≤ 1000 ∧ ∀ v ∈ s.vs, v.length ≤ 1000) := by
 have g := h.ok
 have g1 := g.ep
 have g2 := g.vl
 have g3 := g.tl
 have g4 := g.al
 exact ⟨(z2p (n := shardN) (by decide) (h.rc.up hm)).1, by omega, by omega, by omega, fun v hv => by have := (z0w (g.vo v hv)).1; omega⟩
theorem zeT (a K : Nat) {m : Nat} {ts : List Bs} {s : Sv} (h : LogOk (a : Int) (K : Int) m ts s) (hm : m ≤ 80) (hK : K ≤ 2) (ha : a < 2 ^ K) (up : Bool) : CT Tryz.prog 19 [] [.agg (svE (a : Int) (K : Int) up (dkOf shardN ts) (vwE s.vs) s)] (.bool true) [] := by
 have hz := zeS h (by omega)
 have c := zcy (a : Int) (K : Int) up (dkOf shardN ts) (s.ep : Int) s.vs (tkI s.tk) s.al (s.re : Int) (s.rt : Int) (s.rk : Int) (z2l (z2p (n := shardN) (by decide) (h.rc.up (by omega)))) (zbG h.ok) (by rw [zeF]; omega) (by omega)
 rw [zhU h (by omega)] at c
 have hp := zbF hK
 have e : zcx (a : Int) (K : Int) (s.ep : Int) s.vs (tkI s.tk) s.al (s.re : Int) (s.rt : Int) (s.rk : Int) s = true := by
  have ha2 : ((a : Nat) : Int) ≤ 2 ^ K - 1 := by
   have : ((a : Nat) : Int) < ((2 ^ K : Nat) : Int) := by omega
   rw [Int.natCast_pow] at this
   exact Int.le_sub_one_of_lt this
  unfold zcx
  simp only [decide_true, Bool.and_true, Bool.and_eq_true, z1h, Int.toNat_natCast]
  exact ⟨⟨by omega, by omega⟩, by omega, ha2⟩
 rw [e] at c
 have ent : ntE s.tk = isE (tkI s.tk) := zgo s.tk
 unfold svE
 rw [ent]
 exact c
theorem zcJ {k t : Int} {e y : Nat} (hk : k = 1 ∨ k = 3 ∨ k = 4) (ht : 1 ≤ t ∧ t ≤ 4) (he : 1 ≤ e ∧ e ≤ 4) (hy : 1 ≤ y ∧ y ≤ 1000) : z02 k 0 t (e : Int) (y : Int) [] = true := by
 unfold z02
 rw [if_pos hk]
 simp only [Bool.and_eq_true, z1h, beq_iff_eq, List.isEmpty_nil]
 repeat' (first | omega | (exact rfl) | (exact trivial) | (refine And.intro ?_ ?_))
theorem zht {a : Int} {s : Sv} {t e y : Int} (ht : t = a + 1) (he : e = (s.ep : Int) + 1) (hy : (s.rt : Int) < y) : z2G a s true 1 t e y = .prep := by
 unfold z2G
 rw [if_pos ⟨rfl, ht⟩, if_pos rfl, if_pos he, if_pos hy]
theorem hk_com {a : Int} {s : Sv} {t e y : Int} (ht : t = a + 1) (hl : ¬ e ≤ (s.ep : Int)) (he : (s.re : Int) = e) (hy : (s.rt : Int) = y) : z2G a s true 4 t e y = .com := by
 unfold z2G
 rw [if_pos ⟨rfl, ht⟩, if_neg (by decide), if_neg (by decide), if_pos rfl, if_neg hl, if_pos ⟨he, hy⟩]
end Go.Proofs.YthbdlnogojcnmaaGreatDoor
