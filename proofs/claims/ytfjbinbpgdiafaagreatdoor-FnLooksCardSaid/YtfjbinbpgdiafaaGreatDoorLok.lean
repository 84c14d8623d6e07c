/- Functions by content: a shard that is as its disk tells; what holds of its parts. -/
import Derived.Test.YtfjbinbpgdiafaaGreatDoorLsw
import Derived.Test.YtfjbinbpgdiafaaGreatDoorPlh
import Derived.Test.YtfjbinbpgdiafaaGreatDoorDk
namespace Go.Proofs.YtfjbinbpgdiafaaGreatDoor
set_option linter.unusedVariables false
set_option linter.unusedSimpArgs false
set_option linter.unusedSectionVars false
open Go.RowKit Pl
theorem zew : shardN = z0Y := rfl
theorem log_sv {a K : Int} {m : Nat} {ts : List Bs} {s : Sv} (h : LogOk a K m ts s) (hm : m ≤ 90) : svOf a K (z10 (dkOf shardN ts) z0Y) = s := by
 rw [← zew, zdU (by decide) (h.rc.up hm)]
 exact h.sv.symm
theorem zgi {a K : Int} {m : Nat} {ts : List Bs} {s : Sv} (h : LogOk a K m ts s) (hm : m ≤ 90) : (dkOf shardN ts).length ≤ 1000 ∧ (s.vs.length ≤ 1000 ∧ s.tk.length ≤ 1000 ∧ s.al.length ≤ 1000 ∧ ∀ v ∈ s.vs, v.length ≤ 1000) := by
 have g := h.ok
 have g1 := g.ep
 have g2 := g.vl
 have g3 := g.tl
 have g4 := g.al
 exact ⟨(z67 (n := shardN) (by decide) (h.rc.up hm)).1, by omega, by omega, by omega, fun v hv => by have := (z0n (g.vo v hv)).1; omega⟩
theorem zhj (a K : Nat) {m : Nat} {ts : List Bs} {s : Sv} (h : LogOk (a : Int) (K : Int) m ts s) (hm : m ≤ 80) (hK : K ≤ 2) (ha : a < 2 ^ K) (up : Bool) : CT Tryz.prog 17 [] [.agg (svE (a : Int) (K : Int) up (dkOf shardN ts) (vwE s.vs) s)] (.bool true) [] := by
 have hz := zgi h (by omega)
 have c := zcu (a : Int) (K : Int) up (dkOf shardN ts) (s.ep : Int) s.vs (tkI s.tk) s.al (s.re : Int) (s.rt : Int) (s.rk : Int) (z6d (z67 (n := shardN) (by decide) (h.rc.up (by omega)))) (zbB h.ok) (by rw [zer]; omega) (by omega)
 rw [log_sv h (by omega)] at c
 have hp := zes hK
 have e : zct (a : Int) (K : Int) (s.ep : Int) s.vs (tkI s.tk) s.al (s.re : Int) (s.rt : Int) (s.rk : Int) s = true := by
  have ha2 : ((a : Nat) : Int) ≤ 2 ^ K - 1 := by
   have : ((a : Nat) : Int) < ((2 ^ K : Nat) : Int) := by omega
   rw [Int.natCast_pow] at this
   exact Int.le_sub_one_of_lt this
  unfold zct
  simp only [decide_true, Bool.and_true, Bool.and_eq_true, z0W, Int.toNat_natCast]
  exact ⟨⟨by omega, by omega⟩, by omega, ha2⟩
 rw [e] at c
 have ent : ntE s.tk = isE (tkI s.tk) := zgg s.tk
 unfold svE
 rw [ent]
 exact c
end Go.Proofs.YtfjbinbpgdiafaaGreatDoor
