/- Plain: what one line of a script does, case by case. -/
import Derived.Test.YtkgfidphcpklhaaDoorPlE
import Derived.Test.YtkgfidphcpklhaaDoorVQ
namespace Go.Proofs.YtkgfidphcpklhaaDoor
open Go.RowKit Pl
set_option linter.unusedVariables false
set_option linter.unusedSimpArgs false

def zSc : List T := [.int .i64 0, .int .i64 0, .val nilV, .bool false, .val nilV]
theorem pt_le {p : List Bs} (h : ∀ x ∈ p, x.length ≤ 600) (i : Nat) : (pt p i).length ≤ 600 := by
  by_cases hi : i < p.length
  · rw [pt, List.getD, List.getElem?_eq_getElem hi]
    exact h _ (List.getElem_mem hi)
  · rw [pt, List.getD, List.getElem?_eq_none (by omega)]
    exact Nat.zero_le _
theorem pt_ne {p : List Bs} (h : ∀ x ∈ p, x ≠ []) (h0 : 0 < p.length) : 0 < (pt p 0).length := by
  rw [pt, List.getD, List.getElem?_eq_getElem h0]
  exact List.length_pos_iff.2 (h _ (List.getElem_mem h0))
theorem line_facts {l : Bs} (h : partsB l = true) : (∀ x ∈ partsOf l, x.length ≤ 600) ∧ (∀ x ∈ partsOf l, x ≠ []) ∧ (partsOf l).length ≤ 10 := by
  rw [partsB, Bool.and_eq_true, Bool.and_eq_true, decide_eq_true_eq, decide_eq_true_eq] at h
  exact ⟨fun x hx => by have := (partsOf_mem hx).2; omega, fun x hx => (partsOf_mem hx).1, h.2.2⟩
theorem skip_0 {p : List Bs} (h : p.length = 0) : skipB p = true := by rw [skipB, decide_eq_true h]; rfl
theorem skip_35 {p : List Bs} (h : (pt p 0).getD 0 0 = 35) : skipB p = true := by rw [skipB, decide_eq_true h, Bool.or_true]
theorem skip_no {p : List Bs} (h0 : ¬ p.length = 0) (h : ¬ (pt p 0).getD 0 0 = 35) : skipB p = false := by rw [skipB, decide_eq_false h, decide_eq_false h0]; rfl
theorem add_calm {x : Sc} {p : List Bs} (h1 : p.length = 1) (h2 : pt p 0 = wCalm) : addB x p = true ∧ addC x p = { x with ca := true } := by
  have e : isCalm p = true := by rw [isCalm, decide_eq_true h1, decide_eq_true h2]; rfl
  exact ⟨by rw [addB, if_pos e], by rw [addC, if_pos e]⟩
theorem add_ask {x : Sc} {p : List Bs} (h1 : p.length = 4) (h2 : pt p 0 = wAsk) : addB x p = ((isB (pt p 1) && isB (pt p 3)) && decide (x.ak.length < 10)) ∧ addC x p = { x with ak := x.ak ++ [askOf p] } := by
  have e : ¬ isCalm p = true := fun h => by
    rw [isCalm, Bool.and_eq_true, decide_eq_true_eq] at h
    omega
  have e2 : isAsk p = true := by rw [isAsk, decide_eq_true h1, decide_eq_true h2]; rfl
  exact ⟨by rw [addB, if_neg e, if_pos e2], by rw [addC, if_neg e, if_pos e2]⟩
theorem add_ev {x : Sc} {p : List Bs} (hc : ¬ (p.length = 1 ∧ pt p 0 = wCalm)) (ha : ¬ (p.length = 4 ∧ pt p 0 = wAsk)) : addB x p = ((okR (rawE p) && evOk (evR (rawE p))) && decide (x.ev.length < 90)) ∧ addC x p = { x with ev := x.ev ++ [evR (rawE p)] } := by
  have e : ¬ isCalm p = true := fun h => by
    rw [isCalm, Bool.and_eq_true, decide_eq_true_eq, decide_eq_true_eq] at h
    exact hc h
  have e2 : ¬ isAsk p = true := fun h => by
    rw [isAsk, Bool.and_eq_true, decide_eq_true_eq, decide_eq_true_eq] at h
    exact ha h
  exact ⟨by rw [addB, if_neg e, if_neg e2], by rw [addC, if_neg e, if_neg e2]⟩
theorem rl_cons {L : List Bs} {i : Nat} {x : Sc} {R : Sc × Int} (h : i < L.length) (hZ : rdL (L.drop i) i x = R) : rdL (L[i] :: L.drop (i + 1)) i x = R := by
  rw [← List.drop_eq_getElem_cons h]; exact hZ
/-- What one line does. -/
theorem rl_bad {l : Bs} {ls : List Bs} {i : Nat} {x : Sc} {R : Sc × Int} (hZ : rdL (l :: ls) i x = R) (h : partsB l = false) : (zeroS, (i : Int) + 1) = R := by
  rw [rdL.eq_2, h, if_neg (by decide)] at hZ
  exact hZ
theorem rl_skip {l : Bs} {ls : List Bs} {i : Nat} {x : Sc} {R : Sc × Int} (hZ : rdL (l :: ls) i x = R) (h : partsB l = true) (h2 : skipB (partsOf l) = true) : rdL ls (i + 1) x = R := by
  rw [rdL.eq_2, h, if_pos rfl, h2, if_pos rfl] at hZ
  exact hZ
theorem rl_wy {l : Bs} {ls : List Bs} {i : Nat} {x : Sc} {R : Sc × Int} (hZ : rdL (l :: ls) i x = R) (h : partsB l = true) (h2 : skipB (partsOf l) = false) (h3 : x.n = 0) (h4 : wldB (partsOf l) = true) : rdL ls (i + 1) { x with n := decV (pt (partsOf l) 1), k := decV (pt (partsOf l) 2) } = R := by
  rw [rdL.eq_2, h, if_pos rfl, h2, if_neg (by decide), if_pos h3, h4, if_pos rfl] at hZ
  exact hZ
theorem rl_wn {l : Bs} {ls : List Bs} {i : Nat} {x : Sc} {R : Sc × Int} (hZ : rdL (l :: ls) i x = R) (h : partsB l = true) (h2 : skipB (partsOf l) = false) (h3 : x.n = 0) (h4 : wldB (partsOf l) = false) : (zeroS, (i : Int) + 1) = R := by
  rw [rdL.eq_2, h, if_pos rfl, h2, if_neg (by decide), if_pos h3, h4, if_neg (by decide)] at hZ
  exact hZ
theorem rl_ay {l : Bs} {ls : List Bs} {i : Nat} {x : Sc} {R : Sc × Int} (hZ : rdL (l :: ls) i x = R) (h : partsB l = true) (h2 : skipB (partsOf l) = false) (h3 : ¬ x.n = 0) (h4 : addB x (partsOf l) = true) : rdL ls (i + 1) (addC x (partsOf l)) = R := by
  rw [rdL.eq_2, h, if_pos rfl, h2, if_neg (by decide), if_neg h3, h4, if_pos rfl] at hZ
  exact hZ
theorem rl_an {l : Bs} {ls : List Bs} {i : Nat} {x : Sc} {R : Sc × Int} (hZ : rdL (l :: ls) i x = R) (h : partsB l = true) (h2 : skipB (partsOf l) = false) (h3 : ¬ x.n = 0) (h4 : addB x (partsOf l) = false) : (zeroS, (i : Int) + 1) = R := by
  rw [rdL.eq_2, h, if_pos rfl, h2, if_neg (by decide), if_neg h3, h4, if_neg (by decide)] at hZ
  exact hZ
theorem rl_end0 {i : Nat} {x : Sc} {R : Sc × Int} (hZ : rdL [] i x = R) (h : x.n = 0) : (zeroS, (1 : Int)) = R := by
  rw [rdL.eq_1, if_pos h] at hZ
  exact hZ
theorem rl_endN {i : Nat} {x : Sc} {R : Sc × Int} (hZ : rdL [] i x = R) (h : ¬ x.n = 0) : (x, (0 : Int)) = R := by
  rw [rdL.eq_1, if_neg h] at hZ
  exact hZ
theorem n35 {b : UInt8} (h : ¬ b = 35) : ¬ (b.toNat : Int) = 35 := fun c => h (UInt8.toNat_inj.1 (show b.toNat = UInt8.toNat 35 by have e : UInt8.toNat 35 = 35 := rfl; omega))
theorem wrap_next {i : Nat} (h : i ≤ 100000) : IntKind.i64.wrap ((i : Int) + 1) = (i : Int) + 1 := by rw [wrap_i64 (by omega) (by omega)]
theorem inB_nz {v : Nat} (h : inB (v : Int) 1 3 = true) : ¬ (v : Int) = 0 := inB_n h
end Go.Proofs.YtkgfidphcpklhaaDoor
