/- Functions by content: the reference reads complete proofs of good content, and refuses all other texts. -/
import Derived.Test.YtnhcfmmdaihneaaRwv
namespace Go.Proofs.Ytnhcfmmdaihneaa
set_option linter.unusedVariables false
set_option linter.unusedSimpArgs false
set_option linter.unusedSectionVars false
open Go.RowKit Pl
theorem z4P {l : List Lf} (h : leavesOk l = true) : Sml l ∧ (l.length : Int) ≤ 100 := by
 obtain ⟨h1, h2, _⟩ := z2C h
 refine ⟨⟨by omega, fun i => ?_⟩, by omega⟩
 rcases Nat.lt_or_ge i l.length with hl | hl
 ·have := h2 _ (List.getElem_mem hl)
  have a := z26 this.1
  have b := z1T this.2
  rw [z9n hl]; omega
 ·simp [lfAt, List.getD, List.getElem?_eq_none hl]
theorem flatW : ∀ {l : List Lf}, (∀ x ∈ l, x.1.length ≤ 12 ∧ x.2.length ≤ 12) → (l.flatMap z1f).length ≤ 44 * l.length
 | [], _ => by simp
 | x :: l, h => by
   have ih := flatW (l := l) fun y hy => h y (by simp [hy])
   obtain ⟨h1, h2⟩ := h x (by simp)
   have a := z0x (l := x.1) (by omega)
   have b := z0x (l := x.2) (by omega)
   simp only [List.flatMap_cons, z1f, List.length_append, List.length_cons] at ih ⊢
   omega
theorem z1Z {l : List Lf} {s : List Bs} (h : z0u l s 16 = true) : (z0f l s).length ≤ 20000 := by
 obtain ⟨h1, h2, h3, _, _⟩ := z19.1 h
 obtain ⟨k1, k2, _⟩ := z2C h1
 have a := flatW fun x hx => ⟨z26 (k2 x hx).1, z1T (k2 x hx).2⟩
 have b := z0D (n := l.length) (by omega)
 have c := z0D (n := s.length) (by omega)
 have d := z1g (l := s) fun y hy => by have := h3 y hy; omega
 simp only [z0f, z0l, List.length_append]
 omega
theorem z5v (t : Bs) (w : Int) : ∀ (n q : Nat) (b : Bool), (z27 t w n q b).1.length ≤ n
 | 0, q, b => Nat.le_refl _
 | n + 1, q, true => by simp [z27]
 | n + 1, q, false => by
   simp only [z27, List.length_cons]
   have := z5v t w n (z0t t q false w).2.1 (z0t t q false w).2.2
   omega
theorem z7o (t : Bs) : ∀ (n q : Nat) (b : Bool), (stS t n q b).1.length ≤ n ∧ ∀ y ∈ (stS t n q b).1, ∀ s, y.2 = some s → s.good
 | 0, q, b => ⟨Nat.le_refl _, fun y h => by cases h⟩
 | n + 1, q, true => ⟨by simp [stS], fun y h => by cases h⟩
 | n + 1, q, false => by
   have ih := z7o t n (z0t t (z0S t q false).2.1 (z0S t q false).2.2 321).2.1 (z0t t (z0S t q false).2.1 (z0S t q false).2.2 321).2.2
   simp only [stS]
   refine ⟨by simp only [List.length_cons]; omega, fun y hy s hs => ?_⟩
   rcases List.mem_cons.1 hy with rfl | hy
   ·exact (z3x.1 hs).1
   ·exact ih.2 y hy s hs
theorem z7p {x : Wh} (g : WhGood x) : (z1h x).length ≤ 30000 := by
 have l0 := z1Z g.pf
 have gt := g.tl
 have gs := g.sl
 have l1 := z0x (l := z0f x.B x.S) (by omega)
 have l2 := z0D (n := x.T.length) (by omega)
 have l3 := z1g g.tw
 have a := z2c (h := x.hd) g.sg
 have b := z0x (l := z0E x.hd) (by have := z0B g.hd; omega)
 have c := z0B g.hd
 have l4 := z0x (l := z0F x.hd x.sg) (by omega)
 have l5 := z0D (n := x.st.length) (by omega)
 have l6 := z66 fun y hy => (g.sh y hy).2
 simp only [z1h, List.length_append]
 omega
theorem z6g (x : Wh) (g : WhGood x) : CT Try.prog 4 [] [.str (z1h x)] (.tup [.agg (whE x), .bool true]) [] := by
 have hlen := z7p g
 have l0 := z1Z g.pf
 have hok := (z19.1 g.pf)
 obtain ⟨hsml, hl2⟩ := z4P hok.1
 have cT := z3y x g hsml hl2 l0
 rw [← z88] at cT
 have gt := g.tl
 have gs := g.sl
 have lsl : (z0F x.hd x.sg).length ≤ 400 := by
  have a := z2c (h := x.hd) g.sg
  have b := z0x (l := z0E x.hd) (by have := z0B g.hd; omega)
  have c := z0B g.hd
  omega
 have e0 : (z1h x).drop 0 = z09 (z0f x.B x.S) ++ (z0d x.T.length ++ (x.T.flatten ++ (z09 (z0F x.hd x.sg) ++ (z0d x.st.length ++ stL x.st)))) := rfl
 have l3 := z1g g.tw
 have e1 := z0k rfl e0
 have e2 := z0k rfl e1
 have e3 := z0k l3 e2
 have e4 := z0k rfl e3
 have e5 := z0k rfl e4
 have r0 := z0T l0 e0 false
 have r1 := z1J (by omega) e1 false
 have r2 := z5u g.tw e2
 have r3 := z0T (by omega) e3 false
 have r4 := z1J (by omega) e4 false
 have r5 := zaW g.sh e5
 have hr : z0R (z0F x.hd x.sg) = some (x.hd, x.sg) := z2d.2 ⟨g.hd, g.sg, rfl⟩
 have kpf : CT Try.prog 9 [] [.str (z0f x.B x.S), .int .i64 16] (.tup [.agg [.ref 1, .ref 2], .bool true]) [.row 2 (lvE x.B), .row 1 (strE x.S)] := by
  have c := z3W (z0f x.B x.S) 16 (by omega)
  rw [zav.2 ⟨g.pf, rfl⟩] at c
  exact c
 have m1 : min x.T.length 4 = x.T.length := by omega
 have m2 : min x.st.length 5 = x.st.length := by omega
 have c := z4O (z1h x) (by omega) _ _ false x.B x.S true _ _ false x.T _ false _ _ false _ _ false (stO x.st) _ false (z1h x) true r0 kpf r1 (by rw [m1]; exact r2) r3 r4 (by rw [m2]; exact r5) (by rw [hr]; exact cT) true ?_
 ·rw [hr, z88] at c
  exact c
 ·rw [hr]
  have : okS true (stO x.st) = true := by
   simp only [okS, Bool.true_and, List.all_eq_true, stO, List.mem_map]
   rintro y ⟨z, _, rfl⟩
   rfl
  rw [this]
  simp
theorem z6h (t : Bs) (ht : t.length ≤ 100000000) (hn : ∀ x, WhGood x → t ≠ z1h x) : CT Try.prog 4 [] [.str t] (.tup [.agg wh0E, .bool false]) [] := by
 rcases hS0 : z0X t 0 false with ⟨pb, q1, b1⟩
 have l0 := z1K (t := t) (p := 0) (bad := false) (Nat.zero_le _)
 rw [hS0] at l0
 simp only at l0
 rcases hN1 : numS t q1 b1 with ⟨n, q2, b2⟩
 rcases hT : z27 t 16 (min n 4) q2 b2 with ⟨Tp, q3, b3⟩
 rcases hS3 : z0X t q3 b3 with ⟨sb, q4, b4⟩
 rcases hN4 : numS t q4 b4 with ⟨m, q5, b5⟩
 rcases hSt : stS t (min m 5) q5 b5 with ⟨st, q6, b6⟩
 have lT := z5v t 16 (min n 4) q2 b2
 rw [hT] at lT
 simp only at lT
 have lS := z7o t (min m 5) q5 b5
 rw [hSt] at lS
 simp only at lS
 have kpf := z3W pb 16 (by omega)
 obtain ⟨hB1, hB2, hB3, hB4⟩ : Sml (z34 (z13 pb 16)).1 ∧ ((z34 (z13 pb 16)).1.length : Int) ≤ 100 ∧ (z34 (z13 pb 16)).2.length ≤ 100 ∧ (z0u (z34 (z13 pb 16)).1 (z34 (z13 pb 16)).2 16 = true → (z0f (z34 (z13 pb 16)).1 (z34 (z13 pb 16)).2).length ≤ 20000) := by
  refine ⟨?_, ?_, ?_, fun h => z1Z h⟩
  all_goals
   cases hr : z13 pb 16 with
   | none => first | (exact (z4P (l := []) rfl).1) | (exact (z4P (l := []) rfl).2) | (exact Nat.zero_le _)
   | some y =>
     obtain ⟨l, s⟩ := y
     have h1 := (zav.1 hr).1
     have h2 := z19.1 h1
     first | (exact (z4P h2.1).1) | (exact (z4P h2.1).2) | (show s.length ≤ 100; omega)
 generalize (z34 (z13 pb 16)).1 = B at *
 generalize (z34 (z13 pb 16)).2 = S at *
 generalize (z13 pb 16).isSome = one at *
 have hrg : ∀ y, z0R sb = some y → y.1.good ∧ y.2.good := fun y hy => by
  obtain ⟨h, s⟩ := y
  have := z2d.1 hy
  exact ⟨this.1, this.2.1⟩
 by_cases hg : z0u B S 16 = true ∧ (z0R sb).isSome = true ∧ Tp.length ≤ 2 ∧ (∀ y ∈ Tp, y.length = 16) ∧ st.length ≤ 3 ∧ Allg st
 ·obtain ⟨g1, g2, g3, g4, g5, g6⟩ := hg
  obtain ⟨l, rfl, g7⟩ := z8Z g6
  cases hr : z0R sb with
  | none => rw [hr] at g2; cases g2
  | some y =>
    obtain ⟨h, s⟩ := y
    obtain ⟨k1, k2⟩ := hrg _ hr
    have gx : WhGood ⟨B, S, Tp, h, s, l⟩ := ⟨g1, g3, g4, k1, k2, by simpa [stO] using g5, g7⟩
    have cT := z3y ⟨B, S, Tp, h, s, l⟩ gx hB1 hB2 (hB4 g1)
    rw [← z88] at cT
    have hne : z1h ⟨B, S, Tp, h, s, l⟩ ≠ t := fun e => hn _ gx e.symm
    exact z4O t ht pb q1 b1 B S one n q2 b2 Tp q3 b3 sb q4 b4 m q5 b5 (stO l) q6 b6 (z1h ⟨B, S, Tp, h, s, l⟩) true hS0 kpf hN1 hT hS3 hN4 hSt (by rw [hr]; exact cT) false (by rw [decide_eq_false hne, Bool.and_false])
 ·have cT := z6f B S Tp (z0R sb) st hB1 hB2 hB3 (by omega) (by omega) hrg lS.2 hB4 hg
  exact z4O t ht pb q1 b1 B S one n q2 b2 Tp q3 b3 sb q4 b4 m q5 b5 st q6 b6 [] false hS0 kpf hN1 hT hS3 hN4 hSt cT false (by rw [Bool.and_false, Bool.false_and])
end Go.Proofs.Ytnhcfmmdaihneaa
