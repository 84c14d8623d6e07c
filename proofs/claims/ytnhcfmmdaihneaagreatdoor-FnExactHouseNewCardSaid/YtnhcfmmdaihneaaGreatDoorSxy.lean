/- Functions by content: the reference's shard applies a record. Functions by content: a shard is made from its disk, by the program and by the reference. -/
import Derived.Test.YtnhcfmmdaihneaaGreatDoorSvw
namespace Go.Proofs.YtnhcfmmdaihneaaGreatDoor
set_option maxRecDepth 100000
set_option maxHeartbeats 16000000
set_option linter.unusedVariables false
set_option linter.unusedSimpArgs false
set_option linter.unusedSectionVars false
open Go.RowKit Pl
attribute [local irreducible] z0w z0x z0A AnsP LeP
theorem u8_i64 (b : UInt8) : IntKind.i64.wrap ((b.toNat : Nat) : Int) = ((b.toNat : Nat) : Int) := by have := b.toNat_lt; rw [z0J (by omega) (by omega)]
theorem z9t (b : UInt8) (r : Bs) (h : (r.length : Int) ≤ 100000000) : CT Tryz.prog 176 [.box [.str (b :: r), .int .i64 0, .bool false]] [.ptr 1 0 0] (.int .i64 ((b.toNat : Nat) : Int)) [.box [.str (b :: r), .int .i64 1, .bool false]] := by
 have h0 : 0 < (b :: r).length := by simp
 have hl : ¬ (0 : Int) ≥ ((b :: r).length : Int) := by have : (b :: r).length = r.length + 1 := rfl; omega
 have e1 := u8_i64 b
 refine z01 z03 2 rfl Tryz.func176 rfl rfl rfl ?_
 repeat ((try conv => whnf); first | (refine z0j hl ?_) | (refine Exists.intro 0 (And.intro rfl (And.intro h0 ?_))) | (refine Exists.intro _ (And.intro e1.symm ?_)) | (refine And.intro (by kernel_rfl) ?_) | (refine stpQ ?_))
 (refine z00 (by rfl) ?_ ?_ (by rfl)) <;> (repeat' (first | (exact eqA) | (refine And.intro ?_ ?_) | ((fail_if_success (with_reducible (show _ = _))); (show _ = _))))
theorem zje {t : Bs} {p : Nat} {A : Nat × Nat × Bool} (hA : A = z0W t p false) : ((numS t A.2.1 A.2.2).2.2 = true ∧ (z0W t A.2.1 A.2.2).2.2 = true) ∨ numS t A.2.1 A.2.2 = z0W t A.2.1 A.2.2 := by
 cases h : A.2.2
 ·exact .inr rfl
 ·exact .inl ⟨rfl, z51 t _⟩
theorem zf1 {t : Bs} {A : Nat × Nat × Bool} : ((numS t (numS t A.2.1 A.2.2).2.1 (numS t A.2.1 A.2.2).2.2).2.2 = true ∧ (z0W t (z0W t A.2.1 A.2.2).2.1 (z0W t A.2.1 A.2.2).2.2).2.2 = true) ∨
 (numS t A.2.1 A.2.2 = z0W t A.2.1 A.2.2 ∧ numS t (numS t A.2.1 A.2.2).2.1 (numS t A.2.1 A.2.2).2.2 = z0W t (z0W t A.2.1 A.2.2).2.1 (z0W t A.2.1 A.2.2).2.2) := by
 cases h : A.2.2
 ·have e : numS t A.2.1 false = z0W t A.2.1 false := rfl
  rw [e]
  cases h2 : (z0W t A.2.1 false).2.2
  ·exact .inr ⟨rfl, rfl⟩
  ·exact .inl ⟨rfl, z51 t _⟩
 ·have e : (z0W t A.2.1 true).2.2 = true := z51 t _
  rw [e]
  exact .inl ⟨rfl, z51 t _⟩
theorem zdX {t : Bs} {p : Nat} {b : Bool} (hp : p ≤ t.length) : (numS t p b).2.1 ≤ t.length ∧ (numS t p b).1 ≤ 1000000000 := zg6 hp
theorem zcn (a K : Int) (up : Bool) (fs : List Fl) (V : List (List T)) (hV : V.length ≤ 10) (s : Sv) {n : Nat} (g : SvOk n s) (hn : n ≤ 30000) (b : UInt8) (r : Bs) (hr : r.length ≤ 9000) : CT Tryz.prog 147 (svH a K up fs V s .no) [.ptr 1 0 0, .str (b :: r)] (.tup []) (svH a K up fs V s (rkOf a K s (b :: r))) := by
 have g1 := g.ep
 have g4 := g.al
 have g5 := g.rk
 have g3 := g.tl
 have g6 := g.rt
 have g7 := g.r4
 have hbl := b.toNat_lt
 have hl : (b :: r).length = r.length + 1 := rfl
 have hcl := z65 s.al
 have cB := z9t b r (by omega)
 by_cases k1 : b.toNat = 1
 ·have k1' : ((b.toNat : Nat) : Int) = 1 := by omega
  have c1 := z99 r (by omega)
  rw [← zav] at c1
  cases hq : z0M r with
  | none =>
    rw [hq] at c1
    have hR : rkOf a K s (b :: r) = .no := by rw [rkOf, if_pos k1, hq]
    rw [hR]
    unfold svH svB
    refine z01 z03 5 rfl Tryz.func147 rfl rfl rfl ?_
    repeat ((try conv => whnf); first | (refine ccB ([_]) (cB) ?_) | (refine z0o k1' ?_) | (refine i_le (show 1 ≤ (b :: r).length by simp) ?_) | (refine ccA ([]) (c1) ?_) | (refine And.intro (by kernel_rfl) ?_) | (refine stpQ ?_))
    (refine z00 (by rfl) ?_ ?_ (by rfl)) <;> (repeat' (first | (exact eqA) | (refine And.intro ?_ ?_) | ((fail_if_success (with_reducible (show _ = _))); (show _ = _))))
  | some y =>
    obtain ⟨id, nm, v⟩ := y
    rw [hq] at c1
    have hch := z31 hq
    have hfit := zgw hq
    have c2 := ziS s.al (id : Int) (by omega)
    have c3 := zeN nm K (by have := z2C (by unfold z0z at hch; simp only [Bool.and_eq_true] at hch; exact hch.1.2); omega)
    by_cases hsh : ((z1X nm K : Nat) : Int) = a
    ·cases hi : idIx s.al (id : Int) with
     | none =>
       rw [hi] at c2
       have c2' : CT Tryz.prog 203 [] [.sl 3 (chE s.al), .int .i64 (id : Int)] (.int .i64 (-1)) [] := c2
       have hR : rkOf a K s (b :: r) = .all ((id : Int), nm, v) := by rw [rkOf, if_pos k1, hq]; exact if_pos ⟨hsh, hi⟩
       rw [hR]
       generalize z1X nm K = sh at c3 hsh
       unfold svH svB
       refine z01 z03 5 rfl Tryz.func147 rfl rfl rfl ?_
       repeat ((try conv => whnf); first | (refine ccB ([_]) (cB) ?_) | (refine z0o k1' ?_) | (refine i_le (show 1 ≤ (b :: r).length by simp) ?_) | (refine ccA ([]) (c1) ?_) | (refine ccA ([]) (c2') ?_) | (refine ccA ([]) (c3) ?_) | (refine z0o hsh ?_) | (refine And.intro (by simp only [List.length_append, List.length_cons, List.length_nil, List.length_set, List.length_replicate]; omega) ?_) | (refine And.intro (by kernel_rfl) ?_) | (refine stpQ ?_))
       (refine z00 (by rfl) ?_ ?_ (by rfl)) <;> (repeat' (first | (exact eqA) | (refine And.intro ?_ ?_) | ((fail_if_success (with_reducible (show _ = _))); (show _ = _))))
       all_goals first
        | exact (zjR s.al [((id : Int), nm, v)]).symm
        | rfl
     | some k =>
       rw [hi] at c2
       have c2' : CT Tryz.prog 203 [] [.sl 3 (chE s.al), .int .i64 (id : Int)] (.int .i64 ((k : Nat) : Int)) [] := c2
       have hk : ¬ ((k : Nat) : Int) < 0 := by omega
       have hR : rkOf a K s (b :: r) = .no := by rw [rkOf, if_pos k1, hq]; exact if_neg (fun c => by rw [hi] at c; cases c.2)
       rw [hR]
       generalize z1X nm K = sh at c3 hsh
       unfold svH svB
       refine z01 z03 5 rfl Tryz.func147 rfl rfl rfl ?_
       repeat ((try conv => whnf); first | (refine ccB ([_]) (cB) ?_) | (refine z0o k1' ?_) | (refine i_le (show 1 ≤ (b :: r).length by simp) ?_) | (refine ccA ([]) (c1) ?_) | (refine ccA ([]) (c2') ?_) | (refine ccA ([]) (c3) ?_) | (refine z0o hsh ?_) | (refine And.intro (by kernel_rfl) ?_) | (refine stpQ ?_))
       (refine z00 (by rfl) ?_ ?_ (by rfl)) <;> (repeat' (first | (exact eqA) | (refine And.intro ?_ ?_) | ((fail_if_success (with_reducible (show _ = _))); (show _ = _))))
    ·have hR : rkOf a K s (b :: r) = .no := by rw [rkOf, if_pos k1, hq]; exact if_neg (fun c => hsh c.1)
     rw [hR]
     generalize z1X nm K = sh at c3 hsh
     unfold svH svB
     refine z01 z03 5 rfl Tryz.func147 rfl rfl rfl ?_
     repeat ((try conv => whnf); first | (refine ccB ([_]) (cB) ?_) | (refine z0o k1' ?_) | (refine i_le (show 1 ≤ (b :: r).length by simp) ?_) | (refine ccA ([]) (c1) ?_) | (refine ccA ([]) (c3) ?_) | (refine z0j hsh ?_) | (refine And.intro (by kernel_rfl) ?_) | (refine stpQ ?_))
     (refine z00 (by rfl) ?_ ?_ (by rfl)) <;> (repeat' (first | (exact eqA) | (refine And.intro ?_ ?_) | ((fail_if_success (with_reducible (show _ = _))); (show _ = _))))
 ·rw [rkOf, if_neg k1]
  have k1' : ¬ ((b.toNat : Nat) : Int) = 1 := by omega
  have d1 : CT Tryz.prog 36 [fldB (b :: r) 1 false] [.ptr 1 0 0] (.int .i64 ((num1 (b :: r)).1 : Int)) [fldB (b :: r) (num1 (b :: r)).2.1 (num1 (b :: r)).2.2] := zaA (b :: r) 1 false (by omega) (by omega)
  have l1 : (num1 (b :: r)).2.1 ≤ (b :: r).length ∧ (num1 (b :: r)).1 ≤ 1000000000 := z2d (by omega)
  have d2 := zaA (b :: r) (num1 (b :: r)).2.1 (num1 (b :: r)).2.2 (by omega) l1.1
  have l2 := zdX (t := b :: r) (b := (num1 (b :: r)).2.2) l1.1
  have d3 := zaA (b :: r) (numS (b :: r) (num1 (b :: r)).2.1 (num1 (b :: r)).2.2).2.1 (numS (b :: r) (num1 (b :: r)).2.1 (num1 (b :: r)).2.2).2.2 (by omega) l2.1
  have l3 := zdX (t := b :: r) (b := (numS (b :: r) (num1 (b :: r)).2.1 (num1 (b :: r)).2.2).2.2) l2.1
  have w2 : ((numS (b :: r) (num1 (b :: r)).2.1 (num1 (b :: r)).2.2).2.2 = true ∧ (num2 (b :: r)).2.2 = true) ∨ numS (b :: r) (num1 (b :: r)).2.1 (num1 (b :: r)).2.2 = num2 (b :: r) := zje rfl
  have w3 : ((numS (b :: r) (numS (b :: r) (num1 (b :: r)).2.1 (num1 (b :: r)).2.2).2.1 (numS (b :: r) (num1 (b :: r)).2.1 (num1 (b :: r)).2.2).2.2).2.2 = true ∧ (num3 (b :: r)).2.2 = true) ∨
   (numS (b :: r) (num1 (b :: r)).2.1 (num1 (b :: r)).2.2 = num2 (b :: r) ∧ numS (b :: r) (numS (b :: r) (num1 (b :: r)).2.1 (num1 (b :: r)).2.2).2.1 (numS (b :: r) (num1 (b :: r)).2.1 (num1 (b :: r)).2.2).2.2 = num3 (b :: r)) := zf1
  generalize numS (b :: r) (numS (b :: r) (num1 (b :: r)).2.1 (num1 (b :: r)).2.2).2.1 (numS (b :: r) (num1 (b :: r)).2.1 (num1 (b :: r)).2.2).2.2 = Z at d3 l3 w3
  generalize numS (b :: r) (num1 (b :: r)).2.1 (num1 (b :: r)).2.2 = Y at d2 d3 l2 w2 w3
  generalize num1 (b :: r) = A at d1 d2 l1 ⊢
  generalize num2 (b :: r) = B at w2 w3 ⊢
  generalize num3 (b :: r) = C at w3 ⊢
  obtain ⟨A1, A2, A3⟩ := A
  obtain ⟨B1, B2, B3⟩ := B
  obtain ⟨C1, C2, C3⟩ := C
  obtain ⟨Y1, Y2, Y3⟩ := Y
  obtain ⟨Z1, Z2, Z3⟩ := Z
  simp only [Prod.mk.injEq] at d1 d2 d3 l1 l2 l3 w2 w3 ⊢
  unfold fldB at d1 d2 d3
  have e1 : IntKind.i64.wrap ((s.ep : Int) + 1) = ((s.ep + 1 : Nat) : Int) := by rw [z0J (by omega) (by omega)]; omega
  by_cases k2 : b.toNat = 2
  ·rw [if_pos k2]
   have k2' : ((b.toNat : Nat) : Int) = 2 := by omega
   have t1 := zgQ a K up fs V s ⟨by omega, by omega⟩
   have t2 := z1B (C1 : Int) (z3G s.tk : Int) (s.al.length : Int)
   rcases w3 with ⟨z, c⟩ | ⟨⟨ya, yb, yc⟩, za, zb, zc⟩
   ·subst z
    subst c
    rw [if_neg (fun h => by simp [z19] at h)]
    unfold svH svB
    refine z01 z03 5 rfl Tryz.func147 rfl rfl rfl ?_
    repeat ((try conv => whnf); first | (refine ccB ([_]) (cB) ?_) | (refine z0j k1' ?_) | (refine z0o k2' ?_) | (refine ccB ([_]) (d1) ?_) | (refine ccB ([_]) (d2) ?_) | (refine ccB ([_]) (d3) ?_) | (refine And.intro (by kernel_rfl) ?_) | (refine stpQ ?_))
    (refine z00 (by rfl) ?_ ?_ (by rfl)) <;> (repeat' (first | (exact eqA) | (refine And.intro ?_ ?_) | ((fail_if_success (with_reducible (show _ = _))); (show _ = _))))
   ·subst ya yb yc za zb zc
    by_cases hd : Z3 = false ∧ Z2 = r.length + 1
    ·obtain ⟨hd1, hd2⟩ := hd
     subst hd1
     subst hd2
     have hD : z19 false (r.length + 1) (r.length + 1) = true := by simp [z19]
     have hne : ¬ ((r.length + 1 : Nat) : Int) ≠ (((b :: r).length : Nat) : Int) := by omega
     by_cases hc : A1 = s.ep + 1 ∧ A1 ≤ 4 ∧ s.rt < Y1 ∧ Y1 ≤ 1000 ∧ z3G s.tk ≤ Z1 ∧ Z1 ≤ s.al.length
     ·rw [if_pos ⟨hD, hc⟩]
      obtain ⟨h1, h2, h3, h4, h5, h6⟩ := hc
      rw [z5c ⟨by omega, by omega⟩] at t2
      have h1' : (A1 : Int) = ((s.ep + 1 : Nat) : Int) := by omega
      have h2' : (A1 : Int) ≤ 4 := by omega
      have h3' : (Y1 : Int) > (s.rt : Int) := by omega
      have h4' : (Y1 : Int) ≤ 1000 := by omega
      generalize z3G s.tk = lt at t1 t2
      unfold svE at t1
      unfold svH svB
      refine z01 z03 5 rfl Tryz.func147 rfl rfl rfl ?_
      repeat ((try conv => whnf); first | (refine ccB ([_]) (cB) ?_) | (refine z0j k1' ?_) | (refine z0o k2' ?_) | (refine Exists.intro _ (And.intro e1.symm ?_)) | (refine Exists.intro s.al.length (And.intro hcl ?_)) | (refine ccB ([_]) (d1) ?_) | (refine ccB ([_]) (d2) ?_) | (refine ccB ([_]) (d3) ?_) | (refine z0S (by omega) ?_) | (refine ccA ([]) (t1) ?_) | (refine ccA ([]) (t2) ?_) | (refine z0o h1' ?_) | (refine z0o h2' ?_) | (refine z0o h3' ?_) | (refine z0o h4' ?_) | (refine And.intro (by kernel_rfl) ?_) | (refine stpQ ?_))
      (refine z00 (by rfl) ?_ ?_ (by rfl)) <;> (repeat' (first | (exact eqA) | (refine And.intro ?_ ?_) | ((fail_if_success (with_reducible (show _ = _))); (show _ = _))))
     ·rw [if_neg (fun h => hc h.2)]
      generalize z3G s.tk = lt at t1 t2 hc
      unfold svE at t1
      unfold svH svB
      refine z01 z03 5 rfl Tryz.func147 rfl rfl rfl ?_
      repeat' (first | ((try conv => whnf); first | (refine ccB ([_]) (cB) ?_) | (refine z0j k1' ?_) | (refine z0o k2' ?_) | (refine Exists.intro _ (And.intro e1.symm ?_)) | (refine Exists.intro s.al.length (And.intro hcl ?_)) | (refine ccB ([_]) (d1) ?_) | (refine ccB ([_]) (d2) ?_) | (refine ccB ([_]) (d3) ?_) | (refine z0S (by omega) ?_) | (refine ccA ([]) (t1) ?_) | (refine ccA ([]) (t2) ?_) | (refine And.intro (by kernel_rfl) ?_) | (refine stpQ ?_)) | ((try conv => whnf); first | (refine cb_d (fun h => ?_) (fun h => ?_)) | (refine cb_n (fun h => ?_) (fun h => ?_)) | (refine cb (fun h => ?_) (fun h => ?_))))
      all_goals first
       | (exfalso
          have q7 := z0T.1 h
          exact hc ⟨by omega, by omega, by omega, by omega, by omega, by omega⟩)
       | ((refine z00 (by rfl) ?_ ?_ (by rfl)) <;> (repeat' (first | (exact eqA) | (refine And.intro ?_ ?_) | ((fail_if_success (with_reducible (show _ = _))); (show _ = _)))))
    ·rw [if_neg (fun h => by simp [z19] at h; exact hd ⟨h.1.1, h.1.2⟩)]
     unfold svH svB
     cases Z3 with
     | true =>
       refine z01 z03 5 rfl Tryz.func147 rfl rfl rfl ?_
       repeat ((try conv => whnf); first | (refine ccB ([_]) (cB) ?_) | (refine z0j k1' ?_) | (refine z0o k2' ?_) | (refine ccB ([_]) (d1) ?_) | (refine ccB ([_]) (d2) ?_) | (refine ccB ([_]) (d3) ?_) | (refine And.intro (by kernel_rfl) ?_) | (refine stpQ ?_))
       (refine z00 (by rfl) ?_ ?_ (by rfl)) <;> (repeat' (first | (exact eqA) | (refine And.intro ?_ ?_) | ((fail_if_success (with_reducible (show _ = _))); (show _ = _))))
     | false =>
       have hz : ¬ (Z2 : Int) = (((b :: r).length : Nat) : Int) := fun c => hd ⟨rfl, by omega⟩
       refine z01 z03 5 rfl Tryz.func147 rfl rfl rfl ?_
       repeat ((try conv => whnf); first | (refine ccB ([_]) (cB) ?_) | (refine z0j k1' ?_) | (refine z0o k2' ?_) | (refine ccB ([_]) (d1) ?_) | (refine ccB ([_]) (d2) ?_) | (refine ccB ([_]) (d3) ?_) | (refine z4Z hz ?_) | (refine And.intro (by kernel_rfl) ?_) | (refine stpQ ?_))
       (refine z00 (by rfl) ?_ ?_ (by rfl)) <;> (repeat' (first | (exact eqA) | (refine And.intro ?_ ?_) | ((fail_if_success (with_reducible (show _ = _))); (show _ = _))))
  ·rw [if_neg k2]
   have k2' : ¬ ((b.toNat : Nat) : Int) = 2 := by omega
   by_cases k3 : b.toNat = 3
   ·rw [if_pos k3]
    have k3' : ((b.toNat : Nat) : Int) = 3 := by omega
    have k34 : ¬ ((b.toNat : Nat) : Int) = 4 := by omega
    by_cases hd : A3 = false ∧ A2 = r.length + 1
    ·obtain ⟨hd1, hd2⟩ := hd
     subst hd1
     subst hd2
     have hD : z19 false (r.length + 1) (r.length + 1) = true := by simp [z19]
     by_cases hc : A1 = s.re ∧ A1 ≠ 0
     ·rw [if_pos ⟨hD, hc⟩]
      have h1' : (s.re : Int) = (A1 : Int) := by omega
      have h2' : (A1 : Int) > 0 := by omega
      have cC := zc1 a K up fs V hV s g hn
      unfold svH svB at cC ⊢
      refine z01 z03 5 rfl Tryz.func147 rfl rfl rfl ?_
      repeat ((try conv => whnf); first | (refine ccB ([_]) (cB) ?_) | (refine z0j k1' ?_) | (refine z0j k2' ?_) | (refine z0j k34 ?_) | (refine z0o k3' ?_) | (refine ccB ([_]) (d1) ?_) | (refine z0S (by omega) ?_) | (refine z0o h1' ?_) | (refine z0o h2' ?_) | (refine ccB ([1, 2, 3, 4]) (cC) ?_) | (refine And.intro (by kernel_rfl) ?_) | (refine stpQ ?_))
      (refine z00 (by rfl) ?_ ?_ (by rfl)) <;> (repeat' (first | (exact eqA) | (refine And.intro ?_ ?_) | ((fail_if_success (with_reducible (show _ = _))); (show _ = _))))
     ·rw [if_neg (fun h => hc h.2)]
      unfold svH svB
      refine z01 z03 5 rfl Tryz.func147 rfl rfl rfl ?_
      repeat' (first | ((try conv => whnf); first | (refine ccB ([_]) (cB) ?_) | (refine z0j k1' ?_) | (refine z0j k2' ?_) | (refine z0j k34 ?_) | (refine z0o k3' ?_) | (refine ccB ([_]) (d1) ?_) | (refine z0S (by omega) ?_) | (refine And.intro (by kernel_rfl) ?_) | (refine stpQ ?_)) | ((try conv => whnf); first | (refine cb_d (fun h => ?_) (fun h => ?_)) | (refine cb_n (fun h => ?_) (fun h => ?_)) | (refine cb (fun h => ?_) (fun h => ?_))))
      all_goals first
       | (exfalso; exact hc ⟨by omega, by omega⟩)
       | ((refine z00 (by rfl) ?_ ?_ (by rfl)) <;> (repeat' (first | (exact eqA) | (refine And.intro ?_ ?_) | ((fail_if_success (with_reducible (show _ = _))); (show _ = _)))))
    ·rw [if_neg (fun h => by simp [z19] at h; exact hd ⟨h.1.1, h.1.2⟩)]
     unfold svH svB
     cases A3 with
     | true =>
       refine z01 z03 5 rfl Tryz.func147 rfl rfl rfl ?_
       repeat ((try conv => whnf); first | (refine ccB ([_]) (cB) ?_) | (refine z0j k1' ?_) | (refine z0j k2' ?_) | (refine z0j k34 ?_) | (refine ccB ([_]) (d1) ?_) | (refine And.intro (by kernel_rfl) ?_) | (refine stpQ ?_))
       (refine z00 (by rfl) ?_ ?_ (by rfl)) <;> (repeat' (first | (exact eqA) | (refine And.intro ?_ ?_) | ((fail_if_success (with_reducible (show _ = _))); (show _ = _))))
     | false =>
       have hz : ¬ (A2 : Int) = (((b :: r).length : Nat) : Int) := fun c => hd ⟨rfl, by omega⟩
       refine z01 z03 5 rfl Tryz.func147 rfl rfl rfl ?_
       repeat ((try conv => whnf); first | (refine ccB ([_]) (cB) ?_) | (refine z0j k1' ?_) | (refine z0j k2' ?_) | (refine z0j k34 ?_) | (refine ccB ([_]) (d1) ?_) | (refine z4Z hz ?_) | (refine And.intro (by kernel_rfl) ?_) | (refine stpQ ?_))
       (refine z00 (by rfl) ?_ ?_ (by rfl)) <;> (repeat' (first | (exact eqA) | (refine And.intro ?_ ?_) | ((fail_if_success (with_reducible (show _ = _))); (show _ = _))))
   ·rw [if_neg k3]
    have k3' : ¬ ((b.toNat : Nat) : Int) = 3 := by omega
    by_cases k4 : b.toNat = 4
    ·rw [if_pos k4]
     have k4' : ((b.toNat : Nat) : Int) = 4 := by omega
     rcases w2 with ⟨z, c⟩ | ⟨ya, yb, yc⟩
     ·subst z
      subst c
      rw [if_neg (fun h => by simp [z19] at h)]
      unfold svH svB
      refine z01 z03 5 rfl Tryz.func147 rfl rfl rfl ?_
      repeat ((try conv => whnf); first | (refine ccB ([_]) (cB) ?_) | (refine z0j k1' ?_) | (refine z0j k2' ?_) | (refine z0o k4' ?_) | (refine ccB ([_]) (d1) ?_) | (refine ccB ([_]) (d2) ?_) | (refine And.intro (by kernel_rfl) ?_) | (refine stpQ ?_))
      (refine z00 (by rfl) ?_ ?_ (by rfl)) <;> (repeat' (first | (exact eqA) | (refine And.intro ?_ ?_) | ((fail_if_success (with_reducible (show _ = _))); (show _ = _))))
     ·subst ya yb yc
      by_cases hd : Y3 = false ∧ Y2 = r.length + 1
      ·obtain ⟨hd1, hd2⟩ := hd
       subst hd1
       subst hd2
       have hD : z19 false (r.length + 1) (r.length + 1) = true := by simp [z19]
       by_cases hc : A1 = s.re ∧ Y1 = s.rt ∧ A1 ≠ 0
       ·rw [if_pos ⟨hD, hc⟩]
        have h1' : (s.re : Int) = (A1 : Int) := by omega
        have h2' : (s.rt : Int) = (Y1 : Int) := by omega
        have h3' : (A1 : Int) > 0 := by omega
        unfold svH svB
        refine z01 z03 5 rfl Tryz.func147 rfl rfl rfl ?_
        repeat ((try conv => whnf); first | (refine ccB ([_]) (cB) ?_) | (refine z0j k1' ?_) | (refine z0j k2' ?_) | (refine z0j k3' ?_) | (refine z0o k4' ?_) | (refine ccB ([_]) (d1) ?_) | (refine ccB ([_]) (d2) ?_) | (refine z0S (by omega) ?_) | (refine z0o h1' ?_) | (refine z0o h2' ?_) | (refine z0o h3' ?_) | (refine And.intro (by kernel_rfl) ?_) | (refine stpQ ?_))
        (refine z00 (by rfl) ?_ ?_ (by rfl)) <;> (repeat' (first | (exact eqA) | (refine And.intro ?_ ?_) | ((fail_if_success (with_reducible (show _ = _))); (show _ = _)))) <;> rfl
       ·rw [if_neg (fun h => hc h.2)]
        unfold svH svB
        refine z01 z03 5 rfl Tryz.func147 rfl rfl rfl ?_
        repeat' (first | ((try conv => whnf); first | (refine ccB ([_]) (cB) ?_) | (refine z0j k1' ?_) | (refine z0j k2' ?_) | (refine z0j k3' ?_) | (refine z0o k4' ?_) | (refine ccB ([_]) (d1) ?_) | (refine ccB ([_]) (d2) ?_) | (refine z0S (by omega) ?_) | (refine And.intro (by kernel_rfl) ?_) | (refine stpQ ?_)) | ((try conv => whnf); first | (refine cb_d (fun h => ?_) (fun h => ?_)) | (refine cb_n (fun h => ?_) (fun h => ?_)) | (refine cb (fun h => ?_) (fun h => ?_))))
        all_goals first
         | (exfalso; exact hc ⟨by omega, by omega, by omega⟩)
         | ((refine z00 (by rfl) ?_ ?_ (by rfl)) <;> (repeat' (first | (exact eqA) | (refine And.intro ?_ ?_) | ((fail_if_success (with_reducible (show _ = _))); (show _ = _)))))
      ·rw [if_neg (fun h => by simp [z19] at h; exact hd ⟨h.1.1, h.1.2⟩)]
       unfold svH svB
       cases Y3 with
       | true =>
         refine z01 z03 5 rfl Tryz.func147 rfl rfl rfl ?_
         repeat ((try conv => whnf); first | (refine ccB ([_]) (cB) ?_) | (refine z0j k1' ?_) | (refine z0j k2' ?_) | (refine z0o k4' ?_) | (refine ccB ([_]) (d1) ?_) | (refine ccB ([_]) (d2) ?_) | (refine And.intro (by kernel_rfl) ?_) | (refine stpQ ?_))
         (refine z00 (by rfl) ?_ ?_ (by rfl)) <;> (repeat' (first | (exact eqA) | (refine And.intro ?_ ?_) | ((fail_if_success (with_reducible (show _ = _))); (show _ = _))))
       | false =>
         have hz : ¬ (Y2 : Int) = (((b :: r).length : Nat) : Int) := fun c => hd ⟨rfl, by omega⟩
         refine z01 z03 5 rfl Tryz.func147 rfl rfl rfl ?_
         repeat ((try conv => whnf); first | (refine ccB ([_]) (cB) ?_) | (refine z0j k1' ?_) | (refine z0j k2' ?_) | (refine z0o k4' ?_) | (refine ccB ([_]) (d1) ?_) | (refine ccB ([_]) (d2) ?_) | (refine z4Z hz ?_) | (refine And.intro (by kernel_rfl) ?_) | (refine stpQ ?_))
         (refine z00 (by rfl) ?_ ?_ (by rfl)) <;> (repeat' (first | (exact eqA) | (refine And.intro ?_ ?_) | ((fail_if_success (with_reducible (show _ = _))); (show _ = _))))
    ·rw [if_neg k4]
     have k4' : ¬ ((b.toNat : Nat) : Int) = 4 := by omega
     unfold svH svB
     cases A3 with
     | true =>
       refine z01 z03 5 rfl Tryz.func147 rfl rfl rfl ?_
       repeat ((try conv => whnf); first | (refine ccB ([_]) (cB) ?_) | (refine z0j k1' ?_) | (refine z0j k2' ?_) | (refine z0j k4' ?_) | (refine ccB ([_]) (d1) ?_) | (refine And.intro (by kernel_rfl) ?_) | (refine stpQ ?_))
       (refine z00 (by rfl) ?_ ?_ (by rfl)) <;> (repeat' (first | (exact eqA) | (refine And.intro ?_ ?_) | ((fail_if_success (with_reducible (show _ = _))); (show _ = _))))
     | false =>
       by_cases hz : (A2 : Int) = (((b :: r).length : Nat) : Int)
       ·refine z01 z03 5 rfl Tryz.func147 rfl rfl rfl ?_
        repeat ((try conv => whnf); first | (refine ccB ([_]) (cB) ?_) | (refine z0j k1' ?_) | (refine z0j k2' ?_) | (refine z0j k3' ?_) | (refine z0j k4' ?_) | (refine ccB ([_]) (d1) ?_) | (refine z0S hz ?_) | (refine And.intro (by kernel_rfl) ?_) | (refine stpQ ?_))
        (refine z00 (by rfl) ?_ ?_ (by rfl)) <;> (repeat' (first | (exact eqA) | (refine And.intro ?_ ?_) | ((fail_if_success (with_reducible (show _ = _))); (show _ = _))))
       ·refine z01 z03 5 rfl Tryz.func147 rfl rfl rfl ?_
        repeat ((try conv => whnf); first | (refine ccB ([_]) (cB) ?_) | (refine z0j k1' ?_) | (refine z0j k2' ?_) | (refine z0j k4' ?_) | (refine ccB ([_]) (d1) ?_) | (refine z4Z hz ?_) | (refine And.intro (by kernel_rfl) ?_) | (refine stpQ ?_))
        (refine z00 (by rfl) ?_ ?_ (by rfl)) <;> (repeat' (first | (exact eqA) | (refine And.intro ?_ ?_) | ((fail_if_success (with_reducible (show _ = _))); (show _ = _))))
end Go.Proofs.YtnhcfmmdaihneaaGreatDoor
namespace Go.Proofs.YtnhcfmmdaihneaaGreatDoor
set_option maxRecDepth 100000
set_option maxHeartbeats 16000000
set_option linter.unusedVariables false
set_option linter.unusedSimpArgs false
set_option linter.unusedSectionVars false
open Go.RowKit Pl
attribute [local irreducible] z0w z0x z0A AnsP LeP
def vwZ (z : Bool) : List (List Lf) → List (List T)
 | [] => []
 | v :: r => (bif z then [.val nilV] else [.sl 2 (lvE v)]) :: vwE r
theorem zld (z : Bool) (l : List (List Lf)) : (vwZ z l).length = l.length := by cases l <;> simp [vwZ, vw_len]
theorem zle {z : Bool} {l : List (List Lf)} (h : 0 < l.length) (v : List Lf) : vwZ z (l ++ [v]) = vwZ z l ++ [[.sl 2 (lvE v)]] := by
 cases l with
 | nil => simp at h
 | cons a r => simp [vwZ, vwE]
theorem zhv (l : List (List Lf)) : vwZ false l = vwE l := by cases l <;> simp [vwZ, vwE]
theorem z67 {ps : List Bs} {k : Nat} (h : k < ps.length) : (strE ps)[k]? = some [.str ps[k]] := by simp [strE, List.getElem?_eq_getElem h]
def z15 : Bs := [115, 104, 97, 114, 100]
theorem zk1 {n : Nat} {s : Sv} (g : SvOk n s) : 0 < s.vs.length ∧ s.vs.length ≤ 5 := by have := g.vl; have := g.ep; omega
theorem zaX (a K : Int) (fs : List Fl) (hf : z2T fs) : CT Tryz.prog 86 [] [.int .i64 a, .int .i64 K, .agg [.sl 3 (flE fs)]] (.agg (svE a K true fs (vwZ false (svOf a K (z0i fs z15)).vs) (svOf a K (z0i fs z15)))) [] := by
 have hfl := z3c fs
 have hfl2 := hf.1
 have c2 := z3s fs z15 hf
 have hfacts := z0Z fs z15
 generalize z0i fs z15 = ts at c2 hfacts ⊢
 have hts := z0m ts
 have hts2 : (ts.length : Int) ≤ 20001 := by omega
 unfold z15 at c2
 refine z01 z03 1 rfl Tryz.func86 rfl rfl rfl ?_
 repeat ((try conv => whnf); first | (refine ccA ([]) (c2) ?_) | (refine And.intro (by simp only [List.length_append, List.length_cons, List.length_nil, List.nil_append, List.length_replicate]; omega) ?_) | (refine And.intro (by kernel_rfl) ?_) | (refine stpQ ?_))
 refine z1C Nat (fun i => ⟨[(6, .ptr 1 0 0), (7, .ptr 2 0 0), (8, .sl 1 (strE ts)), (9, .int .i64 (i : Int))],
  [(1, some (.box [.int .i64 0, .int .i64 0, .bool false, .val nilV, .int .i64 0, .val nilV, .val nilV, .val nilV, .int .i64 0, .int .i64 0, .int .i64 0])), (2, some (svB a K true fs (svOf a K (ts.take i)) 3 4 5)), (3, some (.row 1 (vwZ false (svOf a K (ts.take i)).vs))), (4, some (.row 1 (ntE (svOf a K (ts.take i)).tk))), (5, some (.row 3 (chE (svOf a K (ts.take i)).al)))], 6⟩) (fun i => i ≤ ts.length) (fun i => ts.length - i) 0 (by omega) ?_ ?_
 ·(refine z02 (by rfl) ?_ ?_) <;> (repeat' (first | (exact eqA) | (refine And.intro ?_ ?_) | ((fail_if_success (with_reducible (show _ = _))); (show _ = _)))) <;> first | rfl | decide
 ·intro Q1 hQ1 i hi
  by_cases hlt : i < ts.length
  ·have hlt2 : (i : Int) < ((strE ts).length : Int) := by omega
   have hnx := zgD a K hlt
   have g : SvOk (ts.take i).length (svOf a K (ts.take i)) := zgC a K _
   have gl : (ts.take i).length ≤ 30000 := by rw [List.length_take]; omega
   have hmem := hfacts.1 _ (List.getElem_mem hlt)
   have gt := z67 (ps := ts) hlt
   generalize ts[i] = t at hnx hmem gt
   obtain ⟨b, r, rfl⟩ : ∃ b r, t = b :: r := by
    cases t with
    | nil => simp at hmem
    | cons b r => exact ⟨b, r, rfl⟩
   have hr : r.length ≤ 9000 := by have := hmem.2; simp at this; omega
   generalize svOf a K (ts.take i) = s at hnx g ⊢
   have hvs := zk1 g
   have cA := zcn a K true fs (vwZ false s.vs) (by rw [zld]; omega) s g gl b r hr
   have happ := zle (z := false) hvs.1 (z3b s)
   have hs' : zbY a K s (b :: r) = rkDo s (rkOf a K s (b :: r)) := rfl
   rw [hs'] at hnx
   generalize rkOf a K s (b :: r) = rk at cA hnx
   clear hs' g hvs hfacts hmem
   cases rk with
   | no =>
     unfold svH svB at cA
     unfold svB
     repeat ((try conv => whnf); first | (refine i_at gt ?_) | (refine z0N ([2, 3, 4, 5]) (cA) (by ((repeat' (first | (exact trivial) | (exact rfl) | (decide) | (refine And.intro ?_ ?_))); first | done | fail)) (by ((repeat' (first | (exact trivial) | (exact rfl) | (decide) | (refine And.intro ?_ ?_))); first | done | fail)) (by decide) (by rfl) (by first | exact .inl rfl | (refine .inr ⟨by simp [own2, own1, own0], fun e he => ?_⟩; simp only [List.mem_cons, List.not_mem_nil, or_false] at he <;> first | exact he.elim | (subst he; (first | exact z0f | exact z0e | exact z0h _ | exact z0d _)) | (rcases he with rfl | rfl <;> (first | exact z0f | exact z0e | exact z0h _ | exact z0d _)) | (rcases he with rfl | rfl | rfl <;> (first | exact z0f | exact z0e | exact z0h _ | exact z0d _)))) ?_) | (refine ccB ([2, 3, 4, 5]) (cA) ?_) | (refine stpQ ?_))
     refine ⟨i + 1, by omega, by omega, ?_⟩
     rw [hnx]
     (refine z02 (by rfl) ?_ ?_) <;> (repeat' (first | (exact eqA) | (refine And.intro ?_ ?_) | ((fail_if_success (with_reducible (show _ = _))); (show _ = _))))
     all_goals rfl
   | all u =>
     unfold svH svB at cA
     unfold svB
     repeat ((try conv => whnf); first | (refine i_at gt ?_) | (refine z0N ([2, 3, 4, 5]) (cA) (by ((repeat' (first | (exact trivial) | (exact rfl) | (decide) | (refine And.intro ?_ ?_))); first | done | fail)) (by ((repeat' (first | (exact trivial) | (exact rfl) | (decide) | (refine And.intro ?_ ?_))); first | done | fail)) (by decide) (by rfl) (by first | exact .inl rfl | (refine .inr ⟨by simp [own2, own1, own0], fun e he => ?_⟩; simp only [List.mem_cons, List.not_mem_nil, or_false] at he <;> first | exact he.elim | (subst he; (first | exact z0f | exact z0e | exact z0h _ | exact z0d _)) | (rcases he with rfl | rfl <;> (first | exact z0f | exact z0e | exact z0h _ | exact z0d _)) | (rcases he with rfl | rfl | rfl <;> (first | exact z0f | exact z0e | exact z0h _ | exact z0d _)))) ?_) | (refine ccB ([2, 3, 4, 5]) (cA) ?_) | (refine stpQ ?_))
     refine ⟨i + 1, by omega, by omega, ?_⟩
     rw [hnx]
     (refine z02 (by rfl) ?_ ?_) <;> (repeat' (first | (exact eqA) | (refine And.intro ?_ ?_) | ((fail_if_success (with_reducible (show _ = _))); (show _ = _))))
     all_goals rfl
   | rdy e y k =>
     unfold svH svB at cA
     unfold svB
     repeat ((try conv => whnf); first | (refine i_at gt ?_) | (refine z0N ([2, 3, 4, 5]) (cA) (by ((repeat' (first | (exact trivial) | (exact rfl) | (decide) | (refine And.intro ?_ ?_))); first | done | fail)) (by ((repeat' (first | (exact trivial) | (exact rfl) | (decide) | (refine And.intro ?_ ?_))); first | done | fail)) (by decide) (by rfl) (by first | exact .inl rfl | (refine .inr ⟨by simp [own2, own1, own0], fun e he => ?_⟩; simp only [List.mem_cons, List.not_mem_nil, or_false] at he <;> first | exact he.elim | (subst he; (first | exact z0f | exact z0e | exact z0h _ | exact z0d _)) | (rcases he with rfl | rfl <;> (first | exact z0f | exact z0e | exact z0h _ | exact z0d _)) | (rcases he with rfl | rfl | rfl <;> (first | exact z0f | exact z0e | exact z0h _ | exact z0d _)))) ?_) | (refine ccB ([2, 3, 4, 5]) (cA) ?_) | (refine stpQ ?_))
     refine ⟨i + 1, by omega, by omega, ?_⟩
     rw [hnx]
     (refine z02 (by rfl) ?_ ?_) <;> (repeat' (first | (exact eqA) | (refine And.intro ?_ ?_) | ((fail_if_success (with_reducible (show _ = _))); (show _ = _))))
     all_goals rfl
   | com =>
     unfold svH svB z1t at cA
     rw [← happ] at cA
     unfold svB
     repeat ((try conv => whnf); first | (refine i_at gt ?_) | (refine z0N ([2, 3, 4, 5]) (cA) (by ((repeat' (first | (exact trivial) | (exact rfl) | (decide) | (refine And.intro ?_ ?_))); first | done | fail)) (by ((repeat' (first | (exact trivial) | (exact rfl) | (decide) | (refine And.intro ?_ ?_))); first | done | fail)) (by decide) (by rfl) (by first | exact .inl rfl | (refine .inr ⟨by simp [own2, own1, own0], fun e he => ?_⟩; simp only [List.mem_cons, List.not_mem_nil, or_false] at he <;> first | exact he.elim | (subst he; (first | exact z0f | exact z0e | exact z0h _ | exact z0d _)) | (rcases he with rfl | rfl <;> (first | exact z0f | exact z0e | exact z0h _ | exact z0d _)) | (rcases he with rfl | rfl | rfl <;> (first | exact z0f | exact z0e | exact z0h _ | exact z0d _)))) ?_) | (refine ccB ([2, 3, 4, 5]) (cA) ?_) | (refine stpQ ?_))
     refine ⟨i + 1, by omega, by omega, ?_⟩
     rw [hnx]
     (refine z02 (by rfl) ?_ ?_) <;> (repeat' (first | (exact eqA) | (refine And.intro ?_ ?_) | ((fail_if_success (with_reducible (show _ = _))); (show _ = _))))
     all_goals rfl
  ·have hie : i = ts.length := by omega
   subst hie
   rw [List.take_length]
   unfold svB
   repeat ((try conv => whnf); first | (refine stpQ ?_))
   refine hQ1 _ _ ?_
   repeat ((try conv => whnf); first | (refine And.intro (by kernel_rfl) ?_) | (refine stpQ ?_))
   (refine z00 (by rfl) ?_ ?_ (by rfl)) <;> (repeat' (first | (exact eqA) | (refine And.intro ?_ ?_) | ((fail_if_success (with_reducible (show _ = _))); (show _ = _))))
end Go.Proofs.YtnhcfmmdaihneaaGreatDoor
