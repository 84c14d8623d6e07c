/- Functions by content: the program reads heads, signatures and seals of any content; chains; keys; a coordinator applies its records. Functions by content: the program's chains of heads. Functions by content: the program reads seals of any content. -/
import Derived.Test.YtgmbkbggnlponaaGreatDoorSvz
import Derived.Test.YtgmbkbggnlponaaGreatDoorSp
import Derived.Test.YtgmbkbggnlponaaGreatDoorPco
namespace Go.Proofs.YtgmbkbggnlponaaGreatDoor
set_option maxRecDepth 100000
set_option maxHeartbeats 4000000
set_option linter.unusedVariables false
set_option linter.unusedSimpArgs false
set_option linter.unusedSectionVars false
open Go.RowKit Pl
attribute [local irreducible] z0t z0u z0y AnsP LeP
theorem z97 {l m : List Bs} (h : strE l = strE m) : l = m := by
 have := congrArg (List.map fun e : List T => match e with
  | [T.str s] => s
  | _ => []) h
 simpa [strE, List.map_map, Function.comp_def] using this
theorem zdO {t c : Bs} {p n q : Nat} {b : Bool} (h : z0p t p b n = (c, q, false)) : b = false ∧ n ≤ t.length - p ∧ c = (t.drop p).take n ∧ q = p + n := by
 unfold z0p at h
 split at h
 ·simp only [Prod.mk.injEq] at h
  exact absurd h.2.2 (by decide)
 ·rename_i hc
  simp only [Prod.mk.injEq] at h
  have hc2 := not_or.1 hc
  exact ⟨h.2.2, by omega, h.1.symm, h.2.1.symm⟩
theorem zcJ (t : Bs) (p : Nat) (b : Bool) (ht : (t.length : Int) ≤ 1000000000) (hp : p ≤ t.length) : CT Tryz.prog 41 [fldB t p b] [.ptr 1 0 0] (.int .i64 ((z1j t p b).1 : Int)) [fldB t (z1j t p b).2.1 (z1j t p b).2.2] := by
 have c := z6M t p b 1 ht hp
 unfold z1j
 generalize z0p t p b 1 = B at c ⊢
 obtain ⟨l, q, b'⟩ := B
 cases l with
 | nil =>
   simp only at c ⊢
   refine z01 z0m 2 rfl Tryz.func41 rfl rfl rfl ?_
   repeat ((try conv => whnf); first | (refine ccB ([1]) (c) ?_) | (refine z0i rfl ?_) | (refine stpQ ?_))
   (refine z00 (by rfl) ?_ ?_ (by rfl)) <;> (repeat' (first | (exact eqA) | (refine shE ?_) | (refine And.intro ?_ ?_)))
 | cons x xs =>
   simp only at c ⊢
   have h1 := z4T x
   have hne : ¬ ((x :: xs : Bs) = []) := fun h => by cases h
   have h0 : 0 < (x :: xs).length := by simp
   refine z01 z0m 2 rfl Tryz.func41 rfl rfl rfl ?_
   repeat ((try conv => whnf); first | (refine ccB ([1]) (c) ?_) | (refine z0k hne ?_) | (refine Exists.intro 0 (And.intro rfl (And.intro h0 ?_))) | (refine Exists.intro _ (And.intro h1.symm ?_)) | (refine stpQ ?_))
   (refine z00 (by rfl) ?_ ?_ (by rfl)) <;> (repeat' (first | (exact eqA) | (refine shE ?_) | (refine And.intro ?_ ?_)))
theorem z78 (ho ep : Int) (ro pr : Bs) : CT Tryz.prog 65 [] [.agg (z2I ho ep ro pr)] (.bool (z2C ho ep ro pr)) [] := by
 have c1 := z70 ho
 have c2 := zah ep
 unfold z2I z2C
 generalize inB ho 0 2 = b1 at c1 ⊢
 generalize inB ep 1 4 = b2 at c2 ⊢
 cases b1 with
 | false =>
   rw [Bool.false_and]
   refine z01 z0B 1 rfl Tryz.func65 rfl rfl rfl ?_
   repeat ((try conv => whnf); first | (refine ccA ([]) (c1) ?_) | (refine stpQ ?_))
   (refine z00 (by rfl) ?_ ?_ (by rfl)) <;> (repeat' (first | (exact eqA) | (refine shE ?_) | (refine And.intro ?_ ?_)))
 | true =>
   cases b2 with
   | false =>
     rw [Bool.true_and, Bool.false_and]
     refine z01 z0B 1 rfl Tryz.func65 rfl rfl rfl ?_
     repeat ((try conv => whnf); first | (refine ccA ([]) (c1) ?_) | (refine ccA ([]) (c2) ?_) | (refine stpQ ?_))
     (refine z00 (by rfl) ?_ ?_ (by rfl)) <;> (repeat' (first | (exact eqA) | (refine shE ?_) | (refine And.intro ?_ ?_)))
   | true =>
     rw [Bool.true_and, Bool.true_and]
     by_cases h3 : (ro.length : Int) = 16
     ·rw [decide_eq_true h3, Bool.true_and]
      by_cases h4 : ep = 1
      ·rw [if_pos h4]
       refine z01 z0B 1 rfl Tryz.func65 rfl rfl rfl ?_
       repeat ((try conv => whnf); first | (refine ccA ([]) (c1) ?_) | (refine ccA ([]) (c2) ?_) | (refine stpQ ?_))
       (refine z00 (by rfl) ?_ ?_ (by rfl)) <;> (repeat' (first | (exact eqA) | (refine shE ?_) | (refine And.intro ?_ ?_)))
      ·rw [if_neg h4]
       refine z01 z0B 1 rfl Tryz.func65 rfl rfl rfl ?_
       repeat ((try conv => whnf); first | (refine ccA ([]) (c1) ?_) | (refine ccA ([]) (c2) ?_) | (refine stpQ ?_))
       (refine z00 (by rfl) ?_ ?_ (by rfl)) <;> (repeat' (first | (exact eqA) | (refine shE ?_) | (refine And.intro ?_ ?_)))
     ·rw [decide_eq_false h3, Bool.false_and]
      refine z01 z0B 1 rfl Tryz.func65 rfl rfl rfl ?_
      repeat ((try conv => whnf); first | (refine ccA ([]) (c1) ?_) | (refine ccA ([]) (c2) ?_) | (refine stpQ ?_))
      (refine z00 (by rfl) ?_ ?_ (by rfl)) <;> (repeat' (first | (exact eqA) | (refine shE ?_) | (refine And.intro ?_ ?_)))
def hdR (t : Bs) : List T := match z3f t with
 | some h => [.agg (hdE h), .bool true]
 | none => [.agg (z2I 0 0 [] []), .bool false]
theorem zbG (t : Bs) (ht : (t.length : Int) ≤ 1000000000) : CT Tryz.prog 149 [] [.str t] (.tup (hdR t)) [] := by
 unfold hdR
 cases hr : z3f t with
 | some h =>
   obtain ⟨g, rfl⟩ := z2M.1 hr
   exact z5u h g
 | none =>
   have k0 := zcJ t 0 false ht (Nat.zero_le _)
   have l0 := z4L (t := t) (p := 0) (b := false) (Nat.zero_le _)
   rcases hA : z1j t 0 false with ⟨a, p1, b1⟩
   rw [hA] at k0 l0
   have k1 := zcJ t p1 b1 ht l0.1
   have l1 := z4L (b := b1) l0.1
   rcases hB : z1j t p1 b1 with ⟨b, p2, b2⟩
   rw [hB] at k1 l1
   have k2 := z6M t p2 b2 16 ht l1.1
   have l2 := z41 (n := 16) (b := b2) l1.1
   rcases hC : z0p t p2 b2 16 with ⟨c, p3, b3⟩
   rw [hC] at k2 l2
   simp only at k0 k1 k2 l0 l1 l2
   cases b3 with
   | true =>
     refine z01 z0B 1 rfl Tryz.func149 rfl rfl rfl ?_
     repeat ((try conv => whnf); first | (refine ccB ([_]) (k0) ?_) | (refine ccB ([_]) (k1) ?_) | (refine ccB ([_]) (k2) ?_) | (refine And.intro (by kernel_rfl) ?_) | (refine stpQ ?_))
     (refine z00 (by rfl) ?_ ?_ (by rfl)) <;> (repeat' (first | (exact eqA) | (refine shE ?_) | (refine And.intro ?_ ?_)))
   | false =>
     obtain ⟨e1, e2, e3, e4⟩ := zdO hC
     subst e1
     obtain ⟨f1, f2, y, f3, f4⟩ := z4M hB
     subst f1
     obtain ⟨-, g2, x, g3, g4⟩ := z4M hA
     have hv : z2C (a : Int) (b : Int) c (t.drop p3) = false := by
      cases hx : z2C (a : Int) (b : Int) c (t.drop p3) with
      | false => rfl
      | true =>
        have hl : 18 ≤ t.length := by omega
        have hp1 : p1 = 1 := by omega
        have hp2 : p2 = 2 := by omega
        have hp3 : p3 = 18 := by omega
        subst hp1 hp2 hp3
        have ha : (t.getD 0 0).toNat = a := by
         rw [List.drop_zero] at g4
         rw [g4]; exact g3
        have hb : (t.getD 1 0).toNat = b := by
         rw [List.drop_zero] at g4
         rw [g4, f4]; exact f3
        have hq : (hdOf t).good := by
         apply z62
         simp only [hdOf, ha, hb]
         rw [← e3]
         exact hx
        rw [z3f, if_pos ⟨hl, hq⟩] at hr
        cases hr
     have k3 := z78 (a : Int) (b : Int) c (t.drop p3)
     rw [hv] at k3
     unfold z2I at k3
     refine z01 z0B 1 rfl Tryz.func149 rfl rfl rfl ?_
     repeat ((try conv => whnf); first | (refine ccB ([_]) (k0) ?_) | (refine ccB ([_]) (k1) ?_) | (refine ccB ([_]) (k2) ?_) | (refine ccA ([]) (k3) ?_) | (refine i_le l2 ?_) | (refine And.intro (by kernel_rfl) ?_) | (refine stpQ ?_))
     (refine z00 (by rfl) ?_ ?_ (by rfl)) <;> (repeat' (first | (exact eqA) | (refine shE ?_) | (refine And.intro ?_ ?_)))
theorem z79 (a : Int) (op sh si : List Bs) (h1 : op.length ≤ 1048576) (h2 : sh.length ≤ 1048576) (h3 : si.length ≤ 1048576) : CT Tryz.prog 44 [] [.agg (z23 a op sh si)] (.bool (z2D a op sh si)) [] := by
 have c1 := c_in a 0 15
 have c2 : CT Tryz.prog 57 [] [.sl 1 (strE op), .int .i64 8, .int .i64 16] (.bool (wideB op 8)) [] := z1r op 8 16 (by omega)
 have c3 : CT Tryz.prog 57 [] [.sl 1 (strE sh), .int .i64 8, .int .i64 16] (.bool (wideB sh 8)) [] := z1r sh 8 16 (by omega)
 have c4 : CT Tryz.prog 57 [] [.sl 1 (strE si), .int .i64 4, .int .i64 16] (.bool (wideB si 4)) [] := z1r si 4 16 (by omega)
 unfold z2D z23
 generalize inB a 0 15 = b1 at c1 ⊢
 generalize wideB op 8 = b2 at c2 ⊢
 generalize wideB sh 8 = b3 at c3 ⊢
 generalize wideB si 4 = b4 at c4 ⊢
 refine z01 z0B 1 rfl Tryz.func44 rfl rfl rfl ?_
 cases b1
 ·repeat ((try conv => whnf); first | (refine ccA ([]) (c1) ?_) | (refine stpQ ?_))
  (refine z00 (by rfl) ?_ ?_ (by rfl)) <;> (repeat' (first | (exact eqA) | (refine shE ?_) | (refine And.intro ?_ ?_))) <;> rfl
 cases b2
 ·repeat ((try conv => whnf); first | (refine ccA ([]) (c1) ?_) | (refine ccA ([]) (c2) ?_) | (refine stpQ ?_))
  (refine z00 (by rfl) ?_ ?_ (by rfl)) <;> (repeat' (first | (exact eqA) | (refine shE ?_) | (refine And.intro ?_ ?_))) <;> rfl
 cases b3
 ·repeat ((try conv => whnf); first | (refine ccA ([]) (c1) ?_) | (refine ccA ([]) (c2) ?_) | (refine ccA ([]) (c3) ?_) | (refine stpQ ?_))
  (refine z00 (by rfl) ?_ ?_ (by rfl)) <;> (repeat' (first | (exact eqA) | (refine shE ?_) | (refine And.intro ?_ ?_))) <;> rfl
 cases b4
 ·repeat ((try conv => whnf); first | (refine ccA ([]) (c1) ?_) | (refine ccA ([]) (c2) ?_) | (refine ccA ([]) (c3) ?_) | (refine ccA ([]) (c4) ?_) | (refine stpQ ?_))
  (refine z00 (by rfl) ?_ ?_ (by rfl)) <;> (repeat' (first | (exact eqA) | (refine shE ?_) | (refine And.intro ?_ ?_))) <;> rfl
 ·repeat ((try conv => whnf); first | (refine ccA ([]) (c1) ?_) | (refine ccA ([]) (c2) ?_) | (refine ccA ([]) (c3) ?_) | (refine ccA ([]) (c4) ?_) | (refine stpQ ?_))
  (refine z00 (by rfl) ?_ ?_ (by rfl)) <;> (repeat' (first | (exact eqA) | (refine shE ?_) | (refine And.intro ?_ ?_))) <;> rfl
theorem zhc (t : Bs) (p : Nat) (b : Bool) (ht : (t.length : Int) ≤ 1000000000) (hp : p ≤ t.length) : ∃ (a : Nat) (op sh si : List Bs) (q : Nat) (b' : Bool), (op.length = 8 ∧ sh.length = 8 ∧ si.length = 4 ∧ q ≤ t.length) ∧
 (b' = false → z2D (a : Int) op sh si = true → b = false ∧ ∃ s : Sg, s.good ∧ sgE s = z23 (a : Int) op sh si ∧ t.drop p = sigB s ++ t.drop q) ∧
 CT Tryz.prog 42 [fldB t p b] [.ptr 1 0 0] (.agg (z23 (a : Int) op sh si)) [fldB t q b'] := by
 have k0 := zcJ t p b ht hp
 have l0 := z4L (b := b) hp
 rcases hA : z1j t p b with ⟨a, p1, b1⟩
 rw [hA] at k0 l0
 have k1 := z1W t p1 b1 8 16 ht l0.1 (by omega)
 have l1 := z4V (w := 16) (n := 8) (b := b1) l0.1
 have m1 := @z4W t 16 8 p1 b1
 rcases hB : z20 t 16 8 p1 b1 with ⟨op, p2, b2⟩
 rw [hB] at k1 l1 m1
 have k2 := z1W t p2 b2 8 16 ht l1 (by omega)
 have l2 := z4V (w := 16) (n := 8) (b := b2) l1
 have m2 := @z4W t 16 8 p2 b2
 rcases hC : z20 t 16 8 p2 b2 with ⟨sh, p3, b3⟩
 rw [hC] at k2 l2 m2
 have k3 := z1W t p3 b3 4 16 ht l2 (by omega)
 have l3 := z4V (w := 16) (n := 4) (b := b3) l2
 have m3 := @z4W t 16 4 p3 b3
 rcases hD : z20 t 16 4 p3 b3 with ⟨si, p4, b4⟩
 rw [hD] at k3 l3 m3
 simp only at k0 k1 k2 k3 l0 l1 l2 l3 m1 m2 m3
 refine ⟨a, op, sh, si, p4, b4, ⟨m1, m2, m3, l3⟩, fun e ok => ?_, ?_⟩
 ·subst e
  obtain ⟨e1, -, -, -, e2⟩ := z37 hD l2
  subst e1
  obtain ⟨f1, -, -, -, f2⟩ := z37 hC l1
  subst f1
  obtain ⟨g1, -, -, -, g2⟩ := z37 hB l0.1
  subst g1
  obtain ⟨i1, -, x, i2, i3⟩ := z4M hA
  obtain ⟨s, gs, es⟩ := zcI ok
  refine ⟨i1, s, gs, es.symm, ?_⟩
  obtain ⟨a', op', sh', si'⟩ := s
  have q1 : a' = a ∧ op' = op ∧ sh' = sh ∧ si' = si := by
   simp only [z23, sgE, List.cons.injEq, T.int.injEq, T.sl.injEq, true_and, and_true] at es
   obtain ⟨r1, r2, r3, r4⟩ := es
   exact ⟨by omega, z97 r2.symm, z97 r3.symm, z97 r4.symm⟩
  obtain ⟨rfl, rfl, rfl, rfl⟩ := q1
  rw [i3, g2, f2, e2, sigB, ← i2, UInt8.ofNat_toNat]
  simp
 ·unfold z23
  clear hA hB hC hD
  refine z01 z0B 2 rfl Tryz.func42 rfl rfl rfl ?_
  repeat ((try conv => whnf); first | (refine ccB ([1]) (k0) ?_) | (refine ccB ([1]) (k1) ?_) | (refine ccB ([1]) (k2) ?_) | (refine ccB ([1]) (k3) ?_) | (refine And.intro (by kernel_rfl) ?_) | (refine stpQ ?_))
  (refine z00 (by rfl) ?_ ?_ (by rfl)) <;> (repeat' (first | (exact eqA) | (refine shE ?_) | (refine And.intro ?_ ?_)))
end Go.Proofs.YtgmbkbggnlponaaGreatDoor
namespace Go.Proofs.YtgmbkbggnlponaaGreatDoor
set_option linter.unusedVariables false
set_option linter.unusedSimpArgs false
set_option linter.unusedSectionVars false
open Go.RowKit Pl
attribute [local irreducible] z0t z0u z0y AnsP LeP
end Go.Proofs.YtgmbkbggnlponaaGreatDoor
namespace Go.Proofs.YtgmbkbggnlponaaGreatDoor
set_option linter.unusedVariables false
set_option linter.unusedSimpArgs false
set_option linter.unusedSectionVars false
open Go.RowKit Pl
attribute [local irreducible] z0t z0u z0y AnsP LeP
set_option maxRecDepth 100000 in
set_option maxHeartbeats 4000000 in
theorem zif (t : Bs) (p : Nat) (b : Bool) (ht : (t.length : Int) ≤ 1000000000) (hp : p ≤ t.length) (hn : b = false → z1i (t.drop p) = none) :
 ∃ (ho ep : Int) (ro pr : Bs) (a : Int) (op sh si : List Bs) (q : Nat) (b' : Bool), z3i b' q t.length = false ∧ CT Tryz.prog 100 [fldB t p b] [.ptr 1 0 0] (.agg (z2I ho ep ro pr ++ z23 a op sh si)) [fldB t q b'] := by
 have c0 := z3o t p b ht hp
 have l0 := z1A (bad := b) hp
 rcases hS : z0E t p b with ⟨hb, p1, b1⟩
 rw [hS] at c0 l0
 simp only at c0 l0
 have k0 := zbG hb (by omega)
 obtain ⟨a, op, sh, si, q, b2, ⟨m1, m2, m3, m4⟩, hok, c1⟩ := zhc t p1 b1 ht l0.1
 have k1 := z79 (a : Int) op sh si (by omega) (by omega) (by omega)
 obtain ⟨ho, ep, ro, pr, ok, hR, hok2⟩ : ∃ (ho ep : Int) (ro pr : Bs) (ok : Bool), hdR hb = [.agg (z2I ho ep ro pr), .bool ok] ∧ (ok = true → ∃ h : Hd, h.good ∧ hb = z0P h) := by
  unfold hdR
  cases hr : z3f hb with
  | some h => exact ⟨(h.ho : Int), (h.ep : Int), h.ro, h.pr, true, rfl, fun _ => ⟨h, z2M.1 hr⟩⟩
  | none => exact ⟨0, 0, [], [], false, rfl, fun e => by cases e⟩
 rw [hR] at k0
 generalize hfm : z2D (a : Int) op sh si = fm at k1 hok
 refine ⟨ho, ep, ro, pr, (a : Int), op, sh, si, q, b2 || !ok || !fm, ?_, ?_⟩
 ·cases hb2 : b2 with
  | true => rfl
  | false =>
    cases hok' : ok with
    | false => rfl
    | true =>
      cases hfm' : fm with
      | false => rfl
      | true =>
        obtain ⟨e1, s, gs, es, ed⟩ := hok hb2 hfm'
        obtain ⟨h, g, eh⟩ := hok2 hok'
        subst e1
        obtain ⟨e2, -, e3, -⟩ := z2l hS
        have hno := hn e2
        have hd : t.drop p = z12 h s ++ t.drop q := by rw [e3, ed, eh, z12, List.append_assoc]
        simp only [z3i, Bool.or_false, Bool.not_true, Bool.not_false, Bool.true_and, beq_eq_false_iff_ne, ne_eq]
        intro hq
        rw [hq, List.drop_length, List.append_nil] at hd
        exact zfo hno g gs hd
 ·unfold z2I at k0 ⊢
  unfold z23 at c1 k1 ⊢
  clear hok hok2 hfm hR hS hn
  cases b2 with
  | true =>
    refine z01 z0B 2 rfl Tryz.func100 rfl rfl rfl ?_
    repeat ((try conv => whnf); first | (refine ccB ([1]) (c0) ?_) | (refine ccA ([]) (k0) ?_) | (refine ccB ([_]) (c1) ?_) | (refine And.intro (by kernel_rfl) ?_) | (refine stpQ ?_))
    (refine z00 (by rfl) ?_ ?_ (by rfl)) <;> (repeat' (first | (exact eqA) | (refine shE ?_) | (refine And.intro ?_ ?_))) <;> rfl
  | false =>
    cases ok with
    | false =>
      refine z01 z0B 2 rfl Tryz.func100 rfl rfl rfl ?_
      repeat ((try conv => whnf); first | (refine ccB ([1]) (c0) ?_) | (refine ccA ([]) (k0) ?_) | (refine ccB ([_]) (c1) ?_) | (refine And.intro (by kernel_rfl) ?_) | (refine stpQ ?_))
      (refine z00 (by rfl) ?_ ?_ (by rfl)) <;> (repeat' (first | (exact eqA) | (refine shE ?_) | (refine And.intro ?_ ?_))) <;> rfl
    | true =>
      cases fm with
      | false =>
        refine z01 z0B 2 rfl Tryz.func100 rfl rfl rfl ?_
        repeat ((try conv => whnf); first | (refine ccB ([1]) (c0) ?_) | (refine ccA ([]) (k0) ?_) | (refine ccB ([_]) (c1) ?_) | (refine ccA ([]) (k1) ?_) | (refine And.intro (by kernel_rfl) ?_) | (refine stpQ ?_))
        (refine z00 (by rfl) ?_ ?_ (by rfl)) <;> (repeat' (first | (exact eqA) | (refine shE ?_) | (refine And.intro ?_ ?_))) <;> rfl
      | true =>
        refine z01 z0B 2 rfl Tryz.func100 rfl rfl rfl ?_
        repeat ((try conv => whnf); first | (refine ccB ([1]) (c0) ?_) | (refine ccA ([]) (k0) ?_) | (refine ccB ([_]) (c1) ?_) | (refine ccA ([]) (k1) ?_) | (refine And.intro (by kernel_rfl) ?_) | (refine stpQ ?_))
        (refine z00 (by rfl) ?_ ?_ (by rfl)) <;> (repeat' (first | (exact eqA) | (refine shE ?_) | (refine And.intro ?_ ?_))) <;> rfl
end Go.Proofs.YtgmbkbggnlponaaGreatDoor
