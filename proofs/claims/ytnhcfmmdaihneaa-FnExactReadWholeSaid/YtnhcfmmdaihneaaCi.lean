/- Functions by content: the program reads heads, signatures and seals of any content; chains; keys; a coordinator applies its records. Functions by content: the program's chains of heads. Functions by content: the program reads seals of any content. -/
import Derived.Test.YtnhcfmmdaihneaaSvw
import Derived.Test.YtnhcfmmdaihneaaSp
import Derived.Test.YtnhcfmmdaihneaaPx
namespace Go.Proofs.Ytnhcfmmdaihneaa
set_option maxRecDepth 100000
set_option maxHeartbeats 4000000
set_option linter.unusedVariables false
set_option linter.unusedSimpArgs false
set_option linter.unusedSectionVars false
open Go.RowKit Pl
attribute [local irreducible] z0m z0o z0s AnsP LeP
theorem z69 {l m : List Bs} (h : strE l = strE m) : l = m := by
 have := congrArg (List.map fun e : List T => match e with
  | [T.str s] => s
  | _ => []) h
 simpa [strE, List.map_map, Function.comp_def] using this
theorem z9y {t c : Bs} {p n q : Nat} {b : Bool} (h : z0h t p b n = (c, q, false)) : b = false ∧ n ≤ t.length - p ∧ c = (t.drop p).take n ∧ q = p + n := by
 unfold z0h at h
 split at h
 ·simp only [Prod.mk.injEq] at h
  exact absurd h.2.2 (by decide)
 ·rename_i hc
  simp only [Prod.mk.injEq] at h
  have hc2 := not_or.1 hc
  exact ⟨h.2.2, by omega, h.1.symm, h.2.1.symm⟩
theorem z8V (t : Bs) (p : Nat) (b : Bool) (ht : (t.length : Int) ≤ 1000000000) (hp : p ≤ t.length) : CT Try.prog 22 [fldB t p b] [.ptr 1 0 0] (.int .i64 ((z0S t p b).1 : Int)) [fldB t (z0S t p b).2.1 (z0S t p b).2.2] := by
 have c := z4H t p b 1 ht hp
 unfold z0S
 generalize z0h t p b 1 = B at c ⊢
 obtain ⟨l, q, b'⟩ := B
 cases l with
 | nil =>
   simp only at c ⊢
   refine z01 z1o 2 rfl Try.func22 rfl rfl rfl ?_
   repeat ((try conv => whnf); first | (refine ccB ([1]) (c) ?_) | (refine z0Q rfl ?_) | (refine stpQ ?_))
   (refine z00 (by rfl) ?_ ?_ (by rfl)) <;> (repeat' (first | (exact eqA) | (refine shE ?_) | (refine And.intro ?_ ?_)))
 | cons x xs =>
   simp only at c ⊢
   have h1 := z6Y x
   have hne : ¬ ((x :: xs : Bs) = []) := fun h => by cases h
   have h0 : 0 < (x :: xs).length := by simp
   refine z01 z1o 2 rfl Try.func22 rfl rfl rfl ?_
   repeat ((try conv => whnf); first | (refine ccB ([1]) (c) ?_) | (refine z0z hne ?_) | (refine Exists.intro 0 (And.intro rfl (And.intro h0 ?_))) | (refine Exists.intro _ (And.intro h1.symm ?_)) | (refine stpQ ?_))
   (refine z00 (by rfl) ?_ ?_ (by rfl)) <;> (repeat' (first | (exact eqA) | (refine shE ?_) | (refine And.intro ?_ ?_)))
theorem zaQ (ho ep : Int) (ro pr : Bs) : CT Try.prog 78 [] [.agg (z2e ho ep ro pr)] (.bool (z2G ho ep ro pr)) [] := by
 have c1 := z4J ho
 have c2 := z7a ep
 unfold z2e z2G
 generalize inB ho 0 2 = b1 at c1 ⊢
 generalize inB ep 1 4 = b2 at c2 ⊢
 cases b1 with
 | false =>
   rw [Bool.false_and]
   refine z01 z0j 1 rfl Try.func78 rfl rfl rfl ?_
   repeat ((try conv => whnf); first | (refine ccA ([]) (c1) ?_) | (refine stpQ ?_))
   (refine z00 (by rfl) ?_ ?_ (by rfl)) <;> (repeat' (first | (exact eqA) | (refine shE ?_) | (refine And.intro ?_ ?_)))
 | true =>
   cases b2 with
   | false =>
     rw [Bool.true_and, Bool.false_and]
     refine z01 z0j 1 rfl Try.func78 rfl rfl rfl ?_
     repeat ((try conv => whnf); first | (refine ccA ([]) (c1) ?_) | (refine ccA ([]) (c2) ?_) | (refine stpQ ?_))
     (refine z00 (by rfl) ?_ ?_ (by rfl)) <;> (repeat' (first | (exact eqA) | (refine shE ?_) | (refine And.intro ?_ ?_)))
   | true =>
     rw [Bool.true_and, Bool.true_and]
     by_cases h3 : (ro.length : Int) = 16
     ·rw [decide_eq_true h3, Bool.true_and]
      by_cases h4 : ep = 1
      ·rw [if_pos h4]
       refine z01 z0j 1 rfl Try.func78 rfl rfl rfl ?_
       repeat ((try conv => whnf); first | (refine ccA ([]) (c1) ?_) | (refine ccA ([]) (c2) ?_) | (refine stpQ ?_))
       (refine z00 (by rfl) ?_ ?_ (by rfl)) <;> (repeat' (first | (exact eqA) | (refine shE ?_) | (refine And.intro ?_ ?_)))
      ·rw [if_neg h4]
       refine z01 z0j 1 rfl Try.func78 rfl rfl rfl ?_
       repeat ((try conv => whnf); first | (refine ccA ([]) (c1) ?_) | (refine ccA ([]) (c2) ?_) | (refine stpQ ?_))
       (refine z00 (by rfl) ?_ ?_ (by rfl)) <;> (repeat' (first | (exact eqA) | (refine shE ?_) | (refine And.intro ?_ ?_)))
     ·rw [decide_eq_false h3, Bool.false_and]
      refine z01 z0j 1 rfl Try.func78 rfl rfl rfl ?_
      repeat ((try conv => whnf); first | (refine ccA ([]) (c1) ?_) | (refine ccA ([]) (c2) ?_) | (refine stpQ ?_))
      (refine z00 (by rfl) ?_ ?_ (by rfl)) <;> (repeat' (first | (exact eqA) | (refine shE ?_) | (refine And.intro ?_ ?_)))
def hdR (t : Bs) : List T := match z2b t with
 | some h => [.agg (hdE h), .bool true]
 | none => [.agg (z2e 0 0 [] []), .bool false]
theorem z80 (t : Bs) (ht : (t.length : Int) ≤ 1000000000) : CT Try.prog 72 [] [.str t] (.tup (hdR t)) [] := by
 unfold hdR
 cases hr : z2b t with
 | some h =>
   obtain ⟨g, rfl⟩ := z1Q.1 hr
   exact z3O h g
 | none =>
   have k0 := z8V t 0 false ht (Nat.zero_le _)
   have l0 := z3n (t := t) (p := 0) (b := false) (Nat.zero_le _)
   rcases hA : z0S t 0 false with ⟨a, p1, b1⟩
   rw [hA] at k0 l0
   have k1 := z8V t p1 b1 ht l0.1
   have l1 := z3n (b := b1) l0.1
   rcases hB : z0S t p1 b1 with ⟨b, p2, b2⟩
   rw [hB] at k1 l1
   have k2 := z4H t p2 b2 16 ht l1.1
   have l2 := z2M (n := 16) (b := b2) l1.1
   rcases hC : z0h t p2 b2 16 with ⟨c, p3, b3⟩
   rw [hC] at k2 l2
   simp only at k0 k1 k2 l0 l1 l2
   cases b3 with
   | true =>
     refine z01 z0j 1 rfl Try.func72 rfl rfl rfl ?_
     repeat ((try conv => whnf); first | (refine ccB ([_]) (k0) ?_) | (refine ccB ([_]) (k1) ?_) | (refine ccB ([_]) (k2) ?_) | (refine And.intro (by kernel_rfl) ?_) | (refine stpQ ?_))
     (refine z00 (by rfl) ?_ ?_ (by rfl)) <;> (repeat' (first | (exact eqA) | (refine shE ?_) | (refine And.intro ?_ ?_)))
   | false =>
     obtain ⟨e1, e2, e3, e4⟩ := z9y hC
     subst e1
     obtain ⟨f1, f2, y, f3, f4⟩ := z3o hB
     subst f1
     obtain ⟨-, g2, x, g3, g4⟩ := z3o hA
     have hv : z2G (a : Int) (b : Int) c (t.drop p3) = false := by
      cases hx : z2G (a : Int) (b : Int) c (t.drop p3) with
      | false => rfl
      | true =>
        have hl : 18 ≤ t.length := by omega
        have hp1 : p1 = 1 := by omega
        have hp2 : p2 = 2 := by omega
        have hp3 : p3 = 18 := by omega
        subst hp1 hp2 hp3
        have ha : (t.getD 0 0).toNat = a := by
         rw [List.drop_zero] at g4
         rw [g4]; exact g3
        have hb : (t.getD 1 0).toNat = b := by
         rw [List.drop_zero] at g4
         rw [g4, f4]; exact f3
        have hq : (hdOf t).good := by
         apply z65
         simp only [hdOf, ha, hb]
         rw [← e3]
         exact hx
        rw [z2b, if_pos ⟨hl, hq⟩] at hr
        cases hr
     have k3 := zaQ (a : Int) (b : Int) c (t.drop p3)
     rw [hv] at k3
     unfold z2e at k3
     refine z01 z0j 1 rfl Try.func72 rfl rfl rfl ?_
     repeat ((try conv => whnf); first | (refine ccB ([_]) (k0) ?_) | (refine ccB ([_]) (k1) ?_) | (refine ccB ([_]) (k2) ?_) | (refine ccA ([]) (k3) ?_) | (refine i_le l2 ?_) | (refine And.intro (by kernel_rfl) ?_) | (refine stpQ ?_))
     (refine z00 (by rfl) ?_ ?_ (by rfl)) <;> (repeat' (first | (exact eqA) | (refine shE ?_) | (refine And.intro ?_ ?_)))
theorem z7c (a : Int) (op sh si : List Bs) (h1 : op.length ≤ 1048576) (h2 : sh.length ≤ 1048576) (h3 : si.length ≤ 1048576) : CT Try.prog 25 [] [.agg (z1V a op sh si)] (.bool (z36 a op sh si)) [] := by
 have c1 := c_in a 0 15
 have c2 : CT Try.prog 57 [] [.sl 1 (strE op), .int .i64 8, .int .i64 16] (.bool (wideB op 8)) [] := z1B op 8 16 (by omega)
 have c3 : CT Try.prog 57 [] [.sl 1 (strE sh), .int .i64 8, .int .i64 16] (.bool (wideB sh 8)) [] := z1B sh 8 16 (by omega)
 have c4 : CT Try.prog 57 [] [.sl 1 (strE si), .int .i64 4, .int .i64 16] (.bool (wideB si 4)) [] := z1B si 4 16 (by omega)
 unfold z36 z1V
 generalize inB a 0 15 = b1 at c1 ⊢
 generalize wideB op 8 = b2 at c2 ⊢
 generalize wideB sh 8 = b3 at c3 ⊢
 generalize wideB si 4 = b4 at c4 ⊢
 refine z01 z0j 1 rfl Try.func25 rfl rfl rfl ?_
 cases b1
 ·repeat ((try conv => whnf); first | (refine ccA ([]) (c1) ?_) | (refine stpQ ?_))
  (refine z00 (by rfl) ?_ ?_ (by rfl)) <;> (repeat' (first | (exact eqA) | (refine shE ?_) | (refine And.intro ?_ ?_))) <;> rfl
 cases b2
 ·repeat ((try conv => whnf); first | (refine ccA ([]) (c1) ?_) | (refine ccA ([]) (c2) ?_) | (refine stpQ ?_))
  (refine z00 (by rfl) ?_ ?_ (by rfl)) <;> (repeat' (first | (exact eqA) | (refine shE ?_) | (refine And.intro ?_ ?_))) <;> rfl
 cases b3
 ·repeat ((try conv => whnf); first | (refine ccA ([]) (c1) ?_) | (refine ccA ([]) (c2) ?_) | (refine ccA ([]) (c3) ?_) | (refine stpQ ?_))
  (refine z00 (by rfl) ?_ ?_ (by rfl)) <;> (repeat' (first | (exact eqA) | (refine shE ?_) | (refine And.intro ?_ ?_))) <;> rfl
 cases b4
 ·repeat ((try conv => whnf); first | (refine ccA ([]) (c1) ?_) | (refine ccA ([]) (c2) ?_) | (refine ccA ([]) (c3) ?_) | (refine ccA ([]) (c4) ?_) | (refine stpQ ?_))
  (refine z00 (by rfl) ?_ ?_ (by rfl)) <;> (repeat' (first | (exact eqA) | (refine shE ?_) | (refine And.intro ?_ ?_))) <;> rfl
 ·repeat ((try conv => whnf); first | (refine ccA ([]) (c1) ?_) | (refine ccA ([]) (c2) ?_) | (refine ccA ([]) (c3) ?_) | (refine ccA ([]) (c4) ?_) | (refine stpQ ?_))
  (refine z00 (by rfl) ?_ ?_ (by rfl)) <;> (repeat' (first | (exact eqA) | (refine shE ?_) | (refine And.intro ?_ ?_))) <;> rfl
theorem zce (t : Bs) (p : Nat) (b : Bool) (ht : (t.length : Int) ≤ 1000000000) (hp : p ≤ t.length) : ∃ (a : Nat) (op sh si : List Bs) (q : Nat) (b' : Bool), (op.length = 8 ∧ sh.length = 8 ∧ si.length = 4 ∧ q ≤ t.length) ∧
 (b' = false → z36 (a : Int) op sh si = true → b = false ∧ ∃ s : Sg, s.good ∧ sgE s = z1V (a : Int) op sh si ∧ t.drop p = sigB s ++ t.drop q) ∧
 CT Try.prog 23 [fldB t p b] [.ptr 1 0 0] (.agg (z1V (a : Int) op sh si)) [fldB t q b'] := by
 have k0 := z8V t p b ht hp
 have l0 := z3n (b := b) hp
 rcases hA : z0S t p b with ⟨a, p1, b1⟩
 rw [hA] at k0 l0
 have k1 := z1j t p1 b1 8 16 ht l0.1 (by omega)
 have l1 := z3s (w := 16) (n := 8) (b := b1) l0.1
 have m1 := @z3t t 16 8 p1 b1
 rcases hB : z1l t 16 8 p1 b1 with ⟨op, p2, b2⟩
 rw [hB] at k1 l1 m1
 have k2 := z1j t p2 b2 8 16 ht l1 (by omega)
 have l2 := z3s (w := 16) (n := 8) (b := b2) l1
 have m2 := @z3t t 16 8 p2 b2
 rcases hC : z1l t 16 8 p2 b2 with ⟨sh, p3, b3⟩
 rw [hC] at k2 l2 m2
 have k3 := z1j t p3 b3 4 16 ht l2 (by omega)
 have l3 := z3s (w := 16) (n := 4) (b := b3) l2
 have m3 := @z3t t 16 4 p3 b3
 rcases hD : z1l t 16 4 p3 b3 with ⟨si, p4, b4⟩
 rw [hD] at k3 l3 m3
 simp only at k0 k1 k2 k3 l0 l1 l2 l3 m1 m2 m3
 refine ⟨a, op, sh, si, p4, b4, ⟨m1, m2, m3, l3⟩, fun e ok => ?_, ?_⟩
 ·subst e
  obtain ⟨e1, -, -, -, e2⟩ := z28 hD l2
  subst e1
  obtain ⟨f1, -, -, -, f2⟩ := z28 hC l1
  subst f1
  obtain ⟨g1, -, -, -, g2⟩ := z28 hB l0.1
  subst g1
  obtain ⟨i1, -, x, i2, i3⟩ := z3o hA
  obtain ⟨s, gs, es⟩ := z8T ok
  refine ⟨i1, s, gs, es.symm, ?_⟩
  obtain ⟨a', op', sh', si'⟩ := s
  have q1 : a' = a ∧ op' = op ∧ sh' = sh ∧ si' = si := by
   simp only [z1V, sgE, List.cons.injEq, T.int.injEq, T.sl.injEq, true_and, and_true] at es
   obtain ⟨r1, r2, r3, r4⟩ := es
   exact ⟨by omega, z69 r2.symm, z69 r3.symm, z69 r4.symm⟩
  obtain ⟨rfl, rfl, rfl, rfl⟩ := q1
  rw [i3, g2, f2, e2, sigB, ← i2, UInt8.ofNat_toNat]
  simp
 ·unfold z1V
  clear hA hB hC hD
  refine z01 z0j 2 rfl Try.func23 rfl rfl rfl ?_
  repeat ((try conv => whnf); first | (refine ccB ([1]) (k0) ?_) | (refine ccB ([1]) (k1) ?_) | (refine ccB ([1]) (k2) ?_) | (refine ccB ([1]) (k3) ?_) | (refine And.intro (by kernel_rfl) ?_) | (refine stpQ ?_))
  (refine z00 (by rfl) ?_ ?_ (by rfl)) <;> (repeat' (first | (exact eqA) | (refine shE ?_) | (refine And.intro ?_ ?_)))
end Go.Proofs.Ytnhcfmmdaihneaa
namespace Go.Proofs.Ytnhcfmmdaihneaa
set_option linter.unusedVariables false
set_option linter.unusedSimpArgs false
set_option linter.unusedSectionVars false
open Go.RowKit Pl
attribute [local irreducible] z0m z0o z0s AnsP LeP
end Go.Proofs.Ytnhcfmmdaihneaa
namespace Go.Proofs.Ytnhcfmmdaihneaa
set_option linter.unusedVariables false
set_option linter.unusedSimpArgs false
set_option linter.unusedSectionVars false
open Go.RowKit Pl
attribute [local irreducible] z0m z0o z0s AnsP LeP
set_option maxRecDepth 100000 in
set_option maxHeartbeats 4000000 in
theorem zd5 (t : Bs) (p : Nat) (b : Bool) (ht : (t.length : Int) ≤ 1000000000) (hp : p ≤ t.length) (hn : b = false → z0R (t.drop p) = none) :
 ∃ (ho ep : Int) (ro pr : Bs) (a : Int) (op sh si : List Bs) (q : Nat) (b' : Bool), z2i b' q t.length = false ∧ CT Try.prog 55 [fldB t p b] [.ptr 1 0 0] (.agg (z2e ho ep ro pr ++ z1V a op sh si)) [fldB t q b'] := by
 have c0 := z2n t p b ht hp
 have l0 := z0Y (bad := b) hp
 rcases hS : z0p t p b with ⟨hb, p1, b1⟩
 rw [hS] at c0 l0
 simp only at c0 l0
 have k0 := z80 hb (by omega)
 obtain ⟨a, op, sh, si, q, b2, ⟨m1, m2, m3, m4⟩, hok, c1⟩ := zce t p1 b1 ht l0.1
 have k1 := z7c (a : Int) op sh si (by omega) (by omega) (by omega)
 obtain ⟨ho, ep, ro, pr, ok, hR, hok2⟩ : ∃ (ho ep : Int) (ro pr : Bs) (ok : Bool), hdR hb = [.agg (z2e ho ep ro pr), .bool ok] ∧ (ok = true → ∃ h : Hd, h.good ∧ hb = z0E h) := by
  unfold hdR
  cases hr : z2b hb with
  | some h => exact ⟨(h.ho : Int), (h.ep : Int), h.ro, h.pr, true, rfl, fun _ => ⟨h, z1Q.1 hr⟩⟩
  | none => exact ⟨0, 0, [], [], false, rfl, fun e => by cases e⟩
 rw [hR] at k0
 generalize hfm : z36 (a : Int) op sh si = fm at k1 hok
 refine ⟨ho, ep, ro, pr, (a : Int), op, sh, si, q, b2 || !ok || !fm, ?_, ?_⟩
 ·cases hb2 : b2 with
  | true => rfl
  | false =>
    cases hok' : ok with
    | false => rfl
    | true =>
      cases hfm' : fm with
      | false => rfl
      | true =>
        obtain ⟨e1, s, gs, es, ed⟩ := hok hb2 hfm'
        obtain ⟨h, g, eh⟩ := hok2 hok'
        subst e1
        obtain ⟨e2, -, e3, -⟩ := z1z hS
        have hno := hn e2
        have hd : t.drop p = z0F h s ++ t.drop q := by rw [e3, ed, eh, z0F, List.append_assoc]
        simp only [z2i, Bool.or_false, Bool.not_true, Bool.not_false, Bool.true_and, beq_eq_false_iff_ne, ne_eq]
        intro hq
        rw [hq, List.drop_length, List.append_nil] at hd
        exact zaI hno g gs hd
 ·unfold z2e at k0 ⊢
  unfold z1V at c1 k1 ⊢
  clear hok hok2 hfm hR hS hn
  cases b2 with
  | true =>
    refine z01 z0j 2 rfl Try.func55 rfl rfl rfl ?_
    repeat ((try conv => whnf); first | (refine ccB ([1]) (c0) ?_) | (refine ccA ([]) (k0) ?_) | (refine ccB ([_]) (c1) ?_) | (refine And.intro (by kernel_rfl) ?_) | (refine stpQ ?_))
    (refine z00 (by rfl) ?_ ?_ (by rfl)) <;> (repeat' (first | (exact eqA) | (refine shE ?_) | (refine And.intro ?_ ?_))) <;> rfl
  | false =>
    cases ok with
    | false =>
      refine z01 z0j 2 rfl Try.func55 rfl rfl rfl ?_
      repeat ((try conv => whnf); first | (refine ccB ([1]) (c0) ?_) | (refine ccA ([]) (k0) ?_) | (refine ccB ([_]) (c1) ?_) | (refine And.intro (by kernel_rfl) ?_) | (refine stpQ ?_))
      (refine z00 (by rfl) ?_ ?_ (by rfl)) <;> (repeat' (first | (exact eqA) | (refine shE ?_) | (refine And.intro ?_ ?_))) <;> rfl
    | true =>
      cases fm with
      | false =>
        refine z01 z0j 2 rfl Try.func55 rfl rfl rfl ?_
        repeat ((try conv => whnf); first | (refine ccB ([1]) (c0) ?_) | (refine ccA ([]) (k0) ?_) | (refine ccB ([_]) (c1) ?_) | (refine ccA ([]) (k1) ?_) | (refine And.intro (by kernel_rfl) ?_) | (refine stpQ ?_))
        (refine z00 (by rfl) ?_ ?_ (by rfl)) <;> (repeat' (first | (exact eqA) | (refine shE ?_) | (refine And.intro ?_ ?_))) <;> rfl
      | true =>
        refine z01 z0j 2 rfl Try.func55 rfl rfl rfl ?_
        repeat ((try conv => whnf); first | (refine ccB ([1]) (c0) ?_) | (refine ccA ([]) (k0) ?_) | (refine ccB ([_]) (c1) ?_) | (refine ccA ([]) (k1) ?_) | (refine And.intro (by kernel_rfl) ?_) | (refine stpQ ?_))
        (refine z00 (by rfl) ?_ ?_ (by rfl)) <;> (repeat' (first | (exact eqA) | (refine shE ?_) | (refine And.intro ?_ ?_))) <;> rfl
end Go.Proofs.Ytnhcfmmdaihneaa
