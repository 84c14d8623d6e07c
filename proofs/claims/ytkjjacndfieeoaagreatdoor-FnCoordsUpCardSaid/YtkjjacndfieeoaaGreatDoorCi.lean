/- Functions by content: the program reads heads, signatures and seals of any content; chains; keys; a coordinator applies its records. Functions by content: the program's chains of heads. Functions by content: the program reads seals of any content. -/
import Derived.Test.YtkjjacndfieeoaaGreatDoorSvz
import Derived.Test.YtkjjacndfieeoaaGreatDoorSp
import Derived.Test.YtkjjacndfieeoaaGreatDoorPco
namespace Go.Proofs.YtkjjacndfieeoaaGreatDoor
set_option maxRecDepth 100000
set_option maxHeartbeats 4000000
set_option linter.unusedVariables false
set_option linter.unusedSimpArgs false
set_option linter.unusedSectionVars false
open Go.RowKit Pl
attribute [local irreducible] z0m z0n z0q AnsP LeP
def cvB (ho K : Int) (fs : List Fl) (po : List Bs) (s : Cv) (a b c d : Nat) : Ent := .box [.int .i64 ho, .int .i64 K, .bool true, .sl 3 (flE fs), .sl 1 (strE po), .ref a, .ref b, .int .i64 (s.ty : Int), .bool false, .ref c, .ref d]
def cvE (ho K : Int) (fs : List Fl) (po : List Bs) (s : Cv) (V D : List (List T)) : List T := [.int .i64 ho, .int .i64 K, .bool true, .sl 3 (flE fs), .sl 1 (strE po), .sl 8 (slE s.se), .sl 1 (ntE s.tr), .int .i64 (s.ty : Int), .bool false, .sl 1 V, .sl 1 D]
def cvH (ho K : Int) (fs : List Fl) (po : List Bs) (V D : List (List T)) (s : Cv) : Ck → List Ent
 | .no => [cvB ho K fs po s 2 3 4 5, .row 8 (slE s.se), .row 1 (ntE s.tr), .row 1 V, .row 1 D]
 | .beg n => [cvB ho K fs po { s with ty := n } 2 3 4 5, .row 8 (slE s.se), .row 1 (ntE s.tr), .row 1 V, .row 1 D]
 | .clo h g => [cvB ho K fs po { s with se := s.se ++ [(h, g)], tr := s.tr ++ [s.ty] } 6 7 4 5, .row 0 [], .row 0 [], .row 1 V, .row 1 D, .row 8 (slE (s.se ++ [(h, g)])), .row 1 (ntE (s.tr ++ [s.ty]))]
def emV (n : Nat) : List (List T) := List.replicate n [.str []]
def emD (n : Nat) : List (List T) := List.replicate n [.bool false]
def z0P : Bs := [99, 111, 111, 114, 100]
theorem z8K {l m : List Bs} (h : strE l = strE m) : l = m := by
 have := congrArg (List.map fun e : List T => match e with
  | [T.str s] => s
  | _ => []) h
 simpa [strE, List.map_map, Function.comp_def] using this
theorem zdy {t c : Bs} {p n q : Nat} {b : Bool} (h : z0w t p b n = (c, q, false)) : b = false ∧ n ≤ t.length - p ∧ c = (t.drop p).take n ∧ q = p + n := by
 unfold z0w at h
 split at h
 ·simp only [Prod.mk.injEq] at h
  exact absurd h.2.2 (by decide)
 ·rename_i hc
  simp only [Prod.mk.injEq] at h
  have hc2 := not_or.1 hc
  exact ⟨h.2.2, by omega, h.1.symm, h.2.1.symm⟩
theorem zfI (t : Bs) (p : Nat) (b : Bool) (ht : (t.length : Int) ≤ 1000000000) (hp : p ≤ t.length) : CT Tryz.prog 193 [fldB t p b] [.ptr 1 0 0] (.int .i64 ((z5a t p b).1 : Int)) [fldB t (z5a t p b).2.1 (z5a t p b).2.2] := by
 have c := z6m t p b 1 ht hp
 unfold z5a
 generalize z0w t p b 1 = B at c ⊢
 obtain ⟨l, q, b'⟩ := B
 cases l with
 | nil =>
   simp only at c ⊢
   refine z01 z0A 2 rfl Tryz.func193 rfl rfl rfl ?_
   repeat ((try conv => whnf); first | (refine ccB ([1]) (c) ?_) | (refine z0k rfl ?_) | (refine stpQ ?_))
   (refine z00 (by rfl) ?_ ?_ (by rfl)) <;> (repeat' (first | (exact eqA) | (refine shE ?_) | (refine And.intro ?_ ?_)))
 | cons x xs =>
   simp only at c ⊢
   have h1 := zcm x
   have hne : ¬ ((x :: xs : Bs) = []) := fun h => by cases h
   have h0 : 0 < (x :: xs).length := by simp
   refine z01 z0A 2 rfl Tryz.func193 rfl rfl rfl ?_
   repeat ((try conv => whnf); first | (refine ccB ([1]) (c) ?_) | (refine z0o hne ?_) | (refine Exists.intro 0 (And.intro rfl (And.intro h0 ?_))) | (refine Exists.intro _ (And.intro h1.symm ?_)) | (refine stpQ ?_))
   (refine z00 (by rfl) ?_ ?_ (by rfl)) <;> (repeat' (first | (exact eqA) | (refine shE ?_) | (refine And.intro ?_ ?_)))
theorem z9X (ho ep : Int) (ro pr : Bs) : CT Tryz.prog 113 [] [.agg (z2A ho ep ro pr)] (.bool (z3z ho ep ro pr)) [] := by
 have c1 := z6A ho
 have c2 := z9V ep
 unfold z2A z3z
 generalize inB ho 0 2 = b1 at c1 ⊢
 generalize inB ep 1 4 = b2 at c2 ⊢
 cases b1 with
 | false =>
   rw [Bool.false_and]
   refine z01 z0f 1 rfl Tryz.func113 rfl rfl rfl ?_
   repeat ((try conv => whnf); first | (refine ccA ([]) (c1) ?_) | (refine stpQ ?_))
   (refine z00 (by rfl) ?_ ?_ (by rfl)) <;> (repeat' (first | (exact eqA) | (refine shE ?_) | (refine And.intro ?_ ?_)))
 | true =>
   cases b2 with
   | false =>
     rw [Bool.true_and, Bool.false_and]
     refine z01 z0f 1 rfl Tryz.func113 rfl rfl rfl ?_
     repeat ((try conv => whnf); first | (refine ccA ([]) (c1) ?_) | (refine ccA ([]) (c2) ?_) | (refine stpQ ?_))
     (refine z00 (by rfl) ?_ ?_ (by rfl)) <;> (repeat' (first | (exact eqA) | (refine shE ?_) | (refine And.intro ?_ ?_)))
   | true =>
     rw [Bool.true_and, Bool.true_and]
     by_cases h3 : (ro.length : Int) = 16
     ·rw [decide_eq_true h3, Bool.true_and]
      by_cases h4 : ep = 1
      ·rw [if_pos h4]
       refine z01 z0f 1 rfl Tryz.func113 rfl rfl rfl ?_
       repeat ((try conv => whnf); first | (refine ccA ([]) (c1) ?_) | (refine ccA ([]) (c2) ?_) | (refine stpQ ?_))
       (refine z00 (by rfl) ?_ ?_ (by rfl)) <;> (repeat' (first | (exact eqA) | (refine shE ?_) | (refine And.intro ?_ ?_)))
      ·rw [if_neg h4]
       refine z01 z0f 1 rfl Tryz.func113 rfl rfl rfl ?_
       repeat ((try conv => whnf); first | (refine ccA ([]) (c1) ?_) | (refine ccA ([]) (c2) ?_) | (refine stpQ ?_))
       (refine z00 (by rfl) ?_ ?_ (by rfl)) <;> (repeat' (first | (exact eqA) | (refine shE ?_) | (refine And.intro ?_ ?_)))
     ·rw [decide_eq_false h3, Bool.false_and]
      refine z01 z0f 1 rfl Tryz.func113 rfl rfl rfl ?_
      repeat ((try conv => whnf); first | (refine ccA ([]) (c1) ?_) | (refine ccA ([]) (c2) ?_) | (refine stpQ ?_))
      (refine z00 (by rfl) ?_ ?_ (by rfl)) <;> (repeat' (first | (exact eqA) | (refine shE ?_) | (refine And.intro ?_ ?_)))
def hdR (t : Bs) : List T := match z6y t with
 | some h => [.agg (hdE h), .bool true]
 | none => [.agg (z2A 0 0 [] []), .bool false]
theorem zb0 (t : Bs) (ht : (t.length : Int) ≤ 1000000000) : CT Tryz.prog 172 [] [.str t] (.tup (hdR t)) [] := by
 unfold hdR
 cases hr : z6y t with
 | some h =>
   obtain ⟨g, rfl⟩ := z3v.1 hr
   exact z7N h g
 | none =>
   have k0 := zfI t 0 false ht (Nat.zero_le _)
   have l0 := z8t (t := t) (p := 0) (b := false) (Nat.zero_le _)
   rcases hA : z5a t 0 false with ⟨a, p1, b1⟩
   rw [hA] at k0 l0
   have k1 := zfI t p1 b1 ht l0.1
   have l1 := z8t (b := b1) l0.1
   rcases hB : z5a t p1 b1 with ⟨b, p2, b2⟩
   rw [hB] at k1 l1
   have k2 := z6m t p2 b2 16 ht l1.1
   have l2 := z4O (n := 16) (b := b2) l1.1
   rcases hC : z0w t p2 b2 16 with ⟨c, p3, b3⟩
   rw [hC] at k2 l2
   simp only at k0 k1 k2 l0 l1 l2
   cases b3 with
   | true =>
     refine z01 z0f 1 rfl Tryz.func172 rfl rfl rfl ?_
     repeat ((try conv => whnf); first | (refine ccB ([_]) (k0) ?_) | (refine ccB ([_]) (k1) ?_) | (refine ccB ([_]) (k2) ?_) | (refine And.intro (by kernel_rfl) ?_) | (refine stpQ ?_))
     (refine z00 (by rfl) ?_ ?_ (by rfl)) <;> (repeat' (first | (exact eqA) | (refine shE ?_) | (refine And.intro ?_ ?_)))
   | false =>
     obtain ⟨e1, e2, e3, e4⟩ := zdy hC
     subst e1
     obtain ⟨f1, f2, y, f3, f4⟩ := z6c hB
     subst f1
     obtain ⟨-, g2, x, g3, g4⟩ := z6c hA
     have hv : z3z (a : Int) (b : Int) c (t.drop p3) = false := by
      cases hx : z3z (a : Int) (b : Int) c (t.drop p3) with
      | false => rfl
      | true =>
        have hl : 18 ≤ t.length := by omega
        have hp1 : p1 = 1 := by omega
        have hp2 : p2 = 2 := by omega
        have hp3 : p3 = 18 := by omega
        subst hp1 hp2 hp3
        have ha : (t.getD 0 0).toNat = a := by
         rw [List.drop_zero] at g4
         rw [g4]; exact g3
        have hb : (t.getD 1 0).toNat = b := by
         rw [List.drop_zero] at g4
         rw [g4, f4]; exact f3
        have hq : (hdOf t).good := by
         apply z8I
         simp only [hdOf, ha, hb]
         rw [← e3]
         exact hx
        rw [z6y, if_pos ⟨hl, hq⟩] at hr
        cases hr
     have k3 := z9X (a : Int) (b : Int) c (t.drop p3)
     rw [hv] at k3
     unfold z2A at k3
     refine z01 z0f 1 rfl Tryz.func172 rfl rfl rfl ?_
     repeat ((try conv => whnf); first | (refine ccB ([_]) (k0) ?_) | (refine ccB ([_]) (k1) ?_) | (refine ccB ([_]) (k2) ?_) | (refine ccA ([]) (k3) ?_) | (refine i_le l2 ?_) | (refine And.intro (by kernel_rfl) ?_) | (refine stpQ ?_))
     (refine z00 (by rfl) ?_ ?_ (by rfl)) <;> (repeat' (first | (exact eqA) | (refine shE ?_) | (refine And.intro ?_ ?_)))
theorem zfJ (a : Int) (op sh si : List Bs) (h1 : op.length ≤ 1048576) (h2 : sh.length ≤ 1048576) (h3 : si.length ≤ 1048576) : CT Tryz.prog 153 [] [.agg (z2n a op sh si)] (.bool (z70 a op sh si)) [] := by
 have c1 := c_in a 0 15
 have c2 : CT Tryz.prog 149 [] [.sl 1 (strE op), .int .i64 8, .int .i64 16] (.bool (wideB op 8)) [] := z1t op 8 16 (by omega)
 have c3 : CT Tryz.prog 149 [] [.sl 1 (strE sh), .int .i64 8, .int .i64 16] (.bool (wideB sh 8)) [] := z1t sh 8 16 (by omega)
 have c4 : CT Tryz.prog 149 [] [.sl 1 (strE si), .int .i64 4, .int .i64 16] (.bool (wideB si 4)) [] := z1t si 4 16 (by omega)
 unfold z70 z2n
 generalize inB a 0 15 = b1 at c1 ⊢
 generalize wideB op 8 = b2 at c2 ⊢
 generalize wideB sh 8 = b3 at c3 ⊢
 generalize wideB si 4 = b4 at c4 ⊢
 refine z01 z0f 1 rfl Tryz.func153 rfl rfl rfl ?_
 cases b1
 ·repeat ((try conv => whnf); first | (refine ccA ([]) (c1) ?_) | (refine stpQ ?_))
  (refine z00 (by rfl) ?_ ?_ (by rfl)) <;> (repeat' (first | (exact eqA) | (refine shE ?_) | (refine And.intro ?_ ?_))) <;> rfl
 cases b2
 ·repeat ((try conv => whnf); first | (refine ccA ([]) (c1) ?_) | (refine ccA ([]) (c2) ?_) | (refine stpQ ?_))
  (refine z00 (by rfl) ?_ ?_ (by rfl)) <;> (repeat' (first | (exact eqA) | (refine shE ?_) | (refine And.intro ?_ ?_))) <;> rfl
 cases b3
 ·repeat ((try conv => whnf); first | (refine ccA ([]) (c1) ?_) | (refine ccA ([]) (c2) ?_) | (refine ccA ([]) (c3) ?_) | (refine stpQ ?_))
  (refine z00 (by rfl) ?_ ?_ (by rfl)) <;> (repeat' (first | (exact eqA) | (refine shE ?_) | (refine And.intro ?_ ?_))) <;> rfl
 cases b4
 ·repeat ((try conv => whnf); first | (refine ccA ([]) (c1) ?_) | (refine ccA ([]) (c2) ?_) | (refine ccA ([]) (c3) ?_) | (refine ccA ([]) (c4) ?_) | (refine stpQ ?_))
  (refine z00 (by rfl) ?_ ?_ (by rfl)) <;> (repeat' (first | (exact eqA) | (refine shE ?_) | (refine And.intro ?_ ?_))) <;> rfl
 ·repeat ((try conv => whnf); first | (refine ccA ([]) (c1) ?_) | (refine ccA ([]) (c2) ?_) | (refine ccA ([]) (c3) ?_) | (refine ccA ([]) (c4) ?_) | (refine stpQ ?_))
  (refine z00 (by rfl) ?_ ?_ (by rfl)) <;> (repeat' (first | (exact eqA) | (refine shE ?_) | (refine And.intro ?_ ?_))) <;> rfl
theorem c_sigA (t : Bs) (p : Nat) (b : Bool) (ht : (t.length : Int) ≤ 1000000000) (hp : p ≤ t.length) : ∃ (a : Nat) (op sh si : List Bs) (q : Nat) (b' : Bool), (op.length = 8 ∧ sh.length = 8 ∧ si.length = 4 ∧ q ≤ t.length) ∧
 (b' = false → z70 (a : Int) op sh si = true → b = false ∧ ∃ s : Sg, s.good ∧ sgE s = z2n (a : Int) op sh si ∧ t.drop p = sigB s ++ t.drop q) ∧
 CT Tryz.prog 174 [fldB t p b] [.ptr 1 0 0] (.agg (z2n (a : Int) op sh si)) [fldB t q b'] := by
 have k0 := zfI t p b ht hp
 have l0 := z8t (b := b) hp
 rcases hA : z5a t p b with ⟨a, p1, b1⟩
 rw [hA] at k0 l0
 have k1 := z3t t p1 b1 8 16 ht l0.1 (by omega)
 have l1 := z5q (w := 16) (n := 8) (b := b1) l0.1
 have m1 := @z4l t 16 8 p1 b1
 rcases hB : z1M t 16 8 p1 b1 with ⟨op, p2, b2⟩
 rw [hB] at k1 l1 m1
 have k2 := z3t t p2 b2 8 16 ht l1 (by omega)
 have l2 := z5q (w := 16) (n := 8) (b := b2) l1
 have m2 := @z4l t 16 8 p2 b2
 rcases hC : z1M t 16 8 p2 b2 with ⟨sh, p3, b3⟩
 rw [hC] at k2 l2 m2
 have k3 := z3t t p3 b3 4 16 ht l2 (by omega)
 have l3 := z5q (w := 16) (n := 4) (b := b3) l2
 have m3 := @z4l t 16 4 p3 b3
 rcases hD : z1M t 16 4 p3 b3 with ⟨si, p4, b4⟩
 rw [hD] at k3 l3 m3
 simp only at k0 k1 k2 k3 l0 l1 l2 l3 m1 m2 m3
 refine ⟨a, op, sh, si, p4, b4, ⟨m1, m2, m3, l3⟩, fun e ok => ?_, ?_⟩
 ·subst e
  obtain ⟨e1, -, -, -, e2⟩ := z4i hD l2
  subst e1
  obtain ⟨f1, -, -, -, f2⟩ := z4i hC l1
  subst f1
  obtain ⟨g1, -, -, -, g2⟩ := z4i hB l0.1
  subst g1
  obtain ⟨i1, -, x, i2, i3⟩ := z6c hA
  obtain ⟨s, gs, es⟩ := zh5 ok
  refine ⟨i1, s, gs, es.symm, ?_⟩
  obtain ⟨a', op', sh', si'⟩ := s
  have q1 : a' = a ∧ op' = op ∧ sh' = sh ∧ si' = si := by
   simp only [z2n, sgE, List.cons.injEq, T.int.injEq, T.sl.injEq, true_and, and_true] at es
   obtain ⟨r1, r2, r3, r4⟩ := es
   exact ⟨by omega, z8K r2.symm, z8K r3.symm, z8K r4.symm⟩
  obtain ⟨rfl, rfl, rfl, rfl⟩ := q1
  rw [i3, g2, f2, e2, sigB, ← i2, UInt8.ofNat_toNat]
  simp
 ·unfold z2n
  clear hA hB hC hD
  refine z01 z0f 2 rfl Tryz.func174 rfl rfl rfl ?_
  repeat ((try conv => whnf); first | (refine ccB ([1]) (k0) ?_) | (refine ccB ([1]) (k1) ?_) | (refine ccB ([1]) (k2) ?_) | (refine ccB ([1]) (k3) ?_) | (refine And.intro (by kernel_rfl) ?_) | (refine stpQ ?_))
  (refine z00 (by rfl) ?_ ?_ (by rfl)) <;> (repeat' (first | (exact eqA) | (refine shE ?_) | (refine And.intro ?_ ?_)))
end Go.Proofs.YtkjjacndfieeoaaGreatDoor
namespace Go.Proofs.YtkjjacndfieeoaaGreatDoor
set_option maxRecDepth 100000
set_option maxHeartbeats 4000000
set_option linter.unusedVariables false
set_option linter.unusedSimpArgs false
set_option linter.unusedSectionVars false
open Go.RowKit Pl
attribute [local irreducible] z0m z0n z0q AnsP LeP
theorem z8L {k : Nat} (l : List Hd) : ownE (.row k (hdsE l)) := by
 intro e he c hc
 simp only [hdsE, List.mem_map] at he
 obtain ⟨x, _, rfl⟩ := he
 simp only [hdE, List.mem_cons, List.not_mem_nil, or_false] at hc
 rcases hc with rfl | rfl | rfl | rfl <;> trivial
theorem zha (l : List Hd) (k : Nat) : (hdsE l).take k = hdsE (l.take k) := by simp [hdsE]
theorem z9Y (l : List (Hd × Sg)) (h : l.length ≤ 10) : CT Tryz.prog 75 [] [.sl 8 (slE l)] (.ref 1) [.row 4 (hdsE (l.map fun x => x.1))] := by
 have hl := z0B l
 refine z01 z0f 1 rfl Tryz.func75 rfl rfl rfl ?_
 repeat ((try conv => whnf); first | (refine stpQ ?_))
 refine z0i 0 ⟨[(3, .ref 1)], [(1, some (.row 4 (hdsE (l.map fun x => x.1))))], 2⟩ Nat (fun k => ⟨[(3, .ref 1), (6, .sl 8 (slE l)), (7, .int .i64 ((slE l).length : Int)), (8, .int .i64 (k : Int))], [(1, some (.row 4 (hdsE ((l.take k).map fun x => x.1))))], 2⟩) (fun k => k ≤ l.length) (fun k => l.length - k) 0 (by omega) ?_ ?_ ?_
 ·(refine z02 (by rfl) ?_ ?_) <;> (repeat' (first | (exact eqA) | (refine shE ?_) | (refine And.intro ?_ ?_))) <;> first | rfl | decide
 ·intro k hk
  by_cases hlt : k < l.length
  ·have hlt2 : (k : Int) < ((slE l).length : Int) := by omega
   have g := zfD hlt
   have hnx : (l.take (k + 1)).map (fun x => x.1) = (l.take k).map (fun x => x.1) ++ [l[k].1] := by rw [List.take_succ_eq_append_getElem hlt, List.map_append]; rfl
   have hol : (hdsE ((l.take k).map fun x => x.1)).length ≤ 10 := by simp [hdsE]; omega
   generalize (l.take k).map (fun x => x.1) = o at hnx hol ⊢
   generalize l[k] = x at g hnx
   obtain ⟨⟨a, b, c, d⟩, ⟨a2, b2, c2, d2⟩⟩ := x
   unfold hdE sgE at g
   repeat ((try conv => whnf); first | (refine i_at g ?_) | (refine And.intro (by simp only [List.length_append, List.length_cons, List.length_nil, List.length_set, List.length_replicate]; omega) ?_) | (refine And.intro (by kernel_rfl) ?_) | (refine stpQ ?_))
   refine ⟨k + 1, by omega, by omega, ?_⟩
   rw [hnx, zcv]
   (refine z02 (by rfl) ?_ ?_) <;> (repeat' (first | (exact eqA) | (refine shE ?_) | (refine And.intro ?_ ?_)))
   all_goals rfl
  ·obtain rfl : k = l.length := by omega
   rw [List.take_length]
   repeat ((try conv => whnf); first | (refine stpQ ?_))
   (refine z02 (by rfl) ?_ ?_) <;> (repeat' (first | (exact eqA) | (refine shE ?_) | (refine And.intro ?_ ?_)))
 ·repeat ((try conv => whnf); first | (refine stpQ ?_))
  (refine z00 (by rfl) ?_ ?_ (by rfl)) <;> (repeat' (first | (exact eqA) | (refine shE ?_) | (refine And.intro ?_ ?_)))
theorem z7O (ho : Nat) (l : List Hd) (ro : Bs) (hl : l.length ≤ 10) (hg : ∀ (i : Nat) (h : i < l.length), l[i].good) : CT Tryz.prog 112 [] [.sl 4 (hdsE l), .int .i64 (ho : Int), .str ro] (.agg (hdE (z1u ho l ro))) [] := by
 have hlen := z5w l
 rcases Nat.eq_zero_or_pos l.length with h0 | h0
 ·have : l = [] := List.length_eq_zero_iff.1 h0
  subst this
  show CT _ _ _ _ (.agg [.int .i64 (ho : Int), .int .i64 ((0 + 1 : Nat) : Int), .str ro, .str []]) _
  refine z01 z0f 1 rfl Tryz.func112 rfl rfl rfl ?_
  repeat ((try conv => whnf); first | (refine Exists.intro 0 (And.intro rfl ?_)) | (refine And.intro (by kernel_rfl) ?_) | (refine stpQ ?_))
  (refine z00 (by rfl) ?_ ?_ (by rfl)) <;> (repeat' (first | (exact eqA) | (refine shE ?_) | (refine And.intro ?_ ?_)))
 ·have hlt : l.length - 1 < l.length := by omega
  have g := z4u hlt
  have c1 := z7M _ (hg _ hlt)
  have hp := z4t h0
  show CT _ _ _ _ (.agg [.int .i64 (ho : Int), .int .i64 ((l.length + 1 : Nat) : Int), .str ro, .str (z2T l)]) _
  rw [hp]
  have e1 : IntKind.i64.wrap ((l.length : Int) - 1) = ((l.length - 1 : Nat) : Int) := by rw [wrap_i64 (by omega) (by omega)]; omega
  have h1 : (l.length : Int) > 0 := by omega
  generalize z1G l[l.length - 1] = R at c1 ⊢
  generalize l[l.length - 1] = x at g c1
  obtain ⟨a, b, c, d⟩ := x
  unfold hdE at g c1
  refine z01 z0f 1 rfl Tryz.func112 rfl rfl rfl ?_
  repeat ((try conv => whnf); first | (refine Exists.intro l.length (And.intro hlen ?_)) | (refine Exists.intro _ (And.intro e1.symm ?_)) | (refine i_at g ?_) | (refine ccA ([]) (c1) ?_) | (refine And.intro (by kernel_rfl) ?_) | (refine stpQ ?_))
  (refine z00 (by rfl) ?_ ?_ (by rfl)) <;> (repeat' (first | (exact eqA) | (refine shE ?_) | (refine And.intro ?_ ?_)))
theorem zb1 (a b : Int) (c d : Bs) : eqC [.int .i64 a, .int .i64 b, .str c, .str d] [.int .i64 a, .int .i64 b, .str c, .str d] = true := by simp [eqC]
theorem zhX (x y : Hd) : eqC (hdE x) (hdE y) = decide (x = y) := by
 obtain ⟨a, b, c, d⟩ := x
 obtain ⟨a', b', c', d'⟩ := y
 by_cases h : (⟨a, b, c, d⟩ : Hd) = ⟨a', b', c', d'⟩
 ·rw [decide_eq_true h]
  simp only [Hd.mk.injEq] at h
  obtain ⟨rfl, rfl, rfl, rfl⟩ := h
  exact zb1 _ _ _ _
 ·rw [decide_eq_false h]
  cases he : eqC (hdE ⟨a, b, c, d⟩) (hdE ⟨a', b', c', d'⟩) with
  | false => rfl
  | true =>
    simp [hdE, eqC] at he
    exact absurd (by simp only [Hd.mk.injEq]; exact ⟨by omega, by omega, he.2.2.1, he.2.2.2⟩) h
theorem zfK (ho : Nat) (l : List Hd) (c : z6Z ho l) : CT Tryz.prog 111 [] [.sl 4 (hdsE l), .int .i64 (ho : Int)] (.bool true) [] := by
 have hlen := z5w l
 have h4 := z3l c
 refine z01 z0f 1 rfl Tryz.func111 rfl rfl rfl ?_
 repeat ((try conv => whnf); first | (refine stpQ ?_))
 refine z0i 0 ⟨[], [], 1⟩ Nat (fun k => ⟨[(0, .sl 4 (hdsE l)), (1, .int .i64 (ho : Int)), (7, .sl 4 (hdsE l)), (8, .int .i64 ((hdsE l).length : Int)), (9, .int .i64 (k : Int))], [], 1⟩) (fun k => k ≤ l.length) (fun k => l.length - k) 0 (by omega) ?_ ?_ ?_
 ·(refine z02 (by rfl) ?_ ?_) <;> (repeat' (first | (exact eqA) | (refine shE ?_) | (refine And.intro ?_ ?_)))
 ·intro k hk
  by_cases hlt : k < l.length
  ·have hlt2 : (k : Int) < ((hdsE l).length : Int) := by omega
   have g := z4u hlt
   have ck := c k hlt
   have c1 := z5x _ ck.1
   have c2 := z7O ho (l.take k) l[k].ro (by simp; omega) (fun i hi => by rw [List.getElem_take]; exact (c i (by simp at hi; omega)).1)
   rw [← ck.2, ← zha] at c2
   have hkl : k ≤ (hdsE l).length := by omega
   generalize l[k] = x at g c1 c2
   clear ck c
   obtain ⟨a, b, c, d⟩ := x
   have hq : (!eqC (hdE ⟨a, b, c, d⟩) (hdE ⟨a, b, c, d⟩)) = false := by rw [zhX]; simp
   unfold hdE at g c1 c2 hq
   repeat ((try conv => whnf); first | (refine i_at g ?_) | (refine ccA ([]) (c1) ?_) | (refine i_le hkl ?_) | (refine ccA ([]) (c2) ?_) | (refine cb_f hq ?_) | (refine And.intro (by kernel_rfl) ?_) | (refine stpQ ?_))
   refine ⟨k + 1, by omega, by omega, ?_⟩
   (refine z02 (by rfl) ?_ ?_) <;> (repeat' (first | (exact eqA) | (refine shE ?_) | (refine And.intro ?_ ?_)))
  ·obtain rfl : k = l.length := by omega
   repeat ((try conv => whnf); first | (refine stpQ ?_))
   (refine z02 (by rfl) ?_ ?_) <;> (repeat' (first | (exact eqA) | (refine shE ?_) | (refine And.intro ?_ ?_)))
 ·repeat ((try conv => whnf); first | (refine stpQ ?_))
  (refine z00 (by rfl) ?_ ?_ (by rfl)) <;> (repeat' (first | (exact eqA) | (refine shE ?_) | (refine And.intro ?_ ?_)))
def nhR (ho : Nat) (l : List Hd) (ro : Bs) : List T := if l.length < 4 ∧ ro.length = 16 then [.agg (hdE (z1u ho l ro)), .bool true] else [.agg (z2A 0 0 [] []), .bool false]
theorem z7P (ho : Nat) (hho : ho ≤ 2) (l : List Hd) (c : z6Z ho l) (ro : Bs) : CT Tryz.prog 74 [] [.sl 4 (hdsE l), .int .i64 (ho : Int), .str ro] (.tup (nhR ho l ro)) [] := by
 have h4 := z3l c
 have c1 := zfK ho l c
 have c2 := z7O ho l ro (by omega) (fun i hi => (c i hi).1)
 have c3 := z9X (ho : Int) ((l.length + 1 : Nat) : Int) ro (z2T l)
 have hx : hdE (z1u ho l ro) = z2A (ho : Int) ((l.length + 1 : Nat) : Int) ro (z2T l) := rfl
 unfold nhR
 by_cases hc : l.length < 4 ∧ ro.length = 16
 ·rw [if_pos hc]
  have hv : z3z (ho : Int) ((l.length + 1 : Nat) : Int) ro (z2T l) = true := z9S (h := z1u ho l ro) (z2L hho hc.1 hc.2)
  rw [hv] at c3
  rw [hx] at c2 ⊢
  unfold z2A at c2 c3 ⊢
  generalize z2T l = P at c2 c3 ⊢
  generalize hdsE l = z at c1 c2 ⊢
  refine z01 z0f 1 rfl Tryz.func74 rfl rfl rfl ?_
  repeat ((try conv => whnf); first | (refine ccA ([]) (c1) ?_) | (refine ccA ([]) (c2) ?_) | (refine ccA ([]) (c3) ?_) | (refine And.intro (by kernel_rfl) ?_) | (refine stpQ ?_))
  (refine z00 (by rfl) ?_ ?_ (by rfl)) <;> (repeat' (first | (exact eqA) | (refine shE ?_) | (refine And.intro ?_ ?_)))
 ·rw [if_neg hc]
  have hv : z3z (ho : Int) ((l.length + 1 : Nat) : Int) ro (z2T l) = false := by
   cases h : z3z (ho : Int) ((l.length + 1 : Nat) : Int) ro (z2T l) with
   | false => rfl
   | true =>
     have g : (z1u ho l ro).good := z8I (h := z1u ho l ro) h
     exact absurd ((z3G hho).1 g) hc
  rw [hv] at c3
  rw [hx] at c2
  unfold z2A at c2 c3 ⊢
  generalize z2T l = P at c2 c3 ⊢
  generalize hdsE l = z at c1 c2 ⊢
  refine z01 z0f 1 rfl Tryz.func74 rfl rfl rfl ?_
  repeat ((try conv => whnf); first | (refine ccA ([]) (c1) ?_) | (refine ccA ([]) (c2) ?_) | (refine ccA ([]) (c3) ?_) | (refine And.intro (by kernel_rfl) ?_) | (refine stpQ ?_))
  (refine z00 (by rfl) ?_ ?_ (by rfl)) <;> (repeat' (first | (exact eqA) | (refine shE ?_) | (refine And.intro ?_ ?_)))
end Go.Proofs.YtkjjacndfieeoaaGreatDoor
namespace Go.Proofs.YtkjjacndfieeoaaGreatDoor
set_option maxRecDepth 100000
set_option maxHeartbeats 4000000
set_option linter.unusedVariables false
set_option linter.unusedSimpArgs false
set_option linter.unusedSectionVars false
open Go.RowKit Pl
attribute [local irreducible] z0m z0n z0q AnsP LeP
theorem zj0 (t : Bs) (p : Nat) (h : Hd) (s : Sg) (g : h.good) (gs : s.good) (ht : (t.length : Int) ≤ 1000000000) (hp : p ≤ t.length) (e : t.drop p = z1C h s) :
 CT Tryz.prog 137 [fldB t p false] [.ptr 1 0 0] (.agg (hdE h ++ sgE s)) [fldB t t.length false] := by
 have hl := z1U g
 have hs := z4p gs
 have e0 : t.drop p = z0p (z0T h) ++ (sigB s ++ []) := by rw [e]; simp [z1C]
 have hlen : t.length = p + (z0p (z0T h)).length + 321 := by
  have := congrArg List.length e0
  simp only [List.length_drop, List.length_append, List.length_nil, hs] at this
  omega
 have e1 := z2m rfl e0
 have p1 := z3V hp rfl e0
 have c0 := zeZ t p false ht hp
 rw [z6b (by omega) e0] at c0
 have k0 := z7N h g
 have c1 := c_sig t (p + (z0p (z0T h)).length) s [] gs ht p1 e1
 have k1 := z9W s gs
 simp only at c0
 rw [hlen]
 generalize p + (z0p (z0T h)).length + 321 = q2 at c1 ⊢
 generalize p + (z0p (z0T h)).length = q1 at c0 c1
 generalize z0T h = hb at c0 k0
 obtain ⟨ho, ep, ro, pr⟩ := h
 obtain ⟨a, op, sh, si⟩ := s
 refine z01 z0f 2 rfl Tryz.func137 rfl rfl rfl ?_
 repeat ((try conv => whnf); first | (refine ccB ([1]) (c0) ?_) | (refine ccA ([]) (k0) ?_) | (refine ccB ([_]) (c1) ?_) | (refine ccA ([]) (k1) ?_) | (refine And.intro (by kernel_rfl) ?_) | (refine stpQ ?_))
 (refine z00 (by rfl) ?_ ?_ (by rfl)) <;> (repeat' (first | (exact eqA) | (refine shE ?_) | (refine And.intro ?_ ?_))) <;> rfl
theorem zj1 (t : Bs) (p : Nat) (b : Bool) (ht : (t.length : Int) ≤ 1000000000) (hp : p ≤ t.length) (hn : b = false → z6z (t.drop p) = none) :
 ∃ (ho ep : Int) (ro pr : Bs) (a : Int) (op sh si : List Bs) (q : Nat) (b' : Bool), z40 b' q t.length = false ∧ CT Tryz.prog 137 [fldB t p b] [.ptr 1 0 0] (.agg (z2A ho ep ro pr ++ z2n a op sh si)) [fldB t q b'] := by
 have c0 := zeZ t p b ht hp
 have l0 := zcP (bad := b) hp
 rcases hS : z1f t p b with ⟨hb, p1, b1⟩
 rw [hS] at c0 l0
 simp only at c0 l0
 have k0 := zb0 hb (by omega)
 obtain ⟨a, op, sh, si, q, b2, ⟨m1, m2, m3, m4⟩, hok, c1⟩ := c_sigA t p1 b1 ht l0.1
 have k1 := zfJ (a : Int) op sh si (by omega) (by omega) (by omega)
 obtain ⟨ho, ep, ro, pr, ok, hR, hok2⟩ : ∃ (ho ep : Int) (ro pr : Bs) (ok : Bool), hdR hb = [.agg (z2A ho ep ro pr), .bool ok] ∧ (ok = true → ∃ h : Hd, h.good ∧ hb = z0T h) := by
  unfold hdR
  cases hr : z6y hb with
  | some h => exact ⟨(h.ho : Int), (h.ep : Int), h.ro, h.pr, true, rfl, fun _ => ⟨h, z3v.1 hr⟩⟩
  | none => exact ⟨0, 0, [], [], false, rfl, fun e => by cases e⟩
 rw [hR] at k0
 generalize hfm : z70 (a : Int) op sh si = fm at k1 hok
 refine ⟨ho, ep, ro, pr, (a : Int), op, sh, si, q, b2 || !ok || !fm, ?_, ?_⟩
 ·cases hb2 : b2 with
  | true => rfl
  | false =>
    cases hok' : ok with
    | false => rfl
    | true =>
      cases hfm' : fm with
      | false => rfl
      | true =>
        obtain ⟨e1, s, gs, es, ed⟩ := hok hb2 hfm'
        obtain ⟨h, g, eh⟩ := hok2 hok'
        subst e1
        obtain ⟨e2, -, e3, -⟩ := z6a hS
        have hno := hn e2
        have hd : t.drop p = z1C h s ++ t.drop q := by rw [e3, ed, eh, z1C, List.append_assoc]
        simp only [z40, Bool.or_false, Bool.not_true, Bool.not_false, Bool.true_and, beq_eq_false_iff_ne, ne_eq]
        intro hq
        rw [hq, List.drop_length, List.append_nil] at hd
        exact zfA hno g gs hd
 ·unfold z2A at k0 ⊢
  unfold z2n at c1 k1 ⊢
  clear hok hok2 hfm hR hS hn
  cases b2 with
  | true =>
    refine z01 z0f 2 rfl Tryz.func137 rfl rfl rfl ?_
    repeat ((try conv => whnf); first | (refine ccB ([1]) (c0) ?_) | (refine ccA ([]) (k0) ?_) | (refine ccB ([_]) (c1) ?_) | (refine And.intro (by kernel_rfl) ?_) | (refine stpQ ?_))
    (refine z00 (by rfl) ?_ ?_ (by rfl)) <;> (repeat' (first | (exact eqA) | (refine shE ?_) | (refine And.intro ?_ ?_))) <;> rfl
  | false =>
    cases ok with
    | false =>
      refine z01 z0f 2 rfl Tryz.func137 rfl rfl rfl ?_
      repeat ((try conv => whnf); first | (refine ccB ([1]) (c0) ?_) | (refine ccA ([]) (k0) ?_) | (refine ccB ([_]) (c1) ?_) | (refine And.intro (by kernel_rfl) ?_) | (refine stpQ ?_))
      (refine z00 (by rfl) ?_ ?_ (by rfl)) <;> (repeat' (first | (exact eqA) | (refine shE ?_) | (refine And.intro ?_ ?_))) <;> rfl
    | true =>
      cases fm with
      | false =>
        refine z01 z0f 2 rfl Tryz.func137 rfl rfl rfl ?_
        repeat ((try conv => whnf); first | (refine ccB ([1]) (c0) ?_) | (refine ccA ([]) (k0) ?_) | (refine ccB ([_]) (c1) ?_) | (refine ccA ([]) (k1) ?_) | (refine And.intro (by kernel_rfl) ?_) | (refine stpQ ?_))
        (refine z00 (by rfl) ?_ ?_ (by rfl)) <;> (repeat' (first | (exact eqA) | (refine shE ?_) | (refine And.intro ?_ ?_))) <;> rfl
      | true =>
        refine z01 z0f 2 rfl Tryz.func137 rfl rfl rfl ?_
        repeat ((try conv => whnf); first | (refine ccB ([1]) (c0) ?_) | (refine ccA ([]) (k0) ?_) | (refine ccB ([_]) (c1) ?_) | (refine ccA ([]) (k1) ?_) | (refine And.intro (by kernel_rfl) ?_) | (refine stpQ ?_))
        (refine z00 (by rfl) ?_ ?_ (by rfl)) <;> (repeat' (first | (exact eqA) | (refine shE ?_) | (refine And.intro ?_ ?_))) <;> rfl
end Go.Proofs.YtkjjacndfieeoaaGreatDoor
