/- Functions by content: the program verifies signatures, seals and stamps. Functions by content: the program verifies seals and stamps. Functions by content: a complete proof is verified. Functions by content: a complete proof is encoded. Functions by content: a complete proof is decoded from its text. -/
import Derived.Test.YthcfalipgnpelaaGreatDoorTt
import Derived.Test.YthcfalipgnpelaaGreatDoorPs
namespace Go.Proofs.YthcfalipgnpelaaGreatDoor
set_option maxRecDepth 100000
set_option maxHeartbeats 8000000
set_option linter.unusedVariables false
set_option linter.unusedSimpArgs false
set_option linter.unusedSectionVars false
open Go.RowKit Pl
attribute [local irreducible] z0o z0p z0z AnsP LeP
theorem z0a {r : Nat} : ownE (.box [.ref r]) := fun c hc => by rw [List.mem_singleton.1 hc]; trivial
theorem z0b : ownE (.row 0 []) := fun e he => by simp at he
theorem zjX {l : Bs} (h : l.length = 16) : ∃ x xs, l = x :: xs := by
 cases l with
 | nil => cases h
 | cons x xs => exact ⟨x, xs, rfl⟩
theorem z4x {a : Bs} (ha : a.length ≤ 200) : z0Z [a] := ⟨by simp, fun p h => by rw [List.mem_singleton.1 h]; exact ha⟩
theorem z9X {l : List Bs} (hn : l.length ≤ 60) (h : ∀ x ∈ l, x.length = 16) : z0Z l := ⟨hn, fun p hp => by have := h p hp; omega⟩
theorem zhI {l : List Bs} {n : Nat} (hn : l.length = n) (h : ∀ x ∈ l, x.length = 16) : ((l.all fun x => decide ((x.length : Int) = 16)) && decide ((l.length : Int) = (n : Int))) = true := by
 rw [Bool.and_eq_true, List.all_eq_true, decide_eq_true_eq]
 exact ⟨fun x hx => by have := h x hx; simp; omega, by omega⟩
theorem zm4 {x lo hi : Int} (h : lo ≤ x ∧ x ≤ hi) : CT Tryz.prog 90 [] [.int .i64 x, .int .i64 lo, .int .i64 hi] (.bool true) [] := by
 have := c_in x lo hi
 rwa [z0x.2 h] at this
theorem z7Y (n : Int) : CT Tryz.prog 56 [] [.int .i64 n] (.bool (inB n 0 2)) [] := by
 have c1 := c_in n 0 2
 generalize inB n 0 2 = b at c1 ⊢
 refine z01 z1G 1 rfl Tryz.func56 rfl rfl rfl ?_
 repeat ((try conv => whnf); first | (refine ccA ([]) (c1) ?_) | (refine stpQ ?_))
 (refine z00 (by rfl) ?_ ?_ (by rfl)) <;> (repeat' (first | (exact eqA) | (refine shE ?_) | (refine And.intro ?_ ?_)))
theorem zbr (n : Int) : CT Tryz.prog 57 [] [.int .i64 n] (.bool (inB n 0 2)) [] := by
 have c1 := c_in n 0 2
 generalize inB n 0 2 = b at c1 ⊢
 refine z01 z1G 1 rfl Tryz.func57 rfl rfl rfl ?_
 repeat ((try conv => whnf); first | (refine ccA ([]) (c1) ?_) | (refine stpQ ?_))
 (refine z00 (by rfl) ?_ ?_ (by rfl)) <;> (repeat' (first | (exact eqA) | (refine shE ?_) | (refine And.intro ?_ ?_)))
theorem zbs (n : Int) : CT Tryz.prog 213 [] [.int .i64 n] (.bool (inB n 1 4)) [] := by
 have c1 := c_in n 1 4
 generalize inB n 1 4 = b at c1 ⊢
 refine z01 z1G 1 rfl Tryz.func213 rfl rfl rfl ?_
 repeat ((try conv => whnf); first | (refine ccA ([]) (c1) ?_) | (refine stpQ ?_))
 (refine z00 (by rfl) ?_ ?_ (by rfl)) <;> (repeat' (first | (exact eqA) | (refine shE ?_) | (refine And.intro ?_ ?_)))
theorem z6b {n : Int} (h : 0 ≤ n ∧ n ≤ 2) : CT Tryz.prog 56 [] [.int .i64 n] (.bool true) [] := by
 have := z7Y n
 rwa [z0x.2 h] at this
theorem zfq {n : Int} (h : 0 ≤ n ∧ n ≤ 2) : CT Tryz.prog 57 [] [.int .i64 n] (.bool true) [] := by
 have := zbr n
 rwa [z0x.2 h] at this
theorem z6c {n : Int} (h : 1 ≤ n ∧ n ≤ 4) : CT Tryz.prog 213 [] [.int .i64 n] (.bool true) [] := by
 have := zbs n
 rwa [z0x.2 h] at this
def sgB (s : Sg) : Bool := inB (s.a : Int) 0 15 && (s.op.all fun x => decide ((x.length : Int) = 16)) && decide ((s.op.length : Int) = 8) && (s.sh.all fun x => decide ((x.length : Int) = 16)) && decide ((s.sh.length : Int) = 8) && (s.si.all fun x => decide ((x.length : Int) = 16)) && decide ((s.si.length : Int) = 4)
theorem zjY (s : Sg) (h1 : (s.op.length : Int) ≤ 1000000) (h2 : (s.sh.length : Int) ≤ 1000000) (h3 : (s.si.length : Int) ≤ 1000000) : CT Tryz.prog 264 [] [.agg (sgE s)] (.bool (sgB s)) [] := by
 obtain ⟨a, op, sh, si⟩ := s
 have c1 := c_in (a : Int) 0 15
 simp only at h1 h2 h3
 have c2 := z22 op 8 16 (by omega)
 have c3 := z22 sh 8 16 (by omega)
 have c4 := z22 si 4 16 (by omega)
 show CT _ _ _ _ (.bool (inB (a : Int) 0 15 && (op.all fun x => decide ((x.length : Int) = 16)) && decide ((op.length : Int) = 8) && (sh.all fun x => decide ((x.length : Int) = 16)) && decide ((sh.length : Int) = 8) && (si.all fun x => decide ((x.length : Int) = 16)) && decide ((si.length : Int) = 4))) _
 rw [Bool.and_assoc (inB (a : Int) 0 15), Bool.and_assoc (inB (a : Int) 0 15 && _), Bool.and_assoc (inB (a : Int) 0 15 && _ && _)]
 generalize inB (a : Int) 0 15 = b1 at c1 ⊢
 generalize ((op.all fun x => decide ((x.length : Int) = 16)) && decide ((op.length : Int) = 8)) = b2 at c2 ⊢
 generalize ((sh.all fun x => decide ((x.length : Int) = 16)) && decide ((sh.length : Int) = 8)) = b3 at c3 ⊢
 generalize ((si.all fun x => decide ((x.length : Int) = 16)) && decide ((si.length : Int) = 4)) = b4 at c4 ⊢
 refine z01 z1G 1 rfl Tryz.func264 rfl rfl rfl ?_
 cases b1
 ·repeat ((try conv => whnf); first | (refine ccA ([]) (c1) ?_) | (refine stpQ ?_))
  (refine z00 (by rfl) ?_ ?_ (by rfl)) <;> (repeat' (first | (exact eqA) | (refine shE ?_) | (refine And.intro ?_ ?_))) <;> rfl
 cases b2
 ·repeat ((try conv => whnf); first | (refine ccA ([]) (c1) ?_) | (refine ccA ([]) (c2) ?_) | (refine stpQ ?_))
  (refine z00 (by rfl) ?_ ?_ (by rfl)) <;> (repeat' (first | (exact eqA) | (refine shE ?_) | (refine And.intro ?_ ?_))) <;> rfl
 cases b3
 ·repeat ((try conv => whnf); first | (refine ccA ([]) (c1) ?_) | (refine ccA ([]) (c2) ?_) | (refine ccA ([]) (c3) ?_) | (refine stpQ ?_))
  (refine z00 (by rfl) ?_ ?_ (by rfl)) <;> (repeat' (first | (exact eqA) | (refine shE ?_) | (refine And.intro ?_ ?_))) <;> rfl
 cases b4
 ·repeat ((try conv => whnf); first | (refine ccA ([]) (c1) ?_) | (refine ccA ([]) (c2) ?_) | (refine ccA ([]) (c3) ?_) | (refine ccA ([]) (c4) ?_) | (refine stpQ ?_))
  (refine z00 (by rfl) ?_ ?_ (by rfl)) <;> (repeat' (first | (exact eqA) | (refine shE ?_) | (refine And.intro ?_ ?_))) <;> rfl
 ·repeat ((try conv => whnf); first | (refine ccA ([]) (c1) ?_) | (refine ccA ([]) (c2) ?_) | (refine ccA ([]) (c3) ?_) | (refine ccA ([]) (c4) ?_) | (refine stpQ ?_))
  (refine z00 (by rfl) ?_ ?_ (by rfl)) <;> (repeat' (first | (exact eqA) | (refine shE ?_) | (refine And.intro ?_ ?_))) <;> rfl
theorem zjZ {s : Sg} (g : s.good) : sgB s = true := by
 obtain ⟨a, op, sh, si⟩ := s
 obtain ⟨h1, ⟨h2, h3⟩, ⟨h4, h5⟩, h6, h7⟩ := g
 simp only at h1 h2 h3 h4 h5 h6 h7
 have w2 := zhI h2 h3
 have w3 := zhI h4 h5
 have w4 := zhI h6 h7
 rw [Bool.and_eq_true] at w2 w3 w4
 simp only [sgB, Bool.and_eq_true]
 exact ⟨⟨⟨⟨⟨⟨z0x.2 (by omega), w2.1⟩, w2.2⟩, w3.1⟩, w3.2⟩, w4.1⟩, w4.2⟩
theorem zbt (s : Sg) (g : s.good) : CT Tryz.prog 264 [] [.agg (sgE s)] (.bool true) [] := by
 have := zjY s (by have := g.2.1.1; omega) (by have := g.2.2.1.1; omega) (by have := g.2.2.2.1; omega)
 rwa [zjZ g] at this
theorem zfr (t : Bs) (ht : t.length ≤ 200) : CT Tryz.prog 267 [] [.str t] (.int .i64 (sbB t : Int)) [] := by
 have c1 := z3j 7 [t] 16 (by omega) (z4x ht) (by omega)
 have hl := z1e (k := 7) (ps := [t]) (w := 16) (by omega)
 have htl : ¬ (t.length : Int) > 200 := by omega
 unfold sbB
 generalize z1m 7 [t] 16 = d at c1 hl ⊢
 have h1 := z5x (d.getD 0 0)
 have h0 : 0 < d.length := by omega
 refine z01 z1G 1 rfl Tryz.func267 rfl rfl rfl ?_
 repeat ((try conv => whnf); first | (refine ccA ([]) (c1) ?_) | (refine Exists.intro 0 (And.intro rfl (And.intro h0 ?_))) | (refine Exists.intro _ (And.intro h1.symm ?_)) | (refine stpQ ?_))
 (refine z00 (by rfl) ?_ ?_ (by rfl)) <;> (repeat' (first | (exact eqA) | (refine shE ?_) | (refine And.intro ?_ ?_)))
theorem i_sbit (ix b : Nat) (hix : ix < 256) (hb : b < 8) : CT Tryz.prog 268 [] [.int .i64 (ix : Int), .int .i64 (b : Int)] (.int .i64 ((sbit ix b : Nat) : Int)) [] := by
 have := zm0 ix (7 - b) hix (by omega)
 rwa [show (7 : Int) - ((7 - b : Nat) : Int) = (b : Int) by omega] at this
theorem zm5 (o : List Bs) (k : Nat) (ps : List Bs) (hk : 1 ≤ k ∧ k ≤ 8) (hp : z0Z ps) (ho : o.length ≤ 1000) : CT Tryz.prog 265 [.box [.ref 2], .row 1 (strE o)] [.int .i64 (k : Int), .sl 1 (strE ps), .ptr 1 0 0] (.str (z1m k ps 16)) [.box [.ref 3], .row 0 [], .row 1 (strE (o ++ [tagB k ps]))] := by
 have c1 := z7P k ps hk hp
 have hl := z3i (k := k) hp
 have c2 := zeo (tagB k ps) 16 (by omega) (by omega)
 have hol := z05 o
 unfold z1m
 generalize cutB (tagB k ps) 16 = h at c2 ⊢
 generalize tagB k ps = t at c1 c2 ⊢
 refine z01 z1G 3 rfl Tryz.func265 rfl rfl rfl ?_
 repeat ((try conv => whnf); first | (refine ccA ([]) (c1) ?_) | (refine ccA ([]) (c2) ?_) | (refine And.intro (by simp only [List.length_append, List.length_cons, List.length_nil, List.length_set, List.length_replicate]; omega) ?_) | (refine And.intro (by kernel_rfl) ?_) | (refine stpQ ?_))
 (refine z00 (by rfl) ?_ ?_ (by rfl)) <;> (repeat' (first | (exact eqA) | (refine shE ?_) | (refine And.intro ?_ ?_)))
 all_goals first
  | (rw [z1k]; rfl)
  | rfl
def z4m (op : List Bs) (n : Nat) : List Bs := (List.range n).map fun b => tagB 6 [pAt op b]
theorem zfs (op : List Bs) (n : Nat) : z4m op (n + 1) = z4m op n ++ [tagB 6 [pAt op n]] := by simp [z4m, List.range_succ]
theorem z5D (op : List Bs) (n : Nat) : (z4m op n).length = n := by simp [z4m]
def sigT (text : Bs) (s : Sg) : List Bs := z4m s.op 8 ++ [tagB 6 (z1O (sbB text) s.op s.sh 8)] ++ (z28 s.a 16 0 (keyV text s) s.si).1
theorem z9Y {text : Bs} {s : Sg} (g : s.good) : (sigT text s).length = 13 := by
 rw [sigT, List.length_append, List.length_append, z5D, z7D, g.2.2.2.1]; rfl
theorem zk0 {l : List Bs} : pAt l (l.length - 1) = l.getLastD [] := by
 rw [pAt, List.getD, List.getLastD_eq_getLast?, List.getLast?_eq_getElem?]
theorem zhJ {text : Bs} {s : Sg} (g : s.good) : cutB (pAt (sigT text s) 12) 16 = z53 text s := by
 have h1 : (12 : Nat) = (sigT text s).length - 1 := by rw [z9Y g]
 rw [h1, zk0, sigT, List.append_assoc]
 have h2 := zb6 s.a 16 s.si 0 (keyV text s) (tagB 6 (z1O (sbB text) s.op s.sh 8)) rfl
 rw [z53, ← h2]
 congr 1
 all_goals (rw [List.singleton_append, List.getLastD_eq_getLast?, List.getLastD_eq_getLast?, List.getLast?_append]; simp)
theorem zft (text : Bs) (s : Sg) (g : s.good) (ht : text.length ≤ 200) : CT Tryz.prog 214 [] [.str text, .agg (sgE s)] (.ref 1) [.row 1 (strE (sigT text s))] := by
 have c1 := zbt s g
 have c2 := zfr text ht
 have hix := zl2 text
 have htl : ¬ (text.length : Int) > 200 := by omega
 have hsl := z9Y (text := text) g
 have hdef : sigT text s = z4m s.op 8 ++ [tagB 6 (z1O (sbB text) s.op s.sh 8)] ++ (z28 s.a 16 0 (keyV text s) s.si).1 := rfl
 have hkey : keyV text s = z1m 6 (z1O (sbB text) s.op s.sh 8) 16 := rfl
 generalize keyV text s = key at hdef hkey
 generalize sbB text = ix at c2 hix hdef hkey
 obtain ⟨a, op, sh, si⟩ := s
 obtain ⟨h1, ⟨h2, h3⟩, ⟨h4, h5⟩, h6, h7⟩ := g
 simp only at h1 h2 h3 h4 h5 h6 h7 hdef hkey hsl
 generalize sigT text ⟨a, op, sh, si⟩ = R at hdef hsl ⊢
 have hopl := z05 op
 have hsil := z05 si
 refine z01 z1G 1 rfl Tryz.func214 rfl rfl rfl ?_
 repeat ((try conv => whnf); first | (refine ccA ([]) (c1) ?_) | (refine ccA ([]) (c2) ?_) | (refine stpQ ?_))
 refine z07 0 ⟨[(3, .ptr 1 0 0), (5, .ptr 2 0 0), (6, .ref 3), (7, .fnp 265 2)], [(1, some (.box [.int .i64 (a : Int), .sl 1 (strE op), .sl 1 (strE sh), .sl 1 (strE si)])), (2, some (.box [.ref 4])), (3, some (.row 1 (strE (z1O ix op sh 8)))), (4, some (.row 1 (strE (z4m op 8))))], 5⟩ Nat (fun b => ⟨[(3, .ptr 1 0 0), (5, .ptr 2 0 0), (6, .ref 3), (7, .fnp 265 2), (8, .int .i64 (ix : Int)), (25, .int .i64 (b : Int))], [(1, some (.box [.int .i64 (a : Int), .sl 1 (strE op), .sl 1 (strE sh), .sl 1 (strE si)])), (2, some (.box [.ref 4])), (3, some (.row 1 (strE (z1O ix op sh b)))), (4, some (.row 1 (strE (z4m op b))))], 5⟩) (fun b => b ≤ 8) (fun b => 8 - b) 0 (by omega) ?_ ?_ ?_
 ·(refine z02 (by rfl) ?_ ?_) <;> (repeat' (first | (exact eqA) | (refine shE ?_) | (refine And.intro ?_ ?_))) <;> first | rfl | decide
 ·intro b hb
  by_cases hlt : b < 8
  ·have hb8 : (b : Int) < 8 := by omega
   have q1 := i_sbit ix b hix hlt
   have hv := zm2 ix b
   have n1 := zfs op b
   have n2 := z51 ix op sh b
   have l1 := z5D op b
   have l2 := z2P ix op sh b
   have go := z0j (show b < op.length by omega)
   have gs := z0j (show b < sh.length by omega)
   have w1 := z3T h3 (i := b) (by omega)
   have w2 := z3T h5 (i := b) (by omega)
   generalize pAt op b = x at go w1 n1 n2
   generalize pAt sh b = y at gs w2 n2
   have q2 := zm5 (z4m op b) 6 [x] (by omega) (z4x (by omega)) (by omega)
   rw [← n1] at q2
   have n3 := z05 (z4m op b)
   generalize z4m op b = o1 at q2 n1 l1 n3 ⊢
   generalize z1O ix op sh b = o2 at n2 l2 ⊢
   have ho2 := z05 o2
   by_cases hz : sbit ix b = 0
   ·have hpl : z7X ix b x y = [z4l x, y] := by unfold z7X; rw [if_pos hz]
    rw [hpl] at n2
    unfold z4l at n2
    generalize z1m 6 [x] 16 = k at q2 n2
    have hz2 : ((sbit ix b : Nat) : Int) = 0 := by omega
    generalize sbit ix b = v at q1 hz2
    repeat ((try conv => whnf); first | (refine i_at go ?_) | (refine i_at gs ?_) | (refine z16 ([2, 4]) (q2) (by ((repeat' (first | (exact trivial) | (exact rfl) | (decide) | (refine And.intro ?_ ?_))); first | done | fail)) (by ((repeat' (first | (exact trivial) | (exact rfl) | (decide) | (refine And.intro ?_ ?_))); first | done | fail)) (by decide) (by rfl) (by first | exact .inl rfl | (refine .inr ⟨by simp [own2, own1, own0], fun e he => ?_⟩; simp only [List.mem_cons, List.not_mem_nil, or_false] at he <;> first | exact he.elim | (subst he; (first | exact z0b | exact z0a | exact z0c _ | exact z09 _)) | (rcases he with rfl | rfl <;> (first | exact z0b | exact z0a | exact z0c _ | exact z09 _)) | (rcases he with rfl | rfl | rfl <;> (first | exact z0b | exact z0a | exact z0c _ | exact z09 _)))) ?_) | (refine ccA ([]) (q1) ?_) | (refine And.intro (by simp only [List.length_append, List.length_cons, List.length_nil, List.length_set, List.length_replicate]; omega) ?_) | (refine stpQ ?_))
    refine ⟨b + 1, by omega, by omega, ?_⟩
    rw [n2]
    (refine z02 (by rfl) ?_ ?_) <;> (repeat' (first | (exact eqA) | (refine shE ?_) | (refine And.intro ?_ ?_)))
    all_goals first
     | (rw [z1k]; rfl)
     | rfl
   ·have hpl : z7X ix b x y = [y, z4l x] := by unfold z7X; rw [if_neg hz]
    rw [hpl] at n2
    unfold z4l at n2
    generalize z1m 6 [x] 16 = k at q2 n2
    have hz2 : ¬ ((sbit ix b : Nat) : Int) = 0 := by omega
    generalize sbit ix b = v at q1 hz2
    repeat ((try conv => whnf); first | (refine i_at go ?_) | (refine i_at gs ?_) | (refine z16 ([2, 4]) (q2) (by ((repeat' (first | (exact trivial) | (exact rfl) | (decide) | (refine And.intro ?_ ?_))); first | done | fail)) (by ((repeat' (first | (exact trivial) | (exact rfl) | (decide) | (refine And.intro ?_ ?_))); first | done | fail)) (by decide) (by rfl) (by first | exact .inl rfl | (refine .inr ⟨by simp [own2, own1, own0], fun e he => ?_⟩; simp only [List.mem_cons, List.not_mem_nil, or_false] at he <;> first | exact he.elim | (subst he; (first | exact z0b | exact z0a | exact z0c _ | exact z09 _)) | (rcases he with rfl | rfl <;> (first | exact z0b | exact z0a | exact z0c _ | exact z09 _)) | (rcases he with rfl | rfl | rfl <;> (first | exact z0b | exact z0a | exact z0c _ | exact z09 _)))) ?_) | (refine ccA ([]) (q1) ?_) | (refine And.intro (by simp only [List.length_append, List.length_cons, List.length_nil, List.length_set, List.length_replicate]; omega) ?_) | (refine stpQ ?_))
    refine ⟨b + 1, by omega, by omega, ?_⟩
    rw [n2]
    (refine z02 (by rfl) ?_ ?_) <;> (repeat' (first | (exact eqA) | (refine shE ?_) | (refine And.intro ?_ ?_)))
    all_goals first
     | (rw [z1k]; rfl)
     | rfl
  ·obtain rfl : b = 8 := by omega
   repeat ((try conv => whnf); first | (refine stpQ ?_))
   (refine z02 (by rfl) ?_ ?_) <;> (repeat' (first | (exact eqA) | (refine shE ?_) | (refine And.intro ?_ ?_)))
 ·have hlw := z52 (ix := ix) (op := op) (sh := sh) (n := 8) h5 (by omega)
  have hll := z2P ix op sh 8
  have q2 := zm5 (z4m op 8) 6 (z1O ix op sh 8) (by omega) (z9X (by omega) hlw) (by rw [z5D]; omega)
  have hkl : key.length = 16 := by rw [hkey]; exact z1e (by omega)
  rw [← hkey] at q2
  have hF : FdAt (z28 a 16 0 key si) a 16 [] 0 key (si.drop 0) := rfl
  have hFl := z7D a 16 si 0 key
  generalize z28 a 16 0 key si = F at hF hdef hFl
  have hpre : (z4m op 8 ++ [tagB 6 (z1O ix op sh 8)]).length = 9 := by simp [z5D]
  generalize z4m op 8 ++ [tagB 6 (z1O ix op sh 8)] = pre at hdef q2 hpre
  generalize z4m op 8 = o1 at q2 ⊢
  generalize z1O ix op sh 8 = o2 at q2 ⊢
  repeat ((try conv => whnf); first | (refine z16 ([2, 4]) (q2) (by ((repeat' (first | (exact trivial) | (exact rfl) | (decide) | (refine And.intro ?_ ?_))); first | done | fail)) (by ((repeat' (first | (exact trivial) | (exact rfl) | (decide) | (refine And.intro ?_ ?_))); first | done | fail)) (by decide) (by rfl) (by first | exact .inl rfl | (refine .inr ⟨by simp [own2, own1, own0], fun e he => ?_⟩; simp only [List.mem_cons, List.not_mem_nil, or_false] at he <;> first | exact he.elim | (subst he; (first | exact z0b | exact z0a | exact z0c _ | exact z09 _)) | (rcases he with rfl | rfl <;> (first | exact z0b | exact z0a | exact z0c _ | exact z09 _)) | (rcases he with rfl | rfl | rfl <;> (first | exact z0b | exact z0a | exact z0c _ | exact z09 _)))) ?_) | (refine Exists.intro 4 (And.intro (hsil.trans h6) ?_)) | (refine stpQ ?_))
  refine z07 2 ⟨[(5, .ptr 1 0 0)], [(1, some (.box [.ref 2])), (2, some (.row 1 (strE R)))], 3⟩ (Nat × Bs × List Bs) (fun x => ⟨[(3, .ptr 1 0 0), (5, .ptr 2 0 0), (7, .fnp 265 2), (11, .str x.2.1), (63, .sl 1 (strE si)), (64, .int .i64 4), (65, .int .i64 (x.1 : Int))], [(1, some (.box [.int .i64 (a : Int), .sl 1 (strE op), .sl 1 (strE sh), .sl 1 (strE si)])), (2, some (.box [.ref 3])), (3, some (.row 1 (strE (pre ++ x.2.2))))], 4⟩) (fun x => x.1 ≤ 4 ∧ x.2.1.length = 16 ∧ x.2.2.length = x.1 ∧ FdAt F a 16 x.2.2 x.1 x.2.1 (si.drop x.1)) (fun x => 4 - x.1) (0, key, []) ⟨by omega, hkl, rfl, hF⟩ ?_ ?_ ?_
  ·(refine z02 (by rfl) ?_ ?_) <;> (repeat' (first | (exact eqA) | (refine shE ?_) | (refine And.intro ?_ ?_))) <;> first | rfl | decide | (simp; done)
  ·intro x hx
   obtain ⟨k, hk0, T⟩ := x
   have hk : k ≤ 4 := hx.1
   have hl : hk0.length = 16 := hx.2.1
   have hT : T.length = k := hx.2.2.1
   have hat : FdAt F a 16 T k hk0 (si.drop k) := hx.2.2.2
   clear hx
   by_cases hlt : k < 4
   ·have hk4 : (k : Int) < 4 := by omega
    rw [zjT (show k < si.length by omega)] at hat
    have hst := hat.step
    have gs := z0j (show k < si.length by omega)
    have ws := z3T h7 (i := k) (by omega)
    generalize pAt si k = y at hst gs ws
    have hpo := zhC (ix := a) (j := k) (h := hk0) (s := y) (by omega) (by omega)
    have q3 := zm5 (pre ++ T) 3 (z4j a k hk0 y) (by omega) hpo (by rw [List.length_append]; omega)
    rw [List.append_assoc] at q3
    have hcl := z1e (k := 3) (ps := z4j a k hk0 y) (w := 16) (by omega)
    change FdAt F a 16 (T ++ [tagB 3 (z4j a k hk0 y)]) (k + 1) (z1m 3 (z4j a k hk0 y) 16) _ at hst
    have e2 := z7S a k
    have hak : a / 2 ^ k < 256 := Nat.lt_of_le_of_lt (Nat.div_le_self _ _) (by omega)
    have e3 := zcQ (a / 2 ^ k) hak
    have hnil : pre ++ T = pre ++ T := rfl
    by_cases hz : bitB a k = 1
    ·have hpr : z4j a k hk0 y = [y, hk0] := by unfold z4j; rw [if_pos hz]
     rw [hpr] at q3 hst hcl
     unfold bitB at hz
     have hz2 : ¬ ((a / 2 ^ k % 2 : Nat) : Int) = 0 := by omega
     generalize tagB 3 [y, hk0] = tg at q3 hst
     generalize z1m 3 [y, hk0] 16 = ct at q3 hst hcl
     generalize a / 2 ^ k = ak at e2 e3 hz2
     repeat ((try conv => whnf); first | (refine i_at gs ?_) | (refine And.intro (show (0 : Int) ≤ _ from by omega) ?_) | (refine And.intro (show _ ≤ (64 : Int) from by omega) ?_) | (refine Exists.intro _ (And.intro e2.symm ?_)) | (refine Exists.intro _ (And.intro e3.symm ?_)) | (refine z0e hz2 ?_) | (refine z16 ([2, 3]) (q3) (by ((repeat' (first | (exact trivial) | (exact rfl) | (decide) | (refine And.intro ?_ ?_))); first | done | fail)) (by ((repeat' (first | (exact trivial) | (exact rfl) | (decide) | (refine And.intro ?_ ?_))); first | done | fail)) (by decide) (by rfl) (by first | exact .inl rfl | (refine .inr ⟨by simp [own2, own1, own0], fun e he => ?_⟩; simp only [List.mem_cons, List.not_mem_nil, or_false] at he <;> first | exact he.elim | (subst he; (first | exact z0b | exact z0a | exact z0c _ | exact z09 _)) | (rcases he with rfl | rfl <;> (first | exact z0b | exact z0a | exact z0c _ | exact z09 _)) | (rcases he with rfl | rfl | rfl <;> (first | exact z0b | exact z0a | exact z0c _ | exact z09 _)))) ?_) | (refine stpQ ?_))
     refine ⟨(k + 1, ct, T ++ [tg]), ⟨by show k + 1 ≤ _; omega, hcl, by simp [hT], hst⟩, (by show 4 - (k + 1) < 4 - k; omega), ?_⟩
     (refine z02 (by rfl) ?_ ?_) <;> (repeat' (first | (exact eqA) | (refine shE ?_) | (refine And.intro ?_ ?_))) <;> rfl
    ·have hpr : z4j a k hk0 y = [hk0, y] := by unfold z4j; rw [if_neg hz]
     rw [hpr] at q3 hst hcl
     unfold bitB at hz
     have hz2 : ((a / 2 ^ k % 2 : Nat) : Int) = 0 := by omega
     generalize tagB 3 [hk0, y] = tg at q3 hst
     generalize z1m 3 [hk0, y] 16 = ct at q3 hst hcl
     generalize a / 2 ^ k = ak at e2 e3 hz2
     repeat ((try conv => whnf); first | (refine i_at gs ?_) | (refine And.intro (show (0 : Int) ≤ _ from by omega) ?_) | (refine And.intro (show _ ≤ (64 : Int) from by omega) ?_) | (refine Exists.intro _ (And.intro e2.symm ?_)) | (refine Exists.intro _ (And.intro e3.symm ?_)) | (refine z0k hz2 ?_) | (refine z16 ([2, 3]) (q3) (by ((repeat' (first | (exact trivial) | (exact rfl) | (decide) | (refine And.intro ?_ ?_))); first | done | fail)) (by ((repeat' (first | (exact trivial) | (exact rfl) | (decide) | (refine And.intro ?_ ?_))); first | done | fail)) (by decide) (by rfl) (by first | exact .inl rfl | (refine .inr ⟨by simp [own2, own1, own0], fun e he => ?_⟩; simp only [List.mem_cons, List.not_mem_nil, or_false] at he <;> first | exact he.elim | (subst he; (first | exact z0b | exact z0a | exact z0c _ | exact z09 _)) | (rcases he with rfl | rfl <;> (first | exact z0b | exact z0a | exact z0c _ | exact z09 _)) | (rcases he with rfl | rfl | rfl <;> (first | exact z0b | exact z0a | exact z0c _ | exact z09 _)))) ?_) | (refine stpQ ?_))
     refine ⟨(k + 1, ct, T ++ [tg]), ⟨by show k + 1 ≤ _; omega, hcl, by simp [hT], hst⟩, (by show 4 - (k + 1) < 4 - k; omega), ?_⟩
     (refine z02 (by rfl) ?_ ?_) <;> (repeat' (first | (exact eqA) | (refine shE ?_) | (refine And.intro ?_ ?_))) <;> rfl
   ·have hke : k = 4 := by omega
    subst hke
    rw [show (4 : Nat) = si.length from h6.symm, List.drop_length] at hat
    have hR : R = pre ++ T := by rw [hdef, hat.done]
    rw [hR]
    repeat ((try conv => whnf); first | (refine stpQ ?_))
    (refine z02 (by rfl) ?_ ?_) <;> (repeat' (first | (exact eqA) | (refine shE ?_) | (refine And.intro ?_ ?_)))
  ·repeat ((try conv => whnf); first | (refine stpQ ?_))
   (refine z00 (by rfl) ?_ ?_ (by rfl)) <;> (repeat' (first | (exact eqA) | (refine shE ?_) | (refine And.intro ?_ ?_)))
end Go.Proofs.YthcfalipgnpelaaGreatDoor
namespace Go.Proofs.YthcfalipgnpelaaGreatDoor
set_option maxRecDepth 100000
set_option maxHeartbeats 8000000
set_option linter.unusedVariables false
set_option linter.unusedSimpArgs false
set_option linter.unusedSectionVars false
open Go.RowKit Pl
attribute [local irreducible] z0o z0p z0z AnsP LeP
theorem zhK (root text : Bs) (s : Sg) (g : s.good) (ht : text.length ≤ 200) : CT Tryz.prog 152 [] [.str root, .str text, .agg (sgE s)] (.bool (decide (z53 text s = root))) [] := by
 have c1 := zft text s g ht
 have hl := z9Y (text := text) g
 rw [← zhJ g]
 have hpl : (pAt (sigT text s) 12).length ≤ 100000 := by
  have : ∀ x ∈ sigT text s, x.length ≤ 12301 := by
   intro x hx
   simp only [sigT, List.mem_append, List.mem_singleton] at hx
   rcases hx with (hx | rfl) | hx
   ·simp only [z4m, List.mem_map, List.mem_range] at hx
    obtain ⟨b, hb, rfl⟩ := hx
    exact z3i (z4x (by rw [z3T g.2.1.2 (by rw [g.2.1.1]; omega)]; omega))
   ·exact z3i (z9X (by rw [z2P]; omega) (z52 g.2.2.1.2 (by rw [g.2.2.1.1]; omega)))
   ·exact zbp (l := []) (by rw [keyV, z1e (by omega)]; omega) (by omega) (fun y hy => by have := g.2.2.2.2 y hy; omega) x hx
  have h12 : 12 < (sigT text s).length := by omega
  simp only [pAt, List.getD, List.getElem?_eq_getElem h12, Option.getD_some]
  have := this _ (List.getElem_mem h12)
  omega
 have c2 := zeo (pAt (sigT text s) 12) 16 (by omega) (by omega)
 have gl := z0j (ps := sigT text s) (k := 12) (by omega)
 generalize pAt (sigT text s) 12 = u at c2 gl ⊢
 generalize cutB u 16 = v at c2 ⊢
 generalize sigT text s = l at c1 hl gl
 obtain ⟨a, op, sh, si⟩ := s
 have hll := z05 l
 have e : IntKind.i64.wrap (((13 : Nat) : Int) - 1) = ((12 : Nat) : Int) := by rw [z08 (by omega) (by omega)]; omega
 have h12 : 12 < (strE l).length := by omega
 refine z01 z1G 1 rfl Tryz.func152 rfl rfl rfl ?_
 repeat ((try conv => whnf); first | (refine ccA ([]) (c1) ?_) | (refine Exists.intro 13 (And.intro (hll.trans hl) ?_)) | (refine i_lt (n := 12) h12 ?_) | (refine Exists.intro _ (And.intro e.symm ?_)) | (refine Exists.intro _ (And.intro gl ?_)) | (refine ccA ([]) (c2) ?_) | (refine stpQ ?_))
 (refine z00 (by rfl) ?_ ?_ (by rfl)) <;> (repeat' (first | (exact eqA) | (refine shE ?_) | (refine And.intro ?_ ?_))) <;> rfl
theorem z6Q (h : Hd) (g : h.good) : CT Tryz.prog 150 [] [.agg (hdE h)] (.bool true) [] := by
 obtain ⟨ho, ep, ro, pr⟩ := h
 obtain ⟨h1, h2, h3, h4, h5⟩ := g
 simp only at h1 h2 h3 h4 h5
 have c1 := z6b (n := (ho : Int)) (by omega)
 have c2 := z6c (n := (ep : Int)) (by omega)
 have hr : (ro.length : Int) = 16 := by omega
 by_cases he : ep = 1
 ·rw [if_pos he] at h5
  subst he h5
  refine z01 z1G 1 rfl Tryz.func150 rfl rfl rfl ?_
  repeat ((try conv => whnf); first | (refine ccA ([]) (c1) ?_) | (refine ccA ([]) (c2) ?_) | (refine stpQ ?_))
  (refine z00 (by rfl) ?_ ?_ (by rfl)) <;> (repeat' (first | (exact eqA) | (refine shE ?_) | (refine And.intro ?_ ?_))) <;> first | rfl | decide
 ·rw [if_neg he] at h5
  have he2 : ¬ (ep : Int) = 1 := by omega
  have hq : (pr.length : Int) = 16 := by omega
  refine z01 z1G 1 rfl Tryz.func150 rfl rfl rfl ?_
  repeat ((try conv => whnf); first | (refine ccA ([]) (c1) ?_) | (refine ccA ([]) (c2) ?_) | (refine stpQ ?_))
  (refine z00 (by rfl) ?_ ?_ (by rfl)) <;> (repeat' (first | (exact eqA) | (refine shE ?_) | (refine And.intro ?_ ?_))) <;> first | rfl | (exact decide_eq_true hq) | simp [hq]
theorem zfu (h : Hd) (g : h.good) : CT Tryz.prog 240 [] [.agg (hdE h)] (.tup [.str (z1o h), .bool true]) [] := by
 have c1 := z6Q h g
 obtain ⟨ho, ep, ro, pr⟩ := h
 obtain ⟨h1, h2, h3, h4, h5⟩ := g
 simp only at h1 h2 h3 h4 h5
 have hq : pr.length ≤ 16 := by
  split at h5
  ·rw [h5]; simp
  ·omega
 refine z01 z1G 1 rfl Tryz.func240 rfl rfl rfl ?_
 repeat ((try conv => whnf); first | (refine ccA ([]) (c1) ?_) | (refine w_u8 ?_) | (refine Exists.intro [UInt8.ofNat ho, UInt8.ofNat ep] (And.intro rfl ?_)) | (refine And.intro (by simp; omega) ?_) | (refine stpQ ?_))
 (refine z00 (by rfl) ?_ ?_ (by rfl)) <;> (repeat' (first | (exact eqA) | (refine shE ?_) | (refine And.intro ?_ ?_))) <;> rfl
theorem z6d (h : Hd) (g : h.good) : CT Tryz.prog 184 [] [.agg (hdE h)] (.str (z2l h)) [] := by
 have c1 := zfu h g
 have hl := z3F g
 have c2 := z3j 4 [z1o h] 16 (by omega) (z4x (by omega)) (by omega)
 unfold z2l
 generalize z1m 4 [z1o h] 16 = R at c2 ⊢
 generalize z1o h = t at c1 c2
 refine z01 z1G 1 rfl Tryz.func184 rfl rfl rfl ?_
 repeat ((try conv => whnf); first | (refine ccA ([]) (c1) ?_) | (refine ccA ([]) (c2) ?_) | (refine stpQ ?_))
 (refine z00 (by rfl) ?_ ?_ (by rfl)) <;> (repeat' (first | (exact eqA) | (refine shE ?_) | (refine And.intro ?_ ?_)))
theorem z54 (h : Hd) : (z2l h).length = 16 := z1e (by omega)
theorem zbu (h : Hd) : (z2n h).length = 16 := z1e (by omega)
theorem zk1 (ep : Nat) (h : 1 ≤ ep ∧ ep ≤ 4) : CT Tryz.prog 183 [] [.int .i64 (ep : Int)] (.int .i64 ((ep - 1 : Nat) : Int)) [] := by
 have c2 := z6c (n := (ep : Int)) (by omega)
 have e : IntKind.i64.wrap ((ep : Int) - 1) = ((ep - 1 : Nat) : Int) := by rw [z08 (by omega) (by omega)]; omega
 refine z01 z1G 1 rfl Tryz.func183 rfl rfl rfl ?_
 repeat ((try conv => whnf); first | (refine ccA ([]) (c2) ?_) | (refine Exists.intro _ (And.intro e.symm ?_)) | (refine stpQ ?_))
 (refine z00 (by rfl) ?_ ?_ (by rfl)) <;> (repeat' (first | (exact eqA) | (refine shE ?_) | (refine And.intro ?_ ?_)))
theorem zhL (ho ep : Nat) (h1 : ho ≤ 2) (h : 1 ≤ ep ∧ ep ≤ 4) : CT Tryz.prog 151 [] [.int .i64 (ho : Int), .int .i64 (ep : Int)] (.int .i64 ((4 * (ho + 1) + ep - 1 : Nat) : Int)) [] := by
 have c1 := z6b (n := (ho : Int)) (by omega)
 have c2 := z6c (n := (ep : Int)) (by omega)
 obtain ⟨u1, hu1⟩ : ∃ u : Nat, u = ho + 1 := ⟨_, rfl⟩
 obtain ⟨u2, hu2⟩ : ∃ u : Nat, u = 4 * u1 := ⟨_, rfl⟩
 obtain ⟨u3, hu3⟩ : ∃ u : Nat, u = u2 + ep := ⟨_, rfl⟩
 obtain ⟨u4, hu4⟩ : ∃ u : Nat, u = u3 - 1 := ⟨_, rfl⟩
 have e1 : IntKind.i64.wrap ((ho : Int) + 1) = (u1 : Int) := by rw [z08 (by omega) (by omega)]; omega
 have e2 : IntKind.i64.wrap (4 * (u1 : Int)) = (u2 : Int) := by rw [z08 (by omega) (by omega)]; omega
 have e3 : IntKind.i64.wrap ((u2 : Int) + (ep : Int)) = (u3 : Int) := by rw [z08 (by omega) (by omega)]; omega
 have e4 : IntKind.i64.wrap ((u3 : Int) - 1) = (u4 : Int) := by rw [z08 (by omega) (by omega)]; omega
 rw [show 4 * (ho + 1) + ep - 1 = u4 by omega]
 clear hu1 hu2 hu3 hu4
 refine z01 z1G 1 rfl Tryz.func151 rfl rfl rfl ?_
 repeat ((try conv => whnf); first | (refine ccA ([]) (c1) ?_) | (refine ccA ([]) (c2) ?_) | (refine Exists.intro _ (And.intro e1.symm ?_)) | (refine Exists.intro _ (And.intro e2.symm ?_)) | (refine Exists.intro _ (And.intro e3.symm ?_)) | (refine Exists.intro _ (And.intro e4.symm ?_)) | (refine stpQ ?_))
 (refine z00 (by rfl) ?_ ?_ (by rfl)) <;> (repeat' (first | (exact eqA) | (refine shE ?_) | (refine And.intro ?_ ?_)))
theorem zcS (h : Hd) (g : h.good) : CT Tryz.prog 153 [] [.agg (hdE h)] (.str (z2n h)) [] := by
 have c1 := z6d h g
 have hl := z54 h
 have c2 := z3j 8 [z2l h] 16 (by omega) (z4x (by omega)) (by omega)
 unfold z2n
 generalize z1m 8 [z2l h] 16 = R at c2 ⊢
 clear hl
 generalize z2l h = t at c1 c2
 refine z01 z1G 1 rfl Tryz.func153 rfl rfl rfl ?_
 repeat ((try conv => whnf); first | (refine ccA ([]) (c1) ?_) | (refine ccA ([]) (c2) ?_) | (refine stpQ ?_))
 (refine z00 (by rfl) ?_ ?_ (by rfl)) <;> (repeat' (first | (exact eqA) | (refine shE ?_) | (refine And.intro ?_ ?_)))
end Go.Proofs.YthcfalipgnpelaaGreatDoor
namespace Go.Proofs.YthcfalipgnpelaaGreatDoor
set_option maxRecDepth 100000
set_option maxHeartbeats 4000000
set_option linter.unusedVariables false
set_option linter.unusedSimpArgs false
set_option linter.unusedSectionVars false
open Go.RowKit Pl
attribute [local irreducible] z0o z0p z0z AnsP LeP
end Go.Proofs.YthcfalipgnpelaaGreatDoor
namespace Go.Proofs.YthcfalipgnpelaaGreatDoor
set_option maxRecDepth 100000
set_option maxHeartbeats 4000000
set_option linter.unusedVariables false
set_option linter.unusedSimpArgs false
set_option linter.unusedSectionVars false
open Go.RowKit Pl
attribute [local irreducible] z0o z0p z0z AnsP LeP
end Go.Proofs.YthcfalipgnpelaaGreatDoor
namespace Go.Proofs.YthcfalipgnpelaaGreatDoor
set_option maxRecDepth 100000
set_option maxHeartbeats 4000000
set_option linter.unusedVariables false
set_option linter.unusedSimpArgs false
set_option linter.unusedSectionVars false
open Go.RowKit Pl
attribute [local irreducible] z0o z0p z0z AnsP LeP
theorem zm6 (t : Bs) (p a : Nat) (r : Bs) (ht : (t.length : Int) ≤ 1000000000) (hp : p ≤ t.length) (ha : a < 256) (h : t.drop p = [UInt8.ofNat a] ++ r) :
 CT Tryz.prog 324 [fldB t p false] [.ptr 1 0 0] (.int .i64 (a : Int)) [fldB t (p + 1) false] := by
 have c := z7K t p false 1 ht hp
 rw [z7Z (n := 1) (l := [UInt8.ofNat a]) rfl h] at c
 simp only at c
 have hx : (UInt8.ofNat a).toNat = a := by simp [UInt8.toNat_ofNat']; omega
 have h1 := z5x (UInt8.ofNat a)
 rw [hx] at h1
 have h2 : (UInt8.ofNat a).toNat = a := hx
 generalize UInt8.ofNat a = x at c h1 h2
 subst h2
 have hne : ¬ (([x] : Bs) = []) := fun h => by cases h
 have h0 : 0 < ([x] : Bs).length := by simp
 refine z01 z0q 2 rfl Tryz.func324 rfl rfl rfl ?_
 repeat ((try conv => whnf); first | (refine ccB ([1]) (c) ?_) | (refine z0e hne ?_) | (refine Exists.intro 0 (And.intro rfl (And.intro h0 ?_))) | (refine Exists.intro _ (And.intro h1.symm ?_)) | (refine stpQ ?_))
 (refine z00 (by rfl) ?_ ?_ (by rfl)) <;> (repeat' (first | (exact eqA) | (refine shE ?_) | (refine And.intro ?_ ?_)))
theorem c_sig (t : Bs) (p : Nat) (s : Sg) (r : Bs) (g : s.good) (ht : (t.length : Int) ≤ 1000000000) (hp : p ≤ t.length) (h : t.drop p = sigB s ++ r) :
 CT Tryz.prog 284 [fldB t p false] [.ptr 1 0 0] (.agg (sgE s)) [fldB t (p + 321) false] := by
 obtain ⟨a, op, sh, si⟩ := s
 obtain ⟨h1, ⟨h2, h3⟩, ⟨h4, h5⟩, h6, h7⟩ := g
 simp only at h1 h2 h3 h4 h5 h6 h7
 have e0 : t.drop p = [UInt8.ofNat a] ++ (op.flatten ++ (sh.flatten ++ (si.flatten ++ r))) := by rw [h]; simp [sigB]
 have l2 := z4J h3
 have l4 := z4J h5
 have l6 := z4J h7
 rw [h2] at l2
 rw [h4] at l4
 rw [h6] at l6
 have e1 := z34 rfl e0
 have p1 := z55 hp rfl e0
 simp only [List.length_cons, List.length_nil, Nat.zero_add] at e1 p1
 have e2 := z34 l2 e1
 have p2 := z55 p1 l2 e1
 have e3 := z34 l4 e2
 have p3 := z55 p2 l4 e2
 have c0 := zm6 t p a _ ht hp (by omega) e0
 have d1 := z5s h3 e1
 have d2 := z5s h5 e2
 have d3 := z5s h7 e3
 rw [h2, l2] at d1
 rw [h4, l4] at d2
 rw [h6, l6] at d3
 have c1 := z4v t (p + 1) false 8 16 ht p1 (by omega)
 have c2 := z4v t (p + 1 + 16 * 8) false 8 16 ht p2 (by omega)
 have c3 := z4v t (p + 1 + 16 * 8 + 16 * 8) false 4 16 ht p3 (by omega)
 rw [d1] at c1
 rw [d2] at c2
 rw [d3] at c3
 simp only at c1 c2 c3
 clear e0 e1 e2 e3 d1 d2 d3
 rw [show p + 321 = p + 1 + 16 * 8 + 16 * 8 + 16 * 4 by omega]
 generalize p + 1 + 16 * 8 + 16 * 8 + 16 * 4 = q4 at c3 ⊢
 generalize p + 1 + 16 * 8 + 16 * 8 = q3 at c2 c3
 generalize p + 1 + 16 * 8 = q2 at c1 c2
 generalize p + 1 = q1 at c0 c1
 show CT _ _ _ _ (.agg [.int .i64 (a : Int), .sl 1 (strE op), .sl 1 (strE sh), .sl 1 (strE si)]) _
 refine z01 z1G 2 rfl Tryz.func284 rfl rfl rfl ?_
 repeat ((try conv => whnf); first | (refine ccB ([1]) (c0) ?_) | (refine ccB ([1]) (c1) ?_) | (refine ccB ([1]) (c2) ?_) | (refine ccB ([1]) (c3) ?_) | (refine And.intro (by kernel_rfl) ?_) | (refine stpQ ?_))
 (refine z00 (by rfl) ?_ ?_ (by rfl)) <;> (repeat' (first | (exact eqA) | (refine shE ?_) | (refine And.intro ?_ ?_)))
theorem z97 (h : Hd) (g : h.good) : CT Tryz.prog 282 [] [.str (z1o h)] (.tup [.agg (hdE h), .bool true]) [] := by
 have hl := z3F g
 have k1 := z6Q h g
 obtain ⟨ho, ep, ro, pr⟩ := h
 obtain ⟨h1, h2, h3, h4, h5⟩ := g
 simp only at h1 h2 h3 h4 h5
 have e0 : (z1o ⟨ho, ep, ro, pr⟩).drop 0 = [UInt8.ofNat ho] ++ ([UInt8.ofNat ep] ++ (ro ++ pr)) := by simp [z1o]
 have p0 : 0 ≤ (z1o ⟨ho, ep, ro, pr⟩).length := by omega
 generalize z1o ⟨ho, ep, ro, pr⟩ = t at hl e0 p0 ⊢
 have e1 := z34 rfl e0
 have p1 := z55 p0 rfl e0
 simp only [List.length_cons, List.length_nil, Nat.zero_add] at e1 p1
 have e2 := z34 rfl e1
 have p2 := z55 p1 rfl e1
 simp only [List.length_cons, List.length_nil, Nat.zero_add, Nat.reduceAdd] at e2 p2
 have e3 := z34 h4 e2
 have p3 := z55 p2 h4 e2
 simp only [Nat.reduceAdd] at e3 p3
 have c0 := zm6 t 0 ho _ (by omega) p0 (by omega) e0
 have c1 := zm6 t 1 ep _ (by omega) p1 (by omega) e1
 have c2 := z7K t 2 false 16 (by omega) p2
 rw [z7Z h4 e2] at c2
 simp only [Nat.zero_add, Nat.reduceAdd] at c0 c1 c2
 subst e3
 refine z01 z1G 1 rfl Tryz.func282 rfl rfl rfl ?_
 repeat ((try conv => whnf); first | (refine ccB ([_]) (c0) ?_) | (refine ccB ([_]) (c1) ?_) | (refine ccB ([_]) (c2) ?_) | (refine ccA ([]) (k1) ?_) | (refine Exists.intro 18 (And.intro rfl (And.intro p3 ?_))) | (refine And.intro (by kernel_rfl) ?_) | (refine stpQ ?_))
 (refine z00 (by rfl) ?_ ?_ (by rfl)) <;> (repeat' (first | (exact eqA) | (refine shE ?_) | (refine And.intro ?_ ?_))) <;> rfl
theorem zmB (h : Hd) (s : Sg) (g : h.good) (gs : s.good) : CT Tryz.prog 287 [] [.str (z39 h s)] (.tup [.agg (hdE h ++ sgE s), .bool true]) [] := by
 have hl := z3F g
 have hs := z6R gs
 have hsl := zmp (l := z1o h) (by omega)
 have hsb : (z39 h s).length = (z0h (z1o h)).length + 321 := by rw [z39, List.length_append, hs]
 have e0 : (z39 h s).drop 0 = z0h (z1o h) ++ (sigB s ++ []) := by simp [z39]
 have p0 : 0 ≤ (z39 h s).length := by omega
 generalize z39 h s = t at hsb e0 p0 ⊢
 have e1 := z34 rfl e0
 have p1 := z55 p0 rfl e0
 simp only [Nat.zero_add] at e1 p1
 have c0 := zh9 t 0 false (by omega) p0
 rw [z7p (by omega) e0] at c0
 have k0 := z97 h g
 have c1 := c_sig t (z0h (z1o h)).length s [] gs (by omega) p1 e1
 have k1 := zbt s gs
 have c2 := z8X t ((z0h (z1o h)).length + 321) false
 rw [show z1n false ((z0h (z1o h)).length + 321) t.length = true by rw [hsb]; simp [z1n]] at c2
 simp only [Nat.zero_add] at c0
 generalize (z0h (z1o h)).length + 321 = q2 at c1 c2
 generalize (z0h (z1o h)).length = q1 at c0 c1
 generalize z1o h = hb at c0 k0
 obtain ⟨ho, ep, ro, pr⟩ := h
 obtain ⟨a, op, sh, si⟩ := s
 have cS : CT Tryz.prog 232 [fldB t 0 false] [.ptr 1 0 0] (.agg (hdE ⟨ho, ep, ro, pr⟩ ++ sgE ⟨a, op, sh, si⟩)) [fldB t q2 false] := by
  refine z01 z1G 2 rfl Tryz.func232 rfl rfl rfl ?_
  repeat ((try conv => whnf); first | (refine ccB ([1]) (c0) ?_) | (refine ccA ([]) (k0) ?_) | (refine ccB ([_]) (c1) ?_) | (refine ccA ([]) (k1) ?_) | (refine And.intro (by kernel_rfl) ?_) | (refine stpQ ?_))
  (refine z00 (by rfl) ?_ ?_ (by rfl)) <;> (repeat' (first | (exact eqA) | (refine shE ?_) | (refine And.intro ?_ ?_))) <;> rfl
 refine z01 z1G 1 rfl Tryz.func287 rfl rfl rfl ?_
 repeat ((try conv => whnf); first | (refine ccB ([_]) (cS) ?_) | (refine ccB ([_]) (c2) ?_) | (refine And.intro (by kernel_rfl) ?_) | (refine stpQ ?_))
 (refine z00 (by rfl) ?_ ?_ (by rfl)) <;> (repeat' (first | (exact eqA) | (refine shE ?_) | (refine And.intro ?_ ?_)))
end Go.Proofs.YthcfalipgnpelaaGreatDoor
