/- Functions by content: the program verifies signatures, seals and stamps. Functions by content: the program verifies seals and stamps. Functions by content: a complete proof is verified. Functions by content: a complete proof is encoded. Functions by content: a complete proof is decoded from its text. -/
import Derived.Test.YtgmbkbggnlponaaGreatDoorTt
import Derived.Test.YtgmbkbggnlponaaGreatDoorPs
namespace Go.Proofs.YtgmbkbggnlponaaGreatDoor
set_option maxRecDepth 100000
set_option maxHeartbeats 8000000
set_option linter.unusedVariables false
set_option linter.unusedSimpArgs false
set_option linter.unusedSectionVars false
open Go.RowKit Pl
attribute [local irreducible] z0t z0u z0y AnsP LeP
theorem z1s {r : Nat} : ownE (.box [.ref r]) := fun c hc => by rw [List.mem_singleton.1 hc]; trivial
theorem z1t : ownE (.row 0 []) := fun e he => by simp at he
theorem z50 {a : Bs} (ha : a.length ≤ 200) : z1q [a] := ⟨by simp, fun p h => by rw [List.mem_singleton.1 h]; exact ha⟩
theorem zcG {l : List Bs} (hn : l.length ≤ 60) (h : ∀ x ∈ l, x.length = 16) : z1q l := ⟨hn, fun p hp => by have := h p hp; omega⟩
theorem zfi {l : List Bs} {n : Nat} (hn : l.length = n) (h : ∀ x ∈ l, x.length = 16) : ((l.all fun x => decide ((x.length : Int) = 16)) && decide ((l.length : Int) = (n : Int))) = true := by
 rw [Bool.and_eq_true, List.all_eq_true, decide_eq_true_eq]
 exact ⟨fun x hx => by have := h x hx; simp; omega, by omega⟩
theorem c_inT {x lo hi : Int} (h : lo ≤ x ∧ x ≤ hi) : CT Tryz.prog 22 [] [.int .i64 x, .int .i64 lo, .int .i64 hi] (.bool true) [] := by
 have := c_in x lo hi
 rwa [z0r.2 h] at this
theorem z70 (n : Int) : CT Tryz.prog 43 [] [.int .i64 n] (.bool (inB n 0 2)) [] := by
 have c1 := c_in n 0 2
 generalize inB n 0 2 = b at c1 ⊢
 refine z01 z0d 1 rfl Tryz.func43 rfl rfl rfl ?_
 repeat ((try conv => whnf); first | (refine ccA ([]) (c1) ?_) | (refine stpQ ?_))
 (refine z00 (by rfl) ?_ ?_ (by rfl)) <;> (repeat' (first | (exact eqA) | (refine shE ?_) | (refine And.intro ?_ ?_)))
theorem zfj (n : Int) : CT Tryz.prog 58 [] [.int .i64 n] (.bool (inB n 0 2)) [] := by
 have c1 := c_in n 0 2
 generalize inB n 0 2 = b at c1 ⊢
 refine z01 z0d 1 rfl Tryz.func58 rfl rfl rfl ?_
 repeat ((try conv => whnf); first | (refine ccA ([]) (c1) ?_) | (refine stpQ ?_))
 (refine z00 (by rfl) ?_ ?_ (by rfl)) <;> (repeat' (first | (exact eqA) | (refine shE ?_) | (refine And.intro ?_ ?_)))
theorem zah (n : Int) : CT Tryz.prog 126 [] [.int .i64 n] (.bool (inB n 1 4)) [] := by
 have c1 := c_in n 1 4
 generalize inB n 1 4 = b at c1 ⊢
 refine z01 z0d 1 rfl Tryz.func126 rfl rfl rfl ?_
 repeat ((try conv => whnf); first | (refine ccA ([]) (c1) ?_) | (refine stpQ ?_))
 (refine z00 (by rfl) ?_ ?_ (by rfl)) <;> (repeat' (first | (exact eqA) | (refine shE ?_) | (refine And.intro ?_ ?_)))
theorem z5s {n : Int} (h : 0 ≤ n ∧ n ≤ 2) : CT Tryz.prog 43 [] [.int .i64 n] (.bool true) [] := by
 have := z70 n
 rwa [z0r.2 h] at this
theorem z5t {n : Int} (h : 1 ≤ n ∧ n ≤ 4) : CT Tryz.prog 126 [] [.int .i64 n] (.bool true) [] := by
 have := zah n
 rwa [z0r.2 h] at this
def sgB (s : Sg) : Bool := inB (s.a : Int) 0 15 && (s.op.all fun x => decide ((x.length : Int) = 16)) && decide ((s.op.length : Int) = 8) && (s.sh.all fun x => decide ((x.length : Int) = 16)) && decide ((s.sh.length : Int) = 8) && (s.si.all fun x => decide ((x.length : Int) = 16)) && decide ((s.si.length : Int) = 4)
theorem zgs (s : Sg) (h1 : (s.op.length : Int) ≤ 1000000) (h2 : (s.sh.length : Int) ≤ 1000000) (h3 : (s.si.length : Int) ≤ 1000000) : CT Tryz.prog 44 [] [.agg (sgE s)] (.bool (sgB s)) [] := by
 obtain ⟨a, op, sh, si⟩ := s
 have c1 := c_in (a : Int) 0 15
 simp only at h1 h2 h3
 have c2 := z1r op 8 16 (by omega)
 have c3 := z1r sh 8 16 (by omega)
 have c4 := z1r si 4 16 (by omega)
 show CT _ _ _ _ (.bool (inB (a : Int) 0 15 && (op.all fun x => decide ((x.length : Int) = 16)) && decide ((op.length : Int) = 8) && (sh.all fun x => decide ((x.length : Int) = 16)) && decide ((sh.length : Int) = 8) && (si.all fun x => decide ((x.length : Int) = 16)) && decide ((si.length : Int) = 4))) _
 rw [Bool.and_assoc (inB (a : Int) 0 15), Bool.and_assoc (inB (a : Int) 0 15 && _), Bool.and_assoc (inB (a : Int) 0 15 && _ && _)]
 generalize inB (a : Int) 0 15 = b1 at c1 ⊢
 generalize ((op.all fun x => decide ((x.length : Int) = 16)) && decide ((op.length : Int) = 8)) = b2 at c2 ⊢
 generalize ((sh.all fun x => decide ((x.length : Int) = 16)) && decide ((sh.length : Int) = 8)) = b3 at c3 ⊢
 generalize ((si.all fun x => decide ((x.length : Int) = 16)) && decide ((si.length : Int) = 4)) = b4 at c4 ⊢
 refine z01 z0d 1 rfl Tryz.func44 rfl rfl rfl ?_
 cases b1
 ·repeat ((try conv => whnf); first | (refine ccA ([]) (c1) ?_) | (refine stpQ ?_))
  (refine z00 (by rfl) ?_ ?_ (by rfl)) <;> (repeat' (first | (exact eqA) | (refine shE ?_) | (refine And.intro ?_ ?_))) <;> rfl
 cases b2
 ·repeat ((try conv => whnf); first | (refine ccA ([]) (c1) ?_) | (refine ccA ([]) (c2) ?_) | (refine stpQ ?_))
  (refine z00 (by rfl) ?_ ?_ (by rfl)) <;> (repeat' (first | (exact eqA) | (refine shE ?_) | (refine And.intro ?_ ?_))) <;> rfl
 cases b3
 ·repeat ((try conv => whnf); first | (refine ccA ([]) (c1) ?_) | (refine ccA ([]) (c2) ?_) | (refine ccA ([]) (c3) ?_) | (refine stpQ ?_))
  (refine z00 (by rfl) ?_ ?_ (by rfl)) <;> (repeat' (first | (exact eqA) | (refine shE ?_) | (refine And.intro ?_ ?_))) <;> rfl
 cases b4
 ·repeat ((try conv => whnf); first | (refine ccA ([]) (c1) ?_) | (refine ccA ([]) (c2) ?_) | (refine ccA ([]) (c3) ?_) | (refine ccA ([]) (c4) ?_) | (refine stpQ ?_))
  (refine z00 (by rfl) ?_ ?_ (by rfl)) <;> (repeat' (first | (exact eqA) | (refine shE ?_) | (refine And.intro ?_ ?_))) <;> rfl
 ·repeat ((try conv => whnf); first | (refine ccA ([]) (c1) ?_) | (refine ccA ([]) (c2) ?_) | (refine ccA ([]) (c3) ?_) | (refine ccA ([]) (c4) ?_) | (refine stpQ ?_))
  (refine z00 (by rfl) ?_ ?_ (by rfl)) <;> (repeat' (first | (exact eqA) | (refine shE ?_) | (refine And.intro ?_ ?_))) <;> rfl
theorem zgt {s : Sg} (g : s.good) : sgB s = true := by
 obtain ⟨a, op, sh, si⟩ := s
 obtain ⟨h1, ⟨h2, h3⟩, ⟨h4, h5⟩, h6, h7⟩ := g
 simp only at h1 h2 h3 h4 h5 h6 h7
 have w2 := zfi h2 h3
 have w3 := zfi h4 h5
 have w4 := zfi h6 h7
 rw [Bool.and_eq_true] at w2 w3 w4
 simp only [sgB, Bool.and_eq_true]
 exact ⟨⟨⟨⟨⟨⟨z0r.2 (by omega), w2.1⟩, w2.2⟩, w3.1⟩, w3.2⟩, w4.1⟩, w4.2⟩
theorem z71 (s : Sg) (g : s.good) : CT Tryz.prog 44 [] [.agg (sgE s)] (.bool true) [] := by
 have := zgs s (by have := g.2.1.1; omega) (by have := g.2.2.1.1; omega) (by have := g.2.2.2.1; omega)
 rwa [zgt g] at this
theorem zdH (t : Bs) (ht : t.length ≤ 200) : CT Tryz.prog 163 [] [.str t] (.int .i64 (sbB t : Int)) [] := by
 have c1 := z8Z 7 [t] 16 (by omega) (z50 ht) (by omega)
 have hl := z0X (k := 7) (ps := [t]) (w := 16) (by omega)
 have htl : ¬ (t.length : Int) > 200 := by omega
 unfold sbB
 generalize z14 7 [t] 16 = d at c1 hl ⊢
 have h1 := z4T (d.getD 0 0)
 have h0 : 0 < d.length := by omega
 refine z01 z0d 1 rfl Tryz.func163 rfl rfl rfl ?_
 repeat ((try conv => whnf); first | (refine ccA ([]) (c1) ?_) | (refine Exists.intro 0 (And.intro rfl (And.intro h0 ?_))) | (refine Exists.intro _ (And.intro h1.symm ?_)) | (refine stpQ ?_))
 (refine z00 (by rfl) ?_ ?_ (by rfl)) <;> (repeat' (first | (exact eqA) | (refine shE ?_) | (refine And.intro ?_ ?_)))
theorem i_sbit (ix b : Nat) (hix : ix < 256) (hb : b < 8) : CT Tryz.prog 130 [] [.int .i64 (ix : Int), .int .i64 (b : Int)] (.int .i64 ((sbit ix b : Nat) : Int)) [] := by
 have := zbw ix (7 - b) hix (by omega)
 rwa [show (7 : Int) - ((7 - b : Nat) : Int) = (b : Int) by omega] at this
theorem zi4 (o : List Bs) (k : Nat) (ps : List Bs) (hk : 1 ≤ k ∧ k ≤ 8) (hp : z1q ps) (ho : o.length ≤ 1000) : CT Tryz.prog 162 [.box [.ref 2], .row 1 (strE o)] [.int .i64 (k : Int), .sl 1 (strE ps), .ptr 1 0 0] (.str (z14 k ps 16)) [.box [.ref 3], .row 0 [], .row 1 (strE (o ++ [tagB k ps]))] := by
 have c1 := z3O k ps hk hp
 have hl := z2e (k := k) hp
 have c2 := z6O (tagB k ps) 16 (by omega) (by omega)
 have hol := z0c o
 unfold z14
 generalize cutB (tagB k ps) 16 = h at c2 ⊢
 generalize tagB k ps = t at c1 c2 ⊢
 refine z01 z0d 3 rfl Tryz.func162 rfl rfl rfl ?_
 repeat ((try conv => whnf); first | (refine ccA ([]) (c1) ?_) | (refine ccA ([]) (c2) ?_) | (refine And.intro (by simp only [List.length_append, List.length_cons, List.length_nil, List.length_set, List.length_replicate]; omega) ?_) | (refine And.intro (by kernel_rfl) ?_) | (refine stpQ ?_))
 (refine z00 (by rfl) ?_ ?_ (by rfl)) <;> (repeat' (first | (exact eqA) | (refine shE ?_) | (refine And.intro ?_ ?_)))
 all_goals first
  | (rw [z0R]; rfl)
  | rfl
def z3U (op : List Bs) (n : Nat) : List Bs := (List.range n).map fun b => tagB 6 [pAt op b]
theorem zdI (op : List Bs) (n : Nat) : z3U op (n + 1) = z3U op n ++ [tagB 6 [pAt op n]] := by simp [z3U, List.range_succ]
theorem z51 (op : List Bs) (n : Nat) : (z3U op n).length = n := by simp [z3U]
def sigT (text : Bs) (s : Sg) : List Bs := z3U s.op 8 ++ [tagB 6 (z1y (sbB text) s.op s.sh 8)] ++ (z0Y s.a 16 0 (keyV text s) s.si).1
theorem z96 {text : Bs} {s : Sg} (g : s.good) : (sigT text s).length = 13 := by
 rw [sigT, List.length_append, List.length_append, z51, z3K, g.2.2.2.1]; rfl
theorem zgu {l : List Bs} : pAt l (l.length - 1) = l.getLastD [] := by
 rw [pAt, List.getD, List.getLastD_eq_getLast?, List.getLast?_eq_getElem?]
theorem zfk {text : Bs} {s : Sg} (g : s.good) : cutB (pAt (sigT text s) 12) 16 = z3A text s := by
 have h1 : (12 : Nat) = (sigT text s).length - 1 := by rw [z96 g]
 rw [h1, zgu, sigT, List.append_assoc]
 have h2 := z4Q s.a 16 s.si 0 (keyV text s) (tagB 6 (z1y (sbB text) s.op s.sh 8)) rfl
 rw [z3A, ← h2]
 congr 1
 all_goals (rw [List.singleton_append, List.getLastD_eq_getLast?, List.getLastD_eq_getLast?, List.getLast?_append]; simp)
theorem zdJ (text : Bs) (s : Sg) (g : s.good) (ht : text.length ≤ 200) : CT Tryz.prog 127 [] [.str text, .agg (sgE s)] (.ref 1) [.row 1 (strE (sigT text s))] := by
 have c1 := z71 s g
 have c2 := zdH text ht
 have hix := zfg text
 have htl : ¬ (text.length : Int) > 200 := by omega
 have hsl := z96 (text := text) g
 have hdef : sigT text s = z3U s.op 8 ++ [tagB 6 (z1y (sbB text) s.op s.sh 8)] ++ (z0Y s.a 16 0 (keyV text s) s.si).1 := rfl
 have hkey : keyV text s = z14 6 (z1y (sbB text) s.op s.sh 8) 16 := rfl
 generalize keyV text s = key at hdef hkey
 generalize sbB text = ix at c2 hix hdef hkey
 obtain ⟨a, op, sh, si⟩ := s
 obtain ⟨h1, ⟨h2, h3⟩, ⟨h4, h5⟩, h6, h7⟩ := g
 simp only at h1 h2 h3 h4 h5 h6 h7 hdef hkey hsl
 generalize sigT text ⟨a, op, sh, si⟩ = R at hdef hsl ⊢
 have hopl := z0c op
 have hsil := z0c si
 refine z01 z0d 1 rfl Tryz.func127 rfl rfl rfl ?_
 repeat ((try conv => whnf); first | (refine ccA ([]) (c1) ?_) | (refine ccA ([]) (c2) ?_) | (refine stpQ ?_))
 refine z0h 0 ⟨[(3, .ptr 1 0 0), (5, .ptr 2 0 0), (6, .ref 3), (7, .fnp 162 2)], [(1, some (.box [.int .i64 (a : Int), .sl 1 (strE op), .sl 1 (strE sh), .sl 1 (strE si)])), (2, some (.box [.ref 4])), (3, some (.row 1 (strE (z1y ix op sh 8)))), (4, some (.row 1 (strE (z3U op 8))))], 5⟩ Nat (fun b => ⟨[(3, .ptr 1 0 0), (5, .ptr 2 0 0), (6, .ref 3), (7, .fnp 162 2), (8, .int .i64 (ix : Int)), (25, .int .i64 (b : Int))], [(1, some (.box [.int .i64 (a : Int), .sl 1 (strE op), .sl 1 (strE sh), .sl 1 (strE si)])), (2, some (.box [.ref 4])), (3, some (.row 1 (strE (z1y ix op sh b)))), (4, some (.row 1 (strE (z3U op b))))], 5⟩) (fun b => b ≤ 8) (fun b => 8 - b) 0 (by omega) ?_ ?_ ?_
 ·(refine z02 (by rfl) ?_ ?_) <;> (repeat' (first | (exact eqA) | (refine shE ?_) | (refine And.intro ?_ ?_))) <;> first | rfl | decide
 ·intro b hb
  by_cases hlt : b < 8
  ·have hb8 : (b : Int) < 8 := by omega
   have q1 := i_sbit ix b hix hlt
   have hv := zbC ix b
   have n1 := zdI op b
   have n2 := z3q ix op sh b
   have l1 := z51 op b
   have l2 := z2K ix op sh b
   have go := z0n (show b < op.length by omega)
   have gs := z0n (show b < sh.length by omega)
   have w1 := z1X h3 (i := b) (by omega)
   have w2 := z1X h5 (i := b) (by omega)
   generalize pAt op b = x at go w1 n1 n2
   generalize pAt sh b = y at gs w2 n2
   have q2 := zi4 (z3U op b) 6 [x] (by omega) (z50 (by omega)) (by omega)
   rw [← n1] at q2
   have n3 := z0c (z3U op b)
   generalize z3U op b = o1 at q2 n1 l1 n3 ⊢
   generalize z1y ix op sh b = o2 at n2 l2 ⊢
   have ho2 := z0c o2
   by_cases hz : sbit ix b = 0
   ·have hpl : z5O ix b x y = [z3z x, y] := by unfold z5O; rw [if_pos hz]
    rw [hpl] at n2
    unfold z3z at n2
    generalize z14 6 [x] 16 = k at q2 n2
    have hz2 : ((sbit ix b : Nat) : Int) = 0 := by omega
    generalize sbit ix b = v at q1 hz2
    repeat ((try conv => whnf); first | (refine i_at go ?_) | (refine i_at gs ?_) | (refine z29 ([2, 4]) (q2) (by ((repeat' (first | (exact trivial) | (exact rfl) | (decide) | (refine And.intro ?_ ?_))); first | done | fail)) (by ((repeat' (first | (exact trivial) | (exact rfl) | (decide) | (refine And.intro ?_ ?_))); first | done | fail)) (by decide) (by rfl) (by first | exact .inl rfl | (refine .inr ⟨by simp [own2, own1, own0], fun e he => ?_⟩; simp only [List.mem_cons, List.not_mem_nil, or_false] at he <;> first | exact he.elim | (subst he; (first | exact z1t | exact z1s | exact z0C _ | exact z0q _)) | (rcases he with rfl | rfl <;> (first | exact z1t | exact z1s | exact z0C _ | exact z0q _)) | (rcases he with rfl | rfl | rfl <;> (first | exact z1t | exact z1s | exact z0C _ | exact z0q _)))) ?_) | (refine ccA ([]) (q1) ?_) | (refine And.intro (by simp only [List.length_append, List.length_cons, List.length_nil, List.length_set, List.length_replicate]; omega) ?_) | (refine stpQ ?_))
    refine ⟨b + 1, by omega, by omega, ?_⟩
    rw [n2]
    (refine z02 (by rfl) ?_ ?_) <;> (repeat' (first | (exact eqA) | (refine shE ?_) | (refine And.intro ?_ ?_)))
    all_goals first
     | (rw [z0R]; rfl)
     | rfl
   ·have hpl : z5O ix b x y = [y, z3z x] := by unfold z5O; rw [if_neg hz]
    rw [hpl] at n2
    unfold z3z at n2
    generalize z14 6 [x] 16 = k at q2 n2
    have hz2 : ¬ ((sbit ix b : Nat) : Int) = 0 := by omega
    generalize sbit ix b = v at q1 hz2
    repeat ((try conv => whnf); first | (refine i_at go ?_) | (refine i_at gs ?_) | (refine z29 ([2, 4]) (q2) (by ((repeat' (first | (exact trivial) | (exact rfl) | (decide) | (refine And.intro ?_ ?_))); first | done | fail)) (by ((repeat' (first | (exact trivial) | (exact rfl) | (decide) | (refine And.intro ?_ ?_))); first | done | fail)) (by decide) (by rfl) (by first | exact .inl rfl | (refine .inr ⟨by simp [own2, own1, own0], fun e he => ?_⟩; simp only [List.mem_cons, List.not_mem_nil, or_false] at he <;> first | exact he.elim | (subst he; (first | exact z1t | exact z1s | exact z0C _ | exact z0q _)) | (rcases he with rfl | rfl <;> (first | exact z1t | exact z1s | exact z0C _ | exact z0q _)) | (rcases he with rfl | rfl | rfl <;> (first | exact z1t | exact z1s | exact z0C _ | exact z0q _)))) ?_) | (refine ccA ([]) (q1) ?_) | (refine And.intro (by simp only [List.length_append, List.length_cons, List.length_nil, List.length_set, List.length_replicate]; omega) ?_) | (refine stpQ ?_))
    refine ⟨b + 1, by omega, by omega, ?_⟩
    rw [n2]
    (refine z02 (by rfl) ?_ ?_) <;> (repeat' (first | (exact eqA) | (refine shE ?_) | (refine And.intro ?_ ?_)))
    all_goals first
     | (rw [z0R]; rfl)
     | rfl
  ·obtain rfl : b = 8 := by omega
   repeat ((try conv => whnf); first | (refine stpQ ?_))
   (refine z02 (by rfl) ?_ ?_) <;> (repeat' (first | (exact eqA) | (refine shE ?_) | (refine And.intro ?_ ?_)))
 ·have hlw := z4r (ix := ix) (op := op) (sh := sh) (n := 8) h5 (by omega)
  have hll := z2K ix op sh 8
  have q2 := zi4 (z3U op 8) 6 (z1y ix op sh 8) (by omega) (zcG (by omega) hlw) (by rw [z51]; omega)
  have hkl : key.length = 16 := by rw [hkey]; exact z0X (by omega)
  rw [← hkey] at q2
  have hF : FdAt (z0Y a 16 0 key si) a 16 [] 0 key (si.drop 0) := rfl
  have hFl := z3K a 16 si 0 key
  generalize z0Y a 16 0 key si = F at hF hdef hFl
  have hpre : (z3U op 8 ++ [tagB 6 (z1y ix op sh 8)]).length = 9 := by simp [z51]
  generalize z3U op 8 ++ [tagB 6 (z1y ix op sh 8)] = pre at hdef q2 hpre
  generalize z3U op 8 = o1 at q2 ⊢
  generalize z1y ix op sh 8 = o2 at q2 ⊢
  repeat ((try conv => whnf); first | (refine z29 ([2, 4]) (q2) (by ((repeat' (first | (exact trivial) | (exact rfl) | (decide) | (refine And.intro ?_ ?_))); first | done | fail)) (by ((repeat' (first | (exact trivial) | (exact rfl) | (decide) | (refine And.intro ?_ ?_))); first | done | fail)) (by decide) (by rfl) (by first | exact .inl rfl | (refine .inr ⟨by simp [own2, own1, own0], fun e he => ?_⟩; simp only [List.mem_cons, List.not_mem_nil, or_false] at he <;> first | exact he.elim | (subst he; (first | exact z1t | exact z1s | exact z0C _ | exact z0q _)) | (rcases he with rfl | rfl <;> (first | exact z1t | exact z1s | exact z0C _ | exact z0q _)) | (rcases he with rfl | rfl | rfl <;> (first | exact z1t | exact z1s | exact z0C _ | exact z0q _)))) ?_) | (refine Exists.intro 4 (And.intro (hsil.trans h6) ?_)) | (refine stpQ ?_))
  refine z0h 2 ⟨[(5, .ptr 1 0 0)], [(1, some (.box [.ref 2])), (2, some (.row 1 (strE R)))], 3⟩ (Nat × Bs × List Bs) (fun x => ⟨[(3, .ptr 1 0 0), (5, .ptr 2 0 0), (7, .fnp 162 2), (11, .str x.2.1), (63, .sl 1 (strE si)), (64, .int .i64 4), (65, .int .i64 (x.1 : Int))], [(1, some (.box [.int .i64 (a : Int), .sl 1 (strE op), .sl 1 (strE sh), .sl 1 (strE si)])), (2, some (.box [.ref 3])), (3, some (.row 1 (strE (pre ++ x.2.2))))], 4⟩) (fun x => x.1 ≤ 4 ∧ x.2.1.length = 16 ∧ x.2.2.length = x.1 ∧ FdAt F a 16 x.2.2 x.1 x.2.1 (si.drop x.1)) (fun x => 4 - x.1) (0, key, []) ⟨by omega, hkl, rfl, hF⟩ ?_ ?_ ?_
  ·(refine z02 (by rfl) ?_ ?_) <;> (repeat' (first | (exact eqA) | (refine shE ?_) | (refine And.intro ?_ ?_))) <;> first | rfl | decide | (simp; done)
  ·intro x hx
   obtain ⟨k, hk0, T⟩ := x
   have hk : k ≤ 4 := hx.1
   have hl : hk0.length = 16 := hx.2.1
   have hT : T.length = k := hx.2.2.1
   have hat : FdAt F a 16 T k hk0 (si.drop k) := hx.2.2.2
   clear hx
   by_cases hlt : k < 4
   ·have hk4 : (k : Int) < 4 := by omega
    rw [z61 (show k < si.length by omega)] at hat
    have hst := hat.step
    have gs := z0n (show k < si.length by omega)
    have ws := z1X h7 (i := k) (by omega)
    generalize pAt si k = y at hst gs ws
    have hpo := z6T (ix := a) (j := k) (h := hk0) (s := y) (by omega) (by omega)
    have q3 := zi4 (pre ++ T) 3 (z1p a k hk0 y) (by omega) hpo (by rw [List.length_append]; omega)
    rw [List.append_assoc] at q3
    have hcl := z0X (k := 3) (ps := z1p a k hk0 y) (w := 16) (by omega)
    change FdAt F a 16 (T ++ [tagB 3 (z1p a k hk0 y)]) (k + 1) (z14 3 (z1p a k hk0 y) 16) _ at hst
    have e2 := z6R a k
    have hak : a / 2 ^ k < 256 := Nat.lt_of_le_of_lt (Nat.div_le_self _ _) (by omega)
    have e3 := zbv (a / 2 ^ k) hak
    have hnil : pre ++ T = pre ++ T := rfl
    by_cases hz : bitB a k = 1
    ·have hpr : z1p a k hk0 y = [y, hk0] := by unfold z1p; rw [if_pos hz]
     rw [hpr] at q3 hst hcl
     unfold bitB at hz
     have hz2 : ¬ ((a / 2 ^ k % 2 : Nat) : Int) = 0 := by omega
     generalize tagB 3 [y, hk0] = tg at q3 hst
     generalize z14 3 [y, hk0] 16 = ct at q3 hst hcl
     generalize a / 2 ^ k = ak at e2 e3 hz2
     repeat ((try conv => whnf); first | (refine i_at gs ?_) | (refine And.intro (show (0 : Int) ≤ _ from by omega) ?_) | (refine And.intro (show _ ≤ (64 : Int) from by omega) ?_) | (refine Exists.intro _ (And.intro e2.symm ?_)) | (refine Exists.intro _ (And.intro e3.symm ?_)) | (refine z0k hz2 ?_) | (refine z29 ([2, 3]) (q3) (by ((repeat' (first | (exact trivial) | (exact rfl) | (decide) | (refine And.intro ?_ ?_))); first | done | fail)) (by ((repeat' (first | (exact trivial) | (exact rfl) | (decide) | (refine And.intro ?_ ?_))); first | done | fail)) (by decide) (by rfl) (by first | exact .inl rfl | (refine .inr ⟨by simp [own2, own1, own0], fun e he => ?_⟩; simp only [List.mem_cons, List.not_mem_nil, or_false] at he <;> first | exact he.elim | (subst he; (first | exact z1t | exact z1s | exact z0C _ | exact z0q _)) | (rcases he with rfl | rfl <;> (first | exact z1t | exact z1s | exact z0C _ | exact z0q _)) | (rcases he with rfl | rfl | rfl <;> (first | exact z1t | exact z1s | exact z0C _ | exact z0q _)))) ?_) | (refine stpQ ?_))
     refine ⟨(k + 1, ct, T ++ [tg]), ⟨by show k + 1 ≤ _; omega, hcl, by simp [hT], hst⟩, (by show 4 - (k + 1) < 4 - k; omega), ?_⟩
     (refine z02 (by rfl) ?_ ?_) <;> (repeat' (first | (exact eqA) | (refine shE ?_) | (refine And.intro ?_ ?_))) <;> rfl
    ·have hpr : z1p a k hk0 y = [hk0, y] := by unfold z1p; rw [if_neg hz]
     rw [hpr] at q3 hst hcl
     unfold bitB at hz
     have hz2 : ((a / 2 ^ k % 2 : Nat) : Int) = 0 := by omega
     generalize tagB 3 [hk0, y] = tg at q3 hst
     generalize z14 3 [hk0, y] 16 = ct at q3 hst hcl
     generalize a / 2 ^ k = ak at e2 e3 hz2
     repeat ((try conv => whnf); first | (refine i_at gs ?_) | (refine And.intro (show (0 : Int) ≤ _ from by omega) ?_) | (refine And.intro (show _ ≤ (64 : Int) from by omega) ?_) | (refine Exists.intro _ (And.intro e2.symm ?_)) | (refine Exists.intro _ (And.intro e3.symm ?_)) | (refine z0i hz2 ?_) | (refine z29 ([2, 3]) (q3) (by ((repeat' (first | (exact trivial) | (exact rfl) | (decide) | (refine And.intro ?_ ?_))); first | done | fail)) (by ((repeat' (first | (exact trivial) | (exact rfl) | (decide) | (refine And.intro ?_ ?_))); first | done | fail)) (by decide) (by rfl) (by first | exact .inl rfl | (refine .inr ⟨by simp [own2, own1, own0], fun e he => ?_⟩; simp only [List.mem_cons, List.not_mem_nil, or_false] at he <;> first | exact he.elim | (subst he; (first | exact z1t | exact z1s | exact z0C _ | exact z0q _)) | (rcases he with rfl | rfl <;> (first | exact z1t | exact z1s | exact z0C _ | exact z0q _)) | (rcases he with rfl | rfl | rfl <;> (first | exact z1t | exact z1s | exact z0C _ | exact z0q _)))) ?_) | (refine stpQ ?_))
     refine ⟨(k + 1, ct, T ++ [tg]), ⟨by show k + 1 ≤ _; omega, hcl, by simp [hT], hst⟩, (by show 4 - (k + 1) < 4 - k; omega), ?_⟩
     (refine z02 (by rfl) ?_ ?_) <;> (repeat' (first | (exact eqA) | (refine shE ?_) | (refine And.intro ?_ ?_))) <;> rfl
   ·have hke : k = 4 := by omega
    subst hke
    rw [show (4 : Nat) = si.length from h6.symm, List.drop_length] at hat
    have hR : R = pre ++ T := by rw [hdef, hat.done]
    rw [hR]
    repeat ((try conv => whnf); first | (refine stpQ ?_))
    (refine z02 (by rfl) ?_ ?_) <;> (repeat' (first | (exact eqA) | (refine shE ?_) | (refine And.intro ?_ ?_)))
  ·repeat ((try conv => whnf); first | (refine stpQ ?_))
   (refine z00 (by rfl) ?_ ?_ (by rfl)) <;> (repeat' (first | (exact eqA) | (refine shE ?_) | (refine And.intro ?_ ?_)))
end Go.Proofs.YtgmbkbggnlponaaGreatDoor
namespace Go.Proofs.YtgmbkbggnlponaaGreatDoor
set_option maxRecDepth 100000
set_option maxHeartbeats 8000000
set_option linter.unusedVariables false
set_option linter.unusedSimpArgs false
set_option linter.unusedSectionVars false
open Go.RowKit Pl
attribute [local irreducible] z0t z0u z0y AnsP LeP
theorem zfl (root text : Bs) (s : Sg) (g : s.good) (ht : text.length ≤ 200) : CT Tryz.prog 67 [] [.str root, .str text, .agg (sgE s)] (.bool (decide (z3A text s = root))) [] := by
 have c1 := zdJ text s g ht
 have hl := z96 (text := text) g
 rw [← zfk g]
 have hpl : (pAt (sigT text s) 12).length ≤ 100000 := by
  have : ∀ x ∈ sigT text s, x.length ≤ 12301 := by
   intro x hx
   simp only [sigT, List.mem_append, List.mem_singleton] at hx
   rcases hx with (hx | rfl) | hx
   ·simp only [z3U, List.mem_map, List.mem_range] at hx
    obtain ⟨b, hb, rfl⟩ := hx
    exact z2e (z50 (by rw [z1X g.2.1.2 (by rw [g.2.1.1]; omega)]; omega))
   ·exact z2e (zcG (by rw [z2K]; omega) (z4r g.2.2.1.2 (by rw [g.2.2.1.1]; omega)))
   ·exact z4X (l := []) (by rw [keyV, z0X (by omega)]; omega) (by omega) (fun y hy => by have := g.2.2.2.2 y hy; omega) x hx
  have h12 : 12 < (sigT text s).length := by omega
  simp only [pAt, List.getD, List.getElem?_eq_getElem h12, Option.getD_some]
  have := this _ (List.getElem_mem h12)
  omega
 have c2 := z6O (pAt (sigT text s) 12) 16 (by omega) (by omega)
 have gl := z0n (ps := sigT text s) (k := 12) (by omega)
 generalize pAt (sigT text s) 12 = u at c2 gl ⊢
 generalize cutB u 16 = v at c2 ⊢
 generalize sigT text s = l at c1 hl gl
 obtain ⟨a, op, sh, si⟩ := s
 have hll := z0c l
 have e : IntKind.i64.wrap (((13 : Nat) : Int) - 1) = ((12 : Nat) : Int) := by rw [wrap_i64 (by omega) (by omega)]; omega
 have h12 : 12 < (strE l).length := by omega
 refine z01 z0d 1 rfl Tryz.func67 rfl rfl rfl ?_
 repeat ((try conv => whnf); first | (refine ccA ([]) (c1) ?_) | (refine Exists.intro 13 (And.intro (hll.trans hl) ?_)) | (refine i_lt (n := 12) h12 ?_) | (refine Exists.intro _ (And.intro e.symm ?_)) | (refine Exists.intro _ (And.intro gl ?_)) | (refine ccA ([]) (c2) ?_) | (refine stpQ ?_))
 (refine z00 (by rfl) ?_ ?_ (by rfl)) <;> (repeat' (first | (exact eqA) | (refine shE ?_) | (refine And.intro ?_ ?_))) <;> rfl
theorem zcH (h : Hd) (g : h.good) : CT Tryz.prog 65 [] [.agg (hdE h)] (.bool true) [] := by
 obtain ⟨ho, ep, ro, pr⟩ := h
 obtain ⟨h1, h2, h3, h4, h5⟩ := g
 simp only at h1 h2 h3 h4 h5
 have c1 := z5s (n := (ho : Int)) (by omega)
 have c2 := z5t (n := (ep : Int)) (by omega)
 have hr : (ro.length : Int) = 16 := by omega
 by_cases he : ep = 1
 ·rw [if_pos he] at h5
  subst he h5
  refine z01 z0d 1 rfl Tryz.func65 rfl rfl rfl ?_
  repeat ((try conv => whnf); first | (refine ccA ([]) (c1) ?_) | (refine ccA ([]) (c2) ?_) | (refine stpQ ?_))
  (refine z00 (by rfl) ?_ ?_ (by rfl)) <;> (repeat' (first | (exact eqA) | (refine shE ?_) | (refine And.intro ?_ ?_))) <;> first | rfl | decide
 ·rw [if_neg he] at h5
  have he2 : ¬ (ep : Int) = 1 := by omega
  have hq : (pr.length : Int) = 16 := by omega
  refine z01 z0d 1 rfl Tryz.func65 rfl rfl rfl ?_
  repeat ((try conv => whnf); first | (refine ccA ([]) (c1) ?_) | (refine ccA ([]) (c2) ?_) | (refine stpQ ?_))
  (refine z00 (by rfl) ?_ ?_ (by rfl)) <;> (repeat' (first | (exact eqA) | (refine shE ?_) | (refine And.intro ?_ ?_))) <;> first | rfl | (exact decide_eq_true hq) | simp [hq]
theorem zdK (h : Hd) (g : h.good) : CT Tryz.prog 128 [] [.agg (hdE h)] (.tup [.str (z0P h), .bool true]) [] := by
 have c1 := zcH h g
 obtain ⟨ho, ep, ro, pr⟩ := h
 obtain ⟨h1, h2, h3, h4, h5⟩ := g
 simp only at h1 h2 h3 h4 h5
 have hq : pr.length ≤ 16 := by
  split at h5
  ·rw [h5]; simp
  ·omega
 refine z01 z0d 1 rfl Tryz.func128 rfl rfl rfl ?_
 repeat ((try conv => whnf); first | (refine ccA ([]) (c1) ?_) | (refine w_u8 ?_) | (refine Exists.intro [UInt8.ofNat ho, UInt8.ofNat ep] (And.intro rfl ?_)) | (refine And.intro (by simp; omega) ?_) | (refine stpQ ?_))
 (refine z00 (by rfl) ?_ ?_ (by rfl)) <;> (repeat' (first | (exact eqA) | (refine shE ?_) | (refine And.intro ?_ ?_))) <;> rfl
theorem z88 (h : Hd) (g : h.good) : CT Tryz.prog 68 [] [.agg (hdE h)] (.str (z1k h)) [] := by
 have c1 := zdK h g
 have hl := z0N g
 have c2 := z8Z 4 [z0P h] 16 (by omega) (z50 (by omega)) (by omega)
 unfold z1k
 generalize z14 4 [z0P h] 16 = R at c2 ⊢
 generalize z0P h = t at c1 c2
 refine z01 z0d 1 rfl Tryz.func68 rfl rfl rfl ?_
 repeat ((try conv => whnf); first | (refine ccA ([]) (c1) ?_) | (refine ccA ([]) (c2) ?_) | (refine stpQ ?_))
 (refine z00 (by rfl) ?_ ?_ (by rfl)) <;> (repeat' (first | (exact eqA) | (refine shE ?_) | (refine And.intro ?_ ?_)))
theorem z4s (h : Hd) : (z1k h).length = 16 := z0X (by omega)
theorem zai (h : Hd) : (z1l h).length = 16 := z0X (by omega)
theorem zgv (ep : Nat) (h : 1 ≤ ep ∧ ep ≤ 4) : CT Tryz.prog 66 [] [.int .i64 (ep : Int)] (.int .i64 ((ep - 1 : Nat) : Int)) [] := by
 have c2 := z5t (n := (ep : Int)) (by omega)
 have e : IntKind.i64.wrap ((ep : Int) - 1) = ((ep - 1 : Nat) : Int) := by rw [wrap_i64 (by omega) (by omega)]; omega
 refine z01 z0d 1 rfl Tryz.func66 rfl rfl rfl ?_
 repeat ((try conv => whnf); first | (refine ccA ([]) (c2) ?_) | (refine Exists.intro _ (And.intro e.symm ?_)) | (refine stpQ ?_))
 (refine z00 (by rfl) ?_ ?_ (by rfl)) <;> (repeat' (first | (exact eqA) | (refine shE ?_) | (refine And.intro ?_ ?_)))
theorem zfm (ho ep : Nat) (h1 : ho ≤ 2) (h : 1 ≤ ep ∧ ep ≤ 4) : CT Tryz.prog 73 [] [.int .i64 (ho : Int), .int .i64 (ep : Int)] (.int .i64 ((4 * (ho + 1) + ep - 1 : Nat) : Int)) [] := by
 have c1 := z5s (n := (ho : Int)) (by omega)
 have c2 := z5t (n := (ep : Int)) (by omega)
 obtain ⟨u1, hu1⟩ : ∃ u : Nat, u = ho + 1 := ⟨_, rfl⟩
 obtain ⟨u2, hu2⟩ : ∃ u : Nat, u = 4 * u1 := ⟨_, rfl⟩
 obtain ⟨u3, hu3⟩ : ∃ u : Nat, u = u2 + ep := ⟨_, rfl⟩
 obtain ⟨u4, hu4⟩ : ∃ u : Nat, u = u3 - 1 := ⟨_, rfl⟩
 have e1 : IntKind.i64.wrap ((ho : Int) + 1) = (u1 : Int) := by rw [wrap_i64 (by omega) (by omega)]; omega
 have e2 : IntKind.i64.wrap (4 * (u1 : Int)) = (u2 : Int) := by rw [wrap_i64 (by omega) (by omega)]; omega
 have e3 : IntKind.i64.wrap ((u2 : Int) + (ep : Int)) = (u3 : Int) := by rw [wrap_i64 (by omega) (by omega)]; omega
 have e4 : IntKind.i64.wrap ((u3 : Int) - 1) = (u4 : Int) := by rw [wrap_i64 (by omega) (by omega)]; omega
 rw [show 4 * (ho + 1) + ep - 1 = u4 by omega]
 clear hu1 hu2 hu3 hu4
 refine z01 z0d 1 rfl Tryz.func73 rfl rfl rfl ?_
 repeat ((try conv => whnf); first | (refine ccA ([]) (c1) ?_) | (refine ccA ([]) (c2) ?_) | (refine Exists.intro _ (And.intro e1.symm ?_)) | (refine Exists.intro _ (And.intro e2.symm ?_)) | (refine Exists.intro _ (And.intro e3.symm ?_)) | (refine Exists.intro _ (And.intro e4.symm ?_)) | (refine stpQ ?_))
 (refine z00 (by rfl) ?_ ?_ (by rfl)) <;> (repeat' (first | (exact eqA) | (refine shE ?_) | (refine And.intro ?_ ?_)))
theorem zbD (h : Hd) (g : h.good) : CT Tryz.prog 74 [] [.agg (hdE h)] (.str (z1l h)) [] := by
 have c1 := z88 h g
 have hl := z4s h
 have c2 := z8Z 8 [z1k h] 16 (by omega) (z50 (by omega)) (by omega)
 unfold z1l
 generalize z14 8 [z1k h] 16 = R at c2 ⊢
 clear hl
 generalize z1k h = t at c1 c2
 refine z01 z0d 1 rfl Tryz.func74 rfl rfl rfl ?_
 repeat ((try conv => whnf); first | (refine ccA ([]) (c1) ?_) | (refine ccA ([]) (c2) ?_) | (refine stpQ ?_))
 (refine z00 (by rfl) ?_ ?_ (by rfl)) <;> (repeat' (first | (exact eqA) | (refine shE ?_) | (refine And.intro ?_ ?_)))
end Go.Proofs.YtgmbkbggnlponaaGreatDoor
namespace Go.Proofs.YtgmbkbggnlponaaGreatDoor
set_option maxRecDepth 100000
set_option maxHeartbeats 4000000
set_option linter.unusedVariables false
set_option linter.unusedSimpArgs false
set_option linter.unusedSectionVars false
open Go.RowKit Pl
attribute [local irreducible] z0t z0u z0y AnsP LeP
theorem zaj (h : Bs) (ix w j0 : Nat) (s : List Bs) (hix : ix < 256) (hw : 1 ≤ w ∧ w ≤ 32) (hs : j0 + s.length ≤ 8) (hh : h.length ≤ 200) (hsl : ∀ x ∈ s, x.length ≤ 200) :
 CT Tryz.prog 69 [] [.str h, .int .i64 (ix : Int), .int .i64 (8 - (j0 : Int)), .sl 1 (strE s), .int .i64 (w : Int)] (.tup [.ref 1, .str (z0Y ix w j0 h s).2]) [.row 1 (strE (z0Y ix w j0 h s).1)] := by
 have hlen := z0c s
 have hR0 : FdAt (z0Y ix w j0 h s) ix w [] j0 h (s.drop 0) := rfl
 generalize z0Y ix w j0 h s = R at hR0 ⊢
 refine z01 z0m 1 rfl Tryz.func69 rfl rfl rfl ?_
 repeat ((try conv => whnf); first | (refine Exists.intro s.length (And.intro hlen ?_)) | (refine stpQ ?_))
 refine z0h 0 ⟨[(0, .str R.2), (12, .ref 1)], [(1, some (.row 1 (strE R.1)))], 2⟩ (Nat × Bs × List Bs) (fun x => ⟨[(0, .str x.2.1), (1, .int .i64 (ix : Int)), (2, .int .i64 (8 - ((j0 + x.1 : Nat) : Int))), (4, .int .i64 (w : Int)), (12, .ref 1), (18, .sl 1 (strE s)), (19, .int .i64 (s.length : Int)), (20, .int .i64 (x.1 : Int))], [(1, some (.row 1 (strE x.2.2)))], 2⟩) (fun x => x.1 ≤ s.length ∧ x.2.1.length ≤ 200 ∧ x.2.2.length = x.1 ∧ FdAt R ix w x.2.2 (j0 + x.1) x.2.1 (s.drop x.1)) (fun x => s.length - x.1) (0, h, []) ⟨by simp, hh, rfl, hR0⟩ ?_ ?_ ?_
 ·(refine z02 (by rfl) ?_ ?_) <;> (repeat' (first | (exact eqA) | (refine shE ?_) | (refine And.intro ?_ ?_))) <;> first | rfl | decide
 ·intro x hx
  obtain ⟨k, hk0, T⟩ := x
  have hk : k ≤ s.length := hx.1
  have hl : hk0.length ≤ 200 := hx.2.1
  have hT : T.length = k := hx.2.2.1
  have hat : FdAt R ix w T (j0 + k) hk0 (s.drop k) := hx.2.2.2
  clear hx
  have hTl := z0c T
  by_cases hlt : k < s.length
  ·rw [z61 hlt] at hat
   have hst := hat.step
   have hpl : (pAt s k).length ≤ 200 := by simp only [pAt, List.getD, List.getElem?_eq_getElem hlt, Option.getD_some]; exact hsl _ (List.getElem_mem hlt)
   have hpo := z6T (ix := ix) (j := j0 + k) hl hpl
   have c1 := zbw ix (j0 + k) hix (by omega)
   have c2 := z3O 3 (z1p ix (j0 + k) hk0 (pAt s k)) (by omega) hpo
   have hcl := z1M (t := tagB 3 (z1p ix (j0 + k) hk0 (pAt s k))) hw.2
   have htl := z2e (k := 3) hpo
   have c3 := z6O (tagB 3 (z1p ix (j0 + k) hk0 (pAt s k))) w (by omega) hw
   have e1 : IntKind.i64.wrap (8 - ((j0 + k : Nat) : Int) - 1) = 7 - ((j0 + k : Nat) : Int) := by rw [wrap_i64 (by omega) (by omega)]; omega
   have e2 : 7 - ((j0 + k : Nat) : Int) = 8 - ((j0 + (k + 1) : Nat) : Int) := by omega
   by_cases hb : bitB ix (j0 + k) = 1
   ·have hb2 : ((bitB ix (j0 + k) : Nat) : Int) = 1 := by omega
    have hpr : z1p ix (j0 + k) hk0 (pAt s k) = [pAt s k, hk0] := by unfold z1p; rw [if_pos hb]
    rw [hpr] at c2 c3 hst hcl htl
    generalize tagB 3 [pAt s k, hk0] = tg at c2 c3 hst hcl htl
    generalize cutB tg w = ct at c3 hst hcl
    repeat ((try conv => whnf); first | (refine i_at (z0n hlt) ?_) | (refine Exists.intro _ (And.intro e1.symm ?_)) | (refine ccA ([]) (c1) ?_) | (refine z0i hb2 ?_) | (refine ccA ([]) (c2) ?_) | (refine ccA ([]) (c3) ?_) | (refine And.intro (by rw [List.length_append]; simp; omega) ?_) | (refine stpQ ?_))
    refine ⟨(k + 1, ct, T ++ [tg]), ⟨by show k + 1 ≤ _; omega, by show ct.length ≤ 200; omega, by simp [hT], hst⟩, (by show s.length - (k + 1) < s.length - k; omega), ?_⟩
    (refine z02 (by rfl) ?_ ?_) <;> (repeat' (first | (exact eqA) | (refine shE ?_) | (refine And.intro ?_ ?_)))
    all_goals first
     | exact e2
     | (rw [z0R]; rfl)
   ·have hb2 : ¬ ((bitB ix (j0 + k) : Nat) : Int) = 1 := by omega
    have hpr : z1p ix (j0 + k) hk0 (pAt s k) = [hk0, pAt s k] := by unfold z1p; rw [if_neg hb]
    rw [hpr] at c2 c3 hst hcl htl
    generalize tagB 3 [hk0, pAt s k] = tg at c2 c3 hst hcl htl
    generalize cutB tg w = ct at c3 hst hcl
    repeat ((try conv => whnf); first | (refine i_at (z0n hlt) ?_) | (refine Exists.intro _ (And.intro e1.symm ?_)) | (refine ccA ([]) (c1) ?_) | (refine z0k hb2 ?_) | (refine ccA ([]) (c2) ?_) | (refine ccA ([]) (c3) ?_) | (refine And.intro (by rw [List.length_append]; simp; omega) ?_) | (refine stpQ ?_))
    refine ⟨(k + 1, ct, T ++ [tg]), ⟨by show k + 1 ≤ _; omega, by show ct.length ≤ 200; omega, by simp [hT], hst⟩, (by show s.length - (k + 1) < s.length - k; omega), ?_⟩
    (refine z02 (by rfl) ?_ ?_) <;> (repeat' (first | (exact eqA) | (refine shE ?_) | (refine And.intro ?_ ?_)))
    all_goals first
     | exact e2
     | (rw [z0R]; rfl)
  ·have hke : k = s.length := by omega
   rw [hke, List.drop_length] at hat
   rw [hat.done]
   repeat ((try conv => whnf); first | (refine stpQ ?_))
   (refine z02 (by rfl) ?_ ?_) <;> (repeat' (first | (exact eqA) | (refine shE ?_) | (refine And.intro ?_ ?_)))
 ·obtain ⟨a, b⟩ := R
  repeat ((try conv => whnf); first | (refine stpQ ?_))
  (refine z00 (by rfl) ?_ ?_ (by rfl)) <;> (repeat' (first | (exact eqA) | (refine shE ?_) | (refine And.intro ?_ ?_)))
theorem zgy (h : Bs) (ix K : Nat) (s : List Bs) (hix : ix < 256) (hK : K ≤ 8) (hs : s.length = K) (hh : h.length ≤ 200) (hsl : ∀ x ∈ s, x.length ≤ 200) :
 CT Tryz.prog 19 [] [.str h, .int .i64 (ix : Int), .int .i64 (K : Int), .sl 1 (strE s), .int .i64 16] (.str (z0Y ix 16 (8 - K) h s).2) [] := by
 have c1 := c_inT (x := (K : Int)) (lo := 0) (hi := 8) (by omega)
 have c2 := zaj h ix 16 (8 - K) s hix (by omega) (by omega) hh hsl
 rw [show (8 : Int) - ((8 - K : Nat) : Int) = (K : Int) by omega] at c2
 have hlen := z0c s
 generalize z0Y ix 16 (8 - K) h s = R at c2 ⊢
 obtain ⟨Ra, Rb⟩ := R
 have hgt : ¬ (K : Int) > (K : Int) := by omega
 refine z01 z0d 1 rfl Tryz.func19 rfl rfl rfl ?_
 repeat ((try conv => whnf); first | (refine ccA ([]) (c1) ?_) | (refine Exists.intro K (And.intro (hlen.trans hs) ?_)) | (refine ccA ([]) (c2) ?_) | (refine stpQ ?_))
 (refine z00 (by rfl) ?_ ?_ (by rfl)) <;> (repeat' (first | (exact eqA) | (refine shE ?_) | (refine And.intro ?_ ?_)))
end Go.Proofs.YtgmbkbggnlponaaGreatDoor
namespace Go.Proofs.YtgmbkbggnlponaaGreatDoor
set_option maxRecDepth 100000
set_option maxHeartbeats 4000000
set_option linter.unusedVariables false
set_option linter.unusedSimpArgs false
set_option linter.unusedSectionVars false
open Go.RowKit Pl
attribute [local irreducible] z0t z0u z0y AnsP LeP
end Go.Proofs.YtgmbkbggnlponaaGreatDoor
namespace Go.Proofs.YtgmbkbggnlponaaGreatDoor
set_option maxRecDepth 100000
set_option maxHeartbeats 4000000
set_option linter.unusedVariables false
set_option linter.unusedSimpArgs false
set_option linter.unusedSectionVars false
open Go.RowKit Pl
attribute [local irreducible] z0t z0u z0y AnsP LeP
theorem zfn (t : Bs) (p a : Nat) (r : Bs) (ht : (t.length : Int) ≤ 1000000000) (hp : p ≤ t.length) (ha : a < 256) (h : t.drop p = [UInt8.ofNat a] ++ r) :
 CT Tryz.prog 41 [fldB t p false] [.ptr 1 0 0] (.int .i64 (a : Int)) [fldB t (p + 1) false] := by
 have c := z6M t p false 1 ht hp
 rw [z3r (n := 1) (l := [UInt8.ofNat a]) rfl h] at c
 simp only at c
 have hx : (UInt8.ofNat a).toNat = a := by simp [UInt8.toNat_ofNat']; omega
 have h1 := z4T (UInt8.ofNat a)
 rw [hx] at h1
 have h2 : (UInt8.ofNat a).toNat = a := hx
 generalize UInt8.ofNat a = x at c h1 h2
 subst h2
 have hne : ¬ (([x] : Bs) = []) := fun h => by cases h
 have h0 : 0 < ([x] : Bs).length := by simp
 refine z01 z0m 2 rfl Tryz.func41 rfl rfl rfl ?_
 repeat ((try conv => whnf); first | (refine ccB ([1]) (c) ?_) | (refine z0k hne ?_) | (refine Exists.intro 0 (And.intro rfl (And.intro h0 ?_))) | (refine Exists.intro _ (And.intro h1.symm ?_)) | (refine stpQ ?_))
 (refine z00 (by rfl) ?_ ?_ (by rfl)) <;> (repeat' (first | (exact eqA) | (refine shE ?_) | (refine And.intro ?_ ?_)))
theorem c_sig (t : Bs) (p : Nat) (s : Sg) (r : Bs) (g : s.good) (ht : (t.length : Int) ≤ 1000000000) (hp : p ≤ t.length) (h : t.drop p = sigB s ++ r) :
 CT Tryz.prog 42 [fldB t p false] [.ptr 1 0 0] (.agg (sgE s)) [fldB t (p + 321) false] := by
 obtain ⟨a, op, sh, si⟩ := s
 obtain ⟨h1, ⟨h2, h3⟩, ⟨h4, h5⟩, h6, h7⟩ := g
 simp only at h1 h2 h3 h4 h5 h6 h7
 have e0 : t.drop p = [UInt8.ofNat a] ++ (op.flatten ++ (sh.flatten ++ (si.flatten ++ r))) := by rw [h]; simp [sigB]
 have l2 := z1Q h3
 have l4 := z1Q h5
 have l6 := z1Q h7
 rw [h2] at l2
 rw [h4] at l4
 rw [h6] at l6
 have e1 := z0x rfl e0
 have p1 := z1u hp rfl e0
 simp only [List.length_cons, List.length_nil, Nat.zero_add] at e1 p1
 have e2 := z0x l2 e1
 have p2 := z1u p1 l2 e1
 have e3 := z0x l4 e2
 have p3 := z1u p2 l4 e2
 have c0 := zfn t p a _ ht hp (by omega) e0
 have d1 := z2c h3 e1
 have d2 := z2c h5 e2
 have d3 := z2c h7 e3
 rw [h2, l2] at d1
 rw [h4, l4] at d2
 rw [h6, l6] at d3
 have c1 := z1W t (p + 1) false 8 16 ht p1 (by omega)
 have c2 := z1W t (p + 1 + 16 * 8) false 8 16 ht p2 (by omega)
 have c3 := z1W t (p + 1 + 16 * 8 + 16 * 8) false 4 16 ht p3 (by omega)
 rw [d1] at c1
 rw [d2] at c2
 rw [d3] at c3
 simp only at c1 c2 c3
 clear e0 e1 e2 e3 d1 d2 d3
 rw [show p + 321 = p + 1 + 16 * 8 + 16 * 8 + 16 * 4 by omega]
 generalize p + 1 + 16 * 8 + 16 * 8 + 16 * 4 = q4 at c3 ⊢
 generalize p + 1 + 16 * 8 + 16 * 8 = q3 at c2 c3
 generalize p + 1 + 16 * 8 = q2 at c1 c2
 generalize p + 1 = q1 at c0 c1
 show CT _ _ _ _ (.agg [.int .i64 (a : Int), .sl 1 (strE op), .sl 1 (strE sh), .sl 1 (strE si)]) _
 refine z01 z0d 2 rfl Tryz.func42 rfl rfl rfl ?_
 repeat ((try conv => whnf); first | (refine ccB ([1]) (c0) ?_) | (refine ccB ([1]) (c1) ?_) | (refine ccB ([1]) (c2) ?_) | (refine ccB ([1]) (c3) ?_) | (refine And.intro (by kernel_rfl) ?_) | (refine stpQ ?_))
 (refine z00 (by rfl) ?_ ?_ (by rfl)) <;> (repeat' (first | (exact eqA) | (refine shE ?_) | (refine And.intro ?_ ?_)))
theorem z5u (h : Hd) (g : h.good) : CT Tryz.prog 149 [] [.str (z0P h)] (.tup [.agg (hdE h), .bool true]) [] := by
 have hl := z0N g
 have k1 := zcH h g
 obtain ⟨ho, ep, ro, pr⟩ := h
 obtain ⟨h1, h2, h3, h4, h5⟩ := g
 simp only at h1 h2 h3 h4 h5
 have e0 : (z0P ⟨ho, ep, ro, pr⟩).drop 0 = [UInt8.ofNat ho] ++ ([UInt8.ofNat ep] ++ (ro ++ pr)) := by simp [z0P]
 have p0 : 0 ≤ (z0P ⟨ho, ep, ro, pr⟩).length := by omega
 generalize z0P ⟨ho, ep, ro, pr⟩ = t at hl e0 p0 ⊢
 have e1 := z0x rfl e0
 have p1 := z1u p0 rfl e0
 simp only [List.length_cons, List.length_nil, Nat.zero_add] at e1 p1
 have e2 := z0x rfl e1
 have p2 := z1u p1 rfl e1
 simp only [List.length_cons, List.length_nil, Nat.zero_add, Nat.reduceAdd] at e2 p2
 have e3 := z0x h4 e2
 have p3 := z1u p2 h4 e2
 simp only [Nat.reduceAdd] at e3 p3
 have c0 := zfn t 0 ho _ (by omega) p0 (by omega) e0
 have c1 := zfn t 1 ep _ (by omega) p1 (by omega) e1
 have c2 := z6M t 2 false 16 (by omega) p2
 rw [z3r h4 e2] at c2
 simp only [Nat.zero_add, Nat.reduceAdd] at c0 c1 c2
 subst e3
 refine z01 z0d 1 rfl Tryz.func149 rfl rfl rfl ?_
 repeat ((try conv => whnf); first | (refine ccB ([_]) (c0) ?_) | (refine ccB ([_]) (c1) ?_) | (refine ccB ([_]) (c2) ?_) | (refine ccA ([]) (k1) ?_) | (refine Exists.intro 18 (And.intro rfl (And.intro p3 ?_))) | (refine And.intro (by kernel_rfl) ?_) | (refine stpQ ?_))
 (refine z00 (by rfl) ?_ ?_ (by rfl)) <;> (repeat' (first | (exact eqA) | (refine shE ?_) | (refine And.intro ?_ ?_))) <;> rfl
theorem zdN (h : Hd) (s : Sg) (g : h.good) (gs : s.good) : CT Tryz.prog 40 [] [.str (z12 h s)] (.tup [.agg (hdE h ++ sgE s), .bool true]) [] := by
 have hl := z0N g
 have hs := z1Y gs
 have hsl := z0D (l := z0P h) (by omega)
 have hsb : (z12 h s).length = (z0e (z0P h)).length + 321 := by rw [z12, List.length_append, hs]
 have e0 : (z12 h s).drop 0 = z0e (z0P h) ++ (sigB s ++ []) := by simp [z12]
 have p0 : 0 ≤ (z12 h s).length := by omega
 generalize z12 h s = t at hsb e0 p0 ⊢
 have e1 := z0x rfl e0
 have p1 := z1u p0 rfl e0
 simp only [Nat.zero_add] at e1 p1
 have c0 := z3o t 0 false (by omega) p0
 rw [z1n (by omega) e0] at c0
 have k0 := z5u h g
 have c1 := c_sig t (z0e (z0P h)).length s [] gs (by omega) p1 e1
 have k1 := z71 s gs
 have c2 := z7X t ((z0e (z0P h)).length + 321) false
 rw [show z3i false ((z0e (z0P h)).length + 321) t.length = true by rw [hsb]; simp [z3i]] at c2
 simp only [Nat.zero_add] at c0
 generalize (z0e (z0P h)).length + 321 = q2 at c1 c2
 generalize (z0e (z0P h)).length = q1 at c0 c1
 generalize z0P h = hb at c0 k0
 obtain ⟨ho, ep, ro, pr⟩ := h
 obtain ⟨a, op, sh, si⟩ := s
 have cS : CT Tryz.prog 100 [fldB t 0 false] [.ptr 1 0 0] (.agg (hdE ⟨ho, ep, ro, pr⟩ ++ sgE ⟨a, op, sh, si⟩)) [fldB t q2 false] := by
  refine z01 z0d 2 rfl Tryz.func100 rfl rfl rfl ?_
  repeat ((try conv => whnf); first | (refine ccB ([1]) (c0) ?_) | (refine ccA ([]) (k0) ?_) | (refine ccB ([_]) (c1) ?_) | (refine ccA ([]) (k1) ?_) | (refine And.intro (by kernel_rfl) ?_) | (refine stpQ ?_))
  (refine z00 (by rfl) ?_ ?_ (by rfl)) <;> (repeat' (first | (exact eqA) | (refine shE ?_) | (refine And.intro ?_ ?_))) <;> rfl
 refine z01 z0d 1 rfl Tryz.func40 rfl rfl rfl ?_
 repeat ((try conv => whnf); first | (refine ccB ([_]) (cS) ?_) | (refine ccB ([_]) (c2) ?_) | (refine And.intro (by kernel_rfl) ?_) | (refine stpQ ?_))
 (refine z00 (by rfl) ?_ ?_ (by rfl)) <;> (repeat' (first | (exact eqA) | (refine shE ?_) | (refine And.intro ?_ ?_)))
end Go.Proofs.YtgmbkbggnlponaaGreatDoor
