/- Functions by content: a coordinator of any house takes a record and is made from its disk; its rows are told as rows that may be moved. Functions by content: a coordinator of any house, of any number of shards, is made from its disk; its rows are told as rows that may be moved. -/
import Derived.Test.YtnhcfmmdaihneaaGreatDoorCde
import Derived.Test.YtnhcfmmdaihneaaGreatDoorPx
namespace Go.Proofs.YtnhcfmmdaihneaaGreatDoor
set_option maxRecDepth 100000
set_option maxHeartbeats 8000000
set_option linter.unusedVariables false
set_option linter.unusedSimpArgs false
set_option linter.unusedSectionVars false
open Go.RowKit Pl
attribute [local irreducible] z0w z0x z0A AnsP LeP CvE
theorem zhK {x lo hi : Int} (h : ¬ (lo ≤ x ∧ x ≤ hi)) : inB x lo hi = false := by
 cases e : inB x lo hi with
 | false => rfl
 | true => exact absurd (z0T.1 e) h
theorem zlk {ho : Int} (h : ¬ isHo ho) (ep : Int) (ro pr : Bs) : z2b ho ep ro pr = false := by
 unfold z2b
 rw [zhK (x := ho) (lo := 0) (hi := 2) h]; rfl
theorem zcz (ho : Int) (ro : Bs) : CT Tryz.prog 250 [] [.sl 4 [], .int .i64 ho, .str ro] (.agg [.int .i64 ho, .int .i64 1, .str ro, .str []]) [] := by
 refine z01 z03 1 rfl Tryz.func250 rfl rfl rfl ?_
 repeat ((try conv => whnf); first | (refine Exists.intro 0 (And.intro rfl ?_)) | (refine And.intro (by kernel_rfl) ?_) | (refine stpQ ?_))
 (refine z00 (by rfl) ?_ ?_ (by rfl)) <;> (repeat' (first | (exact eqA) | (refine And.intro ?_ ?_) | ((fail_if_success (with_reducible (show _ = _))); (show _ = _))))
theorem zf8 (ho : Int) : CT Tryz.prog 249 [] [.sl 4 [], .int .i64 ho] (.bool true) [] := by
 refine z01 z03 1 rfl Tryz.func249 rfl rfl rfl ?_
 repeat ((try conv => whnf); first | (refine stpQ ?_))
 refine z0n 0 ⟨[], [], 1⟩ Nat (fun k => ⟨[(0, .sl 4 []), (1, .int .i64 ho), (7, .sl 4 []), (8, .int .i64 0), (9, .int .i64 (k : Int))], [], 1⟩) (fun k => k ≤ 0) (fun k => 0 - k) 0 (by omega) ?_ ?_ ?_
 ·(refine z02 (by rfl) ?_ ?_) <;> (repeat' (first | (exact eqA) | (refine And.intro ?_ ?_) | ((fail_if_success (with_reducible (show _ = _))); (show _ = _)))) <;> rfl
 ·intro k hk
  obtain rfl : k = 0 := by omega
  repeat ((try conv => whnf); first | (refine stpQ ?_))
  (refine z02 (by rfl) ?_ ?_) <;> (repeat' (first | (exact eqA) | (refine And.intro ?_ ?_) | ((fail_if_success (with_reducible (show _ = _))); (show _ = _))))
 ·repeat ((try conv => whnf); first | (refine stpQ ?_))
  (refine z00 (by rfl) ?_ ?_ (by rfl)) <;> (repeat' (first | (exact eqA) | (refine And.intro ?_ ?_) | ((fail_if_success (with_reducible (show _ = _))); (show _ = _))))
theorem zcA (ho : Int) (h : ¬ isHo ho) (ro : Bs) : CT Tryz.prog 187 [] [.sl 4 [], .int .i64 ho, .str ro] (.tup [.agg (z1u 0 0 [] []), .bool false]) [] := by
 have c1 := zf8 ho
 have c2 := zcz ho ro
 have c3 := z7v ho 1 ro []
 rw [zlk h] at c3
 unfold z1u at c3 ⊢
 refine z01 z03 1 rfl Tryz.func187 rfl rfl rfl ?_
 repeat ((try conv => whnf); first | (refine ccA ([]) (c1) ?_) | (refine ccA ([]) (c2) ?_) | (refine ccA ([]) (c3) ?_) | (refine And.intro (by kernel_rfl) ?_) | (refine stpQ ?_))
 (refine z00 (by rfl) ?_ ?_ (by rfl)) <;> (repeat' (first | (exact eqA) | (refine And.intro ?_ ?_) | ((fail_if_success (with_reducible (show _ = _))); (show _ = _))))
theorem zhL (ho : Int) (hho : ¬ isHo ho) (K : Int) (fs : List Fl) (po : List Bs) (V D : List (List T)) (ty : Nat) (hty : ty ≤ 1000) (b : UInt8) (r : Bs) (hr : r.length ≤ 9000) :
 CT Tryz.prog 137 (cvHD ho K fs po V D ⟨[], [], ty⟩ .no) [.ptr 1 0 0, .str (b :: r)] (.tup []) (cvHD ho K fs po V D ⟨[], [], ty⟩ (ckX ⟨[], [], ty⟩ (b :: r))) := by
 have hl : (b :: r).length = r.length + 1 := rfl
 have h0 : 0 < (b :: r).length := by simp
 have hbl := b.toNat_lt
 have c1 := zgl (b :: r) 1 false (by omega) (by omega)
 have l1 := z2d (t := b :: r) (p := 1) (bad := false) (by omega)
 by_cases k1 : b.toNat = 1
 ·have k1' : ((b.toNat : Nat) : Int) = 1 := by omega
  rw [ckX, if_pos k1]
  unfold num1
  generalize z0W (b :: r) 1 false = A at c1 l1 ⊢
  obtain ⟨n, p, bd⟩ := A
  simp only at c1 l1 ⊢
  have c2 := z58 (b :: r) p bd
  rw [hl] at c2
  by_cases hd : z19 bd p (r.length + 1) = true
  ·rw [hd] at c2
   by_cases hc : ty < n ∧ n ≤ 1000
   ·rw [if_pos ⟨hd, hc⟩]
    have h1' : (n : Int) > (ty : Int) := by omega
    have h2' : (n : Int) ≤ 1000 := by omega
    unfold cvHD cvBD fldB at *
    refine z01 z03 8 rfl Tryz.func137 rfl rfl rfl ?_
    repeat ((try conv => whnf); first | (refine ccB ([_]) (c1) ?_) | (refine Exists.intro 0 (And.intro rfl (And.intro h0 ?_))) | (refine z0o k1' ?_) | (refine ccB ([_]) (c2) ?_) | (refine And.intro (by kernel_rfl) ?_) | (refine stpQ ?_))
    (refine z00 (by rfl) ?_ ?_ (by rfl)) <;> (repeat' (first | (exact eqA) | (refine And.intro ?_ ?_) | ((fail_if_success (with_reducible (show _ = _))); (show _ = _))))
   ·rw [if_neg (fun h => hc h.2)]
    unfold cvHD cvBD fldB at *
    by_cases h1' : (n : Int) > (ty : Int)
    ·have h2' : ¬ (n : Int) ≤ 1000 := by omega
     refine z01 z03 8 rfl Tryz.func137 rfl rfl rfl ?_
     repeat ((try conv => whnf); first | (refine ccB ([_]) (c1) ?_) | (refine Exists.intro 0 (And.intro rfl (And.intro h0 ?_))) | (refine z0o k1' ?_) | (refine ccB ([_]) (c2) ?_) | (refine And.intro (by kernel_rfl) ?_) | (refine stpQ ?_))
     (refine z00 (by rfl) ?_ ?_ (by rfl)) <;> (repeat' (first | (exact eqA) | (refine And.intro ?_ ?_) | ((fail_if_success (with_reducible (show _ = _))); (show _ = _))))
    ·refine z01 z03 8 rfl Tryz.func137 rfl rfl rfl ?_
     repeat ((try conv => whnf); first | (refine ccB ([_]) (c1) ?_) | (refine Exists.intro 0 (And.intro rfl (And.intro h0 ?_))) | (refine z0o k1' ?_) | (refine ccB ([_]) (c2) ?_) | (refine And.intro (by kernel_rfl) ?_) | (refine stpQ ?_))
     (refine z00 (by rfl) ?_ ?_ (by rfl)) <;> (repeat' (first | (exact eqA) | (refine And.intro ?_ ?_) | ((fail_if_success (with_reducible (show _ = _))); (show _ = _))))
  ·rw [if_neg (fun h => hd h.1)]
   have hd' : z19 bd p (r.length + 1) = false := by simpa using hd
   rw [hd'] at c2
   unfold cvHD cvBD fldB at *
   refine z01 z03 8 rfl Tryz.func137 rfl rfl rfl ?_
   repeat ((try conv => whnf); first | (refine ccB ([_]) (c1) ?_) | (refine Exists.intro 0 (And.intro rfl (And.intro h0 ?_))) | (refine z0o k1' ?_) | (refine ccB ([_]) (c2) ?_) | (refine And.intro (by kernel_rfl) ?_) | (refine stpQ ?_))
   (refine z00 (by rfl) ?_ ?_ (by rfl)) <;> (repeat' (first | (exact eqA) | (refine And.intro ?_ ?_) | ((fail_if_success (with_reducible (show _ = _))); (show _ = _))))
 ·rw [ckX, if_neg k1]
  have k1' : ¬ ((b.toNat : Nat) : Int) = 1 := by omega
  generalize z0W (b :: r) 1 false = A at c1 l1
  obtain ⟨n, p, bd⟩ := A
  simp only at c1 l1
  by_cases k2 : b.toNat = 2
  ·have k2' : ((b.toNat : Nat) : Int) = 2 := by omega
   by_cases hn : bd = false → z1Q ((b :: r).drop p) = none
   ·obtain ⟨xh, xe, xr, xp, xa, xo, xs, xi, q, bd', hdn, c2⟩ := zh8 (b :: r) p bd (by omega) l1.1 hn
    have c3 := z58 (b :: r) q bd'
    rw [hdn] at c3
    clear hdn hn
    unfold cvHD cvBD fldB z1u z1Z at *
    refine z01 z03 8 rfl Tryz.func137 rfl rfl rfl ?_
    repeat ((try conv => whnf); first | (refine ccB ([_]) (c1) ?_) | (refine Exists.intro 0 (And.intro rfl (And.intro h0 ?_))) | (refine z0j k1' ?_) | (refine z0o k2' ?_) | (refine ccB ([_]) (c2) ?_) | (refine ccB ([_]) (c3) ?_) | (refine And.intro (by kernel_rfl) ?_) | (refine stpQ ?_))
    (refine z00 (by rfl) ?_ ?_ (by rfl)) <;> (repeat' (first | (exact eqA) | (refine And.intro ?_ ?_) | ((fail_if_success (with_reducible (show _ = _))); (show _ = _))))
   ·have hbd : bd = false := by
     cases bd with
     | false => rfl
     | true => exact absurd (fun h => by cases h) hn
    subst hbd
    cases hs : z1Q ((b :: r).drop p) with
    | none => exact absurd (fun _ => hs) hn
    | some y =>
      clear hn
      obtain ⟨h, g⟩ := y
      obtain ⟨g1, g2, e⟩ := z2E.1 hs
      have c2 := zdT (b :: r) p h g g1 g2 (by omega) l1.1 e
      have c3 := z58 (b :: r) (b :: r).length false
      rw [show z19 false (b :: r).length (b :: r).length = true by simp [z19]] at c3
      have c4 : CT Tryz.prog 188 [] [.sl 8 (ucE (sdE []))] (.ref 1) [.row 4 []] := z8w [] (by decide)
      have c5 := zcA ho hho h.ro
      have hZo : ownE (.row 4 ([] : List (List T))) := fun e he => by cases he
      have hlt : ((b :: r).length : Nat) = r.length + 1 := rfl
      unfold z1u at c5
      unfold fldB at c1 c2 c3
      obtain ⟨ho', ep, ro, pr⟩ := h
      obtain ⟨a, op, sh, si⟩ := g
      dsimp only at c2 c5
      unfold cvHD cvBD
      by_cases q1 : n = ty
      ·have q1' : (n : Int) = (ty : Int) := by omega
       by_cases q2 : n = 0
       ·have q2' : (n : Int) = 0 := by omega
        refine z01 z03 8 rfl Tryz.func137 rfl rfl rfl ?_
        repeat ((try conv => whnf); first | (refine ccB ([_]) (c1) ?_) | (refine Exists.intro 0 (And.intro rfl (And.intro h0 ?_))) | (refine z0j k1' ?_) | (refine z0o k2' ?_) | (refine ccB ([_]) (c2) ?_) | (refine ccB ([_]) (c3) ?_) | (refine z0S q1' ?_) | (refine z0o q2' ?_) | (refine And.intro (by kernel_rfl) ?_) | (refine stpQ ?_))
        (refine z00 (by rfl) ?_ ?_ (by rfl)) <;> (repeat' (first | (exact eqA) | (refine And.intro ?_ ?_) | ((fail_if_success (with_reducible (show _ = _))); (show _ = _))))
       ·have q2' : ¬ (n : Int) = 0 := by omega
        refine z01 z03 8 rfl Tryz.func137 rfl rfl rfl ?_
        repeat ((try conv => whnf); first | (refine ccB ([_]) (c1) ?_) | (refine Exists.intro 0 (And.intro rfl (And.intro h0 ?_))) | (refine z0j k1' ?_) | (refine z0o k2' ?_) | (refine ccB ([_]) (c2) ?_) | (refine ccB ([_]) (c3) ?_) | (refine z0S q1' ?_) | (refine z0j q2' ?_) | (refine z0N ([]) (c4) (by ((repeat' (first | (exact trivial) | (exact rfl) | (refine And.intro ?_ ?_))); first | done | fail)) (by ((repeat' (first | (exact trivial) | (exact rfl) | (refine And.intro ?_ ?_))); first | done | fail)) (by decide) (by rfl) (by first | exact .inl rfl | (refine .inr ⟨by simp [own2, own1, own0], fun e he => ?_⟩; simp only [List.mem_cons, List.not_mem_nil, or_false] at he <;> first | exact he.elim | (subst he; exact hZo) | (rcases he with rfl | rfl <;> exact hZo))) ?_) | (refine ccA ([]) (c5) ?_) | (refine And.intro (by kernel_rfl) ?_) | (refine stpQ ?_))
        (refine z00 (by rfl) ?_ ?_ (by rfl)) <;> (repeat' (first | (exact eqA) | (refine And.intro ?_ ?_) | ((fail_if_success (with_reducible (show _ = _))); (show _ = _))))
      ·have q1' : ¬ (n : Int) = (ty : Int) := by omega
       refine z01 z03 8 rfl Tryz.func137 rfl rfl rfl ?_
       repeat ((try conv => whnf); first | (refine ccB ([_]) (c1) ?_) | (refine Exists.intro 0 (And.intro rfl (And.intro h0 ?_))) | (refine z0j k1' ?_) | (refine z0o k2' ?_) | (refine ccB ([_]) (c2) ?_) | (refine ccB ([_]) (c3) ?_) | (refine z4Z q1' ?_) | (refine And.intro (by kernel_rfl) ?_) | (refine stpQ ?_))
       (refine z00 (by rfl) ?_ ?_ (by rfl)) <;> (repeat' (first | (exact eqA) | (refine And.intro ?_ ?_) | ((fail_if_success (with_reducible (show _ = _))); (show _ = _))))
  ·have k2' : ¬ ((b.toNat : Nat) : Int) = 2 := by omega
   unfold cvHD cvBD
   unfold fldB at c1
   refine z01 z03 8 rfl Tryz.func137 rfl rfl rfl ?_
   repeat ((try conv => whnf); first | (refine ccB ([_]) (c1) ?_) | (refine Exists.intro 0 (And.intro rfl (And.intro h0 ?_))) | (refine z0j k1' ?_) | (refine z0j k2' ?_) | (refine And.intro (by kernel_rfl) ?_) | (refine stpQ ?_))
   (refine z00 (by rfl) ?_ ?_ (by rfl)) <;> (repeat' (first | (exact eqA) | (refine And.intro ?_ ?_) | ((fail_if_success (with_reducible (show _ = _))); (show _ = _))))
theorem zbf (ho K : Int) (fs : List Fl) (po : List Bs) (V D : List (List T)) (s : Cv) (ok : z4b ho s) (b : UInt8) (r : Bs) (hr : r.length ≤ 9000) :
 CT Tryz.prog 137 (cvHD ho K fs po V D s .no) [.ptr 1 0 0, .str (b :: r)] (.tup []) (cvHD ho K fs po V D s (ckA ho s (b :: r))) := by
 unfold ckA
 rcases ok with ⟨h, k⟩ | ⟨h, k1, k2, k3⟩
 ·rw [if_pos h]
  obtain ⟨n, rfl, h2, h3⟩ := z3x h
  rw [h3] at k ⊢
  exact zaY n h2 K fs po V D s k b r hr
 ·rw [if_neg h]
  obtain ⟨se, tr, ty⟩ := s
  simp only at k1 k2 k3
  subst k1 k2
  exact zhL ho h K fs po V D ty k3 b r hr
end Go.Proofs.YtnhcfmmdaihneaaGreatDoor
namespace Go.Proofs.YtnhcfmmdaihneaaGreatDoor
set_option maxRecDepth 100000
set_option maxHeartbeats 8000000
set_option linter.unusedVariables false
set_option linter.unusedSimpArgs false
set_option linter.unusedSectionVars false
open Go.RowKit Pl
attribute [local irreducible] z0w z0x z0A AnsP LeP CvE
theorem zcB (ho : Int) (k : Nat) (hk : k ≤ 2) (fs : List Fl) (hf : z2T fs) (po : List Bs) (hpo : (po.length : Int) ≤ 100000000) :
 CT Tryz.prog 59 [] [.int .i64 ho, .int .i64 (k : Int), .agg [.sl 3 (flE fs)], .sl 1 (strE po)] (.agg [.int .i64 ho, .int .i64 (k : Int), .bool true, .ref 1, .ref 2, .ref 3, .ref 4, .int .i64 ((cvA ho (z0i fs z0g)).ty : Int), .bool false, .ref 5, .ref 6]) [.deep 3 (flE fs) [], .deep 1 (strE po) [], .deep 8 (sdE (cvA ho (z0i fs z0g)).se) [], .deep 1 (ntE (cvA ho (z0i fs z0g)).tr) [], .deep 1 (emV (2 ^ k)) [], .deep 1 (emD (2 ^ k)) []] := by
 have c1 := z4G fs hf.1
 have c2 := z44 fs z0g hf
 have c3 := z3Y po hpo
 have c4 := z5N (n := (k : Int)) (by omega)
 obtain ⟨e1, e2⟩ := zjf hk
 have hfacts := z0Z fs z0g
 generalize z0i fs z0g = ts at c2 hfacts ⊢
 have hts := z0m ts
 have hts2 : (ts.length : Int) ≤ 20001 := by omega
 unfold z0g at c2
 unfold emV emD
 generalize 2 ^ k = pk at e1 e2 ⊢
 refine z01 z03 1 rfl Tryz.func59 rfl rfl rfl ?_
 iterate 34 ((try conv => whnf); first | (refine ccA ([]) (c1) ?_) | (refine ccA ([]) (c2) ?_) | (refine ccA ([]) (c3) ?_) | (refine ccA ([]) (c4) ?_) | (refine And.intro (show _ ≤ (64 : Int) from by omega) ?_) | (refine Exists.intro _ (And.intro e1.symm ?_)) | (refine Exists.intro pk (And.intro rfl (And.intro rfl (And.intro (by omega) ?_)))) | (refine And.intro (by kernel_rfl) ?_) | (refine stpQ ?_))
 repeat ((try conv => whnf); first | (refine stpQ ?_))
 refine z1C Nat (fun i => ⟨[(8, .ptr 1 0 0), (9, .ptr 2 0 0), (30, .sl 1 (strE ts)), (31, .int .i64 ((strE ts).length : Int)), (32, .int .i64 (i : Int))],
  [(1, some (.box [.int .i64 0, .int .i64 0, .bool false, .val nilV, .val nilV, .val nilV, .val nilV, .int .i64 0, .bool false, .val nilV, .val nilV])), (2, some (cvBD ho (k : Int) (cvA ho (ts.take i)) 3 4 5 6 7 8)), (3, some (.row 3 (flE fs))), (4, some (.row 1 (strE po))), (5, some (.deep 8 (sdE (cvA ho (ts.take i)).se) [])), (6, some (.row 1 (ntE (cvA ho (ts.take i)).tr))), (7, some (.row 1 (List.replicate pk [.str []]))), (8, some (.row 1 (List.replicate pk [.bool false])))], 9⟩) (fun i => i ≤ ts.length) (fun i => ts.length - i) 0 (by omega) ?_ ?_
 ·(refine z02 (by rfl) ?_ ?_)
  all_goals (repeat' (first | (exact trivial) | ((try conv => whnf); first | (exact trivial) | (refine And.intro ?_ ?_))))
  all_goals first
   | rfl
   | decide
 ·intro Q1 hQ1 i hi
  by_cases hlt : i < ts.length
  ·have hlt2 : (i : Int) < ((strE ts).length : Int) := by omega
   have hnx := z6w ho hlt
   have g : z4b ho (cvA ho (ts.take i)) := z8y ho _
   have hmem := hfacts.1 _ (List.getElem_mem hlt)
   have gt := z67 (ps := ts) hlt
   generalize ts[i] = t at hnx hmem gt
   obtain ⟨b, r, rfl⟩ : ∃ b r, t = b :: r := by
    cases t with
    | nil => simp at hmem
    | cons b r => exact ⟨b, r, rfl⟩
   have hr : r.length ≤ 9000 := by have := hmem.2; simp at this; omega
   generalize cvA ho (ts.take i) = s at hnx g ⊢
   have cA := zbf ho (k : Int) fs po (List.replicate pk [.str []]) (List.replicate pk [.bool false]) s g b r hr
   have hs' : z4j ho s (b :: r) = ckDo s (ckA ho s (b :: r)) := rfl
   rw [hs'] at hnx
   generalize ckA ho s (b :: r) = rk at cA hnx
   clear hs' g hfacts hmem
   cases rk with
   | no =>
     unfold cvHD cvBD at cA
     unfold cvBD
     repeat ((try conv => whnf); first | (refine i_at gt ?_) | (refine z0N ([2, 3, 4, 5, 6, 7, 8]) (cA) (by ((repeat' (first | (exact trivial) | (exact rfl) | (decide) | (refine And.intro ?_ ?_))); first | done | fail)) (by ((repeat' (first | (exact trivial) | (exact rfl) | (decide) | (refine And.intro ?_ ?_))); first | done | fail)) (by decide) (by rfl) (by first | exact .inl rfl | (refine .inr ⟨by simp [own2, own1, own0], fun e he => ?_⟩; simp only [List.mem_cons, List.not_mem_nil, or_false] at he <;> first | exact he.elim | (subst he; (first | exact z0f | exact z0e | exact z0h _ | exact z0d _)) | (rcases he with rfl | rfl <;> (first | exact z0f | exact z0e | exact z0h _ | exact z0d _)) | (rcases he with rfl | rfl | rfl <;> (first | exact z0f | exact z0e | exact z0h _ | exact z0d _)))) ?_) | (refine ccB ([2, 3, 4, 5, 6, 7, 8]) (cA) ?_) | (refine stpQ ?_))
     refine ⟨i + 1, by omega, by omega, ?_⟩
     rw [hnx]
     (refine z02 (by rfl) ?_ ?_) <;> (repeat' (first | (exact eqA) | (refine And.intro ?_ ?_) | ((fail_if_success (with_reducible (show _ = _))); (show _ = _))))
     all_goals rfl
   | beg n =>
     unfold cvHD cvBD at cA
     unfold cvBD
     repeat ((try conv => whnf); first | (refine i_at gt ?_) | (refine z0N ([2, 3, 4, 5, 6, 7, 8]) (cA) (by ((repeat' (first | (exact trivial) | (exact rfl) | (decide) | (refine And.intro ?_ ?_))); first | done | fail)) (by ((repeat' (first | (exact trivial) | (exact rfl) | (decide) | (refine And.intro ?_ ?_))); first | done | fail)) (by decide) (by rfl) (by first | exact .inl rfl | (refine .inr ⟨by simp [own2, own1, own0], fun e he => ?_⟩; simp only [List.mem_cons, List.not_mem_nil, or_false] at he <;> first | exact he.elim | (subst he; (first | exact z0f | exact z0e | exact z0h _ | exact z0d _)) | (rcases he with rfl | rfl <;> (first | exact z0f | exact z0e | exact z0h _ | exact z0d _)) | (rcases he with rfl | rfl | rfl <;> (first | exact z0f | exact z0e | exact z0h _ | exact z0d _)))) ?_) | (refine ccB ([2, 3, 4, 5, 6, 7, 8]) (cA) ?_) | (refine stpQ ?_))
     refine ⟨i + 1, by omega, by omega, ?_⟩
     rw [hnx]
     (refine z02 (by rfl) ?_ ?_) <;> (repeat' (first | (exact eqA) | (refine And.intro ?_ ?_) | ((fail_if_success (with_reducible (show _ = _))); (show _ = _))))
     all_goals rfl
   | clo h g =>
     unfold cvHD cvBD at cA
     unfold cvBD
     repeat ((try conv => whnf); first | (refine i_at gt ?_) | (refine z0N ([2, 3, 4, 5, 6, 7, 8]) (cA) (by ((repeat' (first | (exact trivial) | (exact rfl) | (decide) | (refine And.intro ?_ ?_))); first | done | fail)) (by ((repeat' (first | (exact trivial) | (exact rfl) | (decide) | (refine And.intro ?_ ?_))); first | done | fail)) (by decide) (by rfl) (by first | exact .inl rfl | (refine .inr ⟨by simp [own2, own1, own0], fun e he => ?_⟩; simp only [List.mem_cons, List.not_mem_nil, or_false] at he <;> first | exact he.elim | (subst he; (first | exact z0f | exact z0e | exact z0h _ | exact z0d _)) | (rcases he with rfl | rfl <;> (first | exact z0f | exact z0e | exact z0h _ | exact z0d _)) | (rcases he with rfl | rfl | rfl <;> (first | exact z0f | exact z0e | exact z0h _ | exact z0d _)))) ?_) | (refine ccB ([2, 3, 4, 5, 6, 7, 8]) (cA) ?_) | (refine stpQ ?_))
     refine ⟨i + 1, by omega, by omega, ?_⟩
     rw [hnx]
     (refine z02 (by rfl) ?_ ?_) <;> (repeat' (first | (exact eqA) | (refine And.intro ?_ ?_) | ((fail_if_success (with_reducible (show _ = _))); (show _ = _))))
     all_goals rfl
  ·have hie : i = ts.length := by omega
   subst hie
   rw [List.take_length]
   unfold cvBD
   repeat ((try conv => whnf); first | (refine stpQ ?_))
   refine hQ1 _ _ ?_
   repeat ((try conv => whnf); first | (refine And.intro (by kernel_rfl) ?_) | (refine stpQ ?_))
   (refine z00 (by rfl) ?_ ?_ (by rfl)) <;> (repeat' (first | (exact eqA) | (refine And.intro ?_ ?_) | ((fail_if_success (with_reducible (show _ = _))); (show _ = _)))) <;> first | rfl | exact CvE.refl (zhw _) | exact CvE.refl (zhx _) | exact CvE.refl (zc9 _) | exact CvE.refl (zhy _) | exact CvE.refl (zhz _)
theorem zbg (ho : Int) : CT Tryz.prog 61 [] [.int .i64 ho] (.str (z1x ho)) [] := by
 unfold z1x
 by_cases h : isHo ho
 ·rw [if_pos h]
  obtain ⟨n, rfl, h2, h3⟩ := z3x h
  rw [h3]
  exact zdW n h2
 ·rw [if_neg h]
  have c1 := z5f ho
  rw [zhK (x := ho) (lo := 0) (hi := 2) h] at c1
  refine z01 z03 1 rfl Tryz.func61 rfl rfl rfl ?_
  repeat ((try conv => whnf); first | (refine ccA ([]) (c1) ?_) | (refine stpQ ?_))
  (refine z00 (by rfl) ?_ ?_ (by rfl)) <;> (repeat' (first | (exact eqA) | (refine And.intro ?_ ?_) | ((fail_if_success (with_reducible (show _ = _))); (show _ = _))))
theorem zcC (ho : Int) (k : Nat) (hk : k ≤ 2) (fs : List Fl) (hf : z2T fs) :
 CT Tryz.prog 16 [] [.int .i64 ho, .int .i64 (k : Int), .agg [.sl 3 (flE fs)]] (.agg [.int .i64 ho, .int .i64 (k : Int), .bool true, .ref 1, .ref 2, .ref 3, .ref 4, .int .i64 ((cvA ho (z0i fs z0g)).ty : Int), .bool false, .ref 5, .ref 6]) [.deep 3 (flE fs) [], .deep 1 (strE (z1c (z1x ho) 16)) [], .deep 8 (sdE (cvA ho (z0i fs z0g)).se) [], .deep 1 (ntE (cvA ho (z0i fs z0g)).tr) [], .deep 1 (emV (2 ^ k)) [], .deep 1 (emD (2 ^ k)) []] := by
 have c1 := zbg ho
 have c2 := zhu (z1x ho) (z5p ho)
 have c3 := zcB ho k hk fs hf (z1c (z1x ho) 16) (by rw [z1D]; omega)
 generalize z1c (z1x ho) 16 = P at c2 c3 ⊢
 generalize z1x ho = S at c1 c2
 refine z01 z03 1 rfl Tryz.func16 rfl rfl rfl ?_
 repeat ((try conv => whnf); first | (refine ccA ([]) (c1) ?_) | (refine ccA ([]) (c2) ?_) | (refine ccA ([]) (c3) ?_) | (refine And.intro (by kernel_rfl) ?_) | (refine stpQ ?_))
 (refine z00 (by rfl) ?_ ?_ (by rfl)) <;> (repeat' (first | (exact eqA) | (refine And.intro ?_ ?_) | ((fail_if_success (with_reducible (show _ = _))); (show _ = _)))) <;> first | rfl | exact CvE.refl (zc9 _)
theorem zbh (ho : Int) (k : Int) (hk : ¬ isHo k) (fs : List Fl) (hf : z2T fs) (po : List Bs) (hpo : (po.length : Int) ≤ 100000000) :
 CT Tryz.prog 59 [] [.int .i64 ho, .int .i64 k, .agg [.sl 3 (flE fs)], .sl 1 (strE po)] (.agg [.int .i64 ho, .int .i64 k, .bool true, .ref 1, .ref 2, .ref 3, .ref 4, .int .i64 ((cvA ho (z0i fs z0g)).ty : Int), .bool false, .ref 5, .ref 6]) [.deep 3 (flE fs) [], .deep 1 (strE po) [], .deep 8 (sdE (cvA ho (z0i fs z0g)).se) [], .deep 1 (ntE (cvA ho (z0i fs z0g)).tr) [], .deep 1 (emV 0) [], .deep 1 (emD 0) []] := by
 have c1 := z4G fs hf.1
 have c2 := z44 fs z0g hf
 have c3 := z3Y po hpo
 have c4 := z7s k
 rw [zhK (x := k) (lo := 0) (hi := 2) hk] at c4
 have hfacts := z0Z fs z0g
 generalize z0i fs z0g = ts at c2 hfacts ⊢
 have hts := z0m ts
 have hts2 : (ts.length : Int) ≤ 20001 := by omega
 unfold z0g at c2
 unfold emV emD
 obtain ⟨pk, hpk⟩ : ∃ pk : Nat, pk = 0 := ⟨0, rfl⟩
 rw [← hpk]
 refine z01 z03 1 rfl Tryz.func59 rfl rfl rfl ?_
 iterate 15 ((try conv => whnf); first | (refine ccA ([]) (c1) ?_) | (refine ccA ([]) (c2) ?_) | (refine ccA ([]) (c3) ?_) | (refine ccA ([]) (c4) ?_) | (refine And.intro (by kernel_rfl) ?_) | (refine stpQ ?_))
 repeat ((try conv => whnf); first | (refine stpQ ?_))
 refine z1C Nat (fun i => ⟨[(8, .ptr 1 0 0), (9, .ptr 2 0 0), (30, .sl 1 (strE ts)), (31, .int .i64 ((strE ts).length : Int)), (32, .int .i64 (i : Int))],
  [(1, some (.box [.int .i64 0, .int .i64 0, .bool false, .val nilV, .val nilV, .val nilV, .val nilV, .int .i64 0, .bool false, .val nilV, .val nilV])), (2, some (cvBD ho k (cvA ho (ts.take i)) 3 4 5 6 7 8)), (3, some (.row 3 (flE fs))), (4, some (.row 1 (strE po))), (5, some (.deep 8 (sdE (cvA ho (ts.take i)).se) [])), (6, some (.row 1 (ntE (cvA ho (ts.take i)).tr))), (7, some (.row 1 (List.replicate pk [.str []]))), (8, some (.row 1 (List.replicate pk [.bool false])))], 9⟩) (fun i => i ≤ ts.length) (fun i => ts.length - i) 0 (by omega) ?_ ?_
 ·(refine z02 (by rfl) ?_ ?_)
  all_goals (repeat' (first | (exact trivial) | ((try conv => whnf); first | (exact trivial) | (refine And.intro ?_ ?_))))
  all_goals first
   | rfl
   | (rw [hpk]; rfl)
   | decide
 ·intro Q1 hQ1 i hi
  by_cases hlt : i < ts.length
  ·have hlt2 : (i : Int) < ((strE ts).length : Int) := by omega
   have hnx := z6w ho hlt
   have g : z4b ho (cvA ho (ts.take i)) := z8y ho _
   have hmem := hfacts.1 _ (List.getElem_mem hlt)
   have gt := z67 (ps := ts) hlt
   generalize ts[i] = t at hnx hmem gt
   obtain ⟨b, r, rfl⟩ : ∃ b r, t = b :: r := by
    cases t with
    | nil => simp at hmem
    | cons b r => exact ⟨b, r, rfl⟩
   have hr : r.length ≤ 9000 := by have := hmem.2; simp at this; omega
   generalize cvA ho (ts.take i) = s at hnx g ⊢
   have cA := zbf ho k fs po (List.replicate pk [.str []]) (List.replicate pk [.bool false]) s g b r hr
   have hs' : z4j ho s (b :: r) = ckDo s (ckA ho s (b :: r)) := rfl
   rw [hs'] at hnx
   generalize ckA ho s (b :: r) = rk at cA hnx
   clear hs' g hfacts hmem
   cases rk with
   | no =>
     unfold cvHD cvBD at cA
     unfold cvBD
     repeat ((try conv => whnf); first | (refine i_at gt ?_) | (refine z0N ([2, 3, 4, 5, 6, 7, 8]) (cA) (by ((repeat' (first | (exact trivial) | (exact rfl) | (decide) | (refine And.intro ?_ ?_))); first | done | fail)) (by ((repeat' (first | (exact trivial) | (exact rfl) | (decide) | (refine And.intro ?_ ?_))); first | done | fail)) (by decide) (by rfl) (by first | exact .inl rfl | (refine .inr ⟨by simp [own2, own1, own0], fun e he => ?_⟩; simp only [List.mem_cons, List.not_mem_nil, or_false] at he <;> first | exact he.elim | (subst he; (first | exact z0f | exact z0e | exact z0h _ | exact z0d _)) | (rcases he with rfl | rfl <;> (first | exact z0f | exact z0e | exact z0h _ | exact z0d _)) | (rcases he with rfl | rfl | rfl <;> (first | exact z0f | exact z0e | exact z0h _ | exact z0d _)))) ?_) | (refine ccB ([2, 3, 4, 5, 6, 7, 8]) (cA) ?_) | (refine stpQ ?_))
     refine ⟨i + 1, by omega, by omega, ?_⟩
     rw [hnx]
     (refine z02 (by rfl) ?_ ?_) <;> (repeat' (first | (exact eqA) | (refine And.intro ?_ ?_) | ((fail_if_success (with_reducible (show _ = _))); (show _ = _))))
     all_goals rfl
   | beg n =>
     unfold cvHD cvBD at cA
     unfold cvBD
     repeat ((try conv => whnf); first | (refine i_at gt ?_) | (refine z0N ([2, 3, 4, 5, 6, 7, 8]) (cA) (by ((repeat' (first | (exact trivial) | (exact rfl) | (decide) | (refine And.intro ?_ ?_))); first | done | fail)) (by ((repeat' (first | (exact trivial) | (exact rfl) | (decide) | (refine And.intro ?_ ?_))); first | done | fail)) (by decide) (by rfl) (by first | exact .inl rfl | (refine .inr ⟨by simp [own2, own1, own0], fun e he => ?_⟩; simp only [List.mem_cons, List.not_mem_nil, or_false] at he <;> first | exact he.elim | (subst he; (first | exact z0f | exact z0e | exact z0h _ | exact z0d _)) | (rcases he with rfl | rfl <;> (first | exact z0f | exact z0e | exact z0h _ | exact z0d _)) | (rcases he with rfl | rfl | rfl <;> (first | exact z0f | exact z0e | exact z0h _ | exact z0d _)))) ?_) | (refine ccB ([2, 3, 4, 5, 6, 7, 8]) (cA) ?_) | (refine stpQ ?_))
     refine ⟨i + 1, by omega, by omega, ?_⟩
     rw [hnx]
     (refine z02 (by rfl) ?_ ?_) <;> (repeat' (first | (exact eqA) | (refine And.intro ?_ ?_) | ((fail_if_success (with_reducible (show _ = _))); (show _ = _))))
     all_goals rfl
   | clo h g =>
     unfold cvHD cvBD at cA
     unfold cvBD
     repeat ((try conv => whnf); first | (refine i_at gt ?_) | (refine z0N ([2, 3, 4, 5, 6, 7, 8]) (cA) (by ((repeat' (first | (exact trivial) | (exact rfl) | (decide) | (refine And.intro ?_ ?_))); first | done | fail)) (by ((repeat' (first | (exact trivial) | (exact rfl) | (decide) | (refine And.intro ?_ ?_))); first | done | fail)) (by decide) (by rfl) (by first | exact .inl rfl | (refine .inr ⟨by simp [own2, own1, own0], fun e he => ?_⟩; simp only [List.mem_cons, List.not_mem_nil, or_false] at he <;> first | exact he.elim | (subst he; (first | exact z0f | exact z0e | exact z0h _ | exact z0d _)) | (rcases he with rfl | rfl <;> (first | exact z0f | exact z0e | exact z0h _ | exact z0d _)) | (rcases he with rfl | rfl | rfl <;> (first | exact z0f | exact z0e | exact z0h _ | exact z0d _)))) ?_) | (refine ccB ([2, 3, 4, 5, 6, 7, 8]) (cA) ?_) | (refine stpQ ?_))
     refine ⟨i + 1, by omega, by omega, ?_⟩
     rw [hnx]
     (refine z02 (by rfl) ?_ ?_) <;> (repeat' (first | (exact eqA) | (refine And.intro ?_ ?_) | ((fail_if_success (with_reducible (show _ = _))); (show _ = _))))
     all_goals rfl
  ·have hie : i = ts.length := by omega
   subst hie
   rw [List.take_length]
   unfold cvBD
   repeat ((try conv => whnf); first | (refine stpQ ?_))
   refine hQ1 _ _ ?_
   repeat ((try conv => whnf); first | (refine And.intro (by kernel_rfl) ?_) | (refine stpQ ?_))
   (refine z00 (by rfl) ?_ ?_ (by rfl)) <;> (repeat' (first | (exact eqA) | (refine And.intro ?_ ?_) | ((fail_if_success (with_reducible (show _ = _))); (show _ = _)))) <;> first | rfl | exact CvE.refl (zhw _) | exact CvE.refl (zhx _) | exact CvE.refl (zc9 _) | exact CvE.refl (zhy _) | exact CvE.refl (zhz _)
theorem zbi (ho : Int) (k : Int) (hk : ¬ isHo k) (fs : List Fl) (hf : z2T fs) :
 CT Tryz.prog 16 [] [.int .i64 ho, .int .i64 k, .agg [.sl 3 (flE fs)]] (.agg [.int .i64 ho, .int .i64 k, .bool true, .ref 1, .ref 2, .ref 3, .ref 4, .int .i64 ((cvA ho (z0i fs z0g)).ty : Int), .bool false, .ref 5, .ref 6]) [.deep 3 (flE fs) [], .deep 1 (strE (z1c (z1x ho) 16)) [], .deep 8 (sdE (cvA ho (z0i fs z0g)).se) [], .deep 1 (ntE (cvA ho (z0i fs z0g)).tr) [], .deep 1 (emV 0) [], .deep 1 (emD 0) []] := by
 have c1 := zbg ho
 have c2 := zhu (z1x ho) (z5p ho)
 have c3 := zbh ho k hk fs hf (z1c (z1x ho) 16) (by rw [z1D]; omega)
 generalize z1c (z1x ho) 16 = P at c2 c3 ⊢
 generalize z1x ho = S at c1 c2
 refine z01 z03 1 rfl Tryz.func16 rfl rfl rfl ?_
 repeat ((try conv => whnf); first | (refine ccA ([]) (c1) ?_) | (refine ccA ([]) (c2) ?_) | (refine ccA ([]) (c3) ?_) | (refine And.intro (by kernel_rfl) ?_) | (refine stpQ ?_))
 (refine z00 (by rfl) ?_ ?_ (by rfl)) <;> (repeat' (first | (exact eqA) | (refine And.intro ?_ ?_) | ((fail_if_success (with_reducible (show _ = _))); (show _ = _)))) <;> first | rfl | exact CvE.refl (zc9 _)
end Go.Proofs.YtnhcfmmdaihneaaGreatDoor
