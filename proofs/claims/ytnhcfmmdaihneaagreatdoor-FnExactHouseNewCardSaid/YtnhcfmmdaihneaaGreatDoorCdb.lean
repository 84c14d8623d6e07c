/- Functions by content: a coordinator takes a record; its rows are told as rows that may be moved. -/
import Derived.Test.YtnhcfmmdaihneaaGreatDoorCi
import Derived.Test.YtnhcfmmdaihneaaGreatDoorSzd
import Derived.Test.YtnhcfmmdaihneaaGreatDoorCda
namespace Go.Proofs.YtnhcfmmdaihneaaGreatDoor
set_option linter.unusedVariables false
set_option linter.unusedSimpArgs false
set_option linter.unusedSectionVars false
open Go.RowKit Pl
attribute [local irreducible] z0w z0x z0A AnsP LeP CvE
theorem zhw (l : List Fl) : ∀ e ∈ flE l, ∀ c ∈ e, cl0 c := fun e he c hc => by
 simp only [flE, List.mem_map] at he
 obtain ⟨x, _, rfl⟩ := he
 simp only [List.mem_cons, List.not_mem_nil, or_false] at hc
 rcases hc with rfl | rfl | rfl <;> trivial
theorem zhx (l : List Nat) : ∀ e ∈ ntE l, ∀ c ∈ e, cl0 c := fun e he c hc => by
 simp only [ntE, List.mem_map] at he
 obtain ⟨x, _, rfl⟩ := he
 simp only [List.mem_singleton] at hc
 subst hc; trivial
theorem z4G (l : List Fl) (h : (l.length : Int) ≤ 100000000) : CT Tryz.prog 134 [] [.agg [.sl 3 (flE l)]] (.agg [.ref 1]) [.row 3 (flE l)] := by
 have hl := z3c l
 refine z01 z03 1 rfl Tryz.func134 rfl rfl rfl ?_
 repeat ((try conv => whnf); first | (refine And.intro (by simp only [List.length_append, List.length_cons, List.length_nil, List.nil_append, List.length_replicate]; omega) ?_) | (refine And.intro (by kernel_rfl) ?_) | (refine stpQ ?_))
 (refine z00 (by rfl) ?_ ?_ (by rfl)) <;> (repeat' (first | (exact eqA) | (refine And.intro ?_ ?_) | ((fail_if_success (with_reducible (show _ = _))); (show _ = _))))
def cvBD (ho K : Int) (s : Cv) (f p a b c d : Nat) : Ent := .box [.int .i64 ho, .int .i64 K, .bool true, .ref f, .ref p, .ref a, .ref b, .int .i64 (s.ty : Int), .bool false, .ref c, .ref d]
def cvHD (ho K : Int) (fs : List Fl) (po : List Bs) (V D : List (List T)) (s : Cv) : Ck → List Ent
 | .no => [cvBD ho K s 2 3 4 5 6 7, .row 3 (flE fs), .row 1 (strE po), .deep 8 (sdE s.se) [], .row 1 (ntE s.tr), .row 1 V, .row 1 D]
 | .beg n => [cvBD ho K { s with ty := n } 2 3 4 5 6 7, .row 3 (flE fs), .row 1 (strE po), .deep 8 (sdE s.se) [], .row 1 (ntE s.tr), .row 1 V, .row 1 D]
 | .clo h g => [cvBD ho K { s with se := s.se ++ [(h, g)], tr := s.tr ++ [s.ty] } 2 3 8 9 6 7, .row 3 (flE fs), .row 1 (strE po), .row 0 [], .row 0 [], .row 1 V, .row 1 D, .deep 8 (sdE (s.se ++ [(h, g)])) [], .row 1 (ntE (s.tr ++ [s.ty]))]
set_option maxRecDepth 100000 in
set_option maxHeartbeats 8000000 in
theorem zaY (ho : Nat) (hho : ho ≤ 2) (K : Int) (fs : List Fl) (po : List Bs) (V D : List (List T)) (s : Cv) (ok : CvOk ho s) (b : UInt8) (r : Bs) (hr : r.length ≤ 9000) :
 CT Tryz.prog 137 (cvHD (ho : Int) K fs po V D s .no) [.ptr 1 0 0, .str (b :: r)] (.tup []) (cvHD (ho : Int) K fs po V D s (ckOf ho s (b :: r))) := by
 have hl : (b :: r).length = r.length + 1 := rfl
 have h0 : 0 < (b :: r).length := by simp
 have hbl := b.toNat_lt
 have hsl := zh1 ok
 have hty := ok.ty
 have htl := ok.tl
 have c1 := zgl (b :: r) 1 false (by omega) (by omega)
 have l1 := z2d (t := b :: r) (p := 1) (bad := false) (by omega)
 by_cases k1 : b.toNat = 1
 ·have k1' : ((b.toNat : Nat) : Int) = 1 := by omega
  rw [ckOf, if_pos k1]
  unfold num1
  generalize z0W (b :: r) 1 false = A at c1 l1 ⊢
  obtain ⟨n, p, bd⟩ := A
  simp only at c1 l1 ⊢
  have c2 := z58 (b :: r) p bd
  rw [hl] at c2
  by_cases hd : z19 bd p (r.length + 1) = true
  ·rw [hd] at c2
   by_cases hc : s.ty < n ∧ n ≤ 1000
   ·rw [if_pos ⟨hd, hc⟩]
    have h1' : (n : Int) > (s.ty : Int) := by omega
    have h2' : (n : Int) ≤ 1000 := by omega
    unfold cvHD cvBD fldB at *
    refine z01 z03 8 rfl Tryz.func137 rfl rfl rfl ?_
    repeat ((try conv => whnf); first | (refine ccB ([_]) (c1) ?_) | (refine Exists.intro 0 (And.intro rfl (And.intro h0 ?_))) | (refine z0o k1' ?_) | (refine ccB ([_]) (c2) ?_) | (refine And.intro (by kernel_rfl) ?_) | (refine stpQ ?_))
    (refine z00 (by rfl) ?_ ?_ (by rfl)) <;> (repeat' (first | (exact eqA) | (refine And.intro ?_ ?_) | ((fail_if_success (with_reducible (show _ = _))); (show _ = _))))
   ·rw [if_neg (fun h => hc h.2)]
    unfold cvHD cvBD fldB at *
    by_cases h1' : (n : Int) > (s.ty : Int)
    ·have h2' : ¬ (n : Int) ≤ 1000 := by omega
     refine z01 z03 8 rfl Tryz.func137 rfl rfl rfl ?_
     repeat ((try conv => whnf); first | (refine ccB ([_]) (c1) ?_) | (refine Exists.intro 0 (And.intro rfl (And.intro h0 ?_))) | (refine z0o k1' ?_) | (refine ccB ([_]) (c2) ?_) | (refine And.intro (by kernel_rfl) ?_) | (refine stpQ ?_))
     (refine z00 (by rfl) ?_ ?_ (by rfl)) <;> (repeat' (first | (exact eqA) | (refine And.intro ?_ ?_) | ((fail_if_success (with_reducible (show _ = _))); (show _ = _))))
    ·refine z01 z03 8 rfl Tryz.func137 rfl rfl rfl ?_
     repeat ((try conv => whnf); first | (refine ccB ([_]) (c1) ?_) | (refine Exists.intro 0 (And.intro rfl (And.intro h0 ?_))) | (refine z0o k1' ?_) | (refine ccB ([_]) (c2) ?_) | (refine And.intro (by kernel_rfl) ?_) | (refine stpQ ?_))
     (refine z00 (by rfl) ?_ ?_ (by rfl)) <;> (repeat' (first | (exact eqA) | (refine And.intro ?_ ?_) | ((fail_if_success (with_reducible (show _ = _))); (show _ = _))))
  ·rw [if_neg (fun h => hd h.1)]
   have hd' : z19 bd p (r.length + 1) = false := by simpa using hd
   rw [hd'] at c2
   unfold cvHD cvBD fldB at *
   refine z01 z03 8 rfl Tryz.func137 rfl rfl rfl ?_
   repeat ((try conv => whnf); first | (refine ccB ([_]) (c1) ?_) | (refine Exists.intro 0 (And.intro rfl (And.intro h0 ?_))) | (refine z0o k1' ?_) | (refine ccB ([_]) (c2) ?_) | (refine And.intro (by kernel_rfl) ?_) | (refine stpQ ?_))
   (refine z00 (by rfl) ?_ ?_ (by rfl)) <;> (repeat' (first | (exact eqA) | (refine And.intro ?_ ?_) | ((fail_if_success (with_reducible (show _ = _))); (show _ = _))))
 ·rw [ckOf, if_neg k1]
  have k1' : ¬ ((b.toNat : Nat) : Int) = 1 := by omega
  by_cases k2 : b.toNat = 2
  ·rw [if_pos k2]
   have k2' : ((b.toNat : Nat) : Int) = 2 := by omega
   unfold num1
   generalize hA : z0W (b :: r) 1 false = A at c1 l1 ⊢
   obtain ⟨n, p, bd⟩ := A
   simp only at c1 l1 ⊢
   have no : (bd = false → z1Q ((b :: r).drop p) = none) → CT Tryz.prog 137 (cvHD (ho : Int) K fs po V D s .no) [.ptr 1 0 0, .str (b :: r)] (.tup []) (cvHD (ho : Int) K fs po V D s .no) := fun hn => by
    obtain ⟨xh, xe, xr, xp, xa, xo, xs, xi, q, bd', hdn, c2⟩ := zh8 (b :: r) p bd (by omega) l1.1 hn
    have c3 := z58 (b :: r) q bd'
    rw [hdn] at c3
    clear hdn hn hA
    unfold cvHD cvBD fldB z1u z1Z at *
    refine z01 z03 8 rfl Tryz.func137 rfl rfl rfl ?_
    repeat ((try conv => whnf); first | (refine ccB ([_]) (c1) ?_) | (refine Exists.intro 0 (And.intro rfl (And.intro h0 ?_))) | (refine z0j k1' ?_) | (refine z0o k2' ?_) | (refine ccB ([_]) (c2) ?_) | (refine ccB ([_]) (c3) ?_) | (refine And.intro (by kernel_rfl) ?_) | (refine stpQ ?_))
    (refine z00 (by rfl) ?_ ?_ (by rfl)) <;> (repeat' (first | (exact eqA) | (refine And.intro ?_ ?_) | ((fail_if_success (with_reducible (show _ = _))); (show _ = _))))
   cases bd with
   | true => rw [if_pos rfl]; exact no (fun h => by cases h)
   | false =>
     rw [if_neg (by decide)]
     cases hs : z1Q ((b :: r).drop p) with
     | none => exact no (fun _ => hs)
     | some y =>
       obtain ⟨h, g⟩ := y
       clear no
       obtain ⟨g1, g2, e⟩ := z2E.1 hs
       have c2 := zdT (b :: r) p h g g1 g2 (by omega) l1.1 e
       have c3 := z58 (b :: r) (b :: r).length false
       rw [show z19 false (b :: r).length (b :: r).length = true by simp [z19]] at c3
       have c4 := z8w s.se (by omega)
       have c5 := zeV ho hho (cHds s) ok.ch h.ro
       have hro := g1.2.2.2.1
       have hc2 : (cHds s).length = s.se.length := zdK s
       simp only
       show CT _ _ _ _ _ (cvHD (ho : Int) K fs po V D s (if n = s.ty ∧ n ≠ 0 ∧ h = z1N ho (cHds s) h.ro ∧ (cHds s).length < 4 then .clo h g else .no))
       change CT _ _ _ _ (.ref 1) [.row 4 (hdsE (cHds s))] at c4
       have hZo : ownE (.row 4 (hdsE (cHds s))) := zdO _
       have hlt : ((b :: r).length : Nat) = r.length + 1 := rfl
       unfold fldB at c1 c2 c3
       by_cases q1 : n = s.ty
       ·by_cases q2 : n = 0
        ·rw [if_neg (fun c => c.2.1 q2)]
         have q2' : (n : Int) = 0 := by omega
         have q1' : (n : Int) = (s.ty : Int) := by omega
         clear c5 c4
         obtain ⟨ho', ep, ro, pr⟩ := h
         obtain ⟨a, op, sh, si⟩ := g
         dsimp only at c2
         unfold cvHD cvBD
         refine z01 z03 8 rfl Tryz.func137 rfl rfl rfl ?_
         repeat ((try conv => whnf); first | (refine ccB ([_]) (c1) ?_) | (refine Exists.intro 0 (And.intro rfl (And.intro h0 ?_))) | (refine z0j k1' ?_) | (refine z0o k2' ?_) | (refine ccB ([_]) (c2) ?_) | (refine ccB ([_]) (c3) ?_) | (refine z0S q1' ?_) | (refine z0o q2' ?_) | (refine And.intro (by kernel_rfl) ?_) | (refine stpQ ?_))
         (refine z00 (by rfl) ?_ ?_ (by rfl)) <;> (repeat' (first | (exact eqA) | (refine And.intro ?_ ?_) | ((fail_if_success (with_reducible (show _ = _))); (show _ = _))))
        ·have q2' : ¬ (n : Int) = 0 := by omega
         have q1' : (n : Int) = (s.ty : Int) := by omega
         by_cases q3 : h = z1N ho (cHds s) h.ro ∧ (cHds s).length < 4
         ·rw [if_pos ⟨q1, q2, q3⟩]
          unfold nhR at c5
          rw [if_pos ⟨q3.2, hro⟩, ← q3.1] at c5
          clear q3
          obtain ⟨ho', ep, ro, pr⟩ := h
          obtain ⟨a, op, sh, si⟩ := g
          have hq := z7w (ho' : Int) (ep : Int) ro pr
          simp only at c5 hro
          dsimp only at c2
          unfold hdE at c5
          subst q1
          have hnl : (sdE s.se).length = s.se.length := zhd _
          have hnt : (ntE s.tr).length = s.tr.length := by simp [ntE]
          have happ := zl5 s.se (⟨ho', ep, ro, pr⟩, ⟨a, op, sh, si⟩)
          have happ2 : ntE (s.tr ++ [s.ty]) = ntE s.tr ++ [[.int .i64 (s.ty : Int)]] := by simp [ntE]
          unfold cvHD cvBD
          dsimp only
          rw [happ, happ2]
          unfold sdC
          dsimp only
          generalize hdsE (cHds s) = Z at c4 c5 hZo
          refine z01 z03 8 rfl Tryz.func137 rfl rfl rfl ?_
          repeat ((try conv => whnf); first | (refine ccB ([_]) (c1) ?_) | (refine Exists.intro 0 (And.intro rfl (And.intro h0 ?_))) | (refine z0j k1' ?_) | (refine z0o k2' ?_) | (refine ccB ([_]) (c2) ?_) | (refine ccB ([_]) (c3) ?_) | (refine z0S q1' ?_) | (refine z0j q2' ?_) | (refine z0N ([]) (c4) (by ((repeat' (first | (exact trivial) | (exact rfl) | (refine And.intro ?_ ?_))); first | done | fail)) (by ((repeat' (first | (exact trivial) | (exact rfl) | (refine And.intro ?_ ?_))); first | done | fail)) (by decide) (by rfl) (by first | exact .inl rfl | (refine .inr ⟨by simp [own2, own1, own0], fun e he => ?_⟩; simp only [List.mem_cons, List.not_mem_nil, or_false] at he <;> first | exact he.elim | (subst he; exact hZo) | (rcases he with rfl | rfl <;> exact hZo))) ?_) | (refine ccA ([]) (c5) ?_) | (refine cb_t hq ?_) | (refine And.intro (by simp only [List.length_append, List.length_cons, List.length_nil, List.length_set, List.length_replicate]; omega) ?_) | (refine And.intro (by kernel_rfl) ?_) | (refine stpQ ?_))
          (refine z00 (by rfl) ?_ ?_ (by rfl)) <;> (repeat' (first | (exact eqA) | (refine And.intro ?_ ?_) | ((fail_if_success (with_reducible (show _ = _))); (show _ = _))))
          all_goals rfl
         ·rw [if_neg (fun c => q3 c.2.2)]
          by_cases q4 : (cHds s).length < 4
          ·have q5 : ¬ z1N ho (cHds s) h.ro = h := fun e => q3 ⟨e.symm, q4⟩
           unfold nhR at c5
           rw [if_pos ⟨q4, hro⟩] at c5
           have hq : eqC (hdE (z1N ho (cHds s) h.ro)) (hdE h) = false := by rw [zha, decide_eq_false q5]
           clear q3 q5
           generalize z1N ho (cHds s) h.ro = y at c5 hq
           obtain ⟨yh, ye, yr, yp⟩ := y
           obtain ⟨ho', ep, ro, pr⟩ := h
           obtain ⟨a, op, sh, si⟩ := g
           simp only at c5 hro
           dsimp only at c2
           unfold hdE at c5 hq
           unfold cvHD cvBD
           generalize hdsE (cHds s) = Z at c4 c5 hZo
           refine z01 z03 8 rfl Tryz.func137 rfl rfl rfl ?_
           repeat ((try conv => whnf); first | (refine ccB ([_]) (c1) ?_) | (refine Exists.intro 0 (And.intro rfl (And.intro h0 ?_))) | (refine z0j k1' ?_) | (refine z0o k2' ?_) | (refine ccB ([_]) (c2) ?_) | (refine ccB ([_]) (c3) ?_) | (refine z0S q1' ?_) | (refine z0j q2' ?_) | (refine z0N ([]) (c4) (by ((repeat' (first | (exact trivial) | (exact rfl) | (refine And.intro ?_ ?_))); first | done | fail)) (by ((repeat' (first | (exact trivial) | (exact rfl) | (refine And.intro ?_ ?_))); first | done | fail)) (by decide) (by rfl) (by first | exact .inl rfl | (refine .inr ⟨by simp [own2, own1, own0], fun e he => ?_⟩; simp only [List.mem_cons, List.not_mem_nil, or_false] at he <;> first | exact he.elim | (subst he; exact hZo) | (rcases he with rfl | rfl <;> exact hZo))) ?_) | (refine ccA ([]) (c5) ?_) | (refine cb_f hq ?_) | (refine And.intro (by kernel_rfl) ?_) | (refine stpQ ?_))
           (refine z00 (by rfl) ?_ ?_ (by rfl)) <;> (repeat' (first | (exact eqA) | (refine And.intro ?_ ?_) | ((fail_if_success (with_reducible (show _ = _))); (show _ = _))))
          ·unfold nhR at c5
           rw [if_neg (fun c => q4 c.1)] at c5
           clear q3
           obtain ⟨ho', ep, ro, pr⟩ := h
           obtain ⟨a, op, sh, si⟩ := g
           simp only at c5 hro
           unfold z1u at c5
           dsimp only at c2
           unfold cvHD cvBD
           generalize hdsE (cHds s) = Z at c4 c5 hZo
           refine z01 z03 8 rfl Tryz.func137 rfl rfl rfl ?_
           repeat ((try conv => whnf); first | (refine ccB ([_]) (c1) ?_) | (refine Exists.intro 0 (And.intro rfl (And.intro h0 ?_))) | (refine z0j k1' ?_) | (refine z0o k2' ?_) | (refine ccB ([_]) (c2) ?_) | (refine ccB ([_]) (c3) ?_) | (refine z0S q1' ?_) | (refine z0j q2' ?_) | (refine z0N ([]) (c4) (by ((repeat' (first | (exact trivial) | (exact rfl) | (refine And.intro ?_ ?_))); first | done | fail)) (by ((repeat' (first | (exact trivial) | (exact rfl) | (refine And.intro ?_ ?_))); first | done | fail)) (by decide) (by rfl) (by first | exact .inl rfl | (refine .inr ⟨by simp [own2, own1, own0], fun e he => ?_⟩; simp only [List.mem_cons, List.not_mem_nil, or_false] at he <;> first | exact he.elim | (subst he; exact hZo) | (rcases he with rfl | rfl <;> exact hZo))) ?_) | (refine ccA ([]) (c5) ?_) | (refine And.intro (by kernel_rfl) ?_) | (refine stpQ ?_))
           (refine z00 (by rfl) ?_ ?_ (by rfl)) <;> (repeat' (first | (exact eqA) | (refine And.intro ?_ ?_) | ((fail_if_success (with_reducible (show _ = _))); (show _ = _))))
       ·rw [if_neg (fun c => q1 c.1)]
        have q1' : ¬ (n : Int) = (s.ty : Int) := by omega
        clear c5 c4
        obtain ⟨ho', ep, ro, pr⟩ := h
        obtain ⟨a, op, sh, si⟩ := g
        dsimp only at c2
        unfold cvHD cvBD
        refine z01 z03 8 rfl Tryz.func137 rfl rfl rfl ?_
        repeat ((try conv => whnf); first | (refine ccB ([_]) (c1) ?_) | (refine Exists.intro 0 (And.intro rfl (And.intro h0 ?_))) | (refine z0j k1' ?_) | (refine z0o k2' ?_) | (refine ccB ([_]) (c2) ?_) | (refine ccB ([_]) (c3) ?_) | (refine z4Z q1' ?_) | (refine And.intro (by kernel_rfl) ?_) | (refine stpQ ?_))
        (refine z00 (by rfl) ?_ ?_ (by rfl)) <;> (repeat' (first | (exact eqA) | (refine And.intro ?_ ?_) | ((fail_if_success (with_reducible (show _ = _))); (show _ = _))))
  ·rw [if_neg k2]
   have k2' : ¬ ((b.toNat : Nat) : Int) = 2 := by omega
   generalize z0W (b :: r) 1 false = A at c1 l1
   obtain ⟨n, p, bd⟩ := A
   simp only at c1 l1
   unfold cvHD cvBD
   unfold fldB at c1
   refine z01 z03 8 rfl Tryz.func137 rfl rfl rfl ?_
   repeat ((try conv => whnf); first | (refine ccB ([_]) (c1) ?_) | (refine Exists.intro 0 (And.intro rfl (And.intro h0 ?_))) | (refine z0j k1' ?_) | (refine z0j k2' ?_) | (refine And.intro (by kernel_rfl) ?_) | (refine stpQ ?_))
   (refine z00 (by rfl) ?_ ?_ (by rfl)) <;> (repeat' (first | (exact eqA) | (refine And.intro ?_ ?_) | ((fail_if_success (with_reducible (show _ = _))); (show _ = _))))
end Go.Proofs.YtnhcfmmdaihneaaGreatDoor
