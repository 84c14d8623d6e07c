/- Functions by content: signatures, seals compared with themselves. Functions by content: the laws compare a coordinator with itself. Functions by content: a coordinator in order is told so by the program, and its newest seal is right. -/
import Derived.Test.YtkjjacndfieeoaaGreatDoorTt
import Derived.Test.YtkjjacndfieeoaaGreatDoorPs
import Derived.Test.YtkjjacndfieeoaaGreatDoorLab
import Derived.Test.YtkjjacndfieeoaaGreatDoorCdw
import Derived.Test.YtkjjacndfieeoaaGreatDoorCbx
import Derived.Test.YtkjjacndfieeoaaGreatDoorCuv
namespace Go.Proofs.YtkjjacndfieeoaaGreatDoor
set_option maxRecDepth 100000
set_option maxHeartbeats 2000000
set_option linter.unusedVariables false
set_option linter.unusedSimpArgs false
set_option linter.unusedSectionVars false
open Go.RowKit Pl
attribute [local irreducible] z0m z0n z0q AnsP LeP
theorem ziQ (h : Hd) : eqC (hdE h) (hdE h) = true := by simp [eqC, hdE]
theorem z5t (l : List Bs) (hl : l.length ≤ 1000000) : CT Tryz.prog 45 [] [.sl 1 (strE l), .sl 1 (strE l)] (.bool true) [] := by
 have := zaU l l (by omega) (by omega)
 rwa [decide_eq_true rfl] at this
theorem c_lSig (s : Sg) (g : s.good) : CT Tryz.prog 70 [] [.agg (sgE s), .agg (sgE s)] (.bool true) [] := by
 obtain ⟨a, op, sh, si⟩ := s
 obtain ⟨h1, ⟨h2, h3⟩, ⟨h4, h5⟩, h6, h7⟩ := g
 simp only at h1 h2 h3 h4 h5 h6 h7
 have c1 := z5t op (by omega)
 have c2 := z5t sh (by omega)
 have c3 := z5t si (by omega)
 refine z01 z16 1 rfl Tryz.func70 rfl rfl rfl ?_
 repeat ((try conv => whnf); first | (refine z0k rfl ?_) | (refine ccA ([]) (c1) ?_) | (refine ccA ([]) (c2) ?_) | (refine ccA ([]) (c3) ?_) | (refine And.intro (by kernel_rfl) ?_) | (refine stpQ ?_))
 (refine z00 (by rfl) ?_ ?_ (by rfl)) <;> (repeat' (first | (exact eqA) | (refine And.intro ?_ ?_) | ((fail_if_success (with_reducible (show _ = _))); (show _ = _))))
theorem ziR (h : Hd) (s : Sg) (g : s.good) : CT Tryz.prog 34 [] [.agg (hdE h ++ sgE s), .agg (hdE h ++ sgE s)] (.bool true) [] := by
 have c1 := c_lSig s g
 obtain ⟨a, op, sh, si⟩ := s
 obtain ⟨ho, ep, ro, pr⟩ := h
 refine z01 z16 1 rfl Tryz.func34 rfl rfl rfl ?_
 repeat ((try conv => whnf); first | (refine cb_t (ziQ ⟨ho, ep, ro, pr⟩) ?_) | (refine ccA ([]) (c1) ?_) | (refine And.intro (by kernel_rfl) ?_) | (refine stpQ ?_))
 (refine z00 (by rfl) ?_ ?_ (by rfl)) <;> (repeat' (first | (exact eqA) | (refine And.intro ?_ ?_) | ((fail_if_success (with_reducible (show _ = _))); (show _ = _))))
end Go.Proofs.YtkjjacndfieeoaaGreatDoor
namespace Go.Proofs.YtkjjacndfieeoaaGreatDoor
set_option maxRecDepth 100000
set_option maxHeartbeats 8000000
set_option linter.unusedVariables false
set_option linter.unusedSimpArgs false
set_option linter.unusedSectionVars false
open Go.RowKit Pl
section
attribute [local irreducible] z0m z0n z0q AnsP LeP W CvE
theorem zcE (l : List (Hd × Sg)) (h : l.length ≤ 10000) (hg : ∀ x ∈ l, x.2.good) : CT Tryz.prog 11 [] [.sl 8 (slE l), .sl 8 (slE l)] (.bool true) [] := by
 have hl := z0B l
 have f0 : ((l.length : Nat) : Int) = ((l.length : Nat) : Int) := rfl
 refine z01 z0f 1 rfl Tryz.func11 rfl rfl rfl ?_
 conv => arg 6; whnf
 repeat ((try conv => whnf); first | (with_reducible first | refine z0c (fun Qs hN hE hR => ?_) | refine z0a ?_ | refine z03 (fun Qb kN kE kX kR => ?_) | refine z06 ?_ | refine z07 ?_ | refine z0b ?_ | refine z08 ?_ | refine z09 ?_ | (show W _ _ _ (.cond _ _ _) _ _; refine z05 rfl ?_) | (refine hN _ ?_; try clear hN hE hR Qs; (try (conv => arg 6; dsimp only [ovl, List.set, List.map, ren0]))) | ((first | refine hE _ _ ?_ | refine hR _ ?_); try clear hN hE hR Qs) | ((first | refine kN _ ?_ | refine kE _ ?_ | refine kX _ _ rfl ?_ | refine kR _ ?_); try clear kN kE kX kR Qb)) | (refine Exists.intro l.length (And.intro hl ?_)) | (refine z0F f0 ?_) | (refine And.intro (by kernel_rfl) ?_) | (refine stpQ ?_))
 refine z11 Nat (fun i => ⟨[(0, .sl 8 (slE l)), (1, .sl 8 (slE l)), (5, .int .i64 (i : Int))], [], 1⟩) (fun i => i ≤ l.length) (fun i => l.length - i) 0 (Nat.zero_le _) ?_ ?_
 ·(refine z02 (by rfl) ?_ ?_) <;> (repeat' (first | (exact eqA) | (refine And.intro ?_ ?_) | ((fail_if_success (with_reducible (show _ = _))); (show _ = _)))) <;> first | rfl | decide
 ·intro Q1 hQ1 i hi
  by_cases hlt : i < l.length
  ·have f1 : (i : Int) < ((l.length : Nat) : Int) := by omega
   have gi : (slE l)[i]? = some (hdE l[i].1 ++ sgE l[i].2) := by simp [slE, List.getElem?_eq_getElem hlt]
   have c1 := ziR l[i].1 l[i].2 (hg _ (List.getElem_mem hlt))
   generalize l[i] = x at *
   obtain ⟨hd, sg⟩ := x
   unfold hdE sgE at gi c1
   simp only [List.cons_append, List.nil_append] at gi c1
   repeat ((try conv => whnf); first | (with_reducible first | refine z0c (fun Qs hN hE hR => ?_) | refine z0a ?_ | refine z03 (fun Qb kN kE kX kR => ?_) | refine z06 ?_ | refine z07 ?_ | refine z0b ?_ | refine z08 ?_ | refine z09 ?_ | (show W _ _ _ (.cond _ _ _) _ _; refine z05 rfl ?_) | (refine hN _ ?_; try clear hN hE hR Qs; (try (conv => arg 6; dsimp only [ovl, List.set, List.map, ren0]))) | ((first | refine hE _ _ ?_ | refine hR _ ?_); try clear hN hE hR Qs) | ((first | refine kN _ ?_ | refine kE _ ?_ | refine kX _ _ rfl ?_ | refine kR _ ?_); try clear kN kE kX kR Qb)) | (refine Exists.intro l.length (And.intro hl ?_)) | (refine z0k f1 ?_) | (refine i_at gi ?_) | (refine ccA ([]) (c1) ?_) | (refine And.intro (by kernel_rfl) ?_) | (refine stpQ ?_))
   refine ⟨i + 1, hlt, by (try dsimp only); omega, ?_⟩
   (refine z02 (by rfl) ?_ ?_) <;> (repeat' (first | (exact eqA) | (refine And.intro ?_ ?_) | ((fail_if_success (with_reducible (show _ = _))); (show _ = _)))) <;> rfl
  ·obtain rfl : i = l.length := by omega
   have f1 : ¬ ((l.length : Nat) : Int) < ((l.length : Nat) : Int) := by omega
   repeat ((try conv => whnf); first | (with_reducible first | refine z0c (fun Qs hN hE hR => ?_) | refine z0a ?_ | refine z03 (fun Qb kN kE kX kR => ?_) | refine z06 ?_ | refine z07 ?_ | refine z0b ?_ | refine z08 ?_ | refine z09 ?_ | (show W _ _ _ (.cond _ _ _) _ _; refine z05 rfl ?_) | (refine hN _ ?_; try clear hN hE hR Qs; (try (conv => arg 6; dsimp only [ovl, List.set, List.map, ren0]))) | ((first | refine hE _ _ ?_ | refine hR _ ?_); try clear hN hE hR Qs) | ((first | refine kN _ ?_ | refine kE _ ?_ | refine kX _ _ rfl ?_ | refine kR _ ?_); try clear kN kE kX kR Qb)) | (refine Exists.intro l.length (And.intro hl ?_)) | (refine z0o f1 ?_) | (refine And.intro (by kernel_rfl) ?_) | (refine stpQ ?_))
   refine hQ1 _ _ ?_
   clear hQ1 Q1
   repeat ((try conv => whnf); first | (with_reducible first | refine z0c (fun Qs hN hE hR => ?_) | refine z0a ?_ | refine z03 (fun Qb kN kE kX kR => ?_) | refine z06 ?_ | refine z07 ?_ | refine z0b ?_ | refine z08 ?_ | refine z09 ?_ | (show W _ _ _ (.cond _ _ _) _ _; refine z05 rfl ?_) | (refine hN _ ?_; try clear hN hE hR Qs; (try (conv => arg 6; dsimp only [ovl, List.set, List.map, ren0]))) | ((first | refine hE _ _ ?_ | refine hR _ ?_); try clear hN hE hR Qs) | ((first | refine kN _ ?_ | refine kE _ ?_ | refine kX _ _ rfl ?_ | refine kR _ ?_); try clear kN kE kX kR Qb)) | (refine And.intro (by kernel_rfl) ?_) | (refine stpQ ?_))
   (refine z00 (by rfl) ?_ ?_ (by rfl)) <;> (repeat' (first | (exact eqA) | (refine And.intro ?_ ?_) | ((fail_if_success (with_reducible (show _ = _))); (show _ = _)))) <;> rfl
theorem zcF (ho K : Int) (po : List Bs) (c : Co) (hf : (dkOf coordN c.ts).length ≤ 1000) (hp : po.length ≤ 1000) (hs : c.s.se.length ≤ 1000) (hg : ∀ x ∈ c.s.se, x.2.good) (ht : c.s.tr.length ≤ 1000) (hv : c.vo.length ≤ 1000) (hd : c.dn.length ≤ 1000) : CT Tryz.prog 15 [] [.agg (coE ho K po c), .agg (coE ho K po c)] (.bool true) [] := by
 have c1 := zcE c.s.se (by omega) hg
 have c2 := ziL c.s.tr (by omega)
 have c3 := z5t c.vo (by omega)
 have c4 := ziM (dkOf coordN c.ts) (by omega)
 have hl := z1F c.dn
 have fh : ho = ho := rfl
 have fK : K = K := rfl
 have fy : (c.s.ty : Int) = (c.s.ty : Int) := rfl
 have fb : ((c.dn.length : Nat) : Int) = ((c.dn.length : Nat) : Int) := rfl
 have gd : ∀ i (hi : i < c.dn.length), (boE c.dn)[i]? = some [.bool c.dn[i]] := fun i hi => by simp [boE, List.getElem?_eq_getElem hi]
 clear hf hp hs hg ht hv
 unfold coE
 generalize dkOf coordN c.ts = d0 at *
 generalize slE c.s.se = SE at *
 generalize ntE c.s.tr = TR at *
 generalize strE po = PO at *
 generalize strE c.vo = VO at *
 generalize boE c.dn = DN at *
 generalize c.ask = ak at *
 generalize (c.s.ty : Int) = y at *
 generalize c.dn = l at *
 have fq : (!(decide (ak = ak))) = false := by simp
 refine z01 z0f 1 rfl Tryz.func15 rfl rfl rfl ?_
 conv => arg 6; whnf
 repeat ((try conv => whnf); first | (with_reducible first | refine z0c (fun Qs hN hE hR => ?_) | refine z0a ?_ | refine z03 (fun Qb kN kE kX kR => ?_) | refine z06 ?_ | refine z07 ?_ | refine z0b ?_ | refine z08 ?_ | refine z09 ?_ | (show W _ _ _ (.cond _ _ _) _ _; refine z05 rfl ?_) | (refine hN _ ?_; try clear hN hE hR Qs; (try (conv => arg 6; dsimp only [ovl, List.set, List.map, ren0]))) | ((first | refine hE _ _ ?_ | refine hR _ ?_); try clear hN hE hR Qs) | ((first | refine kN _ ?_ | refine kE _ ?_ | refine kX _ _ rfl ?_ | refine kR _ ?_); try clear kN kE kX kR Qb)) | (refine z0F fh ?_) | (refine z0F fK ?_) | (refine z0F fy ?_) | (refine cb_f fq ?_) | (refine ccA ([]) (c1) ?_) | (refine ccA ([]) (c2) ?_) | (refine ccA ([]) (c3) ?_) | (refine ccA ([]) (c4) ?_) | (refine Exists.intro l.length (And.intro hl ?_)) | (refine z0F fb ?_) | (refine And.intro (by kernel_rfl) ?_) | (refine stpQ ?_))
 refine z11 Nat (fun i => ⟨[(2, .ptr 1 0 0), (3, .ptr 2 0 0), (5, .int .i64 (i : Int))], [(1, some (.box [.int .i64 ho, .int .i64 K, .bool true, .sl 3 (flE d0), .sl 1 PO, .sl 8 SE, .sl 1 TR, .int .i64 y, .bool ak, .sl 1 VO, .sl 1 DN])), (2, some (.box [.int .i64 ho, .int .i64 K, .bool true, .sl 3 (flE d0), .sl 1 PO, .sl 8 SE, .sl 1 TR, .int .i64 y, .bool ak, .sl 1 VO, .sl 1 DN]))], 3⟩) (fun i => i ≤ l.length) (fun i => l.length - i) 0 (Nat.zero_le _) ?_ ?_
 ·(refine z02 (by rfl) ?_ ?_) <;> (repeat' (first | (exact eqA) | (refine And.intro ?_ ?_) | ((fail_if_success (with_reducible (show _ = _))); (show _ = _)))) <;> first | rfl | decide
 ·intro Q1 hQ1 i hi
  by_cases hlt : i < l.length
  ·have f1 : (i : Int) < ((l.length : Nat) : Int) := by omega
   have gi := gd i hlt
   generalize l[i] = x at *
   have fx : (!(decide (x = x))) = false := by simp
   repeat ((try conv => whnf); first | (with_reducible first | refine z0c (fun Qs hN hE hR => ?_) | refine z0a ?_ | refine z03 (fun Qb kN kE kX kR => ?_) | refine z06 ?_ | refine z07 ?_ | refine z0b ?_ | refine z08 ?_ | refine z09 ?_ | (show W _ _ _ (.cond _ _ _) _ _; refine z05 rfl ?_) | (refine hN _ ?_; try clear hN hE hR Qs; (try (conv => arg 6; dsimp only [ovl, List.set, List.map, ren0]))) | ((first | refine hE _ _ ?_ | refine hR _ ?_); try clear hN hE hR Qs) | ((first | refine kN _ ?_ | refine kE _ ?_ | refine kX _ _ rfl ?_ | refine kR _ ?_); try clear kN kE kX kR Qb)) | (refine Exists.intro l.length (And.intro hl ?_)) | (refine z0k f1 ?_) | (refine i_at gi ?_) | (refine cb_f fx ?_) | (refine And.intro (by kernel_rfl) ?_) | (refine stpQ ?_))
   refine ⟨i + 1, hlt, by (try dsimp only); omega, ?_⟩
   (refine z02 (by rfl) ?_ ?_) <;> (repeat' (first | (exact eqA) | (refine And.intro ?_ ?_) | ((fail_if_success (with_reducible (show _ = _))); (show _ = _)))) <;> rfl
  ·obtain rfl : i = l.length := by omega
   have f1 : ¬ ((l.length : Nat) : Int) < ((l.length : Nat) : Int) := by omega
   repeat ((try conv => whnf); first | (with_reducible first | refine z0c (fun Qs hN hE hR => ?_) | refine z0a ?_ | refine z03 (fun Qb kN kE kX kR => ?_) | refine z06 ?_ | refine z07 ?_ | refine z0b ?_ | refine z08 ?_ | refine z09 ?_ | (show W _ _ _ (.cond _ _ _) _ _; refine z05 rfl ?_) | (refine hN _ ?_; try clear hN hE hR Qs; (try (conv => arg 6; dsimp only [ovl, List.set, List.map, ren0]))) | ((first | refine hE _ _ ?_ | refine hR _ ?_); try clear hN hE hR Qs) | ((first | refine kN _ ?_ | refine kE _ ?_ | refine kX _ _ rfl ?_ | refine kR _ ?_); try clear kN kE kX kR Qb)) | (refine Exists.intro l.length (And.intro hl ?_)) | (refine z0o f1 ?_) | (refine And.intro (by kernel_rfl) ?_) | (refine stpQ ?_))
   refine hQ1 _ _ ?_
   clear hQ1 Q1
   repeat ((try conv => whnf); first | (with_reducible first | refine z0c (fun Qs hN hE hR => ?_) | refine z0a ?_ | refine z03 (fun Qb kN kE kX kR => ?_) | refine z06 ?_ | refine z07 ?_ | refine z0b ?_ | refine z08 ?_ | refine z09 ?_ | (show W _ _ _ (.cond _ _ _) _ _; refine z05 rfl ?_) | (refine hN _ ?_; try clear hN hE hR Qs; (try (conv => arg 6; dsimp only [ovl, List.set, List.map, ren0]))) | ((first | refine hE _ _ ?_ | refine hR _ ?_); try clear hN hE hR Qs) | ((first | refine kN _ ?_ | refine kE _ ?_ | refine kX _ _ rfl ?_ | refine kR _ ?_); try clear kN kE kX kR Qb)) | (refine And.intro (by kernel_rfl) ?_) | (refine stpQ ?_))
   (refine z00 (by rfl) ?_ ?_ (by rfl)) <;> (repeat' (first | (exact eqA) | (refine And.intro ?_ ?_) | ((fail_if_success (with_reducible (show _ = _))); (show _ = _)))) <;> rfl
end
end Go.Proofs.YtkjjacndfieeoaaGreatDoor
namespace Go.Proofs.YtkjjacndfieeoaaGreatDoor
set_option linter.unusedVariables false
set_option linter.unusedSimpArgs false
set_option linter.unusedSectionVars false
open Go.RowKit Pl
theorem slE_sa (l : List (Hd × Sg)) : slE l = saL (l.map saOf) := by simp [slE, saL, saE, saOf, z2A, z2n, hdE, sgE]
theorem ntE_tk (l : List Nat) : ntE l = isE (tkI l) := by simp [ntE, isE, tkI]
theorem zhp {ho K m : Nat} {c : Co} (hh : ho ≤ 2) (hK : K ≤ 2) (h : CoOk ho K m c) (hm : m ≤ 100) : zho (ho : Int) (K : Int) (z0g (z0j ho) 16) (c.s.se.map saOf) (tkI c.s.tr) (c.s.ty : Int) c.ask c.vo (boE c.dn).length (cvOf (ho : Int).toNat (z0N (dkOf coordN c.ts) z0P)) = true := by
 have hz : (logB c.ts).length ≤ 18000 := by have := h.lg.small hh hm; omega
 have e1 : z0N (dkOf coordN c.ts) z0P = c.ts := by rw [← za7]; exact z7R (by decide) h.lg.tl hz
 have e2 : (ho : Int).toNat = ho := Int.toNat_natCast ho
 have e3 : (K : Int).toNat = K := Int.toNat_natCast K
 have e4 : ∀ k, k < c.vo.length → z6N c.ask c.vo k = true := fun k hk => by
  have hv : pAt c.vo k ∈ c.vo := by rw [pAt, List.getD, List.getElem?_eq_getElem hk]; exact List.getElem_mem hk
  cases ha : c.ask with
  | false =>
    have hm2 : ∀ v ∈ c.vo, v = [] := fun v hv => by rw [h.na ha] at hv; exact z4R hv
    simp [z6N, hm2 _ hv]
  | true =>
    rcases h.vw _ hv with e | e <;> simp [z6N, e]
 rw [e1, e2, ← h.lg.sv]
 unfold zho
 rw [e2, e3, z1F]
 simp only [Bool.and_eq_true, decide_eq_true_eq]
 refine ⟨z0u.2 (by omega), z0u.2 (by omega), h.vl, h.dl, trivial, trivial, trivial, trivial, ?_⟩
 exact zcL e4
section
attribute [local irreducible] z0m z0n z0q AnsP LeP W CvE
theorem zg7 {ho K m : Nat} {c : Co} (hh : ho ≤ 2) (hK : K ≤ 2) (h : CoOk ho K m c) (hm : m ≤ 100) : CT Tryz.prog 12 [] [.agg (coE (ho : Int) (K : Int) (z0g (z0j ho) 16) c)] (.bool true) [] := by
 have hz : (logB c.ts).length ≤ 18000 := by have := h.lg.small hh hm; omega
 have hok := h.lg.ok hh
 obtain ⟨e1, e2⟩ := pow2 hK
 have h1 := h.vl
 have h2 := h.dl
 have h3 := z1H hok
 have c1 := zg6 (ho : Int) (K : Int) true (dkOf coordN c.ts) (z0g (z0j ho) 16) (c.s.se.map saOf) (tkI c.s.tr) (c.s.ty : Int) c.ask c.vo (boE c.dn) (z1E (z1k (by decide) hz)) (by rw [z0H]; decide) (by rw [List.length_map]; omega) (zcM hok) (by rw [tkI, List.length_map, hok.tl]; omega) (by omega) (by rw [z1F]; omega)
 rw [zhp hh hK h hm, ← slE_sa, ← ntE_tk] at c1
 exact c1
end
end Go.Proofs.YtkjjacndfieeoaaGreatDoor
