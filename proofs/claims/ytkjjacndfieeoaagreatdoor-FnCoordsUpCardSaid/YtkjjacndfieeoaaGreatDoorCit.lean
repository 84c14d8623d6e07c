/- Functions by content: the program's coordinator closes an epoch. -/
import Derived.Test.YtkjjacndfieeoaaGreatDoorCix
import Derived.Test.YtkjjacndfieeoaaGreatDoorCdw
import Derived.Test.YtkjjacndfieeoaaGreatDoorSgs
namespace Go.Proofs.YtkjjacndfieeoaaGreatDoor
set_option linter.unusedVariables false
set_option linter.unusedSimpArgs false
set_option linter.unusedSectionVars false
open Go.RowKit Pl
def dnW (i : Nat) (D : List (List T)) : List (List T) := List.replicate i [.bool false] ++ D.drop i
theorem dnW_0 (D : List (List T)) : dnW 0 D = D := by simp [dnW]
theorem zj8 (D : List (List T)) : dnW D.length D = List.replicate D.length [.bool false] := by simp [dnW]
theorem zj9 {i : Nat} {D : List (List T)} (h : i ≤ D.length) : (dnW i D).length = D.length := by simp [dnW]; omega
theorem zja {i : Nat} {D : List (List T)} (h : i < D.length) : (dnW i D).set i [.bool false] = dnW (i + 1) D := by
 unfold dnW
 rw [List.drop_eq_getElem_cons h, List.set_append, if_neg (by simp)]
 simp only [List.length_replicate, Nat.sub_self, List.set_cons_zero, List.replicate_succ', List.append_assoc, List.singleton_append]
theorem zjb {i : Nat} {l : List Bool} (h : i < l.length) : (dnW i (boE l))[i]? = some [.bool l[i]] := by
 unfold dnW
 rw [List.getElem?_append_right (by simp)]
 simp [boE, h]
section
attribute [local irreducible] z0m z0n z0q AnsP LeP W CvE
set_option maxRecDepth 100000 in
set_option maxHeartbeats 8000000 in
theorem zhk (ho K m : Nat) (hh : ho ≤ 2) (hK : K ≤ 2) (c : Co) (h : CoOk ho K m c) (hm : m ≤ 100) (ha : c.ask = true) (hv : [] ∉ c.vo) : CT Tryz.prog 41
 [.box [.int .i64 (ho : Int), .int .i64 (K : Int), .bool true, .sl 3 (flE (dkOf coordN c.ts)), .sl 1 (strE (z0g (z0j ho) 16)), .ref 2, .ref 3, .int .i64 (c.s.ty : Int), .bool true, .ref 4, .ref 5], .row 8 (slE c.s.se), .row 1 (ntE c.s.tr), .row 1 (strE c.vo), .row 1 (boE c.dn)] [.ptr 1 0 0] (.sl 6 (ltsE 4 ((c.s.se.length + 1 : Nat) : Int) (c.s.ty : Int) (2 ^ K)))
 [.box [.int .i64 (ho : Int), .int .i64 (K : Int), .bool true, .ref 6, .sl 1 (strE (z0g (z0j ho) 16)), .ref 7, .ref 8, .int .i64 (c.s.ty : Int), .bool false, .ref 9, .ref 5], .row 0 [], .row 0 [], .row 1 (strE c.vo), .row 1 (emD (2 ^ K)), .row 3 (flE (dkOf coordN (cloC ho K c).ts)), .row 8 (slE (cloC ho K c).s.se), .row 1 (ntE (cloC ho K c).s.tr), .row 1 (emV (2 ^ K))] := by
 obtain ⟨gh, gs, hr, hw⟩ := z4C hh hK h ha hv
 have hok := h.lg.ok hh
 have hty := h.lg.ty
 have hsl := z1H hok
 have hvl2 := h.vl
 obtain ⟨e1, e2⟩ := pow2 hK
 have hcN : z4w c.vo = true := by
  unfold z4w
  rw [hvl2]
  rcases (show K = 0 ∨ K = 1 ∨ K = 2 by omega) with e | e | e <;> rw [e] <;> decide
 have c1 := z71 c.vo (by omega) hw
 rw [zba, hcN] at c1
 have c2 := z9Y c.s.se (by omega)
 have c3 := z7P ho hh (cHds c.s) hok.ch (z2o c.vo)
 have en : nhR ho (cHds c.s) (z2o c.vo) = [.agg (hdE (clHd ho c)), .bool true] := by
  unfold nhR
  exact if_pos ⟨by rw [z3x]; exact (h.ya ha).1, hr⟩
 rw [en] at c3
 have c4 := zcB ho hh
 have c5 := zbp (z0j ho) (clHd ho c) (z5s ho) gh
 have eg : z4o (z0j ho) (z0g (z0j ho) 16) ((clHd ho c).ep - 1) (z1G (clHd ho c)) = clSg ho c := rfl
 rw [eg] at c5
 have c6 := zdx (clHd ho c) (clSg ho c) gh gs
 have c7 := zcI 2 [c.s.ty] (by simp) (by simp; omega)
 have er : recB 2 [c.s.ty] = 2 :: z0e c.s.ty := by simp [recB]
 have hnt : ntE [c.s.ty] = [[.int .i64 (c.s.ty : Int)]] := rfl
 rw [er, hnt] at c7
 have hb := z8O (n := c.s.ty) (by omega) gh gs
 have hsz : (logB (c.ts ++ [cloB c.s.ty (clHd ho c) (clSg ho c)])).length ≤ 18000 := by
  have q1 := z1V (ts := c.ts) (t := cloB c.s.ty (clHd ho c) (clSg ho c)) (by omega)
  have q2 := h.lg.small hh hm
  omega
 have c8 := za9 coordN (cloB c.s.ty (clHd ho c) (clSg ho c)) c.ts (by decide) (by decide) (by omega) hsz
 have o2 := zdG (z4S (k := 3) (dkOf coordN (c.ts ++ [cloB c.s.ty (clHd ho c) (clSg ho c)])))
 have ec : cloB c.s.ty (clHd ho c) (clSg ho c) = (2 :: z0e c.s.ty) ++ z1C (clHd ho c) (clSg ho c) := by simp [cloB]
 have c9 := z7V (ho : Int) K hK (c.s.ty : Int) true false (flE (dkOf coordN (cloC ho K c).ts)) (strE (z0g (z0j ho) 16)) (slE c.s.se ++ [hdE (clHd ho c) ++ sgE (clSg ho c)]) (ntE c.s.tr ++ [[.int .i64 (c.s.ty : Int)]]) (strE c.vo) (boE c.dn)
 have c10 := z3p K hK
 have c11 := z3Y 4 ((c.s.se.length + 1 : Nat) : Int) (c.s.ty : Int) (2 ^ K) (by omega)
 have hOh : ∀ e ∈ [Ent.row 4 (hdsE (c.s.se.map fun x => x.1))], ownE e := fun e he => by
  rw [List.mem_singleton.1 he]; exact z8L _
 have hse := z0B c.s.se
 have htr : (ntE c.s.tr).length ≤ 10 := by rw [z7A, hok.tl]; omega
 have hdl : (boE c.dn).length = 2 ^ K := by rw [z1F]; exact h.dl
 have eS : slE (cloC ho K c).s.se = slE c.s.se ++ [hdE (clHd ho c) ++ sgE (clSg ho c)] := zaZ _ _
 have eT : ntE (cloC ho K c).s.tr = ntE c.s.tr ++ [[.int .i64 (c.s.ty : Int)]] := zhP _ _
 have eD : (cloC ho K c).ts = c.ts ++ [cloB c.s.ty (clHd ho c) (clSg ho c)] := rfl
 have ecd : cHds c.s = c.s.se.map fun x => x.1 := rfl
 rw [eS, eT, eD]
 rw [eD] at c9
 rw [← ecd] at c2 hOh
 have hvt : (2 :: z0e c.s.ty).length ≤ 12 := by have := z0I (n := c.s.ty) (by omega); rw [List.length_cons]; omega
 have hsb : (z1C (clHd ho c) (clSg ho c)).length ≤ 460 := z6I gh gs
 have hse1 : (slE c.s.se ++ [hdE (clHd ho c) ++ sgE (clSg ho c)]).length = c.s.se.length + 1 := by rw [List.length_append, hse]; rfl
 have hW0 := dnW_0 (boE c.dn)
 have hW1 := zj8 (boE c.dn)
 have hWl : ∀ i, i ≤ (boE c.dn).length → (dnW i (boE c.dn)).length = (boE c.dn).length := fun i hi => zj9 hi
 have hWs : ∀ i, i < (boE c.dn).length → (dnW i (boE c.dn)).set i [.bool false] = dnW (i + 1) (boE c.dn) := fun i hi => zja hi
 rw [hdl] at hW1 hWl hWs
 have hWg : ∀ i, i < 2 ^ K → ∃ b, (dnW i (boE c.dn))[i]? = some [.bool b] := fun i hi => ⟨_, zjb (by rw [h.dl]; exact hi)⟩
 rw [ec] at c8 c9 o2 ⊢
 rw [ha] at *
 clear hsz hb ec en eg hcN hw hr gs hv hvl2 h er hnt
 clear eS eT eD ecd
 generalize flE (dkOf coordN (c.ts ++ [(2 :: z0e c.s.ty) ++ z1C (clHd ho c) (clSg ho c)])) = d2 at *
 generalize flE (dkOf coordN c.ts) = d0 at *
 generalize hdsE (cHds c.s) = HS at *
 generalize z1C (clHd ho c) (clSg ho c) = SB at *
 unfold hdE sgE at *
 generalize clSg ho c = sg at *
 generalize clHd ho c = hd at *
 generalize slE c.s.se = SE at *
 generalize ntE c.s.tr = TR at *
 generalize boE c.dn = DN at *
 generalize strE (z0g (z0j ho) 16) = PO at *
 generalize z0j ho = sd at *
 generalize z2o c.vo = rt at *
 generalize hslq : c.s.se.length = sl at *
 generalize 2 :: z0e c.s.ty = vt at *
 generalize c.s.ty = y at *
 generalize strE c.vo = VO at *
 unfold emV emD at *
 generalize ltsE 4 ((sl + 1 : Nat) : Int) (y : Int) (2 ^ K) = LT at *
 generalize 2 ^ K = pk at *
 have hsl3 : sl ≤ 10 := by omega
 clear hslq hok gh
 refine z01 z0r 6 rfl Tryz.func41 rfl rfl rfl ?_
 conv => arg 6; whnf
 repeat ((try conv => whnf); first | (with_reducible first | refine z0c (fun Qs hN hE hR => ?_) | refine z0a ?_ | refine z03 (fun Qb kN kE kX kR => ?_) | refine z06 ?_ | refine z07 ?_ | refine z0b ?_ | refine z08 ?_ | refine z09 ?_ | (show W _ _ _ (.cond _ _ _) _ _; refine z05 rfl ?_) | (refine hN _ ?_; try clear hN hE hR Qs; (try (conv => arg 6; dsimp only [ovl, List.set, List.map, ren0]))) | ((first | refine hE _ _ ?_ | refine hR _ ?_); try clear hN hE hR Qs) | ((first | refine kN _ ?_ | refine kE _ ?_ | refine kX _ _ rfl ?_ | refine kR _ ?_); try clear kN kE kX kR Qb)) | (refine ccA ([]) (c1) ?_) | (refine ccA [] (c2) ?_ (h5 := .inr (And.intro (by simp [own2, own1, own0]) hOh))) | (refine ccA ([]) (c3) ?_) | (refine ccA ([]) (c4) ?_) | (refine ccA ([]) (c5) ?_) | (refine ccA ([]) (c6) ?_) | (refine ccA ([]) (c7) ?_) | (refine And.intro (by simp only [List.length_append]; omega) ?_) | (refine ccA [] (c8) ?_ (h5 := .inr (And.intro (by simp [own2, own1, own0]) o2))) | (refine ccB ([_, _, _, _, _, _]) (c9) ?_) | (refine Exists.intro pk (And.intro hdl ?_)) | (refine And.intro (by simp only [List.length_append, List.length_set, List.length_replicate, List.length_cons, List.length_nil, List.nil_append]; omega) ?_) | (refine And.intro (by kernel_rfl) ?_) | (refine stpQ ?_))
 refine z0i 0 ⟨[(0, .ptr 1 0 0)], [(1, some (.box [.int .i64 (ho : Int), .int .i64 (K : Int), .bool true, .ref 6, .sl 1 PO, .ref 7, .ref 8, .int .i64 (y : Int), .bool false, .ref 9, .ref 5])), (2, none), (3, none), (4, some (.row 1 VO)), (5, some (.row 1 (List.replicate pk [.bool false]))), (6, some (.row 3 d2)), (7, some (.row 8 (SE ++ [[.int .i64 (hd.ho : Int), .int .i64 (hd.ep : Int), .str hd.ro, .str hd.pr] ++ [.int .i64 (sg.a : Int), .sl 1 (strE sg.op), .sl 1 (strE sg.sh), .sl 1 (strE sg.si)]]))), (8, some (.row 1 (TR ++ [[.int .i64 (y : Int)]]))), (9, some (.row 1 (List.replicate pk [.str []])))], 10⟩ Nat (fun i => ⟨[(0, .ptr 1 0 0), (131, .int .i64 (pk : Int)), (132, .int .i64 (i : Int))], [(1, some (.box [.int .i64 (ho : Int), .int .i64 (K : Int), .bool true, .ref 6, .sl 1 PO, .ref 7, .ref 8, .int .i64 (y : Int), .bool false, .ref 9, .ref 5])), (2, none), (3, none), (4, some (.row 1 VO)), (5, some (.row 1 (dnW i DN))), (6, some (.row 3 d2)), (7, some (.row 8 (SE ++ [[.int .i64 (hd.ho : Int), .int .i64 (hd.ep : Int), .str hd.ro, .str hd.pr] ++ [.int .i64 (sg.a : Int), .sl 1 (strE sg.op), .sl 1 (strE sg.sh), .sl 1 (strE sg.si)]]))), (8, some (.row 1 (TR ++ [[.int .i64 (y : Int)]]))), (9, some (.row 1 (List.replicate pk [.str []])))], 10⟩) (fun i => i ≤ pk) (fun i => pk - i) 0 (Nat.zero_le _) ?_ ?_ ?_
 ·rw [hW0]
  (refine z02 (by rfl) ?_ ?_) <;> (repeat' (first | (exact eqA) | (refine And.intro ?_ ?_) | ((fail_if_success (with_reducible (show _ = _))); (show _ = _)))) <;> first | rfl | (simp; done)
 ·intro i hi
  by_cases hlt : i < pk
  ·have f1 : (i : Int) < (pk : Int) := by omega
   have f2 : i < (dnW i DN).length := by rw [hWl i hi]; exact hlt
   have hx := hWs i hlt
   obtain ⟨b, gi⟩ := hWg i hlt
   generalize dnW i DN = DI at *
   repeat ((try conv => whnf); first | (with_reducible first | refine z0c (fun Qs hN hE hR => ?_) | refine z0a ?_ | refine z03 (fun Qb kN kE kX kR => ?_) | refine z06 ?_ | refine z07 ?_ | refine z0b ?_ | refine z08 ?_ | refine z09 ?_ | (show W _ _ _ (.cond _ _ _) _ _; refine z05 rfl ?_) | (refine hN _ ?_; try clear hN hE hR Qs; (try (conv => arg 6; dsimp only [ovl, List.set, List.map, ren0]))) | ((first | refine hE _ _ ?_ | refine hR _ ?_); try clear hN hE hR Qs) | ((first | refine kN _ ?_ | refine kE _ ?_ | refine kX _ _ rfl ?_ | refine kR _ ?_); try clear kN kE kX kR Qb)) | (refine z0k f1 ?_) | (refine i_lt f2 ?_) | (refine Exists.intro _ (And.intro gi ?_)) | (refine And.intro (by kernel_rfl) ?_) | (refine stpQ ?_))
   refine ⟨i + 1, hlt, by omega, ?_⟩
   rw [← hx]
   (refine z02 (by rfl) ?_ ?_) <;> (repeat' (first | (exact eqA) | (refine And.intro ?_ ?_) | ((fail_if_success (with_reducible (show _ = _))); (show _ = _)))) <;> rfl
  ·obtain rfl : i = pk := by omega
   have f1 : ¬ ((i : Nat) : Int) < ((i : Nat) : Int) := by omega
   rw [hW1]
   repeat ((try conv => whnf); first | (with_reducible first | refine z0c (fun Qs hN hE hR => ?_) | refine z0a ?_ | refine z03 (fun Qb kN kE kX kR => ?_) | refine z06 ?_ | refine z07 ?_ | refine z0b ?_ | refine z08 ?_ | refine z09 ?_ | (show W _ _ _ (.cond _ _ _) _ _; refine z05 rfl ?_) | (refine hN _ ?_; try clear hN hE hR Qs; (try (conv => arg 6; dsimp only [ovl, List.set, List.map, ren0]))) | ((first | refine hE _ _ ?_ | refine hR _ ?_); try clear hN hE hR Qs) | ((first | refine kN _ ?_ | refine kE _ ?_ | refine kX _ _ rfl ?_ | refine kR _ ?_); try clear kN kE kX kR Qb)) | (refine z0o f1 ?_) | (refine And.intro (by kernel_rfl) ?_) | (refine stpQ ?_))
   (refine z02 (by rfl) ?_ ?_) <;> (repeat' (first | (exact eqA) | (refine And.intro ?_ ?_) | ((fail_if_success (with_reducible (show _ = _))); (show _ = _)))) <;> rfl
 ·repeat ((try conv => whnf); first | (with_reducible first | refine z0c (fun Qs hN hE hR => ?_) | refine z0a ?_ | refine z03 (fun Qb kN kE kX kR => ?_) | refine z06 ?_ | refine z07 ?_ | refine z0b ?_ | refine z08 ?_ | refine z09 ?_ | (show W _ _ _ (.cond _ _ _) _ _; refine z05 rfl ?_) | (refine hN _ ?_; try clear hN hE hR Qs; (try (conv => arg 6; dsimp only [ovl, List.set, List.map, ren0]))) | ((first | refine hE _ _ ?_ | refine hR _ ?_); try clear hN hE hR Qs) | ((first | refine kN _ ?_ | refine kE _ ?_ | refine kX _ _ rfl ?_ | refine kR _ ?_); try clear kN kE kX kR Qb)) | (refine Exists.intro (sl + 1) (And.intro (by rw [List.length_append, hse]; rfl) ?_)) | (refine ccA ([]) (c10) ?_) | (refine ccA ([]) (c11) ?_) | (refine And.intro (by kernel_rfl) ?_) | (refine stpQ ?_))
  (refine z00 (by rfl) ?_ ?_ (by rfl)) <;> (repeat' (first | (exact eqA) | (refine And.intro ?_ ?_) | ((fail_if_success (with_reducible (show _ = _))); (show _ = _)))) <;> first | rfl | (simp; done)
end
end Go.Proofs.YtkjjacndfieeoaaGreatDoor
