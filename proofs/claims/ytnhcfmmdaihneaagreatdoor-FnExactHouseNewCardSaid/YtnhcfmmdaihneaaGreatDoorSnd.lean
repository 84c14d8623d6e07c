/- Functions by content: a shard is made from its disk; its rows are told as rows that may be moved. -/
import Derived.Test.YtnhcfmmdaihneaaGreatDoorSxy
import Derived.Test.YtnhcfmmdaihneaaGreatDoorVe
namespace Go.Proofs.YtnhcfmmdaihneaaGreatDoor
set_option maxRecDepth 100000
set_option maxHeartbeats 8000000
set_option linter.unusedVariables false
set_option linter.unusedSimpArgs false
set_option linter.unusedSectionVars false
open Go.RowKit Pl
attribute [local irreducible] z0w z0x z0A AnsP LeP CvE
theorem cl_lv (l : List Lf) : ∀ e ∈ lvE l, ∀ c ∈ e, cl0 c := fun e he c hc => by
 simp only [lvE, List.mem_map] at he
 obtain ⟨x, _, rfl⟩ := he
 simp only [List.mem_cons, List.not_mem_nil, or_false] at hc
 rcases hc with rfl | rfl <;> trivial
theorem cl_fl (l : List Fl) : ∀ e ∈ flE l, ∀ c ∈ e, cl0 c := fun e he c hc => by
 simp only [flE, List.mem_map] at he
 obtain ⟨x, _, rfl⟩ := he
 simp only [List.mem_cons, List.not_mem_nil, or_false] at hc
 rcases hc with rfl | rfl | rfl <;> trivial
theorem cl_ch (l : List Ch) : ∀ e ∈ chE l, ∀ c ∈ e, cl0 c := fun e he c hc => by
 simp only [chE, List.mem_map] at he
 obtain ⟨x, _, rfl⟩ := he
 simp only [chL, List.mem_cons, List.not_mem_nil, or_false] at hc
 rcases hc with rfl | rfl | rfl <;> trivial
theorem cl_nt (l : List Nat) : ∀ e ∈ ntE l, ∀ c ∈ e, cl0 c := fun e he c hc => by
 simp only [ntE, List.mem_map] at he
 obtain ⟨x, _, rfl⟩ := he
 simp only [List.mem_singleton] at hc
 subst hc; trivial
def vwD (l : List (List Lf)) : List (List T) := l.map fun v => [.own 2 (lvE v)]
theorem zlf (l : List (List Lf)) (v : List Lf) : vwD (l ++ [v]) = vwD l ++ [[.own 2 (lvE v)]] := by simp [vwD]
theorem zlg (l : List (List Lf)) : (vwD l).length = l.length := by simp [vwD]
theorem zcq (l : List Fl) (h : (l.length : Int) ≤ 100000000) : CT Tryz.prog 134 [] [.agg [.sl 3 (flE l)]] (.agg [.ref 1]) [.row 3 (flE l)] := by
 have hl := z3c l
 refine z01 z03 1 rfl Tryz.func134 rfl rfl rfl ?_
 repeat ((try conv => whnf); first | (refine And.intro (by simp only [List.length_append, List.length_cons, List.length_nil, List.nil_append, List.length_replicate]; omega) ?_) | (refine And.intro (by kernel_rfl) ?_) | (refine stpQ ?_))
 (refine z00 (by rfl) ?_ ?_ (by rfl)) <;> (repeat' (first | (exact eqA) | (refine And.intro ?_ ?_) | ((fail_if_success (with_reducible (show _ = _))); (show _ = _))))
theorem z7Y (a K : Int) (up : Bool) (fs : List Fl) (V : List (List T)) (s : Sv) (h : s.rk ≤ s.al.length ∧ (s.al.length : Int) ≤ 1000000) (hc : ∀ u ∈ s.al, z0z u.1 u.2.1 u.2.2 = true) : CT Tryz.prog 258 [] [.agg (svE a K up fs V s)] (.ref 1) [.deep 2 (lvE (z3b s)) []] :=
 z4E 0 (z9f a K up fs V s h hc) rfl (by decide) (cl_lv _)
def svBD (a K : Int) (up : Bool) (s : Sv) (f v k l : Nat) : Ent := .box [.int .i64 a, .int .i64 K, .bool up, .ref f, .int .i64 (s.ep : Int), .ref v, .ref k, .ref l, .int .i64 (s.re : Int), .int .i64 (s.rt : Int), .int .i64 (s.rk : Int)]
def svHD (a K : Int) (up : Bool) (fs : List Fl) (V : List (List T)) (s : Sv) : Rk → List Ent
 | .no => [svBD a K up s 2 3 4 5, .row 3 (flE fs), .deep 1 V [], .row 1 (ntE s.tk), .row 3 (chE s.al)]
 | .all u => [svBD a K up { s with al := s.al ++ [u] } 2 3 4 6, .row 3 (flE fs), .deep 1 V [], .row 1 (ntE s.tk), .row 0 [], .row 3 (chE (s.al ++ [u]))]
 | .rdy e y k => [svBD a K up { s with re := e, rt := y, rk := k } 2 3 4 5, .row 3 (flE fs), .deep 1 V [], .row 1 (ntE s.tk), .row 3 (chE s.al)]
 | .com => [svBD a K up (z1t s) 2 6 7 5, .row 3 (flE fs), .row 0 [], .row 0 [], .row 3 (chE s.al), .deep 1 (V ++ [[.own 2 (lvE (z3b s))]]) [], .row 1 (ntE (s.tk ++ [s.rk]))]
theorem zhA (a K : Int) (up : Bool) (fs : List Fl) (V : List (List T)) (hV : V.length ≤ 10) (s : Sv) {n : Nat} (g : SvOk n s) (hn : n ≤ 30000) : CT Tryz.prog 210 (svHD a K up fs V s .no) [.ptr 1 0 0] (.tup []) (svHD a K up fs V s .com) := by
 have g1 := g.ep
 have g2 := g.vl
 have g3 := g.tl
 have g4 := g.al
 have g5 := g.rk
 have c1 := z7Y a K up fs (ucE V) s ⟨g5, by omega⟩ g.ch
 unfold svHD z1t
 generalize z3b s = R at c1 ⊢
 clear g
 obtain ⟨ep, vs, tk, al, re, rt, rk⟩ := s
 simp only at g1 g2 g3 g4 g5 c1 ⊢
 have ht := zdF tk
 have e1 : IntKind.i64.wrap ((ep : Int) + 1) = ((ep + 1 : Nat) : Int) := by rw [z0J (by omega) (by omega)]; omega
 unfold svE at c1
 unfold svBD
 simp only at c1 ⊢
 refine z01 z03 6 rfl Tryz.func210 rfl rfl rfl ?_
 repeat ((try conv => whnf); first | (refine ccA ([]) (c1) ?_) | (refine Exists.intro _ (And.intro e1.symm ?_)) | (refine And.intro (by simp only [List.length_append, List.length_cons, List.length_nil, List.length_set, List.length_replicate]; omega) ?_) | (refine And.intro (by kernel_rfl) ?_) | (refine stpQ ?_))
 (refine z00 (by rfl) ?_ ?_ (by rfl)) <;> (repeat' (first | (exact eqA) | (refine And.intro ?_ ?_) | ((fail_if_success (with_reducible (show _ = _))); (show _ = _))))
 all_goals first
  | exact (zjQ tk [rk]).symm
  | rfl
theorem zjg (a K : Int) (up : Bool) (fs : List Fl) (V : List (List T)) (hV : V.length ≤ 10) (s : Sv) {n : Nat} (g : SvOk n s) (hn : n ≤ 30000) (b : UInt8) (r : Bs) (hr : r.length ≤ 9000) : CT Tryz.prog 148 (svHD a K up fs V s .no) [.ptr 1 0 0, .str (b :: r)] (.tup []) (svHD a K up fs V s (rkOf a K s (b :: r))) := by
 have g1 := g.ep
 have g4 := g.al
 have g5 := g.rk
 have g3 := g.tl
 have g6 := g.rt
 have g7 := g.r4
 have hbl := b.toNat_lt
 have h0 : 0 < (b :: r).length := by simp
 have hl : (b :: r).length = r.length + 1 := rfl
 have hcl := z65 s.al
 by_cases k1 : b.toNat = 1
 ·have kk := k1
  have k1' : ((b.toNat : Nat) : Int) = 1 := by omega
  have c1 := zar r (by omega)
  cases hq : z0M r with
  | none =>
    rw [hq] at c1
    have hR : rkOf a K s (b :: r) = .no := by rw [rkOf, if_pos k1, hq]
    rw [hR]
    have c2 := z5d s.al 0 (by omega)
    cases hi : idIx s.al 0 with
    | none =>
      rw [zc2 hi] at c2
      unfold svHD svBD
      refine z01 z03 6 rfl Tryz.func148 rfl rfl rfl ?_
      repeat ((try conv => whnf); first | (refine Exists.intro 0 (And.intro rfl (And.intro h0 ?_))) | (refine z0o k1' ?_) | (refine i_le (show 1 ≤ (b :: r).length by simp) ?_) | (refine ccA ([]) (c1) ?_) | (refine ccA ([]) (c2) ?_) | (refine And.intro (by kernel_rfl) ?_) | (refine stpQ ?_))
      (refine z00 (by rfl) ?_ ?_ (by rfl)) <;> (repeat' (first | (exact eqA) | (refine And.intro ?_ ?_) | ((fail_if_success (with_reducible (show _ = _))); (show _ = _))))
    | some k =>
      rw [zc3 hi] at c2
      unfold svHD svBD
      refine z01 z03 6 rfl Tryz.func148 rfl rfl rfl ?_
      repeat ((try conv => whnf); first | (refine Exists.intro 0 (And.intro rfl (And.intro h0 ?_))) | (refine z0o k1' ?_) | (refine i_le (show 1 ≤ (b :: r).length by simp) ?_) | (refine ccA ([]) (c1) ?_) | (refine ccA ([]) (c2) ?_) | (refine And.intro (by kernel_rfl) ?_) | (refine stpQ ?_))
      (refine z00 (by rfl) ?_ ?_ (by rfl)) <;> (repeat' (first | (exact eqA) | (refine And.intro ?_ ?_) | ((fail_if_success (with_reducible (show _ = _))); (show _ = _))))
  | some y =>
    obtain ⟨id, nm, v⟩ := y
    rw [hq] at c1
    have hch := z31 hq
    have hfit := zgw hq
    have c2 := z5d s.al (id : Int) (by omega)
    have c3 := zgN nm K (by have := z2C (by unfold z0z at hch; simp only [Bool.and_eq_true] at hch; exact hch.1.2); omega)
    by_cases hsh : ((z1X nm K : Nat) : Int) = a
    ·cases hi : idIx s.al (id : Int) with
     | none =>
       rw [zc2 hi] at c2
       have hR : rkOf a K s (b :: r) = .all ((id : Int), nm, v) := by rw [rkOf, if_pos k1, hq]; exact if_pos ⟨hsh, hi⟩
       rw [hR]
       generalize z1X nm K = sh at c3 hsh
       unfold svHD svBD
       refine z01 z03 6 rfl Tryz.func148 rfl rfl rfl ?_
       repeat ((try conv => whnf); first | (refine Exists.intro 0 (And.intro rfl (And.intro h0 ?_))) | (refine z0o k1' ?_) | (refine i_le (show 1 ≤ (b :: r).length by simp) ?_) | (refine ccA ([]) (c1) ?_) | (refine ccA ([]) (c2) ?_) | (refine ccA ([]) (c3) ?_) | (refine z0o hsh ?_) | (refine And.intro (by simp only [List.length_append, List.length_cons, List.length_nil, List.length_set, List.length_replicate]; omega) ?_) | (refine And.intro (by kernel_rfl) ?_) | (refine stpQ ?_))
       (refine z00 (by rfl) ?_ ?_ (by rfl)) <;> (repeat' (first | (exact eqA) | (refine And.intro ?_ ?_) | ((fail_if_success (with_reducible (show _ = _))); (show _ = _))))
       all_goals first
        | exact (zjR s.al [((id : Int), nm, v)]).symm
        | rfl
     | some k =>
       rw [zc3 hi] at c2
       have hR : rkOf a K s (b :: r) = .no := by rw [rkOf, if_pos k1, hq]; exact if_neg (fun c => by rw [hi] at c; cases c.2)
       rw [hR]
       generalize z1X nm K = sh at c3 hsh
       unfold svHD svBD
       refine z01 z03 6 rfl Tryz.func148 rfl rfl rfl ?_
       repeat ((try conv => whnf); first | (refine Exists.intro 0 (And.intro rfl (And.intro h0 ?_))) | (refine z0o k1' ?_) | (refine i_le (show 1 ≤ (b :: r).length by simp) ?_) | (refine ccA ([]) (c1) ?_) | (refine ccA ([]) (c2) ?_) | (refine ccA ([]) (c3) ?_) | (refine z0o hsh ?_) | (refine And.intro (by kernel_rfl) ?_) | (refine stpQ ?_))
       (refine z00 (by rfl) ?_ ?_ (by rfl)) <;> (repeat' (first | (exact eqA) | (refine And.intro ?_ ?_) | ((fail_if_success (with_reducible (show _ = _))); (show _ = _))))
    ·have hR : rkOf a K s (b :: r) = .no := by rw [rkOf, if_pos k1, hq]; exact if_neg (fun c => hsh c.1)
     rw [hR]
     generalize z1X nm K = sh at c3 hsh
     cases hi : idIx s.al (id : Int) with
     | none =>
       rw [zc2 hi] at c2
       unfold svHD svBD
       refine z01 z03 6 rfl Tryz.func148 rfl rfl rfl ?_
       repeat ((try conv => whnf); first | (refine Exists.intro 0 (And.intro rfl (And.intro h0 ?_))) | (refine z0o k1' ?_) | (refine i_le (show 1 ≤ (b :: r).length by simp) ?_) | (refine ccA ([]) (c1) ?_) | (refine ccA ([]) (c2) ?_) | (refine ccA ([]) (c3) ?_) | (refine z0j hsh ?_) | (refine And.intro (by kernel_rfl) ?_) | (refine stpQ ?_))
       (refine z00 (by rfl) ?_ ?_ (by rfl)) <;> (repeat' (first | (exact eqA) | (refine And.intro ?_ ?_) | ((fail_if_success (with_reducible (show _ = _))); (show _ = _))))
     | some k =>
       rw [zc3 hi] at c2
       unfold svHD svBD
       refine z01 z03 6 rfl Tryz.func148 rfl rfl rfl ?_
       repeat ((try conv => whnf); first | (refine Exists.intro 0 (And.intro rfl (And.intro h0 ?_))) | (refine z0o k1' ?_) | (refine i_le (show 1 ≤ (b :: r).length by simp) ?_) | (refine ccA ([]) (c1) ?_) | (refine ccA ([]) (c2) ?_) | (refine ccA ([]) (c3) ?_) | (refine z0j hsh ?_) | (refine And.intro (by kernel_rfl) ?_) | (refine stpQ ?_))
       (refine z00 (by rfl) ?_ ?_ (by rfl)) <;> (repeat' (first | (exact eqA) | (refine And.intro ?_ ?_) | ((fail_if_success (with_reducible (show _ = _))); (show _ = _))))
 ·rw [rkOf, if_neg k1]
  have k1' : ¬ ((b.toNat : Nat) : Int) = 1 := by omega
  have d1 : CT Tryz.prog 42 [fldB (b :: r) 1 false] [.ptr 1 0 0] (.int .i64 ((num1 (b :: r)).1 : Int)) [fldB (b :: r) (num1 (b :: r)).2.1 (num1 (b :: r)).2.2] := zgl (b :: r) 1 false (by omega) (by omega)
  have l1 : (num1 (b :: r)).2.1 ≤ (b :: r).length ∧ (num1 (b :: r)).1 ≤ 1000000000 := z2d (by omega)
  have d2 : CT Tryz.prog 42 [fldB (b :: r) (num1 (b :: r)).2.1 (num1 (b :: r)).2.2] [.ptr 1 0 0] (.int .i64 ((num2 (b :: r)).1 : Int)) [fldB (b :: r) (num2 (b :: r)).2.1 (num2 (b :: r)).2.2] := zgl (b :: r) _ _ (by omega) l1.1
  have l2 : (num2 (b :: r)).2.1 ≤ (b :: r).length ∧ (num2 (b :: r)).1 ≤ 1000000000 := z2d l1.1
  have d3 : CT Tryz.prog 42 [fldB (b :: r) (num2 (b :: r)).2.1 (num2 (b :: r)).2.2] [.ptr 1 0 0] (.int .i64 ((num3 (b :: r)).1 : Int)) [fldB (b :: r) (num3 (b :: r)).2.1 (num3 (b :: r)).2.2] := zgl (b :: r) _ _ (by omega) l2.1
  have l3 : (num3 (b :: r)).2.1 ≤ (b :: r).length ∧ (num3 (b :: r)).1 ≤ 1000000000 := z2d l2.1
  have f1 := z58 (b :: r) (num1 (b :: r)).2.1 (num1 (b :: r)).2.2
  have f2 := z58 (b :: r) (num2 (b :: r)).2.1 (num2 (b :: r)).2.2
  have f3 := z58 (b :: r) (num3 (b :: r)).2.1 (num3 (b :: r)).2.2
  rw [hl] at f1 f2 f3
  generalize num1 (b :: r) = A at d1 d2 l1 f1 ⊢
  generalize num2 (b :: r) = B at d2 d3 l2 f2 ⊢
  generalize num3 (b :: r) = C at d3 l3 f3 ⊢
  obtain ⟨A1, A2, A3⟩ := A
  obtain ⟨B1, B2, B3⟩ := B
  obtain ⟨C1, C2, C3⟩ := C
  simp only at d1 d2 d3 l1 l2 l3 f1 f2 f3 ⊢
  unfold fldB at d1 d2 d3 f1 f2 f3
  generalize z19 A3 A2 (r.length + 1) = D1 at f1 ⊢
  generalize z19 B3 B2 (r.length + 1) = D2 at f2 ⊢
  generalize z19 C3 C2 (r.length + 1) = D3 at f3 ⊢
  have e1 : IntKind.i64.wrap ((s.ep : Int) + 1) = ((s.ep + 1 : Nat) : Int) := by rw [z0J (by omega) (by omega)]; omega
  by_cases k2 : b.toNat = 2
  ·rw [if_pos k2]
   have k2' : ((b.toNat : Nat) : Int) = 2 := by omega
   have t1 := zgP a K up fs (ucE V) s ⟨by omega, by omega⟩
   have t2 := c_in (C1 : Int) (z3G s.tk : Int) (s.al.length : Int)
   by_cases hc : D3 = true ∧ A1 = s.ep + 1 ∧ A1 ≤ 4 ∧ s.rt < B1 ∧ B1 ≤ 1000 ∧ z3G s.tk ≤ C1 ∧ C1 ≤ s.al.length
   ·rw [if_pos hc]
    obtain ⟨hD, h1, h2, h3, h4, h5, h6⟩ := hc
    subst hD
    rw [z5c ⟨by omega, by omega⟩] at t2
    have h1' : (A1 : Int) = ((s.ep + 1 : Nat) : Int) := by omega
    have h2' : (A1 : Int) ≤ 4 := by omega
    have h3' : (B1 : Int) > (s.rt : Int) := by omega
    have h4' : (B1 : Int) ≤ 1000 := by omega
    generalize z3G s.tk = lt at t1 t2
    unfold svE at t1
    unfold svHD svBD
    refine z01 z03 6 rfl Tryz.func148 rfl rfl rfl ?_
    repeat ((try conv => whnf); first | (refine Exists.intro 0 (And.intro rfl (And.intro h0 ?_))) | (refine z0j k1' ?_) | (refine z0o k2' ?_) | (refine Exists.intro _ (And.intro e1.symm ?_)) | (refine Exists.intro s.al.length (And.intro hcl ?_)) | (refine ccB ([_]) (d1) ?_) | (refine ccB ([_]) (d2) ?_) | (refine ccB ([_]) (d3) ?_) | (refine ccB ([_]) (f3) ?_) | (refine ccA ([]) (t1) ?_) | (refine ccA ([]) (t2) ?_) | (refine z0o h1' ?_) | (refine z0o h2' ?_) | (refine z0o h3' ?_) | (refine z0o h4' ?_) | (refine And.intro (by kernel_rfl) ?_) | (refine stpQ ?_))
    (refine z00 (by rfl) ?_ ?_ (by rfl)) <;> (repeat' (first | (exact eqA) | (refine And.intro ?_ ?_) | ((fail_if_success (with_reducible (show _ = _))); (show _ = _))))
   ·rw [if_neg hc]
    generalize z3G s.tk = lt at t1 t2 hc
    unfold svE at t1
    unfold svHD svBD
    refine z01 z03 6 rfl Tryz.func148 rfl rfl rfl ?_
    repeat' (first | ((try conv => whnf); first | (refine Exists.intro 0 (And.intro rfl (And.intro h0 ?_))) | (refine z0j k1' ?_) | (refine z0o k2' ?_) | (refine Exists.intro _ (And.intro e1.symm ?_)) | (refine Exists.intro s.al.length (And.intro hcl ?_)) | (refine ccB ([_]) (d1) ?_) | (refine ccB ([_]) (d2) ?_) | (refine ccB ([_]) (d3) ?_) | (refine ccB ([_]) (f3) ?_) | (refine ccA ([]) (t1) ?_) | (refine ccA ([]) (t2) ?_) | (refine And.intro (by kernel_rfl) ?_) | (refine stpQ ?_)) | ((try conv => whnf); first | (refine cb_d (fun h => ?_) (fun h => ?_)) | (refine cb_n (fun h => ?_) (fun h => ?_)) | (refine cb (fun h => ?_) (fun h => ?_))))
    all_goals first
     | (exfalso
        rename_i q1 q2 q3 q4 q5
        have q7 := z0T.1 h
        exact hc ⟨q1, by omega, by omega, by omega, by omega, by omega, by omega⟩)
     | ((refine z00 (by rfl) ?_ ?_ (by rfl)) <;> (repeat' (first | (exact eqA) | (refine And.intro ?_ ?_) | ((fail_if_success (with_reducible (show _ = _))); (show _ = _)))))
  ·rw [if_neg k2]
   have k2' : ¬ ((b.toNat : Nat) : Int) = 2 := by omega
   by_cases k3 : b.toNat = 3
   ·rw [if_pos k3]
    have k3' : ((b.toNat : Nat) : Int) = 3 := by omega
    by_cases hc : D1 = true ∧ A1 = s.re ∧ A1 ≠ 0
    ·rw [if_pos hc]
     obtain ⟨hD, h1, h2⟩ := hc
     subst hD
     have h1' : (A1 : Int) = (s.re : Int) := by omega
     have h2' : ¬ (A1 : Int) = 0 := by omega
     have cC := zhA a K up fs V hV s g hn
     unfold svHD svBD at cC ⊢
     refine z01 z03 6 rfl Tryz.func148 rfl rfl rfl ?_
     repeat ((try conv => whnf); first | (refine Exists.intro 0 (And.intro rfl (And.intro h0 ?_))) | (refine z0j k1' ?_) | (refine z0j k2' ?_) | (refine z0o k3' ?_) | (refine ccB ([_]) (d1) ?_) | (refine ccB ([_]) (f1) ?_) | (refine z0o h1' ?_) | (refine z4Z h2' ?_) | (refine ccB ([1, 2, 3, 4, 5]) (cC) ?_) | (refine And.intro (by kernel_rfl) ?_) | (refine stpQ ?_))
     (refine z00 (by rfl) ?_ ?_ (by rfl)) <;> (repeat' (first | (exact eqA) | (refine And.intro ?_ ?_) | ((fail_if_success (with_reducible (show _ = _))); (show _ = _))))
    ·rw [if_neg hc]
     unfold svHD svBD
     refine z01 z03 6 rfl Tryz.func148 rfl rfl rfl ?_
     repeat' (first | ((try conv => whnf); first | (refine Exists.intro 0 (And.intro rfl (And.intro h0 ?_))) | (refine z0j k1' ?_) | (refine z0j k2' ?_) | (refine z0o k3' ?_) | (refine ccB ([_]) (d1) ?_) | (refine ccB ([_]) (f1) ?_) | (refine And.intro (by kernel_rfl) ?_) | (refine stpQ ?_)) | ((try conv => whnf); first | (refine cb_d (fun h => ?_) (fun h => ?_)) | (refine cb_n (fun h => ?_) (fun h => ?_)) | (refine cb (fun h => ?_) (fun h => ?_))))
     all_goals first
      | (exfalso
         rename_i q1 q2
         exact hc ⟨q1, by omega, by omega⟩)
      | ((refine z00 (by rfl) ?_ ?_ (by rfl)) <;> (repeat' (first | (exact eqA) | (refine And.intro ?_ ?_) | ((fail_if_success (with_reducible (show _ = _))); (show _ = _)))))
   ·rw [if_neg k3]
    have k3' : ¬ ((b.toNat : Nat) : Int) = 3 := by omega
    by_cases k4 : b.toNat = 4
    ·rw [if_pos k4]
     have k4' : ((b.toNat : Nat) : Int) = 4 := by omega
     by_cases hc : D2 = true ∧ A1 = s.re ∧ B1 = s.rt ∧ A1 ≠ 0
     ·rw [if_pos hc]
      obtain ⟨hD, h1, h2, h3⟩ := hc
      subst hD
      have h1' : (A1 : Int) = (s.re : Int) := by omega
      have h2' : (B1 : Int) = (s.rt : Int) := by omega
      have h3' : ¬ (A1 : Int) = 0 := by omega
      unfold svHD svBD
      refine z01 z03 6 rfl Tryz.func148 rfl rfl rfl ?_
      repeat ((try conv => whnf); first | (refine Exists.intro 0 (And.intro rfl (And.intro h0 ?_))) | (refine z0j k1' ?_) | (refine z0j k2' ?_) | (refine z0j k3' ?_) | (refine z0o k4' ?_) | (refine ccB ([_]) (d1) ?_) | (refine ccB ([_]) (d2) ?_) | (refine ccB ([_]) (f2) ?_) | (refine z0o h1' ?_) | (refine z0o h2' ?_) | (refine z4Z h3' ?_) | (refine And.intro (by kernel_rfl) ?_) | (refine stpQ ?_))
      (refine z00 (by rfl) ?_ ?_ (by rfl)) <;> (repeat' (first | (exact eqA) | (refine And.intro ?_ ?_) | ((fail_if_success (with_reducible (show _ = _))); (show _ = _)))) <;> rfl
     ·rw [if_neg hc]
      unfold svHD svBD
      refine z01 z03 6 rfl Tryz.func148 rfl rfl rfl ?_
      repeat' (first | ((try conv => whnf); first | (refine Exists.intro 0 (And.intro rfl (And.intro h0 ?_))) | (refine z0j k1' ?_) | (refine z0j k2' ?_) | (refine z0j k3' ?_) | (refine z0o k4' ?_) | (refine ccB ([_]) (d1) ?_) | (refine ccB ([_]) (d2) ?_) | (refine ccB ([_]) (f2) ?_) | (refine And.intro (by kernel_rfl) ?_) | (refine stpQ ?_)) | ((try conv => whnf); first | (refine cb_d (fun h => ?_) (fun h => ?_)) | (refine cb_n (fun h => ?_) (fun h => ?_)) | (refine cb (fun h => ?_) (fun h => ?_))))
      all_goals first
       | (exfalso
          rename_i q1 q2 q3
          exact hc ⟨q1, by omega, by omega, by omega⟩)
       | ((refine z00 (by rfl) ?_ ?_ (by rfl)) <;> (repeat' (first | (exact eqA) | (refine And.intro ?_ ?_) | ((fail_if_success (with_reducible (show _ = _))); (show _ = _)))))
    ·rw [if_neg k4]
     have k4' : ¬ ((b.toNat : Nat) : Int) = 4 := by omega
     unfold svHD svBD
     refine z01 z03 6 rfl Tryz.func148 rfl rfl rfl ?_
     repeat ((try conv => whnf); first | (refine Exists.intro 0 (And.intro rfl (And.intro h0 ?_))) | (refine z0j k1' ?_) | (refine z0j k2' ?_) | (refine z0j k3' ?_) | (refine z0j k4' ?_) | (refine ccB ([_]) (d1) ?_) | (refine And.intro (by kernel_rfl) ?_) | (refine stpQ ?_))
     (refine z00 (by rfl) ?_ ?_ (by rfl)) <;> (repeat' (first | (exact eqA) | (refine And.intro ?_ ?_) | ((fail_if_success (with_reducible (show _ = _))); (show _ = _))))
theorem zaZ (a K : Int) (fs : List Fl) (hf : z2T fs) : CT Tryz.prog 89 [] [.int .i64 a, .int .i64 K, .agg [.sl 3 (flE fs)]] (.agg [.int .i64 a, .int .i64 K, .bool true, .ref 1, .int .i64 ((svOf a K (z0i fs z15)).ep : Int), .ref 2, .ref 3, .ref 4, .int .i64 ((svOf a K (z0i fs z15)).re : Int), .int .i64 ((svOf a K (z0i fs z15)).rt : Int), .int .i64 ((svOf a K (z0i fs z15)).rk : Int)]) [.deep 3 (flE fs) [], .deep 1 (vwD (svOf a K (z0i fs z15)).vs) [], .deep 1 (ntE (svOf a K (z0i fs z15)).tk) [], .deep 3 (chE (svOf a K (z0i fs z15)).al) []] := by
 have c1 := zcq fs hf.1
 have c2 := z44 fs z15 hf
 have hfacts := z0Z fs z15
 generalize z0i fs z15 = ts at c2 hfacts ⊢
 have hts := z0m ts
 have hts2 : (ts.length : Int) ≤ 20001 := by omega
 unfold z15 at c2
 refine z01 z03 1 rfl Tryz.func89 rfl rfl rfl ?_
 repeat ((try conv => whnf); first | (refine ccA ([]) (c1) ?_) | (refine ccA ([]) (c2) ?_) | (refine And.intro (by kernel_rfl) ?_) | (refine stpQ ?_))
 refine z1C Nat (fun i => ⟨[(6, .ptr 1 0 0), (7, .ptr 2 0 0), (18, .sl 1 (strE ts)), (19, .int .i64 ((strE ts).length : Int)), (20, .int .i64 (i : Int))],
  [(1, some (.box [.int .i64 0, .int .i64 0, .bool false, .val nilV, .int .i64 0, .val nilV, .val nilV, .val nilV, .int .i64 0, .int .i64 0, .int .i64 0])), (2, some (svBD a K true (svOf a K (ts.take i)) 3 4 5 6)), (3, some (.row 3 (flE fs))), (4, some (.deep 1 (vwD (svOf a K (ts.take i)).vs) [])), (5, some (.row 1 (ntE (svOf a K (ts.take i)).tk))), (6, some (.row 3 (chE (svOf a K (ts.take i)).al)))], 7⟩) (fun i => i ≤ ts.length) (fun i => ts.length - i) 0 (by omega) ?_ ?_
 ·(refine z02 (by rfl) ?_ ?_) <;> (repeat' (first | (exact eqA) | (refine And.intro ?_ ?_) | ((fail_if_success (with_reducible (show _ = _))); (show _ = _)))) <;> first | rfl | decide | exact CvE.nil 2 (by decide)
 ·intro Q1 hQ1 i hi
  by_cases hlt : i < ts.length
  ·have hlt2 : (i : Int) < ((strE ts).length : Int) := by omega
   have hnx := zgD a K hlt
   have g : SvOk (ts.take i).length (svOf a K (ts.take i)) := zgC a K _
   have gl : (ts.take i).length ≤ 30000 := by rw [List.length_take]; omega
   have hmem := hfacts.1 _ (List.getElem_mem hlt)
   have gt := z67 (ps := ts) hlt
   generalize ts[i] = t at hnx hmem gt
   obtain ⟨b, r, rfl⟩ : ∃ b r, t = b :: r := by
    cases t with
    | nil => simp at hmem
    | cons b r => exact ⟨b, r, rfl⟩
   have hr : r.length ≤ 9000 := by have := hmem.2; simp at this; omega
   generalize svOf a K (ts.take i) = s at hnx g ⊢
   have hvs := zk1 g
   have cA := zjg a K true fs (vwD s.vs) (by rw [zlg]; omega) s g gl b r hr
   have happ := zlf s.vs (z3b s)
   have hs' : zbY a K s (b :: r) = rkDo s (rkOf a K s (b :: r)) := rfl
   rw [hs'] at hnx
   generalize rkOf a K s (b :: r) = rk at cA hnx
   clear hs' g hvs hfacts hmem
   cases rk with
   | no =>
     unfold svHD svBD at cA
     unfold svBD
     repeat ((try conv => whnf); first | (refine i_at gt ?_) | (refine z0N ([2, 3, 4, 5, 6]) (cA) (by ((repeat' (first | (exact trivial) | (exact rfl) | (decide) | (refine And.intro ?_ ?_))); first | done | fail)) (by ((repeat' (first | (exact trivial) | (exact rfl) | (decide) | (refine And.intro ?_ ?_))); first | done | fail)) (by decide) (by rfl) (by first | exact .inl rfl | (refine .inr ⟨by simp [own2, own1, own0], fun e he => ?_⟩; simp only [List.mem_cons, List.not_mem_nil, or_false] at he <;> first | exact he.elim | (subst he; (first | exact z0f | exact z0e | exact z0h _ | exact z0d _)) | (rcases he with rfl | rfl <;> (first | exact z0f | exact z0e | exact z0h _ | exact z0d _)) | (rcases he with rfl | rfl | rfl <;> (first | exact z0f | exact z0e | exact z0h _ | exact z0d _)))) ?_) | (refine ccB ([2, 3, 4, 5, 6]) (cA) ?_) | (refine stpQ ?_))
     refine ⟨i + 1, by omega, by omega, ?_⟩
     rw [hnx]
     (refine z02 (by rfl) ?_ ?_) <;> (repeat' (first | (exact eqA) | (refine And.intro ?_ ?_) | ((fail_if_success (with_reducible (show _ = _))); (show _ = _))))
     all_goals rfl
   | all u =>
     unfold svHD svBD at cA
     unfold svBD
     repeat ((try conv => whnf); first | (refine i_at gt ?_) | (refine z0N ([2, 3, 4, 5, 6]) (cA) (by ((repeat' (first | (exact trivial) | (exact rfl) | (decide) | (refine And.intro ?_ ?_))); first | done | fail)) (by ((repeat' (first | (exact trivial) | (exact rfl) | (decide) | (refine And.intro ?_ ?_))); first | done | fail)) (by decide) (by rfl) (by first | exact .inl rfl | (refine .inr ⟨by simp [own2, own1, own0], fun e he => ?_⟩; simp only [List.mem_cons, List.not_mem_nil, or_false] at he <;> first | exact he.elim | (subst he; (first | exact z0f | exact z0e | exact z0h _ | exact z0d _)) | (rcases he with rfl | rfl <;> (first | exact z0f | exact z0e | exact z0h _ | exact z0d _)) | (rcases he with rfl | rfl | rfl <;> (first | exact z0f | exact z0e | exact z0h _ | exact z0d _)))) ?_) | (refine ccB ([2, 3, 4, 5, 6]) (cA) ?_) | (refine stpQ ?_))
     refine ⟨i + 1, by omega, by omega, ?_⟩
     rw [hnx]
     (refine z02 (by rfl) ?_ ?_) <;> (repeat' (first | (exact eqA) | (refine And.intro ?_ ?_) | ((fail_if_success (with_reducible (show _ = _))); (show _ = _))))
     all_goals rfl
   | rdy e y k =>
     unfold svHD svBD at cA
     unfold svBD
     repeat ((try conv => whnf); first | (refine i_at gt ?_) | (refine z0N ([2, 3, 4, 5, 6]) (cA) (by ((repeat' (first | (exact trivial) | (exact rfl) | (decide) | (refine And.intro ?_ ?_))); first | done | fail)) (by ((repeat' (first | (exact trivial) | (exact rfl) | (decide) | (refine And.intro ?_ ?_))); first | done | fail)) (by decide) (by rfl) (by first | exact .inl rfl | (refine .inr ⟨by simp [own2, own1, own0], fun e he => ?_⟩; simp only [List.mem_cons, List.not_mem_nil, or_false] at he <;> first | exact he.elim | (subst he; (first | exact z0f | exact z0e | exact z0h _ | exact z0d _)) | (rcases he with rfl | rfl <;> (first | exact z0f | exact z0e | exact z0h _ | exact z0d _)) | (rcases he with rfl | rfl | rfl <;> (first | exact z0f | exact z0e | exact z0h _ | exact z0d _)))) ?_) | (refine ccB ([2, 3, 4, 5, 6]) (cA) ?_) | (refine stpQ ?_))
     refine ⟨i + 1, by omega, by omega, ?_⟩
     rw [hnx]
     (refine z02 (by rfl) ?_ ?_) <;> (repeat' (first | (exact eqA) | (refine And.intro ?_ ?_) | ((fail_if_success (with_reducible (show _ = _))); (show _ = _))))
     all_goals rfl
   | com =>
     unfold svHD svBD z1t at cA
     rw [← happ] at cA
     unfold svBD
     repeat ((try conv => whnf); first | (refine i_at gt ?_) | (refine z0N ([2, 3, 4, 5, 6]) (cA) (by ((repeat' (first | (exact trivial) | (exact rfl) | (decide) | (refine And.intro ?_ ?_))); first | done | fail)) (by ((repeat' (first | (exact trivial) | (exact rfl) | (decide) | (refine And.intro ?_ ?_))); first | done | fail)) (by decide) (by rfl) (by first | exact .inl rfl | (refine .inr ⟨by simp [own2, own1, own0], fun e he => ?_⟩; simp only [List.mem_cons, List.not_mem_nil, or_false] at he <;> first | exact he.elim | (subst he; (first | exact z0f | exact z0e | exact z0h _ | exact z0d _)) | (rcases he with rfl | rfl <;> (first | exact z0f | exact z0e | exact z0h _ | exact z0d _)) | (rcases he with rfl | rfl | rfl <;> (first | exact z0f | exact z0e | exact z0h _ | exact z0d _)))) ?_) | (refine ccB ([2, 3, 4, 5, 6]) (cA) ?_) | (refine stpQ ?_))
     refine ⟨i + 1, by omega, by omega, ?_⟩
     rw [hnx]
     (refine z02 (by rfl) ?_ ?_) <;> (repeat' (first | (exact eqA) | (refine And.intro ?_ ?_) | ((fail_if_success (with_reducible (show _ = _))); (show _ = _))))
     all_goals rfl
  ·have hie : i = ts.length := by omega
   subst hie
   rw [List.take_length]
   unfold svBD
   repeat ((try conv => whnf); first | (refine stpQ ?_))
   refine hQ1 _ _ ?_
   repeat ((try conv => whnf); first | (refine And.intro (by kernel_rfl) ?_) | (refine stpQ ?_))
   (refine z00 (by rfl) ?_ ?_ (by rfl)) <;> (repeat' (first | (exact eqA) | (refine And.intro ?_ ?_) | ((fail_if_success (with_reducible (show _ = _))); (show _ = _)))) <;> first | rfl | exact CvE.refl (cl_fl _) | exact CvE.refl (cl_nt _) | exact CvE.refl (cl_ch _)
end Go.Proofs.YtnhcfmmdaihneaaGreatDoor
