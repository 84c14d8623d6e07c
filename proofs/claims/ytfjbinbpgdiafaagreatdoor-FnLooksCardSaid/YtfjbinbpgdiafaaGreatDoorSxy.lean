/- Functions by content: the reference's shard applies a record. Functions by content: a shard is made from its disk, by the program and by the reference. -/
import Derived.Test.YtfjbinbpgdiafaaGreatDoorSvw
namespace Go.Proofs.YtfjbinbpgdiafaaGreatDoor
set_option maxRecDepth 100000
set_option maxHeartbeats 8000000
set_option linter.unusedVariables false
set_option linter.unusedSimpArgs false
set_option linter.unusedSectionVars false
open Go.RowKit Pl
attribute [local irreducible] z0r z0s z0z AnsP LeP
end Go.Proofs.YtfjbinbpgdiafaaGreatDoor
namespace Go.Proofs.YtfjbinbpgdiafaaGreatDoor
set_option maxRecDepth 100000
set_option maxHeartbeats 8000000
set_option linter.unusedVariables false
set_option linter.unusedSimpArgs false
set_option linter.unusedSectionVars false
open Go.RowKit Pl
attribute [local irreducible] z0r z0s z0z AnsP LeP
def vwZ (z : Bool) : List (List Lf) → List (List T)
 | [] => []
 | v :: r => (bif z then [.val nilV] else [.sl 2 (lvE v)]) :: vwE r
theorem zen (z : Bool) (l : List (List Lf)) : (vwZ z l).length = l.length := by cases l <;> simp [vwZ, z3D]
theorem zhf {z : Bool} {l : List (List Lf)} (h : 0 < l.length) (v : List Lf) : vwZ z (l ++ [v]) = vwZ z l ++ [[.sl 2 (lvE v)]] := by
 cases l with
 | nil => simp at h
 | cons a r => simp [vwZ, vwE]
theorem zcs (l : List Fl) (h : (l.length : Int) ≤ 100000000) : CT Tryz.prog 116 [] [.agg [.sl 3 (flE l)]] (.agg [.sl 3 (flE l)]) [] := by
 have hl := z2o l
 refine z01 z0p 1 rfl Tryz.func116 rfl rfl rfl ?_
 repeat ((try conv => whnf); first | (refine And.intro (by simp only [List.length_append, List.length_cons, List.length_nil, List.nil_append, List.length_replicate]; omega) ?_) | (refine And.intro (by kernel_rfl) ?_) | (refine stpQ ?_))
 (refine z00 (by rfl) ?_ ?_ (by rfl)) <;> (repeat' (first | (exact eqA) | (refine And.intro ?_ ?_) | ((fail_if_success (with_reducible (show _ = _))); (show _ = _))))
theorem sE_get {ps : List Bs} {k : Nat} (h : k < ps.length) : (strE ps)[k]? = some [.str ps[k]] := by simp [strE, List.getElem?_eq_getElem h]
def z0Y : Bs := [115, 104, 97, 114, 100]
theorem zfy (a K : Int) (s : Sv) (t : Bs) : (rkOf a K s t = .no) ∨ (∃ u, rkOf a K s t = .all u) ∨ (∃ e y k, rkOf a K s t = .rdy e y k) ∨ rkOf a K s t = .com := by
 cases h : rkOf a K s t with
 | no => exact .inl rfl
 | all u => exact .inr (.inl ⟨u, rfl⟩)
 | rdy e y k => exact .inr (.inr (.inl ⟨e, y, k, rfl⟩))
 | com => exact .inr (.inr (.inr rfl))
theorem vs_pos {n : Nat} {s : Sv} (g : SvOk n s) : 0 < s.vs.length ∧ s.vs.length ≤ 5 := by have := g.vl; have := g.ep; omega
theorem zac (a K : Int) (fs : List Fl) (hf : za1 fs) : CT Tryz.prog 51 [] [.int .i64 a, .int .i64 K, .agg [.sl 3 (flE fs)]] (.agg (svE a K true fs (vwZ true (svOf a K (z10 fs z0Y)).vs) (svOf a K (z10 fs z0Y)))) [] := by
 have c1 := zcs fs hf.1
 have c2 := zch fs z0Y hf
 have hfacts := z2v fs z0Y
 generalize z10 fs z0Y = ts at c2 hfacts ⊢
 have hts := z0H ts
 have hts2 : (ts.length : Int) ≤ 20001 := by omega
 unfold z0Y at c2
 refine z01 z0p 1 rfl Tryz.func51 rfl rfl rfl ?_
 repeat ((try conv => whnf); first | (refine ccA ([]) (c1) ?_) | (refine ccA ([]) (c2) ?_) | (refine And.intro (by kernel_rfl) ?_) | (refine stpQ ?_))
 refine z3V Nat (fun i => ⟨[(6, .ptr 1 0 0), (7, .ptr 2 0 0), (18, .sl 1 (strE ts)), (19, .int .i64 ((strE ts).length : Int)), (20, .int .i64 (i : Int))],
  [(1, some (.box [.int .i64 0, .int .i64 0, .bool false, .val nilV, .int .i64 0, .val nilV, .val nilV, .val nilV, .int .i64 0, .int .i64 0, .int .i64 0])), (2, some (svB a K true fs (svOf a K (ts.take i)) 3 4 5)), (3, some (.row 1 (vwZ true (svOf a K (ts.take i)).vs))), (4, some (.row 1 (ntE (svOf a K (ts.take i)).tk))), (5, some (.row 3 (chE (svOf a K (ts.take i)).al)))], 6⟩) (fun i => i ≤ ts.length) (fun i => ts.length - i) 0 (by omega) ?_ ?_
 ·(refine z02 (by rfl) ?_ ?_) <;> (repeat' (first | (exact eqA) | (refine And.intro ?_ ?_) | ((fail_if_success (with_reducible (show _ = _))); (show _ = _)))) <;> first | rfl | decide
 ·intro Q1 hQ1 i hi
  by_cases hlt : i < ts.length
  ·have hlt2 : (i : Int) < ((strE ts).length : Int) := by omega
   have hnx := zgU a K hlt
   have g : SvOk (ts.take i).length (svOf a K (ts.take i)) := z9W a K _
   have gl : (ts.take i).length ≤ 30000 := by rw [List.length_take]; omega
   have hmem := hfacts.1 _ (List.getElem_mem hlt)
   have gt := sE_get (ps := ts) hlt
   generalize ts[i] = t at hnx hmem gt
   obtain ⟨b, r, rfl⟩ : ∃ b r, t = b :: r := by
    cases t with
    | nil => simp at hmem
    | cons b r => exact ⟨b, r, rfl⟩
   have hr : r.length ≤ 9000 := by have := hmem.2; simp at this; omega
   generalize svOf a K (ts.take i) = s at hnx g ⊢
   have hvs := vs_pos g
   have cA := zh5 a K true fs (vwZ true s.vs) (by rw [zen]; omega) s g gl b r hr
   have happ := zhf (z := true) hvs.1 (z1N s)
   have hs' : z6z a K s (b :: r) = rkDo s (rkOf a K s (b :: r)) := rfl
   rw [hs'] at hnx
   generalize rkOf a K s (b :: r) = rk at cA hnx
   clear hs' g hvs hfacts hmem
   cases rk with
   | no =>
     unfold svH svB at cA
     unfold svB
     repeat ((try conv => whnf); first | (refine i_at gt ?_) | (refine z2B ([2, 3, 4, 5]) (cA) (by ((repeat' (first | (exact trivial) | (exact rfl) | (decide) | (refine And.intro ?_ ?_))); first | done | fail)) (by ((repeat' (first | (exact trivial) | (exact rfl) | (decide) | (refine And.intro ?_ ?_))); first | done | fail)) (by decide) (by rfl) (by first | exact .inl rfl | (refine .inr ⟨by simp [own2, own1, own0], fun e he => ?_⟩; simp only [List.mem_cons, List.not_mem_nil, or_false] at he <;> first | exact he.elim | (subst he; (first | exact z1A | exact z1z | exact z16 _ | exact z1a _)) | (rcases he with rfl | rfl <;> (first | exact z1A | exact z1z | exact z16 _ | exact z1a _)) | (rcases he with rfl | rfl | rfl <;> (first | exact z1A | exact z1z | exact z16 _ | exact z1a _)))) ?_) | (refine ccB ([2, 3, 4, 5]) (cA) ?_) | (refine stpQ ?_))
     refine ⟨i + 1, by omega, by omega, ?_⟩
     rw [hnx]
     (refine z02 (by rfl) ?_ ?_) <;> (repeat' (first | (exact eqA) | (refine And.intro ?_ ?_) | ((fail_if_success (with_reducible (show _ = _))); (show _ = _))))
     all_goals rfl
   | all u =>
     unfold svH svB at cA
     unfold svB
     repeat ((try conv => whnf); first | (refine i_at gt ?_) | (refine z2B ([2, 3, 4, 5]) (cA) (by ((repeat' (first | (exact trivial) | (exact rfl) | (decide) | (refine And.intro ?_ ?_))); first | done | fail)) (by ((repeat' (first | (exact trivial) | (exact rfl) | (decide) | (refine And.intro ?_ ?_))); first | done | fail)) (by decide) (by rfl) (by first | exact .inl rfl | (refine .inr ⟨by simp [own2, own1, own0], fun e he => ?_⟩; simp only [List.mem_cons, List.not_mem_nil, or_false] at he <;> first | exact he.elim | (subst he; (first | exact z1A | exact z1z | exact z16 _ | exact z1a _)) | (rcases he with rfl | rfl <;> (first | exact z1A | exact z1z | exact z16 _ | exact z1a _)) | (rcases he with rfl | rfl | rfl <;> (first | exact z1A | exact z1z | exact z16 _ | exact z1a _)))) ?_) | (refine ccB ([2, 3, 4, 5]) (cA) ?_) | (refine stpQ ?_))
     refine ⟨i + 1, by omega, by omega, ?_⟩
     rw [hnx]
     (refine z02 (by rfl) ?_ ?_) <;> (repeat' (first | (exact eqA) | (refine And.intro ?_ ?_) | ((fail_if_success (with_reducible (show _ = _))); (show _ = _))))
     all_goals rfl
   | rdy e y k =>
     unfold svH svB at cA
     unfold svB
     repeat ((try conv => whnf); first | (refine i_at gt ?_) | (refine z2B ([2, 3, 4, 5]) (cA) (by ((repeat' (first | (exact trivial) | (exact rfl) | (decide) | (refine And.intro ?_ ?_))); first | done | fail)) (by ((repeat' (first | (exact trivial) | (exact rfl) | (decide) | (refine And.intro ?_ ?_))); first | done | fail)) (by decide) (by rfl) (by first | exact .inl rfl | (refine .inr ⟨by simp [own2, own1, own0], fun e he => ?_⟩; simp only [List.mem_cons, List.not_mem_nil, or_false] at he <;> first | exact he.elim | (subst he; (first | exact z1A | exact z1z | exact z16 _ | exact z1a _)) | (rcases he with rfl | rfl <;> (first | exact z1A | exact z1z | exact z16 _ | exact z1a _)) | (rcases he with rfl | rfl | rfl <;> (first | exact z1A | exact z1z | exact z16 _ | exact z1a _)))) ?_) | (refine ccB ([2, 3, 4, 5]) (cA) ?_) | (refine stpQ ?_))
     refine ⟨i + 1, by omega, by omega, ?_⟩
     rw [hnx]
     (refine z02 (by rfl) ?_ ?_) <;> (repeat' (first | (exact eqA) | (refine And.intro ?_ ?_) | ((fail_if_success (with_reducible (show _ = _))); (show _ = _))))
     all_goals rfl
   | com =>
     unfold svH svB z19 at cA
     rw [← happ] at cA
     unfold svB
     repeat ((try conv => whnf); first | (refine i_at gt ?_) | (refine z2B ([2, 3, 4, 5]) (cA) (by ((repeat' (first | (exact trivial) | (exact rfl) | (decide) | (refine And.intro ?_ ?_))); first | done | fail)) (by ((repeat' (first | (exact trivial) | (exact rfl) | (decide) | (refine And.intro ?_ ?_))); first | done | fail)) (by decide) (by rfl) (by first | exact .inl rfl | (refine .inr ⟨by simp [own2, own1, own0], fun e he => ?_⟩; simp only [List.mem_cons, List.not_mem_nil, or_false] at he <;> first | exact he.elim | (subst he; (first | exact z1A | exact z1z | exact z16 _ | exact z1a _)) | (rcases he with rfl | rfl <;> (first | exact z1A | exact z1z | exact z16 _ | exact z1a _)) | (rcases he with rfl | rfl | rfl <;> (first | exact z1A | exact z1z | exact z16 _ | exact z1a _)))) ?_) | (refine ccB ([2, 3, 4, 5]) (cA) ?_) | (refine stpQ ?_))
     refine ⟨i + 1, by omega, by omega, ?_⟩
     rw [hnx]
     (refine z02 (by rfl) ?_ ?_) <;> (repeat' (first | (exact eqA) | (refine And.intro ?_ ?_) | ((fail_if_success (with_reducible (show _ = _))); (show _ = _))))
     all_goals rfl
  ·have hie : i = ts.length := by omega
   subst hie
   rw [List.take_length]
   unfold svB
   repeat ((try conv => whnf); first | (refine stpQ ?_))
   refine hQ1 _ _ ?_
   repeat ((try conv => whnf); first | (refine And.intro (by kernel_rfl) ?_) | (refine stpQ ?_))
   (refine z00 (by rfl) ?_ ?_ (by rfl)) <;> (repeat' (first | (exact eqA) | (refine And.intro ?_ ?_) | ((fail_if_success (with_reducible (show _ = _))); (show _ = _))))
end Go.Proofs.YtfjbinbpgdiafaaGreatDoor
