/- Functions by content: proofs of several names drawn and spoiled. -/
import Derived.Test.YtfjbinbpgdiafaaGreatDoorMps
import Derived.Test.YtfjbinbpgdiafaaGreatDoorMrx
import Derived.Test.YtfjbinbpgdiafaaGreatDoorMtz
import Derived.Test.YtfjbinbpgdiafaaGreatDoorDnm
import Derived.Test.YtfjbinbpgdiafaaGreatDoorAn
namespace Go.Proofs.YtfjbinbpgdiafaaGreatDoor
set_option maxRecDepth 100000
set_option maxHeartbeats 8000000
set_option linter.unusedVariables false
set_option linter.unusedSimpArgs false
set_option linter.unusedSectionVars false
open Go.RowKit Pl
structure MnF (names : List Bs) (bks : List (List Lf)) (sides : List Bs) : Prop where
 n1 : 1 ≤ names.length
 n6 : names.length ≤ 6
 nm : ∀ s ∈ names, s.length ≤ 9
 bl : bks.length ≤ 8
 sm : ∀ b ∈ bks, Sml b
 sl : sides.length ≤ 100
theorem z7A : ∀ L : List Nat, 2 * (lvUp L).length = L.length + lvNd L
 | [] => rfl
 | [_] => rfl
 | p :: q :: M => by
   rw [lvUp, lvNd]
   split
   ·have := z7A M
    simp only [List.length_cons]
    omega
   ·have := z7A (q :: M)
    simp only [List.length_cons] at this ⊢
    omega
theorem z8v : ∀ (n : Nat) (L : List Nat), z1e n L = 0 → L ≠ [] → 2 ^ n ≤ L.length
 | 0, L, _, h => by cases L with
   | nil => exact absurd rfl h
   | cons a b => simp
 | n + 1, L, h0, h => by
   rw [z1e] at h0
   have h1 := z7A L
   have h2 := z8v n (lvUp L) (by omega) (z97 h)
   rw [Nat.pow_succ]
   omega
theorem zfE {x : Int} (h : x ∈ ([16, 16, 1, 32] : List Int)) : ∃ n : Nat, (1 ≤ n ∧ n ≤ 32) ∧ x = (n : Int) := by
 simp only [List.mem_cons, List.not_mem_nil, or_false] at h
 rcases h with h | h | h | h <;> subst h
 ·exact ⟨16, by decide, rfl⟩
 ·exact ⟨16, by decide, rfl⟩
 ·exact ⟨1, by decide, rfl⟩
 ·exact ⟨32, by decide, rfl⟩
theorem zfF (l : List Lf) (n v : Bs) : lvE (l ++ [(n, v)]) = lvE l ++ [[.str n, .str v]] := by simp [lvE]
theorem zfG (l : List Bs) (i : Nat) (x : Bs) : strE (l.set i x) = (strE l).set i [.str x] := by simp [strE, List.map_set]
theorem i_atzZ {α : Type} {es : List α} {K : Nat → α → Prop} {e : α} (h : es[0]? = some e) (hk : K 0 e) : ∃ (i : Nat) (e : α), (0 : Int) = i ∧ es[i]? = some e ∧ K i e := ⟨0, e, rfl, h, hk⟩
section
attribute [local irreducible] z0t z0u z0A AnsP LeP W CvE z0D sdA sdL
theorem zaB (c : Bs) (i : Nat) (h : Int) (w : Nat) (hc : (c.length : Int) ≤ 1048576) (hi : i ≤ c.length) (hw : 1 ≤ w ∧ w ≤ 32) : ∃ (names : List Bs) (bks : List (List Lf)) (sides : List Bs) (i' : Nat) (h' : Int), MnF names bks sides ∧ i' ≤ c.length ∧ CT Tryz.prog 55 [curE c i h] [.ptr 1 0 0, .int .i64 (w : Int)] (.agg [.sl 1 (strE names), .sl 1 (bkE bks), .sl 1 (strE sides)]) [curE c i' h'] := by
 obtain ⟨x, i1, h1, hx, hi1, k1⟩ := z2z c i h 12 hc hi (by decide)
 obtain ⟨y, i2, h2, hy, hi2, k2⟩ := z2z c i1 h1 60 hc hi1 (by decide)
 obtain ⟨names, i3, h3, ⟨hn, hn1, hn5⟩, hi3, k3⟩ := z8t c i2 h2 hc hi2
 obtain ⟨l, i4, h4, ⟨hl, hls, hl9⟩, hi4, k4⟩ := z8k c i3 h3 hc hi3
 have hnm : z0N names = true := by
  simp only [z0N, Bool.and_eq_true, List.all_eq_true, decide_eq_true_eq]
  exact ⟨fun s hs => (hn s hs).1, by omega, by omega⟩
 have k5 := z3Q l names w hl hnm hw
 have hbl := z7t l names
 have hKn := z1Y names
 have hKne := z9j (names := names) (fun e => by rw [e] at hn1; simp at hn1)
 have hK0 : 0 < (ixsN names).length := List.length_pos_iff.2 hKne
 have hbs : ∀ b ∈ mnB l names, Small9 b ∧ b.length ≤ 9 := fun b hb => by
  simp only [mnB, List.mem_map] at hb
  obtain ⟨p, _, rfl⟩ := hb
  exact ⟨fun z hz => hls z (List.mem_filter.1 hz).1, Nat.le_trans (List.length_filter_le _ _) hl9⟩
 have hsd : (mnS l names w).length = z1e 8 (ixsN names) := z7q l w 8 0 _
 have hsd1 : 1 ≤ (mnS l names w).length := by
  rcases Nat.eq_zero_or_pos (mnS l names w).length with e | e
  ·have := z8v 8 (ixsN names) (by omega) hKne
   omega
  ·exact e
 have hsd2 : (mnS l names w).length ≤ 8 * 5 := by rw [hsd]; exact z4G 8 _ 5 (by omega)
 have hnl : ∀ s ∈ names, s.length ≤ 9 := fun s hs => (hn s hs).2
 generalize mnB l names = bks at *
 generalize mnS l names w = sides at *
 have hbk : ∀ b ∈ bks, Sml b := fun b hb => z3R (hbs b hb).1 (by have := (hbs b hb).2; omega)
 obtain ⟨b0, br, eb⟩ : ∃ b0 br, bks = b0 :: br := by
  cases bks with
  | nil => simp at hbl; omega
  | cons a b => exact ⟨a, b, rfl⟩
 obtain ⟨s0, sr, es⟩ : ∃ s0 sr, sides = s0 :: sr := by
  cases sides with
  | nil => simp at hsd1
  | cons a b => exact ⟨a, b, rfl⟩
 have cx := zd2 w (UInt8.ofNat y) (by omega)
 have c97 := zd2 w 97 (by omega)
 clear hK0 hKne hsd hl hls hnm
 have hne := z0h names
 have hbe := z2c bks
 have hse := z0h sides
 by_cases x0 : x = 0
 ·obtain ⟨nw, i5, h5, hnw, hi5, k6⟩ := z2P c i4 h4 hc hi4
  refine ⟨names ++ [nw], bks, sides, i5, h5, ⟨by simp, by simp; omega, fun s hs => by
   rcases List.mem_append.1 hs with hs | hs
   ·exact hnl s hs
   ·rw [List.mem_singleton.1 hs]; exact hnw.2, by omega, hbk, by omega⟩, hi5, ?_⟩
  have n0 : ((x : Nat) : Int) = 0 := by omega
  have n1 : ¬ ((x : Nat) : Int) = 1 := by omega
  have n2 : ¬ ((x : Nat) : Int) = 2 := by omega
  have n3 : ¬ ((x : Nat) : Int) = 3 := by omega
  have n4 : ¬ ((x : Nat) : Int) = 4 := by omega
  have n5 : ¬ ((x : Nat) : Int) = 5 := by omega
  rw [z5P]
  generalize strE names = NM at *
  generalize bkE bks = BB at *
  generalize strE sides = SS at *
  clear hbk hbs hn hnl
  refine z0b z0p 2 rfl Tryz.func55 rfl rfl rfl ?_
  conv => arg 6; whnf
  repeat ((try conv => whnf); first | (with_reducible first | refine z0a (fun Qs hN hE hR => ?_) | refine z08 ?_ | refine z00 (fun Qb kN kE kX kR => ?_) | refine z04 ?_ | refine z05 ?_ | refine z09 ?_ | refine z06 ?_ | refine z07 ?_ | (show W _ _ _ (.cond _ _ _) _ _; refine z03 rfl ?_) | (refine hN _ ?_; try clear hN hE hR Qs; (try (conv => arg 6; dsimp only [ovl, List.set, List.map, ren0]))) | ((first | refine hE _ _ ?_ | refine hR _ ?_); try clear hN hE hR Qs) | ((first | refine kN _ ?_ | refine kE _ ?_ | refine kX _ _ rfl ?_ | refine kR _ ?_); try clear kN kE kX kR Qb)) | (refine ccB ([1]) (k1) ?_) | (refine ccB ([1]) (k2) ?_) | (refine ccB ([1]) (k3) ?_) | (refine ccB ([1]) (k4) ?_) | (refine z1B ([]) (k5) (by ((repeat' (first | (exact trivial) | (exact rfl) | (decide) | (refine And.intro ?_ ?_))); first | done | fail)) (by ((repeat' (first | (exact trivial) | (exact rfl) | (decide) | (refine And.intro ?_ ?_))); first | done | fail)) (by decide) (by rfl) (by first | exact .inl rfl | (refine .inr ⟨?_, ?_⟩ <;> simp [own2, own1, own0, ownE])) ?_) | (refine z0c n0 ?_) | (refine z0d n1 ?_) | (refine z0d n2 ?_) | (refine z0d n3 ?_) | (refine z0d n4 ?_) | (refine z0d n5 ?_) | (refine ccB ([1]) (k6) ?_) | (refine And.intro (by simp only [List.length_append, List.length_set, List.length_replicate, List.length_cons, List.length_nil, List.nil_append]; omega) ?_) | (refine And.intro (by kernel_rfl) ?_) | (refine stpQ ?_))
  (refine z02 (by rfl) ?_ ?_ (by rfl)) <;> (repeat' (first | (exact eqA) | (refine And.intro ?_ ?_) | ((fail_if_success (with_reducible (show _ = _))); (show _ = _)))) <;> first | rfl | (simp; done)
 by_cases x1 : x = 1
 ·refine ⟨names, bks, sr, i4, h4, ⟨hn1, by omega, hnl, by omega, hbk, by rw [es] at hsd2; simp at hsd2; omega⟩, hi4, ?_⟩
  have n0 : ¬ ((x : Nat) : Int) = 0 := by omega
  have n1 : ((x : Nat) : Int) = 1 := by omega
  have n2 : ¬ ((x : Nat) : Int) = 2 := by omega
  have n3 : ¬ ((x : Nat) : Int) = 3 := by omega
  have n4 : ¬ ((x : Nat) : Int) = 4 := by omega
  have n5 : ¬ ((x : Nat) : Int) = 5 := by omega
  subst es
  have eS : strE (s0 :: sr) = [.str s0] :: strE sr := rfl
  rw [eS] at k5 hse
  have hS1 : 1 ≤ ([.str s0] :: strE sr : List (List T)).length := by simp
  generalize strE names = NM at *
  generalize bkE bks = BB at *
  generalize strE sr = SR at *
  clear hbk hbs hn hnl
  refine z0b z0p 2 rfl Tryz.func55 rfl rfl rfl ?_
  conv => arg 6; whnf
  repeat ((try conv => whnf); first | (with_reducible first | refine z0a (fun Qs hN hE hR => ?_) | refine z08 ?_ | refine z00 (fun Qb kN kE kX kR => ?_) | refine z04 ?_ | refine z05 ?_ | refine z09 ?_ | refine z06 ?_ | refine z07 ?_ | (show W _ _ _ (.cond _ _ _) _ _; refine z03 rfl ?_) | (refine hN _ ?_; try clear hN hE hR Qs; (try (conv => arg 6; dsimp only [ovl, List.set, List.map, ren0]))) | ((first | refine hE _ _ ?_ | refine hR _ ?_); try clear hN hE hR Qs) | ((first | refine kN _ ?_ | refine kE _ ?_ | refine kX _ _ rfl ?_ | refine kR _ ?_); try clear kN kE kX kR Qb)) | (refine ccB ([1]) (k1) ?_) | (refine ccB ([1]) (k2) ?_) | (refine ccB ([1]) (k3) ?_) | (refine ccB ([1]) (k4) ?_) | (refine z1B ([]) (k5) (by ((repeat' (first | (exact trivial) | (exact rfl) | (decide) | (refine And.intro ?_ ?_))); first | done | fail)) (by ((repeat' (first | (exact trivial) | (exact rfl) | (decide) | (refine And.intro ?_ ?_))); first | done | fail)) (by decide) (by rfl) (by first | exact .inl rfl | (refine .inr ⟨?_, ?_⟩ <;> simp [own2, own1, own0, ownE])) ?_) | (refine z0d n0 ?_) | (refine z0c n1 ?_) | (refine z0d n2 ?_) | (refine z0d n3 ?_) | (refine z0d n4 ?_) | (refine z0d n5 ?_) | (refine z7p hS1 ?_) | (refine And.intro (by simp only [List.length_append, List.length_set, List.length_replicate, List.length_cons, List.length_nil, List.nil_append]; omega) ?_) | (refine And.intro (by kernel_rfl) ?_) | (refine stpQ ?_))
  (refine z02 (by rfl) ?_ ?_ (by rfl)) <;> (repeat' (first | (exact eqA) | (refine And.intro ?_ ?_) | ((fail_if_success (with_reducible (show _ = _))); (show _ = _)))) <;> first | rfl | (simp; done)
 by_cases x2 : x = 2
 ·refine ⟨names, bks, sides.set (y % sides.length) (List.replicate w (UInt8.ofNat y)), i4, h4, ⟨hn1, by omega, hnl, by omega, hbk, by rw [List.length_set]; omega⟩, hi4, ?_⟩
  have n0 : ¬ ((x : Nat) : Int) = 0 := by omega
  have n1 : ¬ ((x : Nat) : Int) = 1 := by omega
  have n2 : ((x : Nat) : Int) = 2 := by omega
  have n3 : ¬ ((x : Nat) : Int) = 3 := by omega
  have n4 : ¬ ((x : Nat) : Int) = 4 := by omega
  have n5 : ¬ ((x : Nat) : Int) = 5 := by omega
  have hlt : y % sides.length < (strE sides).length := by rw [hse]; exact Nat.mod_lt _ hsd1
  have gS : (strE sides)[y % sides.length]? = some [.str (sides.getD (y % sides.length) [])] := by
   have h6 : y % sides.length < sides.length := Nat.mod_lt _ hsd1
   simp [strE, List.getElem?_eq_getElem h6, List.getD]
  rw [zfG]
  generalize sides.getD (y % sides.length) [] = so at *
  generalize List.replicate w (UInt8.ofNat y) = nv at *
  generalize strE names = NM at *
  generalize bkE bks = BB at *
  generalize strE sides = SS at *
  clear hbk hbs hn hnl
  refine z0b z0p 2 rfl Tryz.func55 rfl rfl rfl ?_
  conv => arg 6; whnf
  repeat ((try conv => whnf); first | (with_reducible first | refine z0a (fun Qs hN hE hR => ?_) | refine z08 ?_ | refine z00 (fun Qb kN kE kX kR => ?_) | refine z04 ?_ | refine z05 ?_ | refine z09 ?_ | refine z06 ?_ | refine z07 ?_ | (show W _ _ _ (.cond _ _ _) _ _; refine z03 rfl ?_) | (refine hN _ ?_; try clear hN hE hR Qs; (try (conv => arg 6; dsimp only [ovl, List.set, List.map, ren0]))) | ((first | refine hE _ _ ?_ | refine hR _ ?_); try clear hN hE hR Qs) | ((first | refine kN _ ?_ | refine kE _ ?_ | refine kX _ _ rfl ?_ | refine kR _ ?_); try clear kN kE kX kR Qb)) | (refine ccB ([1]) (k1) ?_) | (refine ccB ([1]) (k2) ?_) | (refine ccB ([1]) (k3) ?_) | (refine ccB ([1]) (k4) ?_) | (refine z1B ([]) (k5) (by ((repeat' (first | (exact trivial) | (exact rfl) | (decide) | (refine And.intro ?_ ?_))); first | done | fail)) (by ((repeat' (first | (exact trivial) | (exact rfl) | (decide) | (refine And.intro ?_ ?_))); first | done | fail)) (by decide) (by rfl) (by first | exact .inl rfl | (refine .inr ⟨?_, ?_⟩ <;> simp [own2, own1, own0, ownE])) ?_) | (refine z0d n0 ?_) | (refine z0d n1 ?_) | (refine z0c n2 ?_) | (refine z0d n3 ?_) | (refine z0d n4 ?_) | (refine z0d n5 ?_) | (refine Exists.intro sides.length (And.intro hse ?_)) | (refine w_u8 ?_) | (refine zfi ?_) | (refine ccA ([]) (cx) ?_) | (refine i_lt hlt ?_) | (refine Exists.intro _ (And.intro gS ?_)) | (refine And.intro (by simp only [List.length_append, List.length_set, List.length_replicate, List.length_cons, List.length_nil, List.nil_append]; omega) ?_) | (refine And.intro (by kernel_rfl) ?_) | (refine stpQ ?_))
  (refine z02 (by rfl) ?_ ?_ (by rfl)) <;> (repeat' (first | (exact eqA) | (refine And.intro ?_ ?_) | ((fail_if_success (with_reducible (show _ = _))); (show _ = _)))) <;> first | rfl | (simp; done)
 by_cases x3 : x = 3
 ·refine ⟨names, br, sides, i4, h4, ⟨hn1, by omega, hnl, by rw [eb] at hbl; simp at hbl; omega, fun b hb => hbk b (by rw [eb]; exact List.mem_cons_of_mem _ hb), by omega⟩, hi4, ?_⟩
  have n0 : ¬ ((x : Nat) : Int) = 0 := by omega
  have n1 : ¬ ((x : Nat) : Int) = 1 := by omega
  have n2 : ¬ ((x : Nat) : Int) = 2 := by omega
  have n3 : ((x : Nat) : Int) = 3 := by omega
  have n4 : ¬ ((x : Nat) : Int) = 4 := by omega
  have n5 : ¬ ((x : Nat) : Int) = 5 := by omega
  subst eb
  have eB : bkE (b0 :: br) = [.sl 2 (lvE b0)] :: bkE br := rfl
  rw [eB] at k5 hbe
  have hB1 : 1 ≤ ([.sl 2 (lvE b0)] :: bkE br : List (List T)).length := by simp
  generalize strE names = NM at *
  generalize strE sides = SS at *
  generalize bkE br = BR at *
  generalize lvE b0 = LB at *
  clear hbk hbs hn hnl
  refine z0b z0p 2 rfl Tryz.func55 rfl rfl rfl ?_
  conv => arg 6; whnf
  repeat ((try conv => whnf); first | (with_reducible first | refine z0a (fun Qs hN hE hR => ?_) | refine z08 ?_ | refine z00 (fun Qb kN kE kX kR => ?_) | refine z04 ?_ | refine z05 ?_ | refine z09 ?_ | refine z06 ?_ | refine z07 ?_ | (show W _ _ _ (.cond _ _ _) _ _; refine z03 rfl ?_) | (refine hN _ ?_; try clear hN hE hR Qs; (try (conv => arg 6; dsimp only [ovl, List.set, List.map, ren0]))) | ((first | refine hE _ _ ?_ | refine hR _ ?_); try clear hN hE hR Qs) | ((first | refine kN _ ?_ | refine kE _ ?_ | refine kX _ _ rfl ?_ | refine kR _ ?_); try clear kN kE kX kR Qb)) | (refine ccB ([1]) (k1) ?_) | (refine ccB ([1]) (k2) ?_) | (refine ccB ([1]) (k3) ?_) | (refine ccB ([1]) (k4) ?_) | (refine z1B ([]) (k5) (by ((repeat' (first | (exact trivial) | (exact rfl) | (decide) | (refine And.intro ?_ ?_))); first | done | fail)) (by ((repeat' (first | (exact trivial) | (exact rfl) | (decide) | (refine And.intro ?_ ?_))); first | done | fail)) (by decide) (by rfl) (by first | exact .inl rfl | (refine .inr ⟨?_, ?_⟩ <;> simp [own2, own1, own0, ownE])) ?_) | (refine z0d n0 ?_) | (refine z0d n1 ?_) | (refine z0d n2 ?_) | (refine z0c n3 ?_) | (refine z0d n4 ?_) | (refine z0d n5 ?_) | (refine z7p hB1 ?_) | (refine And.intro (by simp only [List.length_append, List.length_set, List.length_replicate, List.length_cons, List.length_nil, List.nil_append]; omega) ?_) | (refine And.intro (by kernel_rfl) ?_) | (refine stpQ ?_))
  (refine z02 (by rfl) ?_ ?_ (by rfl)) <;> (repeat' (first | (exact eqA) | (refine And.intro ?_ ?_) | ((fail_if_success (with_reducible (show _ = _))); (show _ = _)))) <;> first | rfl | (simp; done)
 by_cases x4 : x = 4
 ·refine ⟨names, (b0 ++ [([122, 122], [118])]) :: br, sides, i4, h4, ⟨hn1, by omega, hnl, by rw [eb] at hbl; simp at hbl ⊢; omega, fun b hb => by
   rcases List.mem_cons.1 hb with e | hb
   ·have h6 := hbs b0 (by rw [eb]; exact List.mem_cons_self)
    rw [e]
    exact z3R (z5Q h6.1 (by decide) (by decide)) (by simp; omega)
   ·exact hbk b (by rw [eb]; exact List.mem_cons_of_mem _ hb), by omega⟩, hi4, ?_⟩
  have n0 : ¬ ((x : Nat) : Int) = 0 := by omega
  have n1 : ¬ ((x : Nat) : Int) = 1 := by omega
  have n2 : ¬ ((x : Nat) : Int) = 2 := by omega
  have n3 : ¬ ((x : Nat) : Int) = 3 := by omega
  have n4 : ((x : Nat) : Int) = 4 := by omega
  have n5 : ¬ ((x : Nat) : Int) = 5 := by omega
  have h6 := (hbs b0 (by rw [eb]; exact List.mem_cons_self)).2
  have h7 := z0v b0
  subst eb
  have eB : bkE (b0 :: br) = [.sl 2 (lvE b0)] :: bkE br := rfl
  have eA : bkE ((b0 ++ [([122, 122], [118])]) :: br) = [.sl 2 (lvE b0 ++ [[.str [122, 122], .str [118]]])] :: bkE br := by
   show [.sl 2 (lvE (b0 ++ [([122, 122], [118])]))] :: bkE br = _
   rw [zfF]
  rw [eB] at k5 hbe
  rw [eA]
  have hB0 : 0 < ([.sl 2 (lvE b0)] :: bkE br : List (List T)).length := by simp
  have gB : ([.sl 2 (lvE b0)] :: bkE br : List (List T))[0]? = some [.sl 2 (lvE b0)] := rfl
  generalize strE names = NM at *
  generalize strE sides = SS at *
  generalize bkE br = BR at *
  generalize lvE b0 = LB at *
  clear hbk hbs hn hnl
  refine z0b z0p 2 rfl Tryz.func55 rfl rfl rfl ?_
  conv => arg 6; whnf
  repeat ((try conv => whnf); first | (with_reducible first | refine z0a (fun Qs hN hE hR => ?_) | refine z08 ?_ | refine z00 (fun Qb kN kE kX kR => ?_) | refine z04 ?_ | refine z05 ?_ | refine z09 ?_ | refine z06 ?_ | refine z07 ?_ | (show W _ _ _ (.cond _ _ _) _ _; refine z03 rfl ?_) | (refine hN _ ?_; try clear hN hE hR Qs; (try (conv => arg 6; dsimp only [ovl, List.set, List.map, ren0]))) | ((first | refine hE _ _ ?_ | refine hR _ ?_); try clear hN hE hR Qs) | ((first | refine kN _ ?_ | refine kE _ ?_ | refine kX _ _ rfl ?_ | refine kR _ ?_); try clear kN kE kX kR Qb)) | (refine ccB ([1]) (k1) ?_) | (refine ccB ([1]) (k2) ?_) | (refine ccB ([1]) (k3) ?_) | (refine ccB ([1]) (k4) ?_) | (refine z1B ([]) (k5) (by ((repeat' (first | (exact trivial) | (exact rfl) | (decide) | (refine And.intro ?_ ?_))); first | done | fail)) (by ((repeat' (first | (exact trivial) | (exact rfl) | (decide) | (refine And.intro ?_ ?_))); first | done | fail)) (by decide) (by rfl) (by first | exact .inl rfl | (refine .inr ⟨?_, ?_⟩ <;> simp [own2, own1, own0, ownE])) ?_) | (refine z0d n0 ?_) | (refine z0d n1 ?_) | (refine z0d n2 ?_) | (refine z0d n3 ?_) | (refine z0c n4 ?_) | (refine z0d n5 ?_) | (refine Exists.intro 0 (And.intro rfl (And.intro hB0 ?_))) | (refine Exists.intro _ (And.intro gB ?_)) | (refine And.intro (by simp only [List.length_append, List.length_set, List.length_replicate, List.length_cons, List.length_nil, List.nil_append]; omega) ?_) | (refine And.intro (by kernel_rfl) ?_) | (refine stpQ ?_))
  (refine z02 (by rfl) ?_ ?_ (by rfl)) <;> (repeat' (first | (exact eqA) | (refine And.intro ?_ ?_) | ((fail_if_success (with_reducible (show _ = _))); (show _ = _)))) <;> first | rfl | (simp; done)
 by_cases x5 : x = 5
 ·refine ⟨names, bks, sides ++ [List.replicate w 97], i4, h4, ⟨hn1, by omega, hnl, by omega, hbk, by simp; omega⟩, hi4, ?_⟩
  have n0 : ¬ ((x : Nat) : Int) = 0 := by omega
  have n1 : ¬ ((x : Nat) : Int) = 1 := by omega
  have n2 : ¬ ((x : Nat) : Int) = 2 := by omega
  have n3 : ¬ ((x : Nat) : Int) = 3 := by omega
  have n4 : ¬ ((x : Nat) : Int) = 4 := by omega
  have n5 : ((x : Nat) : Int) = 5 := by omega
  rw [z5P]
  generalize List.replicate w (97 : UInt8) = nv at *
  generalize strE names = NM at *
  generalize bkE bks = BB at *
  generalize strE sides = SS at *
  clear hbk hbs hn hnl
  refine z0b z0p 2 rfl Tryz.func55 rfl rfl rfl ?_
  conv => arg 6; whnf
  repeat ((try conv => whnf); first | (with_reducible first | refine z0a (fun Qs hN hE hR => ?_) | refine z08 ?_ | refine z00 (fun Qb kN kE kX kR => ?_) | refine z04 ?_ | refine z05 ?_ | refine z09 ?_ | refine z06 ?_ | refine z07 ?_ | (show W _ _ _ (.cond _ _ _) _ _; refine z03 rfl ?_) | (refine hN _ ?_; try clear hN hE hR Qs; (try (conv => arg 6; dsimp only [ovl, List.set, List.map, ren0]))) | ((first | refine hE _ _ ?_ | refine hR _ ?_); try clear hN hE hR Qs) | ((first | refine kN _ ?_ | refine kE _ ?_ | refine kX _ _ rfl ?_ | refine kR _ ?_); try clear kN kE kX kR Qb)) | (refine ccB ([1]) (k1) ?_) | (refine ccB ([1]) (k2) ?_) | (refine ccB ([1]) (k3) ?_) | (refine ccB ([1]) (k4) ?_) | (refine z1B ([]) (k5) (by ((repeat' (first | (exact trivial) | (exact rfl) | (decide) | (refine And.intro ?_ ?_))); first | done | fail)) (by ((repeat' (first | (exact trivial) | (exact rfl) | (decide) | (refine And.intro ?_ ?_))); first | done | fail)) (by decide) (by rfl) (by first | exact .inl rfl | (refine .inr ⟨?_, ?_⟩ <;> simp [own2, own1, own0, ownE])) ?_) | (refine z0d n0 ?_) | (refine z0d n1 ?_) | (refine z0d n2 ?_) | (refine z0d n3 ?_) | (refine z0d n4 ?_) | (refine z0c n5 ?_) | (refine ccA ([]) (c97) ?_) | (refine And.intro (by simp only [List.length_append, List.length_set, List.length_replicate, List.length_cons, List.length_nil, List.nil_append]; omega) ?_) | (refine And.intro (by kernel_rfl) ?_) | (refine stpQ ?_))
  (refine z02 (by rfl) ?_ ?_ (by rfl)) <;> (repeat' (first | (exact eqA) | (refine And.intro ?_ ?_) | ((fail_if_success (with_reducible (show _ = _))); (show _ = _)))) <;> first | rfl | (simp; done)
 ·refine ⟨names, bks, sides, i4, h4, ⟨hn1, by omega, hnl, by omega, hbk, by omega⟩, hi4, ?_⟩
  have n0 : ¬ ((x : Nat) : Int) = 0 := by omega
  have n1 : ¬ ((x : Nat) : Int) = 1 := by omega
  have n2 : ¬ ((x : Nat) : Int) = 2 := by omega
  have n3 : ¬ ((x : Nat) : Int) = 3 := by omega
  have n4 : ¬ ((x : Nat) : Int) = 4 := by omega
  have n5 : ¬ ((x : Nat) : Int) = 5 := by omega
  generalize strE names = NM at *
  generalize bkE bks = BB at *
  generalize strE sides = SS at *
  clear hbk hbs hn hnl
  refine z0b z0p 2 rfl Tryz.func55 rfl rfl rfl ?_
  conv => arg 6; whnf
  repeat ((try conv => whnf); first | (with_reducible first | refine z0a (fun Qs hN hE hR => ?_) | refine z08 ?_ | refine z00 (fun Qb kN kE kX kR => ?_) | refine z04 ?_ | refine z05 ?_ | refine z09 ?_ | refine z06 ?_ | refine z07 ?_ | (show W _ _ _ (.cond _ _ _) _ _; refine z03 rfl ?_) | (refine hN _ ?_; try clear hN hE hR Qs; (try (conv => arg 6; dsimp only [ovl, List.set, List.map, ren0]))) | ((first | refine hE _ _ ?_ | refine hR _ ?_); try clear hN hE hR Qs) | ((first | refine kN _ ?_ | refine kE _ ?_ | refine kX _ _ rfl ?_ | refine kR _ ?_); try clear kN kE kX kR Qb)) | (refine ccB ([1]) (k1) ?_) | (refine ccB ([1]) (k2) ?_) | (refine ccB ([1]) (k3) ?_) | (refine ccB ([1]) (k4) ?_) | (refine z1B ([]) (k5) (by ((repeat' (first | (exact trivial) | (exact rfl) | (decide) | (refine And.intro ?_ ?_))); first | done | fail)) (by ((repeat' (first | (exact trivial) | (exact rfl) | (decide) | (refine And.intro ?_ ?_))); first | done | fail)) (by decide) (by rfl) (by first | exact .inl rfl | (refine .inr ⟨?_, ?_⟩ <;> simp [own2, own1, own0, ownE])) ?_) | (refine z0d n0 ?_) | (refine z0d n1 ?_) | (refine z0d n2 ?_) | (refine z0d n3 ?_) | (refine z0d n4 ?_) | (refine z0d n5 ?_) | (refine And.intro (by simp only [List.length_append, List.length_set, List.length_replicate, List.length_cons, List.length_nil, List.nil_append]; omega) ?_) | (refine And.intro (by kernel_rfl) ?_) | (refine stpQ ?_))
  (refine z02 (by rfl) ?_ ?_ (by rfl)) <;> (repeat' (first | (exact eqA) | (refine And.intro ?_ ?_) | ((fail_if_success (with_reducible (show _ = _))); (show _ = _)))) <;> first | rfl | (simp; done)
theorem z3a (c : Bs) (hc : (c.length : Int) ≤ 1048576) : ∃ (names : List Bs) (bks : List (List Lf)) (sides : List Bs) (w : Int), MnF names bks sides ∧ CT Tryz.prog 18 [] [.sl 1 (z0i c)] (.tup [.agg [.sl 1 (strE names), .sl 1 (bkE bks), .sl 1 (strE sides)], .int .i64 w]) [] := by
 obtain ⟨h, c1⟩ := z4C c hc
 obtain ⟨w0, i1, h1, hw0, hi1, c2⟩ := z5J c 0 h [16, 16, 1, 32] hc (by omega) (by decide)
 obtain ⟨w, hw, rfl⟩ := zfE hw0
 obtain ⟨names, bks, sides, i2, h2, hF, hi2, c3⟩ := zaB c i1 h1 w hc hi1 hw
 obtain ⟨b, i3, h3, hi3, c4⟩ := c_once c i2 h2 12 hc hi2 (by decide)
 obtain ⟨w2, i4, h4, _, _, c5⟩ := z5J c i3 h3 [0, 33, 5] hc hi3 (by decide)
 have e1 : intE [16, 16, 1, 32] = [[.int .i64 16], [.int .i64 16], [.int .i64 1], [.int .i64 32]] := rfl
 have e2 : intE [0, 33, 5] = [[.int .i64 0], [.int .i64 33], [.int .i64 5]] := rfl
 rw [e1] at c2
 rw [e2] at c5
 cases b
 ·refine ⟨names, bks, sides, (w : Int), hF, ?_⟩
  generalize strE names = NM at *
  generalize bkE bks = BB at *
  generalize strE sides = SS at *
  refine z0b z0p 1 rfl Tryz.func18 rfl rfl rfl ?_
  conv => arg 6; whnf
  repeat ((try conv => whnf); first | (with_reducible first | refine z0a (fun Qs hN hE hR => ?_) | refine z08 ?_ | refine z00 (fun Qb kN kE kX kR => ?_) | refine z04 ?_ | refine z05 ?_ | refine z09 ?_ | refine z06 ?_ | refine z07 ?_ | (show W _ _ _ (.cond _ _ _) _ _; refine z03 rfl ?_) | (refine hN _ ?_; try clear hN hE hR Qs; (try (conv => arg 6; dsimp only [ovl, List.set, List.map, ren0]))) | ((first | refine hE _ _ ?_ | refine hR _ ?_); try clear hN hE hR Qs) | ((first | refine kN _ ?_ | refine kE _ ?_ | refine kX _ _ rfl ?_ | refine kR _ ?_); try clear kN kE kX kR Qb)) | (refine ccA ([]) (c1) ?_) | (refine z1B ([_]) (c2) (by ((repeat' (first | (exact trivial) | (exact rfl) | (decide) | (refine And.intro ?_ ?_))); first | done | fail)) (by ((repeat' (first | (exact trivial) | (exact rfl) | (decide) | (refine And.intro ?_ ?_))); first | done | fail)) (by decide) (by rfl) (by first | exact .inl rfl | (refine .inr ⟨?_, ?_⟩ <;> simp [own2, own1, own0, ownE])) ?_) | (refine ccB ([_]) (c3) ?_) | (refine ccB ([_]) (c4) ?_) | (refine z1B ([_]) (c5) (by ((repeat' (first | (exact trivial) | (exact rfl) | (decide) | (refine And.intro ?_ ?_))); first | done | fail)) (by ((repeat' (first | (exact trivial) | (exact rfl) | (decide) | (refine And.intro ?_ ?_))); first | done | fail)) (by decide) (by rfl) (by first | exact .inl rfl | (refine .inr ⟨?_, ?_⟩ <;> simp [own2, own1, own0, ownE])) ?_) | (refine And.intro (by kernel_rfl) ?_) | (refine stpQ ?_))
  (refine z02 (by rfl) ?_ ?_ (by rfl)) <;> (repeat' (first | (exact eqA) | (refine And.intro ?_ ?_) | ((fail_if_success (with_reducible (show _ = _))); (show _ = _)))) <;> first | rfl | decide
 ·refine ⟨names, bks, sides, w2, hF, ?_⟩
  generalize strE names = NM at *
  generalize bkE bks = BB at *
  generalize strE sides = SS at *
  refine z0b z0p 1 rfl Tryz.func18 rfl rfl rfl ?_
  conv => arg 6; whnf
  repeat ((try conv => whnf); first | (with_reducible first | refine z0a (fun Qs hN hE hR => ?_) | refine z08 ?_ | refine z00 (fun Qb kN kE kX kR => ?_) | refine z04 ?_ | refine z05 ?_ | refine z09 ?_ | refine z06 ?_ | refine z07 ?_ | (show W _ _ _ (.cond _ _ _) _ _; refine z03 rfl ?_) | (refine hN _ ?_; try clear hN hE hR Qs; (try (conv => arg 6; dsimp only [ovl, List.set, List.map, ren0]))) | ((first | refine hE _ _ ?_ | refine hR _ ?_); try clear hN hE hR Qs) | ((first | refine kN _ ?_ | refine kE _ ?_ | refine kX _ _ rfl ?_ | refine kR _ ?_); try clear kN kE kX kR Qb)) | (refine ccA ([]) (c1) ?_) | (refine z1B ([_]) (c2) (by ((repeat' (first | (exact trivial) | (exact rfl) | (decide) | (refine And.intro ?_ ?_))); first | done | fail)) (by ((repeat' (first | (exact trivial) | (exact rfl) | (decide) | (refine And.intro ?_ ?_))); first | done | fail)) (by decide) (by rfl) (by first | exact .inl rfl | (refine .inr ⟨?_, ?_⟩ <;> simp [own2, own1, own0, ownE])) ?_) | (refine ccB ([_]) (c3) ?_) | (refine ccB ([_]) (c4) ?_) | (refine z1B ([_]) (c5) (by ((repeat' (first | (exact trivial) | (exact rfl) | (decide) | (refine And.intro ?_ ?_))); first | done | fail)) (by ((repeat' (first | (exact trivial) | (exact rfl) | (decide) | (refine And.intro ?_ ?_))); first | done | fail)) (by decide) (by rfl) (by first | exact .inl rfl | (refine .inr ⟨?_, ?_⟩ <;> simp [own2, own1, own0, ownE])) ?_) | (refine And.intro (by kernel_rfl) ?_) | (refine stpQ ?_))
  (refine z02 (by rfl) ?_ ?_ (by rfl)) <;> (repeat' (first | (exact eqA) | (refine And.intro ?_ ?_) | ((fail_if_success (with_reducible (show _ = _))); (show _ = _)))) <;> first | rfl | decide
inductive WnR (c : Bs) (n : Nat) : List Bs → Nat → Int → List Bs → Nat → Int → Prop
 | stop {l i h} : n ≤ l.length → WnR c n l i h l i h
 | step {l i h s i1 h1 l' i' h'} : l.length < n → CT Tryz.prog 33 [curE c i h] [.ptr 1 0 0] (.str s) [curE c i1 h1] → WnR c n (l ++ [s]) i1 h1 l' i' h' → WnR c n l i h l' i' h'
theorem zeD (c : Bs) (n : Nat) (hc : (c.length : Int) ≤ 1048576) : ∀ (f : Nat) (l : List Bs) (i : Nat) (h : Int), n ≤ l.length + f → i ≤ c.length → (∀ s ∈ l, s.length ≤ 9) → l.length ≤ 9 → n ≤ 9 →
 ∃ l' i' h', WnR c n l i h l' i' h' ∧ ((∀ s ∈ l', s.length ≤ 9) ∧ l'.length ≤ 9) ∧ i' ≤ c.length
 | f, l, i, h, hf, hi, ho, hl, hn => by
   by_cases hk : l.length < n
   ·obtain ⟨s, i1, h1, hs, hi1, cn⟩ := z2P c i h hc hi
    cases f with
    | zero => omega
    | succ f =>
      obtain ⟨l', i', h', hd, hr, hi'⟩ := zeD c n hc f (l ++ [s]) i1 h1 (by simp; omega) hi1 (fun z hz => by
       rcases List.mem_append.1 hz with hz | hz
       ·exact ho z hz
       ·rw [List.mem_singleton.1 hz]; exact hs.2) (by simp; omega) hn
      exact ⟨l', i', h', .step hk cn hd, hr, hi'⟩
   ·exact ⟨l, i, h, .stop (by omega), ⟨ho, hl⟩, hi⟩
theorem zbr (c : Bs) (i : Nat) (h : Int) (hc : (c.length : Int) ≤ 1048576) (hi : i ≤ c.length) : ∃ (w : Int) (i' : Nat) (h' : Int), i' ≤ c.length ∧ CT Tryz.prog 69 [curE c i h] [.ptr 1 0 0] (.int .i64 w) [curE c i' h'] := by
 obtain ⟨w, i1, h1, _, hi1, c2⟩ := z5J c i h [16, 16, 1, 32, 2, 0, 33] hc hi (by decide)
 have e1 : intE [16, 16, 1, 32, 2, 0, 33] = [[.int .i64 16], [.int .i64 16], [.int .i64 1], [.int .i64 32], [.int .i64 2], [.int .i64 0], [.int .i64 33]] := rfl
 rw [e1] at c2
 refine ⟨w, i1, h1, hi1, ?_⟩
 refine z0b z0p 2 rfl Tryz.func69 rfl rfl rfl ?_
 conv => arg 6; whnf
 repeat ((try conv => whnf); first | (with_reducible first | refine z0a (fun Qs hN hE hR => ?_) | refine z08 ?_ | refine z00 (fun Qb kN kE kX kR => ?_) | refine z04 ?_ | refine z05 ?_ | refine z09 ?_ | refine z06 ?_ | refine z07 ?_ | (show W _ _ _ (.cond _ _ _) _ _; refine z03 rfl ?_) | (refine hN _ ?_; try clear hN hE hR Qs; (try (conv => arg 6; dsimp only [ovl, List.set, List.map, ren0]))) | ((first | refine hE _ _ ?_ | refine hR _ ?_); try clear hN hE hR Qs) | ((first | refine kN _ ?_ | refine kE _ ?_ | refine kX _ _ rfl ?_ | refine kR _ ?_); try clear kN kE kX kR Qb)) | (refine z1B ([1]) (c2) (by ((repeat' (first | (exact trivial) | (exact rfl) | (decide) | (refine And.intro ?_ ?_))); first | done | fail)) (by ((repeat' (first | (exact trivial) | (exact rfl) | (decide) | (refine And.intro ?_ ?_))); first | done | fail)) (by decide) (by rfl) (by first | exact .inl rfl | (refine .inr ⟨?_, ?_⟩ <;> simp [own2, own1, own0, ownE])) ?_) | (refine And.intro (by kernel_rfl) ?_) | (refine stpQ ?_))
 (refine z02 (by rfl) ?_ ?_ (by rfl)) <;> (repeat' (first | (exact eqA) | (refine And.intro ?_ ?_) | ((fail_if_success (with_reducible (show _ = _))); (show _ = _)))) <;> first | rfl | decide
theorem z5R (c : Bs) (hc : (c.length : Int) ≤ 1048576) : ∃ (l : List Lf) (names : List Bs) (w : Int), (Sml l ∧ (∀ s ∈ names, s.length ≤ 9) ∧ names.length ≤ 9) ∧ CT Tryz.prog 21 [] [.sl 1 (z0i c)] (.tup [.sl 2 (lvE l), .sl 1 (strE names), .int .i64 w]) [] := by
 obtain ⟨h, c1⟩ := z4C c hc
 obtain ⟨w, i1, h1, hi1, c2⟩ := zbr c 0 h hc (by omega)
 obtain ⟨nm0, i2, h2, ⟨hn, hn1, hn5⟩, hi2, c3⟩ := z8t c i1 h1 hc hi1
 obtain ⟨x, i3, h3, hx, hi3, c4⟩ := z2z c i2 h2 10 hc hi2 (by decide)
 have hn9 : ∀ s ∈ nm0, s.length ≤ 9 := fun s hs => (hn s hs).2
 have hbl := z0s c
 have hne := z0h nm0
 by_cases x2 : x = 2
 ·obtain ⟨m, hm⟩ : ∃ m, m = 8 + c.length % 2 := ⟨_, rfl⟩
  have e8 : ((m : Nat) : Int) = IntKind.i64.wrap (8 + ((c.length % 2 : Nat) : Int)) := by rw [wrap_i64 (by omega) (by omega)]; omega
  obtain ⟨L, i4, h4, hW, ⟨hL9, hLl⟩, hi4⟩ := zeD c m hc 9 nm0 i3 h3 (by omega) hi3 hn9 (by omega) (by omega)
  obtain ⟨l, i5, h5, ⟨hl1, hl2⟩, hi5, c5⟩ := zaA c i4 h4 hc hi4
  refine ⟨l, L, w, ⟨z3R hl1 hl2, hL9, hLl⟩, ?_⟩
  have n0 : ¬ ((x : Nat) : Int) = 0 := by omega
  have n1 : ¬ ((x : Nat) : Int) = 1 := by omega
  have n2 : ((x : Nat) : Int) = 2 := by omega
  clear hn hn9 hl1 hL9 hm
  generalize lvE l = LV at *
  refine z0b z0p 1 rfl Tryz.func21 rfl rfl rfl ?_
  conv => arg 6; whnf
  repeat ((try conv => whnf); first | (with_reducible first | refine z0a (fun Qs hN hE hR => ?_) | refine z08 ?_ | refine z00 (fun Qb kN kE kX kR => ?_) | refine z04 ?_ | refine z05 ?_ | refine z09 ?_ | refine z06 ?_ | refine z07 ?_ | (show W _ _ _ (.cond _ _ _) _ _; refine z03 rfl ?_) | (refine hN _ ?_; try clear hN hE hR Qs; (try (conv => arg 6; dsimp only [ovl, List.set, List.map, ren0]))) | ((first | refine hE _ _ ?_ | refine hR _ ?_); try clear hN hE hR Qs) | ((first | refine kN _ ?_ | refine kE _ ?_ | refine kX _ _ rfl ?_ | refine kR _ ?_); try clear kN kE kX kR Qb)) | (refine ccA ([]) (c1) ?_) | (refine ccB ([_]) (c2) ?_) | (refine ccB ([_]) (c3) ?_) | (refine ccB ([_]) (c4) ?_) | (refine z0d n0 ?_) | (refine z0d n1 ?_) | (refine z0c n2 ?_) | (refine And.intro (by kernel_rfl) ?_) | (refine stpQ ?_))
  refine z0g 1 ⟨[(5, .ptr 1 0 0), (6, .int .i64 w), (7, .ref 2)], [(1, some (curE c i4 h4)), (2, some (.row 1 (strE L)))], 3⟩ (List Bs × Nat × Int) (fun x => ⟨[(0, .sl 1 (z0i c)), (5, .ptr 1 0 0), (6, .int .i64 w), (7, .ref 2)], [(1, some (curE c x.2.1 x.2.2)), (2, some (.row 1 (strE x.1)))], 3⟩) (fun x => WnR c m x.1 x.2.1 x.2.2 L i4 h4 ∧ x.1.length ≤ 9) (fun x => 9 - x.1.length) (nm0, i3, h3) ⟨hW, by show nm0.length ≤ 9; omega⟩ ?_ ?_ ?_
  ·(refine z01 (by rfl) ?_ ?_) <;> (repeat' (first | (exact eqA) | (refine And.intro ?_ ?_) | ((fail_if_success (with_reducible (show _ = _))); (show _ = _)))) <;> first | rfl | decide
  ·intro x hx
   obtain ⟨nn, j, g⟩ := x
   obtain ⟨hd, hk⟩ := hx
   dsimp only at hd hk ⊢
   have hll := z0h nn
   cases hd with
   | stop hst =>
     have f1 : ¬ ((L.length : Nat) : Int) < ((m : Nat) : Int) := by omega
     repeat ((try conv => whnf); first | (with_reducible first | refine z0a (fun Qs hN hE hR => ?_) | refine z08 ?_ | refine z00 (fun Qb kN kE kX kR => ?_) | refine z04 ?_ | refine z05 ?_ | refine z09 ?_ | refine z06 ?_ | refine z07 ?_ | (show W _ _ _ (.cond _ _ _) _ _; refine z03 rfl ?_) | (refine hN _ ?_; try clear hN hE hR Qs; (try (conv => arg 6; dsimp only [ovl, List.set, List.map, ren0]))) | ((first | refine hE _ _ ?_ | refine hR _ ?_); try clear hN hE hR Qs) | ((first | refine kN _ ?_ | refine kE _ ?_ | refine kX _ _ rfl ?_ | refine kR _ ?_); try clear kN kE kX kR Qb)) | (refine Exists.intro c.length (And.intro hbl ?_)) | (refine Exists.intro L.length (And.intro hll ?_)) | (refine z1c (n := nat_lit 2) ?_) | (refine Exists.intro _ (And.intro e8 ?_)) | (refine z0d f1 ?_) | (refine And.intro (by kernel_rfl) ?_) | (refine stpQ ?_))
     (refine z01 (by rfl) ?_ ?_) <;> (repeat' (first | (exact eqA) | (refine And.intro ?_ ?_) | ((fail_if_success (with_reducible (show _ = _))); (show _ = _)))) <;> rfl
   | @step _ _ _ s i6 h6 _ _ _ hst cn hd' =>
     have f1 : ((nn.length : Nat) : Int) < ((m : Nat) : Int) := by omega
     have happ := z5P nn s
     have hm9 : m ≤ 9 := by
      have : ((m : Nat) : Int) = 8 + ((c.length % 2 : Nat) : Int) := by rw [e8, wrap_i64 (by omega) (by omega)]
      omega
     repeat ((try conv => whnf); first | (with_reducible first | refine z0a (fun Qs hN hE hR => ?_) | refine z08 ?_ | refine z00 (fun Qb kN kE kX kR => ?_) | refine z04 ?_ | refine z05 ?_ | refine z09 ?_ | refine z06 ?_ | refine z07 ?_ | (show W _ _ _ (.cond _ _ _) _ _; refine z03 rfl ?_) | (refine hN _ ?_; try clear hN hE hR Qs; (try (conv => arg 6; dsimp only [ovl, List.set, List.map, ren0]))) | ((first | refine hE _ _ ?_ | refine hR _ ?_); try clear hN hE hR Qs) | ((first | refine kN _ ?_ | refine kE _ ?_ | refine kX _ _ rfl ?_ | refine kR _ ?_); try clear kN kE kX kR Qb)) | (refine Exists.intro c.length (And.intro hbl ?_)) | (refine Exists.intro nn.length (And.intro hll ?_)) | (refine z1c (n := nat_lit 2) ?_) | (refine Exists.intro _ (And.intro e8 ?_)) | (refine z0c f1 ?_) | (refine ccB ([1]) (cn) ?_) | (refine And.intro (by simp only [List.length_append, List.length_set, List.length_replicate, List.length_cons, List.length_nil, List.nil_append]; omega) ?_) | (refine And.intro (by kernel_rfl) ?_) | (refine stpQ ?_))
     refine ⟨(nn ++ [s], i6, h6), ⟨hd', by simp; omega⟩, (by show 9 - (nn ++ [s]).length < 9 - nn.length; simp; omega), ?_⟩
     (try dsimp only)
     rw [happ]
     (refine z01 (by rfl) ?_ ?_) <;> (repeat' (first | (exact eqA) | (refine And.intro ?_ ?_) | ((fail_if_success (with_reducible (show _ = _))); (show _ = _)))) <;> rfl
  ·repeat ((try conv => whnf); first | (with_reducible first | refine z0a (fun Qs hN hE hR => ?_) | refine z08 ?_ | refine z00 (fun Qb kN kE kX kR => ?_) | refine z04 ?_ | refine z05 ?_ | refine z09 ?_ | refine z06 ?_ | refine z07 ?_ | (show W _ _ _ (.cond _ _ _) _ _; refine z03 rfl ?_) | (refine hN _ ?_; try clear hN hE hR Qs; (try (conv => arg 6; dsimp only [ovl, List.set, List.map, ren0]))) | ((first | refine hE _ _ ?_ | refine hR _ ?_); try clear hN hE hR Qs) | ((first | refine kN _ ?_ | refine kE _ ?_ | refine kX _ _ rfl ?_ | refine kR _ ?_); try clear kN kE kX kR Qb)) | (refine ccB ([1]) (c5) ?_) | (refine And.intro (by kernel_rfl) ?_) | (refine stpQ ?_))
   (refine z02 (by rfl) ?_ ?_ (by rfl)) <;> (repeat' (first | (exact eqA) | (refine And.intro ?_ ?_) | ((fail_if_success (with_reducible (show _ = _))); (show _ = _)))) <;> first | rfl | decide
 obtain ⟨l, i5, h5, ⟨hl1, hl2⟩, hi5, c5⟩ := zaA c i3 h3 hc hi3
 have hsm := z3R hl1 hl2
 have n2 : ¬ ((x : Nat) : Int) = 2 := by omega
 clear hl1
 by_cases x0 : x = 0
 ·refine ⟨l, [], w, ⟨hsm, (fun s hs => by cases hs), by simp⟩, ?_⟩
  have n0 : ((x : Nat) : Int) = 0 := by omega
  have n1 : ¬ ((x : Nat) : Int) = 1 := by omega
  clear hn hn9 hsm
  generalize lvE l = LV at *
  generalize strE nm0 = NM at *
  refine z0b z0p 1 rfl Tryz.func21 rfl rfl rfl ?_
  conv => arg 6; whnf
  repeat ((try conv => whnf); first | (with_reducible first | refine z0a (fun Qs hN hE hR => ?_) | refine z08 ?_ | refine z00 (fun Qb kN kE kX kR => ?_) | refine z04 ?_ | refine z05 ?_ | refine z09 ?_ | refine z06 ?_ | refine z07 ?_ | (show W _ _ _ (.cond _ _ _) _ _; refine z03 rfl ?_) | (refine hN _ ?_; try clear hN hE hR Qs; (try (conv => arg 6; dsimp only [ovl, List.set, List.map, ren0]))) | ((first | refine hE _ _ ?_ | refine hR _ ?_); try clear hN hE hR Qs) | ((first | refine kN _ ?_ | refine kE _ ?_ | refine kX _ _ rfl ?_ | refine kR _ ?_); try clear kN kE kX kR Qb)) | (refine ccA ([]) (c1) ?_) | (refine ccB ([_]) (c2) ?_) | (refine ccB ([_]) (c3) ?_) | (refine ccB ([_]) (c4) ?_) | (refine z0c n0 ?_) | (refine z0d n1 ?_) | (refine z0d n2 ?_) | (refine ccB ([_]) (c5) ?_) | (refine And.intro (by simp only [List.length_append, List.length_set, List.length_replicate, List.length_cons, List.length_nil, List.nil_append]; omega) ?_) | (refine And.intro (by kernel_rfl) ?_) | (refine stpQ ?_))
  (refine z02 (by rfl) ?_ ?_ (by rfl)) <;> (repeat' (first | (exact eqA) | (refine And.intro ?_ ?_) | ((fail_if_success (with_reducible (show _ = _))); (show _ = _)))) <;> first | rfl | decide
 by_cases x1 : x = 1
 ·refine ⟨l, nm0 ++ [[65]], w, ⟨hsm, (fun s hs => by
   rcases List.mem_append.1 hs with hs | hs
   ·exact hn9 s hs
   ·rw [List.mem_singleton.1 hs]; decide), by simp; omega⟩, ?_⟩
  have n0 : ¬ ((x : Nat) : Int) = 0 := by omega
  have n1 : ((x : Nat) : Int) = 1 := by omega
  rw [z5P]
  clear hn hn9 hsm
  generalize lvE l = LV at *
  generalize strE nm0 = NM at *
  refine z0b z0p 1 rfl Tryz.func21 rfl rfl rfl ?_
  conv => arg 6; whnf
  repeat ((try conv => whnf); first | (with_reducible first | refine z0a (fun Qs hN hE hR => ?_) | refine z08 ?_ | refine z00 (fun Qb kN kE kX kR => ?_) | refine z04 ?_ | refine z05 ?_ | refine z09 ?_ | refine z06 ?_ | refine z07 ?_ | (show W _ _ _ (.cond _ _ _) _ _; refine z03 rfl ?_) | (refine hN _ ?_; try clear hN hE hR Qs; (try (conv => arg 6; dsimp only [ovl, List.set, List.map, ren0]))) | ((first | refine hE _ _ ?_ | refine hR _ ?_); try clear hN hE hR Qs) | ((first | refine kN _ ?_ | refine kE _ ?_ | refine kX _ _ rfl ?_ | refine kR _ ?_); try clear kN kE kX kR Qb)) | (refine ccA ([]) (c1) ?_) | (refine ccB ([_]) (c2) ?_) | (refine ccB ([_]) (c3) ?_) | (refine ccB ([_]) (c4) ?_) | (refine z0d n0 ?_) | (refine z0c n1 ?_) | (refine z0d n2 ?_) | (refine ccB ([_]) (c5) ?_) | (refine And.intro (by simp only [List.length_append, List.length_set, List.length_replicate, List.length_cons, List.length_nil, List.nil_append]; omega) ?_) | (refine And.intro (by kernel_rfl) ?_) | (refine stpQ ?_))
  (refine z02 (by rfl) ?_ ?_ (by rfl)) <;> (repeat' (first | (exact eqA) | (refine And.intro ?_ ?_) | ((fail_if_success (with_reducible (show _ = _))); (show _ = _)))) <;> first | rfl | decide
 ·refine ⟨l, nm0, w, ⟨hsm, hn9, by omega⟩, ?_⟩
  have n0 : ¬ ((x : Nat) : Int) = 0 := by omega
  have n1 : ¬ ((x : Nat) : Int) = 1 := by omega
  clear hn hn9 hsm
  generalize lvE l = LV at *
  generalize strE nm0 = NM at *
  refine z0b z0p 1 rfl Tryz.func21 rfl rfl rfl ?_
  conv => arg 6; whnf
  repeat ((try conv => whnf); first | (with_reducible first | refine z0a (fun Qs hN hE hR => ?_) | refine z08 ?_ | refine z00 (fun Qb kN kE kX kR => ?_) | refine z04 ?_ | refine z05 ?_ | refine z09 ?_ | refine z06 ?_ | refine z07 ?_ | (show W _ _ _ (.cond _ _ _) _ _; refine z03 rfl ?_) | (refine hN _ ?_; try clear hN hE hR Qs; (try (conv => arg 6; dsimp only [ovl, List.set, List.map, ren0]))) | ((first | refine hE _ _ ?_ | refine hR _ ?_); try clear hN hE hR Qs) | ((first | refine kN _ ?_ | refine kE _ ?_ | refine kX _ _ rfl ?_ | refine kR _ ?_); try clear kN kE kX kR Qb)) | (refine ccA ([]) (c1) ?_) | (refine ccB ([_]) (c2) ?_) | (refine ccB ([_]) (c3) ?_) | (refine ccB ([_]) (c4) ?_) | (refine z0d n0 ?_) | (refine z0d n1 ?_) | (refine z0d n2 ?_) | (refine ccB ([_]) (c5) ?_) | (refine And.intro (by simp only [List.length_append, List.length_set, List.length_replicate, List.length_cons, List.length_nil, List.nil_append]; omega) ?_) | (refine And.intro (by kernel_rfl) ?_) | (refine stpQ ?_))
  (refine z02 (by rfl) ?_ ?_ (by rfl)) <;> (repeat' (first | (exact eqA) | (refine And.intro ?_ ?_) | ((fail_if_success (with_reducible (show _ = _))); (show _ = _)))) <;> first | rfl | decide
theorem z9r (names : List Bs) (bks : List (List Lf)) (sides : List Bs) (w : Int) (hF : MnF names bks sides) : CT Tryz.prog 83 [] [.agg [.sl 1 (strE names), .sl 1 (bkE bks), .sl 1 (strE sides)], .int .i64 w] (.tup [.str (bif z15 names bks sides w then z1Z names bks sides else []), .bool (z15 names bks sides w)]) [] := by
 cases hm : z15 names bks sides w with
 | true =>
   obtain ⟨_, _, _, _, hb, _, _, _⟩ := z21 hm
   have c := z5M names bks sides w (by have := hF.n6; omega) (fun s hs => by have := hF.nm s hs; omega) (by have := hF.bl; omega) hb (by have := hF.sl; omega)
   rw [hm] at c
   exact c
 | false =>
   have c1 := z3r names bks sides w (by have := hF.n6; omega) (fun s hs => by have := hF.nm s hs; omega) (by have := hF.bl; omega) hF.sm (by have := hF.sl; omega)
   rw [hm] at c1
   show CT _ _ _ _ (.tup [.str [], .bool false]) _
   generalize z9l names bks sides w = RT at *
   generalize strE names = NM at *
   generalize bkE bks = BB at *
   generalize strE sides = SS at *
   refine z0b z0p 1 rfl Tryz.func83 rfl rfl rfl ?_
   conv => arg 6; whnf
   repeat ((try conv => whnf); first | (with_reducible first | refine z0a (fun Qs hN hE hR => ?_) | refine z08 ?_ | refine z00 (fun Qb kN kE kX kR => ?_) | refine z04 ?_ | refine z05 ?_ | refine z09 ?_ | refine z06 ?_ | refine z07 ?_ | (show W _ _ _ (.cond _ _ _) _ _; refine z03 rfl ?_) | (refine hN _ ?_; try clear hN hE hR Qs; (try (conv => arg 6; dsimp only [ovl, List.set, List.map, ren0]))) | ((first | refine hE _ _ ?_ | refine hR _ ?_); try clear hN hE hR Qs) | ((first | refine kN _ ?_ | refine kE _ ?_ | refine kX _ _ rfl ?_ | refine kR _ ?_); try clear kN kE kX kR Qb)) | (refine ccA ([]) (c1) ?_) | (refine And.intro (by kernel_rfl) ?_) | (refine stpQ ?_))
   (refine z02 (by rfl) ?_ ?_ (by rfl)) <;> (repeat' (first | (exact eqA) | (refine And.intro ?_ ?_) | ((fail_if_success (with_reducible (show _ = _))); (show _ = _)))) <;> rfl
theorem zd7 {names : List Bs} {bks : List (List Lf)} {sides : List Bs} {w : Int} (hF : MnF names bks sides) (h : z15 names bks sides w = true) : (z1Z names bks sides).length ≤ 100000 := by
 obtain ⟨_, _, hn, hb8, hb, w0, sw, s64⟩ := z21 h
 have a1 := z0Z (n := names.length) (by have := hF.n6; omega)
 have a2 := z0Z (n := bks.length) (by omega)
 have a3 := z0Z (n := sides.length) (by have := hF.sl; omega)
 have b1 : (names.flatMap z0e).length ≤ 20 * names.length := z8q fun s hs => by
  have := hF.nm s hs
  have h2 := z0Z (n := s.length) (by omega)
  rw [z0e, List.length_append]
  omega
 have b2 : (bks.flatMap bkT).length ≤ 1110 * bks.length := z8q fun b hb' => zaw (hb b hb')
 have b3 : sides.flatten.length ≤ 32 * sides.length := ze0 fun s hs => by have := sw s hs; omega
 have := hF.n6
 have := hF.bl
 have := hF.sl
 simp only [z1Z, List.length_append]
 omega
theorem z61 (c : Bs) (hc : (c.length : Int) ≤ 1048576) : ∃ (t : Bs) (w : Int), (t.length : Int) ≤ 1000000 ∧ CT Tryz.prog 24 [] [.sl 1 (z0i c)] (.tup [.str t, .int .i64 w]) [] := by
 obtain ⟨h, c1⟩ := z4C c hc
 obtain ⟨x, i1, h1, hx, hi1, c2⟩ := z2z c 0 h 3 hc (by omega) (by decide)
 obtain ⟨names, bks, sides, w, hF, c3⟩ := z3a c hc
 have c4 := z9r names bks sides w hF
 have ht : (bif z15 names bks sides w then z1Z names bks sides else []).length ≤ 100000 := by
  cases hm : z15 names bks sides w with
  | true => exact zd7 hF hm
  | false => exact Nat.zero_le _
 generalize (bif z15 names bks sides w then z1Z names bks sides else []) = t at *
 generalize z15 names bks sides w = mb at *
 generalize strE names = NM at *
 generalize bkE bks = BB at *
 generalize strE sides = SS at *
 obtain ⟨r, i2, h2, hr, _, c5⟩ := ze4 c i1 h1 t hc hi1 (by omega)
 by_cases hx0 : x = 0
 ·have f1 : ((x : Nat) : Int) = 0 := by omega
  refine ⟨r, w, by omega, ?_⟩
  refine z0b z0p 1 rfl Tryz.func24 rfl rfl rfl ?_
  conv => arg 6; whnf
  repeat ((try conv => whnf); first | (with_reducible first | refine z0a (fun Qs hN hE hR => ?_) | refine z08 ?_ | refine z00 (fun Qb kN kE kX kR => ?_) | refine z04 ?_ | refine z05 ?_ | refine z09 ?_ | refine z06 ?_ | refine z07 ?_ | (show W _ _ _ (.cond _ _ _) _ _; refine z03 rfl ?_) | (refine hN _ ?_; try clear hN hE hR Qs; (try (conv => arg 6; dsimp only [ovl, List.set, List.map, ren0]))) | ((first | refine hE _ _ ?_ | refine hR _ ?_); try clear hN hE hR Qs) | ((first | refine kN _ ?_ | refine kE _ ?_ | refine kX _ _ rfl ?_ | refine kR _ ?_); try clear kN kE kX kR Qb)) | (refine ccA ([]) (c1) ?_) | (refine ccB ([_]) (c2) ?_) | (refine ccA ([]) (c3) ?_) | (refine ccA ([]) (c4) ?_) | (refine z0c f1 ?_) | (refine ccB ([_]) (c5) ?_) | (refine And.intro (by kernel_rfl) ?_) | (refine stpQ ?_))
  (refine z02 (by rfl) ?_ ?_ (by rfl)) <;> (repeat' (first | (exact eqA) | (refine And.intro ?_ ?_) | ((fail_if_success (with_reducible (show _ = _))); (show _ = _)))) <;> first | rfl | decide
 ·have f1 : ¬ ((x : Nat) : Int) = 0 := by omega
  refine ⟨t, w, by omega, ?_⟩
  refine z0b z0p 1 rfl Tryz.func24 rfl rfl rfl ?_
  conv => arg 6; whnf
  repeat ((try conv => whnf); first | (with_reducible first | refine z0a (fun Qs hN hE hR => ?_) | refine z08 ?_ | refine z00 (fun Qb kN kE kX kR => ?_) | refine z04 ?_ | refine z05 ?_ | refine z09 ?_ | refine z06 ?_ | refine z07 ?_ | (show W _ _ _ (.cond _ _ _) _ _; refine z03 rfl ?_) | (refine hN _ ?_; try clear hN hE hR Qs; (try (conv => arg 6; dsimp only [ovl, List.set, List.map, ren0]))) | ((first | refine hE _ _ ?_ | refine hR _ ?_); try clear hN hE hR Qs) | ((first | refine kN _ ?_ | refine kE _ ?_ | refine kX _ _ rfl ?_ | refine kR _ ?_); try clear kN kE kX kR Qb)) | (refine ccA ([]) (c1) ?_) | (refine ccB ([_]) (c2) ?_) | (refine ccA ([]) (c3) ?_) | (refine ccA ([]) (c4) ?_) | (refine z0d f1 ?_) | (refine And.intro (by kernel_rfl) ?_) | (refine stpQ ?_))
  (refine z02 (by rfl) ?_ ?_ (by rfl)) <;> (repeat' (first | (exact eqA) | (refine And.intro ?_ ?_) | ((fail_if_success (with_reducible (show _ = _))); (show _ = _)))) <;> first | rfl | decide
theorem z62 (c : Bs) (hc : (c.length : Int) ≤ 1048576) : ∃ (names : List Bs) (bks : List (List Lf)) (sides : List Bs) (nm : Bs), (MnF names bks sides ∧ nm.length ≤ 9) ∧ CT Tryz.prog 27 [] [.sl 1 (z0i c)] (.tup [.agg [.sl 1 (strE names), .sl 1 (bkE bks), .sl 1 (strE sides)], .str nm]) [] := by
 obtain ⟨h, c1⟩ := z4C c hc
 obtain ⟨x, i1, h1, hx, hi1, c2⟩ := z2z c 0 h 3 hc (by omega) (by decide)
 obtain ⟨nm, i2, h2, hn, hi2, c3⟩ := z2P c i1 h1 hc hi1
 obtain ⟨names, bks, sides, i3, h3, hF, hi3, c4⟩ := zaB c i2 h2 16 hc hi2 (by decide)
 obtain ⟨n0, nr, rfl⟩ : ∃ n0 nr, names = n0 :: nr := by
  cases names with
  | nil => have := hF.n1; simp at this
  | cons a b => exact ⟨a, b, rfl⟩
 have gN : (strE (n0 :: nr))[0]? = some [.str n0] := rfl
 have hn0 := hF.nm n0 List.mem_cons_self
 by_cases hx0 : 0 < x
 ·have f1 : ((x : Nat) : Int) > 0 := by omega
  refine ⟨n0 :: nr, bks, sides, n0, ⟨hF, hn0⟩, ?_⟩
  generalize strE (n0 :: nr) = NM at *
  generalize bkE bks = BB at *
  generalize strE sides = SS at *
  clear hF
  refine z0b z0p 1 rfl Tryz.func27 rfl rfl rfl ?_
  conv => arg 6; whnf
  repeat ((try conv => whnf); first | (with_reducible first | refine z0a (fun Qs hN hE hR => ?_) | refine z08 ?_ | refine z00 (fun Qb kN kE kX kR => ?_) | refine z04 ?_ | refine z05 ?_ | refine z09 ?_ | refine z06 ?_ | refine z07 ?_ | (show W _ _ _ (.cond _ _ _) _ _; refine z03 rfl ?_) | (refine hN _ ?_; try clear hN hE hR Qs; (try (conv => arg 6; dsimp only [ovl, List.set, List.map, ren0]))) | ((first | refine hE _ _ ?_ | refine hR _ ?_); try clear hN hE hR Qs) | ((first | refine kN _ ?_ | refine kE _ ?_ | refine kX _ _ rfl ?_ | refine kR _ ?_); try clear kN kE kX kR Qb)) | (refine ccA ([]) (c1) ?_) | (refine ccB ([_]) (c2) ?_) | (refine ccB ([_]) (c3) ?_) | (refine ccB ([_]) (c4) ?_) | (refine z0c f1 ?_) | (refine i_atzZ gN ?_) | (refine And.intro (by kernel_rfl) ?_) | (refine stpQ ?_))
  (refine z02 (by rfl) ?_ ?_ (by rfl)) <;> (repeat' (first | (exact eqA) | (refine And.intro ?_ ?_) | ((fail_if_success (with_reducible (show _ = _))); (show _ = _)))) <;> first | rfl | decide
 ·have f1 : ¬ ((x : Nat) : Int) > 0 := by omega
  refine ⟨n0 :: nr, bks, sides, nm, ⟨hF, hn.2⟩, ?_⟩
  generalize strE (n0 :: nr) = NM at *
  generalize bkE bks = BB at *
  generalize strE sides = SS at *
  clear hF
  refine z0b z0p 1 rfl Tryz.func27 rfl rfl rfl ?_
  conv => arg 6; whnf
  repeat ((try conv => whnf); first | (with_reducible first | refine z0a (fun Qs hN hE hR => ?_) | refine z08 ?_ | refine z00 (fun Qb kN kE kX kR => ?_) | refine z04 ?_ | refine z05 ?_ | refine z09 ?_ | refine z06 ?_ | refine z07 ?_ | (show W _ _ _ (.cond _ _ _) _ _; refine z03 rfl ?_) | (refine hN _ ?_; try clear hN hE hR Qs; (try (conv => arg 6; dsimp only [ovl, List.set, List.map, ren0]))) | ((first | refine hE _ _ ?_ | refine hR _ ?_); try clear hN hE hR Qs) | ((first | refine kN _ ?_ | refine kE _ ?_ | refine kX _ _ rfl ?_ | refine kR _ ?_); try clear kN kE kX kR Qb)) | (refine ccA ([]) (c1) ?_) | (refine ccB ([_]) (c2) ?_) | (refine ccB ([_]) (c3) ?_) | (refine ccB ([_]) (c4) ?_) | (refine z0d f1 ?_) | (refine And.intro (by kernel_rfl) ?_) | (refine stpQ ?_))
  (refine z02 (by rfl) ?_ ?_ (by rfl)) <;> (repeat' (first | (exact eqA) | (refine And.intro ?_ ?_) | ((fail_if_success (with_reducible (show _ = _))); (show _ = _)))) <;> first | rfl | decide
end
end Go.Proofs.YtfjbinbpgdiafaaGreatDoor
