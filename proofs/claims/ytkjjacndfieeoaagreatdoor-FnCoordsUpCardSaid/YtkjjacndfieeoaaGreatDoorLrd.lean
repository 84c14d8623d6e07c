/- Functions by content: all shards vote in turn. Functions by content: spec.Decimal of any number. Functions by content: places drawn. -/
import Derived.Test.YtkjjacndfieeoaaGreatDoorCuv
import Derived.Test.YtkjjacndfieeoaaGreatDoorFa
import Derived.Test.YtkjjacndfieeoaaGreatDoorTyL
import Derived.Test.YtkjjacndfieeoaaGreatDoorFc
namespace Go.Proofs.YtkjjacndfieeoaaGreatDoor
set_option linter.unusedVariables false
set_option linter.unusedSimpArgs false
set_option linter.unusedSectionVars false
open Go.RowKit Pl
def voAt (rt : Nat → Bs) (n i : Nat) : List Bs := (List.range i).map rt ++ List.replicate (n - i) []
theorem z8W {rt : Nat → Bs} {n i : Nat} (h : i ≤ n) : (voAt rt n i).length = n := by simp [voAt]; omega
theorem zhl {rt : Nat → Bs} {n i : Nat} (h : i < n) : (voAt rt n i).set i (rt i) = voAt rt n (i + 1) := by
 unfold voAt
 obtain ⟨d, hd⟩ : ∃ d, n - i = d + 1 := ⟨n - i - 1, by omega⟩
 have hd2 : n - (i + 1) = d := by omega
 rw [hd, hd2, List.replicate_succ, List.set_append, if_neg (by simp)]
 simp [List.range_succ]
theorem zcJ {rt : Nat → Bs} {n i : Nat} (h : i < n) : (voAt rt n i).getD i [] = [] := by
 unfold voAt
 obtain ⟨d, hd⟩ : ∃ d, n - i = d + 1 := ⟨n - i - 1, by omega⟩
 rw [List.getD, List.getElem?_append_right (by simp), hd, List.replicate_succ]
 simp
theorem zg4 {rt : Nat → Bs} {n i : Nat} (hr : ∀ k, (rt k).length = 16) : ∀ v ∈ voAt rt n i, v = [] ∨ v.length = 16 := fun v hv => by
 unfold voAt at hv
 rcases List.mem_append.1 hv with h | h
 ·obtain ⟨k, _, rfl⟩ := List.mem_map.1 h
  exact .inr (hr k)
 ·exact .inl (List.eq_of_mem_replicate h)
theorem zhm {rt : Nat → Bs} {n i : Nat} (h : i < n) : [] ∈ voAt rt n i := by
 unfold voAt
 exact List.mem_append.2 (.inr (List.mem_replicate.2 ⟨by omega, rfl⟩))
theorem zcK {rt : Nat → Bs} {n : Nat} (hr : ∀ k, (rt k).length = 16) : [] ∉ voAt rt n n := fun h => by
 unfold voAt at h
 rw [Nat.sub_self, List.replicate_zero, List.append_nil] at h
 obtain ⟨k, _, e⟩ := List.mem_map.1 h
 have := hr k
 rw [e] at this
 simp at this
def coAt (ho K : Nat) (c : Co) (rt : Nat → Bs) (i : Nat) : Co := if i < 2 ^ K then { c with vo := voAt rt (2 ^ K) i } else cloC ho K { c with vo := voAt rt (2 ^ K) (2 ^ K) }
def ltAt (K : Nat) (c : Co) (i : Nat) : List (List T) := if i < 2 ^ K then [] else ltsE 4 ((c.s.se.length + 1 : Nat) : Int) (c.s.ty : Int) (2 ^ K)
theorem zbq {ho K m : Nat} {c : Co} (h : CoOk ho K m c) (ha : c.ask = true) (rt : Nat → Bs) (hr : ∀ k, (rt k).length = 16) {i : Nat} (hi : i ≤ 2 ^ K) : CoOk ho K m { c with vo := voAt rt (2 ^ K) i } :=
 ⟨h.lg, z8W hi, h.dl, zg4 hr, fun e => absurd (ha.symm.trans e) (by decide), h.ya⟩
theorem coAt_0 {ho K : Nat} {c : Co} (rt : Nat → Bs) (hv : c.vo = emN K) : coAt ho K c rt 0 = c := by
 have hp : 0 < 2 ^ K := Nat.two_pow_pos K
 unfold coAt
 rw [if_pos hp]
 have e : voAt rt (2 ^ K) 0 = c.vo := by rw [hv]; simp [voAt, emN]
 rw [e]
theorem zje {ho K m : Nat} (hh : ho ≤ 2) (hK : K ≤ 2) {c : Co} (h : CoOk ho K m c) (hm : m ≤ 100) (ha : c.ask = true) (rt : Nat → Bs) (hr : ∀ k, (rt k).length = 16) {i : Nat} (hi : i < 2 ^ K)
 (ok : ∀ j, j < 4 → z04 2 ((j + 1 : Nat) : Int) 0 ((c.s.se.length + 1 : Nat) : Int) (c.s.ty : Int) (rt j) = true) :
 CT Tryz.prog 13 [] [.agg (coE (ho : Int) (K : Int) (z0g (z0j ho) 16) (coAt ho K c rt i)), .agg [.int .i64 2, .int .i64 ((i + 1 : Nat) : Int), .int .i64 0, .int .i64 ((c.s.se.length + 1 : Nat) : Int), .int .i64 (c.s.ty : Int), .str (rt i)]] (.tup [.agg (coE (ho : Int) (K : Int) (z0g (z0j ho) 16) (coAt ho K c rt (i + 1))), .sl 6 (ltAt K c (i + 1))]) [] := by
 obtain ⟨e1, e2⟩ := pow2 hK
 have g := zbq h ha rt hr (i := i) (by omega)
 have g2 := zbq h ha rt hr (i := i + 1) (by omega)
 have hok := h.lg.ok hh
 have hsl := z1H hok
 have hgd : ∀ x ∈ c.s.se, x.2.good := fun x hx => (hok.sg x hx).2
 have e0 : coAt ho K c rt i = { c with vo := voAt rt (2 ^ K) i } := if_pos hi
 rw [e0]
 have hset := zhl (rt := rt) hi
 by_cases hl : i + 1 < 2 ^ K
 ·have e3 : coAt ho K c rt (i + 1) = { c with vo := (voAt rt (2 ^ K) i).set i (rt i) } := by rw [hset]; exact if_pos hl
  have e4 : ltAt K c (i + 1) = [] := if_pos hl
  rw [e3, e4]
  exact zdT (ho : Int) K (z0g (z0j ho) 16) { c with vo := voAt rt (2 ^ K) i } (by have := h.lg.small hh hm; show (logB c.ts).length ≤ 18000; omega) (by rw [z0H]; decide) hgd ⟨by show c.s.se.length ≤ 10; omega, by show c.s.tr.length ≤ 10; rw [hok.tl]; omega, by rw [g.vl]; omega, by rw [g.dl]; omega⟩ i _ _ (rt i) (by rw [g.vl]; exact hi) (by rw [g.dl, g.vl]) (ok i (by omega)) ha rfl rfl (zcJ hi) (by show [] ∈ (voAt rt (2 ^ K) i).set i (rt i); rw [hset]; exact zhm hl)
 ·have e5 : i + 1 = 2 ^ K := by omega
  have e3 : coAt ho K c rt (i + 1) = cloC ho K { c with vo := (voAt rt (2 ^ K) i).set i (rt i) } := by rw [hset, e5]; exact if_neg (by omega)
  have e4 : ltAt K c (i + 1) = ltsE 4 ((c.s.se.length + 1 : Nat) : Int) (c.s.ty : Int) (2 ^ K) := if_neg hl
  rw [e3, e4]
  exact zdU ho K m hh hK { c with vo := voAt rt (2 ^ K) i } g hm i _ _ (rt i) (by rw [g.vl]; exact hi) (ok i (by omega)) ha rfl rfl (zcJ hi) (by show CoOk ho K m { c with vo := (voAt rt (2 ^ K) i).set i (rt i) }; rw [hset]; exact g2) (by show [] ∉ (voAt rt (2 ^ K) i).set i (rt i); rw [hset, e5]; exact zcK hr) hgd
theorem zhn {ho K : Nat} {c : Co} (rt : Nat → Bs) : coAt ho K c rt (2 ^ K) = cloC ho K { c with vo := voAt rt (2 ^ K) (2 ^ K) } := if_neg (by omega)
theorem zjf {ho K : Nat} {c : Co} (rt : Nat → Bs) {i : Nat} (hi : i < 2 ^ K) : (coAt ho K c rt i).s = c.s := by rw [coAt, if_pos hi]
end Go.Proofs.YtkjjacndfieeoaaGreatDoor
namespace Go.Proofs.YtkjjacndfieeoaaGreatDoor
set_option maxRecDepth 100000
set_option maxHeartbeats 2000000
set_option linter.unusedVariables false
set_option linter.unusedSimpArgs false
set_option linter.unusedSectionVars false
open Go.RowKit Pl
def decM (n : Nat) : Bs := if n = 0 then [48] else decG n []
theorem zgc {m l : Nat} (hm : m ≠ 0) (h : m * 10 ^ l ≤ 9223372036854775807) : l ≤ 18 := by
 rcases Nat.lt_or_ge l 19 with h1 | h1
 ·omega
 ·have h2 : 10 ^ 19 ≤ 10 ^ l := Nat.pow_le_pow_right (by omega) h1
  have h3 : 1 * 10 ^ l ≤ m * 10 ^ l := Nat.mul_le_mul_right _ (by omega)
  omega
theorem zhs {m l : Nat} (h : m * 10 ^ l ≤ 9223372036854775807) : m / 10 * 10 ^ (l + 1) ≤ 9223372036854775807 := by
 have h1 : m / 10 * 10 ≤ m := by omega
 have h2 : m / 10 * 10 * 10 ^ l ≤ m * 10 ^ l := Nat.mul_le_mul_right _ h1
 rw [Nat.pow_succ, Nat.mul_comm (10 ^ l) 10, ← Nat.mul_assoc]
 omega
def figB (d : Nat) : UInt8 := if d < 10 then UInt8.ofNat (48 + d) else UInt8.ofNat (97 + d - 10)
section
attribute [local irreducible] z0m z0n z0q AnsP LeP
theorem c_figM (d : Nat) (h : d < 16) : CT Tryz.prog 47 [] [.int .i64 (d : Int)] (.int .u8 ((figB d).toNat : Int)) [] := by
 refine z01 z0A 1 rfl Tryz.func47 rfl rfl rfl ?_
 unfold figB
 by_cases h1 : d < 10
 ·rw [if_pos h1]
  repeat ((try conv => whnf); first | (refine zeS (by omega) ?_) | (refine w_u8 ?_) | (refine stpQ ?_))
  (refine z00 (by rfl) ?_ ?_ (by rfl)) <;> (repeat' (first | (exact eqA) | (refine And.intro ?_ ?_) | ((fail_if_success (with_reducible (show _ = _))); (show _ = _))))
 ·rw [if_neg h1]
  repeat ((try conv => whnf); first | (refine zeS (by omega) ?_) | (refine w_u8 ?_) | (refine stpQ ?_))
  (refine z00 (by rfl) ?_ ?_ (by rfl)) <;> (repeat' (first | (exact eqA) | (refine And.intro ?_ ?_) | ((fail_if_success (with_reducible (show _ = _))); (show _ = _))))
theorem zdX (n : Nat) (hn : n ≤ 9223372036854775807) : CT Tryz.prog 17 [] [.int .i64 (n : Int)] (.str (decM n)) [] := by
 refine z01 z0A 1 rfl Tryz.func17 rfl rfl rfl ?_
 unfold decM
 by_cases h0 : n = 0
 ·subst h0
  repeat ((try conv => whnf); first | (refine stpQ ?_))
  (refine z00 (by rfl) ?_ ?_ (by rfl)) <;> (repeat' (first | (exact eqA) | (refine And.intro ?_ ?_) | ((fail_if_success (with_reducible (show _ = _))); (show _ = _)))) <;> rfl
 ·rw [if_neg h0]
  repeat ((try conv => whnf); first | (refine stpQ ?_))
  refine z0i 0 ⟨[(3, .bool false), (4, .str (decG n []))], [], 2⟩ (Nat × Bs) (fun x => ⟨[(0, .int .i64 (x.1 : Int)), (3, .bool false), (4, .str x.2)], [], 2⟩) (fun x => decG x.1 x.2 = decG n [] ∧ x.1 * 10 ^ x.2.length ≤ 9223372036854775807) (fun x => x.1) (n, []) ⟨rfl, by simpa using hn⟩ ?_ ?_ ?_
  ·(refine z02 (by rfl) ?_ ?_) <;> (repeat' (first | (exact eqA) | (refine And.intro ?_ ?_) | ((fail_if_success (with_reducible (show _ = _))); (show _ = _)))) <;> first | rfl | (exact decide_eq_false (by omega)) | decide
  ·intro x hx
   obtain ⟨m, out⟩ := x
   have h1 : decG m out = decG n [] := hx.1
   have h2 : m * 10 ^ out.length ≤ 9223372036854775807 := hx.2
   clear hx
   by_cases hm : m = 0
   ·subst hm
    rw [zeM] at h1
    repeat ((try conv => whnf); first | (refine stpQ ?_))
    (refine z02 (by rfl) ?_ ?_) <;> (repeat' (first | (exact eqA) | (refine And.intro ?_ ?_) | ((fail_if_success (with_reducible (show _ = _))); (show _ = _)))) <;> exact h1
   ·have hd : m / 10 < m := Nat.div_lt_self (by omega) (by omega)
    have hl := zgc hm h2
    have hm9 : m ≤ 9223372036854775807 := by
     have : m * 1 ≤ m * 10 ^ out.length := Nat.mul_le_mul_left _ (Nat.pos_of_ne_zero (by simp))
     omega
    have h3 := zhs h2
    clear h2
    have cf := c_figM (m % 10) (by omega)
    rw [figB, if_pos (Nat.mod_lt _ (by decide))] at cf
    repeat ((try conv => whnf); first | (refine z9u (n := nat_lit 10) ?_) | (refine ccA ([]) (cf) ?_) | (refine zca (n := nat_lit 10) (by omega) ?_) | (refine Exists.intro [UInt8.ofNat (48 + m % 10)] (And.intro rfl ?_)) | (refine And.intro (by simp only [List.length_cons, List.length_nil]; omega) ?_) | (refine stpQ ?_))
    refine ⟨(m / 10, UInt8.ofNat (48 + m % 10) :: out), ⟨by show decG (m / 10) _ = _; rw [← h1, zeN hm], h3⟩, hd, ?_⟩
    (refine z02 (by rfl) ?_ ?_) <;> (repeat' (first | (exact eqA) | (refine And.intro ?_ ?_) | ((fail_if_success (with_reducible (show _ = _))); (show _ = _))))
    rfl
  ·generalize decG n [] = o
   repeat ((try conv => whnf); first | (refine stpQ ?_))
   (refine z00 (by rfl) ?_ ?_ (by rfl)) <;> (repeat' (first | (exact eqA) | (refine And.intro ?_ ?_) | ((fail_if_success (with_reducible (show _ = _))); (show _ = _))))
end
end Go.Proofs.YtkjjacndfieeoaaGreatDoor
namespace Go.Proofs.YtkjjacndfieeoaaGreatDoor
set_option linter.unusedVariables false
set_option linter.unusedSimpArgs false
set_option linter.unusedSectionVars false
open Go.RowKit Pl
inductive PlR (c : Bs) : Nat → List Nat → Nat → Int → List Nat → Nat → Int → Prop
 | stop {l i h} : PlR c 12 l i h l i h
 | step {k l i h x i1 h1 l' i' h'} : k < 12 → x < 10000 → i1 ≤ c.length → CT Tryz.prog 24 [curE c i h] [.ptr 1 0 0, .int .i64 10000] (.int .i64 ((x : Nat) : Int)) [curE c i1 h1] → PlR c (k + 1) (l ++ [x]) i1 h1 l' i' h' → PlR c k l i h l' i' h'
theorem zgd (c : Bs) (hc : (c.length : Int) ≤ 1048576) : ∀ (f k : Nat) (l : List Nat) (i : Nat) (h : Int), k + f = 12 → i ≤ c.length → (∀ x ∈ l, x < 10000) → l.length = k →
 ∃ l' i' h', PlR c k l i h l' i' h' ∧ ((∀ x ∈ l', x < 10000) ∧ l'.length = 12) ∧ i' ≤ c.length
 | 0, k, l, i, h, hf, hi, ho, hl => by
   obtain rfl : k = 12 := by omega
   exact ⟨l, i, h, .stop, ⟨ho, hl⟩, hi⟩
 | f + 1, k, l, i, h, hf, hi, ho, hl => by
   obtain ⟨x, i1, h1, hx, hi1, cb⟩ := z3m c i h 10000 hc hi (by omega)
   obtain ⟨l', i', h', hd, hr, hi'⟩ := zgd c hc f (k + 1) (l ++ [x]) i1 h1 (by omega) hi1 (fun y hy => by
    rcases List.mem_append.1 hy with hy | hy
    ·exact ho y hy
    ·rw [List.mem_singleton] at hy; subst hy; exact hx) (by simp [hl])
   exact ⟨l', i', h', .step (by omega) hx hi1 cb hd, hr, hi'⟩
def plE (l : List Nat) : List (List T) := l.map fun (n : Nat) => [T.int .i64 ((n : Nat) : Int)]
theorem zjk (l : List Nat) : (plE l).length = l.length := by simp [plE]
theorem zjl (l : List Nat) (x : Nat) : plE (l ++ [x]) = plE l ++ [[.int .i64 ((x : Nat) : Int)]] := by simp [plE]
section
attribute [local irreducible] z0m z0n z0q AnsP LeP W CvE
set_option maxRecDepth 100000 in
set_option maxHeartbeats 2000000 in
theorem z4E (c : Bs) (hc : (c.length : Int) ≤ 1048576) : ∃ (l : List Nat), ((∀ x ∈ l, x < 10000) ∧ l.length = 12) ∧ CT Tryz.prog 7 [] [.sl 1 (z0h c)] (.ref 1) [.row 1 (plE l)] := by
 obtain ⟨h0, c1⟩ := zcd c hc
 obtain ⟨y, i0, h, _, hi, cy⟩ := z2h c 0 h0 hc (by omega)
 obtain ⟨L, i', h', hd, hr, hi'⟩ := zgd c hc 12 0 [] i0 h rfl hi (fun x hx => by cases hx) rfl
 refine ⟨L, hr, ?_⟩
 refine z01 z0r 1 rfl Tryz.func7 rfl rfl rfl ?_
 conv => arg 6; whnf
 repeat ((try conv => whnf); first | (with_reducible first | refine z0c (fun Qs hN hE hR => ?_) | refine z0a ?_ | refine z03 (fun Qb kN kE kX kR => ?_) | refine z06 ?_ | refine z07 ?_ | refine z0b ?_ | refine z08 ?_ | refine z09 ?_ | (show W _ _ _ (.cond _ _ _) _ _; refine z05 rfl ?_) | (refine hN _ ?_; try clear hN hE hR Qs) | ((first | refine hE _ _ ?_ | refine hR _ ?_); try clear hN hE hR Qs) | ((first | refine kN _ ?_ | refine kE _ ?_ | refine kX _ _ rfl ?_ | refine kR _ ?_); try clear kN kE kX kR Qb)) | (refine ccA ([]) (c1) ?_) | (refine ccB ([_]) (cy) ?_) | (refine And.intro (by kernel_rfl) ?_) | (refine stpQ ?_))
 refine z11 (Nat × List Nat × Nat × Int) (fun x => ⟨[(3, .ptr 1 0 0), (4, .ref 2), (5, .int .i64 (x.1 : Int))], [(1, some (curE c x.2.2.1 x.2.2.2)), (2, some (.row 1 (plE x.2.1)))], 3⟩) (fun x => PlR c x.1 x.2.1 x.2.2.1 x.2.2.2 L i' h' ∧ x.1 ≤ 12 ∧ x.2.1.length = x.1) (fun x => 12 - x.1) (0, [], i0, h) ⟨hd, by omega, rfl⟩ ?_ ?_
 ·(refine z02 (by rfl) ?_ ?_) <;> (repeat' (first | (exact eqA) | (refine And.intro ?_ ?_) | ((fail_if_success (with_reducible (show _ = _))); (show _ = _)))) <;> first | rfl | decide
 ·intro Q1 hQ1 x hx
  obtain ⟨k, l, i, h⟩ := x
  obtain ⟨hd, hk, hl⟩ := hx
  dsimp only at hd hk hl ⊢
  have hll := zjk l
  cases hd with
  | stop =>
    have f1 : ¬ ((12 : Nat) : Int) < 12 := by omega
    repeat ((try conv => whnf); first | (with_reducible first | refine z0c (fun Qs hN hE hR => ?_) | refine z0a ?_ | refine z03 (fun Qb kN kE kX kR => ?_) | refine z06 ?_ | refine z07 ?_ | refine z0b ?_ | refine z08 ?_ | refine z09 ?_ | (show W _ _ _ (.cond _ _ _) _ _; refine z05 rfl ?_) | (refine hN _ ?_; try clear hN hE hR Qs) | ((first | refine hE _ _ ?_ | refine hR _ ?_); try clear hN hE hR Qs) | ((first | refine kN _ ?_ | refine kE _ ?_ | refine kX _ _ rfl ?_ | refine kR _ ?_); try clear kN kE kX kR Qb)) | (refine z0o f1 ?_) | (refine stpQ ?_))
    refine hQ1 _ _ ?_
    clear hQ1 Q1
    repeat ((try conv => whnf); first | (with_reducible first | refine z0c (fun Qs hN hE hR => ?_) | refine z0a ?_ | refine z03 (fun Qb kN kE kX kR => ?_) | refine z06 ?_ | refine z07 ?_ | refine z0b ?_ | refine z08 ?_ | refine z09 ?_ | (show W _ _ _ (.cond _ _ _) _ _; refine z05 rfl ?_) | (refine hN _ ?_; try clear hN hE hR Qs) | ((first | refine hE _ _ ?_ | refine hR _ ?_); try clear hN hE hR Qs) | ((first | refine kN _ ?_ | refine kE _ ?_ | refine kX _ _ rfl ?_ | refine kR _ ?_); try clear kN kE kX kR Qb)) | (refine stpQ ?_))
    (refine z00 (by rfl) ?_ ?_ (by rfl)) <;> (repeat' (first | (exact eqA) | (refine And.intro ?_ ?_) | ((fail_if_success (with_reducible (show _ = _))); (show _ = _))))
  | @step _ _ _ _ x i1 h1 _ _ _ hk12 hx hi1 cb hd' =>
    have f1 : (k : Int) < 12 := by omega
    have happ := zjl l x
    repeat ((try conv => whnf); first | (with_reducible first | refine z0c (fun Qs hN hE hR => ?_) | refine z0a ?_ | refine z03 (fun Qb kN kE kX kR => ?_) | refine z06 ?_ | refine z07 ?_ | refine z0b ?_ | refine z08 ?_ | refine z09 ?_ | (show W _ _ _ (.cond _ _ _) _ _; refine z05 rfl ?_) | (refine hN _ ?_; try clear hN hE hR Qs) | ((first | refine hE _ _ ?_ | refine hR _ ?_); try clear hN hE hR Qs) | ((first | refine kN _ ?_ | refine kE _ ?_ | refine kX _ _ rfl ?_ | refine kR _ ?_); try clear kN kE kX kR Qb)) | (refine ccB ([1]) (cb) ?_) | (refine z0k f1 ?_) | (refine And.intro (by simp only [List.length_append, List.length_set, List.length_replicate, List.length_cons, List.length_nil]; omega) ?_) | (refine And.intro (by kernel_rfl) ?_) | (refine stpQ ?_))
    refine ⟨(k + 1, l ++ [x], i1, h1), ⟨hd', by show k + 1 ≤ 12; omega, by simp [hl]⟩, (by show 12 - (k + 1) < 12 - k; omega), ?_⟩
    (try dsimp only)
    rw [happ]
    (refine z02 (by rfl) ?_ ?_) <;> (repeat' (first | (exact eqA) | (refine And.intro ?_ ?_) | ((fail_if_success (with_reducible (show _ = _))); (show _ = _)))) <;> rfl
end
end Go.Proofs.YtkjjacndfieeoaaGreatDoor
