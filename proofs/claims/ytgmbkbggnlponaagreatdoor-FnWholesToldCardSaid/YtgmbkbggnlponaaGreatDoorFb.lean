/- A walk of old, that makes memory and writes none of what was there, as a contract by content. Functions by content: numbers, strings and entries are read. Functions by content: fields of a message. Functions by content: entries are read. Functions by content: what the reference reads: numbers, strings, entries. Functions by content: what the drawing cursor gives. Functions by content: drawn names and values. -/
import Derived.Test.YtgmbkbggnlponaaGreatDoorVd
import Derived.Test.YtgmbkbggnlponaaGreatDoorFa
import Derived.Test.YtgmbkbggnlponaaGreatDoorWax
import Derived.Test.YtgmbkbggnlponaaGreatDoorPlainM
import Derived.Laws.Bits128
namespace Go.Proofs.YtgmbkbggnlponaaGreatDoor
set_option maxRecDepth 100000
set_option maxHeartbeats 1000000
set_option linter.unusedVariables false
set_option linter.unusedSimpArgs false
set_option linter.unusedSectionVars false
open Go.RowKit Pl
def zeU : T → Bool
 | .int _ _ => true
 | .bool _ => true
 | .str _ => true
 | _ => false
def zh7 : T → Bool
 | .agg cs => cs.all zeU
 | x => zeU x
def zv1 : T → Value
 | .agg cs => .agg (cs.map zv).toArray
 | x => zv x
theorem zeV {X : Cx} : ∀ {cs : List T} {us : List Value}, cs.all zeU = true → RSl X cs us → us = cs.map zv
 | [], us, _, h => h
 | c :: cs, us, hp, ⟨u, us', hu, _, h1, h2⟩ => by
   simp only [List.all_cons, Bool.and_eq_true] at hp
   subst hu
   rw [List.map_cons, zeV hp.2 h2]
   congr 1
   cases c <;> first | (cases hp.1; done) | (simpa only [RS0, RV, zv] using h1)
theorem z7W {X : Cx} : ∀ {ts : List T} {vs : List Value}, ts.all zh7 = true → Args X ts vs → vs = ts.map zv1
 | [], vs, _, h => h
 | t :: ts, vs, hp, ⟨u, us, hu, h1, h2⟩ => by
   simp only [List.all_cons, Bool.and_eq_true] at hp
   subst hu
   rw [List.map_cons, z7W hp.2 h2]
   congr 1
   cases t
   case agg cs =>
    obtain ⟨vs, rfl, hl⟩ := h1
    have := zeV hp.1 hl
    rw [zv1, ← this]
   all_goals first | (cases hp.1; done) | (simpa only [RS, RS1, RS0, RV, zv1, zv] using h1)
theorem zgb (r : Nat) : idxE [] r = none := by simp [idxE]
theorem z9X {P : Program} {f : FuncId} {ts : List T} {v : Value} {r : T} (hfn : ∃ fn, P.funcs[f]? = some fn ∧ (fn.name == "runtime.NumGoroutine") = false ∧ fn.body.isNone = false)
 (hp : ts.all zh7 = true) (hr : ∀ X, RS X r v) (h : ∀ w, Calls P f (ts.map zv1).toArray w fun e w' => e = .returned v ∧ Below w.heap.size w w') : CT P f [] ts r [] := by
 refine ⟨hfn, fun X hh hH hu vs ha => ?_⟩
 rw [z7W hp ha]
 refine (h X.w).mono ?_
 rintro e w' ⟨rfl, hb⟩
 have hgl : Gl { X with w := w' } := Gl.mono (X := X) (X' := { X with w := w' }) (fun g (hg : g < X.w.heap.size) hn => ⟨hn, hb.block g hg⟩) hh.gl
 have hno : ∀ r, X.H r = none := fun r => by rw [hH]; exact zgb r
 refine ⟨v, { X with w := w' }, rfl, rfl, hH, hu, ⟨fun g g' r hr => absurd (hno r) hr, fun g r hg => ?_, fun r e he => ?_, hh.zero, hh.pos, hgl, fun g hg => ⟨(hh.inn g hg).1, Nat.lt_of_lt_of_le (hh.inn g hg).2.1 hb.size, (hh.inn g hg).2.2⟩⟩, hr _, ?_⟩
 ·obtain ⟨a, b⟩ := hh.lt g r hg
  exact ⟨Nat.lt_of_lt_of_le a hb.size, b⟩
 ·have := hno r
  rw [show X.H r = some e from he] at this; cases this
 ·refine ⟨fun _ h => h, hb.os, hb.tape, hb.output, hb.size, fun g hg hn => ⟨hn, hb.block g hg⟩, fun r _ e' he => ?_, fun g hg hg0 => ⟨⟨hg, hg0⟩, hb.block g (hh.lt g 0 hg).1⟩, fun r _ hn => absurd (hno r) hn⟩
  have := hno r
  rw [show X.H r = some e' from he] at this; cases this
end Go.Proofs.YtgmbkbggnlponaaGreatDoor
namespace Go.Proofs.YtgmbkbggnlponaaGreatDoor
set_option maxRecDepth 100000
set_option maxHeartbeats 1000000
set_option linter.unusedVariables false
set_option linter.unusedSimpArgs false
set_option linter.unusedSectionVars false
open Go.RowKit Pl
attribute [local irreducible] z0t z0u z0y AnsP LeP
def rvT : Option (Nat × Nat) → T
 | none => .tup [.int .i64 0, .int .i64 0, .bool false]
 | some (n, q) => .tup [.int .i64 (n : Int), .int .i64 (q : Int), .bool true]
def rsT : Option (Bs × Nat) → T
 | none => .tup [.str [], .int .i64 0, .bool false]
 | some (l, q) => .tup [.str l, .int .i64 (q : Int), .bool true]
theorem rv_rs (o : Option (Nat × Nat)) (X : Cx) : RS X (rvT o) (zhH o) := by
 cases o with
 | none => exact ⟨_, rfl, _, _, rfl, z1S X _ _, _, _, rfl, z1S X _ _, _, _, rfl, z2i X _, rfl⟩
 | some x => exact ⟨_, rfl, _, _, rfl, z1S X _ _, _, _, rfl, z1S X _ _, _, _, rfl, z2i X _, rfl⟩
theorem rs_rs (o : Option (Bs × Nat)) (X : Cx) : RS X (rsT o) (zhI o) := by
 cases o with
 | none => exact ⟨_, rfl, _, _, rfl, z4b X _, _, _, rfl, z1S X _ _, _, _, rfl, z2i X _, rfl⟩
 | some x => exact ⟨_, rfl, _, _, rfl, z4b X _, _, _, rfl, z1S X _ _, _, _, rfl, z2i X _, rfl⟩
theorem zeW (t : Bs) (p : Nat) (ht : (t.length : Int) ≤ 1000000000) (hp : p ≤ t.length) : CT Tryz.prog 98 [] [.str t, .int .i64 (p : Int)] (rvT (z0G t p)) [] :=
 z9X ⟨_, Tryz.func98, rfl, rfl⟩ rfl (rv_rs _) fun w => by
  have h := z5i (bs t) p w (by rw [z19]; exact ht) (by rw [z19]; exact hp)
  rw [z1Z] at h
  refine h.mono ?_
  rintro e w1 ⟨rfl, rfl⟩
  exact ⟨rfl, Below.refl _ _⟩
theorem zbm (t : Bs) (p : Nat) (ht : (t.length : Int) ≤ 1000000000) (hp : p ≤ t.length) : CT Tryz.prog 97 [] [.str t, .int .i64 (p : Int)] (rsT (z0o t p)) [] :=
 z9X ⟨_, Tryz.func97, rfl, rfl⟩ rfl (rs_rs _) fun w => by
  have h := z9P (bs t) p w (by rw [z19]; exact ht) (by rw [z19]; exact hp)
  rw [z1Z] at h
  refine h.mono ?_
  rintro e w1 ⟨rfl, rfl⟩
  exact ⟨rfl, Below.refl _ _⟩
end Go.Proofs.YtgmbkbggnlponaaGreatDoor
namespace Go.Proofs.YtgmbkbggnlponaaGreatDoor
set_option maxRecDepth 100000
set_option maxHeartbeats 1000000
set_option linter.unusedVariables false
set_option linter.unusedSimpArgs false
set_option linter.unusedSectionVars false
open Go.RowKit Pl
attribute [local irreducible] z0t z0u z0y AnsP LeP
def fldB (t : Bs) (p : Nat) (b : Bool) : Ent := .box [.str t, .int .i64 (p : Int), .bool b]
theorem zdj (t : Bs) (p : Nat) (b : Bool) (ht : (t.length : Int) ≤ 1000000000) (hp : p ≤ t.length) : CT Tryz.prog 38 [fldB t p b] [.ptr 1 0 0] (.int .i64 ((z2p t p b).1 : Int)) [fldB t (z2p t p b).2.1 (z2p t p b).2.2] := by
 have c := zeW t p ht hp
 refine z01 z0m 2 rfl Tryz.func38 rfl rfl rfl ?_
 unfold z2p
 rcases hv : z0G t p with _ | ⟨n, q⟩
 all_goals
  rw [hv] at c
  repeat ((try conv => whnf); first | (refine ccA ([]) (c) ?_) | (refine stpQ ?_))
  (refine z00 (by rfl) ?_ ?_ (by rfl)) <;> (repeat' (first | (exact eqA) | (refine shE ?_) | (refine And.intro ?_ ?_))) <;> rfl
theorem z3o (t : Bs) (p : Nat) (b : Bool) (ht : (t.length : Int) ≤ 1000000000) (hp : p ≤ t.length) : CT Tryz.prog 37 [fldB t p b] [.ptr 1 0 0] (.str (z0E t p b).1) [fldB t (z0E t p b).2.1 (z0E t p b).2.2] := by
 have c := zbm t p ht hp
 refine z01 z0m 2 rfl Tryz.func37 rfl rfl rfl ?_
 unfold z0E
 rcases hv : z0o t p with _ | ⟨n, q⟩
 all_goals
  rw [hv] at c
  repeat ((try conv => whnf); first | (refine ccA ([]) (c) ?_) | (refine stpQ ?_))
  (refine z00 (by rfl) ?_ ?_ (by rfl)) <;> (repeat' (first | (exact eqA) | (refine shE ?_) | (refine And.intro ?_ ?_))) <;> rfl
theorem z7X (t : Bs) (p : Nat) (b : Bool) : CT Tryz.prog 45 [fldB t p b] [.ptr 1 0 0] (.bool (z3i b p t.length)) [fldB t p b] := by
 refine z01 z0m 2 rfl Tryz.func45 rfl rfl rfl ?_
 cases b
 ·repeat ((try conv => whnf); first | (refine stpQ ?_))
  (refine z00 (by rfl) ?_ ?_ (by rfl)) <;> (repeat' (first | (exact eqA) | (refine shE ?_) | (refine And.intro ?_ ?_)))
  show decide ((p : Int) = (t.length : Int)) = (p == t.length)
  by_cases hd : p = t.length
  ·rw [hd]; simp
  ·have h2 : ¬ ((p : Int) = (t.length : Int)) := by omega
   rw [decide_eq_false h2]; exact (beq_false_of_ne hd).symm
 ·repeat ((try conv => whnf); first | (refine stpQ ?_))
  (refine z00 (by rfl) ?_ ?_ (by rfl)) <;> (repeat' (first | (exact eqA) | (refine shE ?_) | (refine And.intro ?_ ?_)))
  rfl
end Go.Proofs.YtgmbkbggnlponaaGreatDoor
namespace Go.Proofs.YtgmbkbggnlponaaGreatDoor
set_option maxRecDepth 100000
set_option maxHeartbeats 1000000
set_option linter.unusedVariables false
set_option linter.unusedSimpArgs false
set_option linter.unusedSectionVars false
open Go.RowKit Pl
attribute [local irreducible] z0t z0u z0y AnsP LeP
theorem zgc {l : List Lf} {x : Lf} {i : Nat} : lfAt (l ++ [x]) i = if i = l.length then x else lfAt l i := by
 unfold lfAt
 by_cases h : i = l.length
 ·subst h; simp
 ·rw [if_neg h]
  rcases Nat.lt_or_ge i l.length with hl | hl
  ·simp [List.getD, List.getElem?_append_left hl]
  ·simp [List.getD, List.getElem?_eq_none (show l.length ≤ i from hl), List.getElem?_eq_none (show (l ++ [x]).length ≤ i by simp; omega)]
theorem zhO : Sml [] := ⟨by simp, fun i => by simp [lfAt]⟩
theorem zgd {l : List Lf} {x : Lf} (h : Sml l) (hl : (l.length : Int) ≤ 999) (h1 : (x.1.length : Int) ≤ 1000000) (h2 : (x.2.length : Int) ≤ 1000000) : Sml (l ++ [x]) := by
 refine ⟨by simp; omega, fun i => ?_⟩
 rw [zgc]
 split
 ·exact ⟨h1, h2⟩
 ·exact h.2 i
theorem Sml.fit {l : List Lf} (h : Sml l) : Fit l := fun i => by have := h.2 i; omega
theorem zge (t : Bs) (p : Nat) (b : Bool) (ht : (t.length : Int) ≤ 1000000000) (hp : p ≤ t.length) : CT Tryz.prog 148 [fldB t p b] [.ptr 1 0 0] (.ref 2) [fldB t (z2a t p b).2.1 (z2a t p b).2.2, .row 2 (lvE (z2a t p b).1)] := by
 have c := zdj t p b ht hp
 have hle := z2W (t := t) (p := p) (bad := b) hp
 unfold z2a
 rcases hN : z2p t p b with ⟨n, p1, b1⟩
 rw [hN] at c hle
 simp only at c hle ⊢
 obtain ⟨hp1, hn⟩ := hle
 generalize hR : z0V (z0E t) n p1 (if 24 < n then true else b1) = R
 refine z01 z0m 2 rfl Tryz.func148 rfl rfl rfl ?_
 by_cases h24 : 24 < n
 all_goals
  repeat ((try conv => whnf); first | (refine ccB ([1]) (c) ?_) | (refine stpQ ?_))
  refine z0S (Nat × Nat × List Lf × Bool) (fun ⟨k, q, l, bd⟩ => ⟨[(0, .ptr 1 0 0), (3, .int .i64 (n : Int)), (4, .ref 2), (5, .int .i64 (k : Int))], [(1, some (fldB t q bd)), (2, some (.row 2 (lvE l)))], 3⟩) (fun ⟨k, q, l, bd⟩ => k ≤ n ∧ l.length = k ∧ Sml l ∧ LvAt (z0E t) R (n - k) l q bd ∧ q ≤ t.length ∧ k ≤ 24 ∧ (bd = false → n ≤ 24)) (fun ⟨k, q, l, bd⟩ => n - k) (0, p1, [], if 24 < n then true else b1) ⟨by omega, rfl, zhO, by rw [← hR]; exact LvAt.start _ _ _ _, hp1, by omega, fun h => by first | omega | (rw [if_pos h24] at h; cases h)⟩ ?_ ?_
  ·(refine z02 (by rfl) ?_ ?_) <;> (repeat' (first | (exact eqA) | (refine shE ?_) | (refine And.intro ?_ ?_)))
   all_goals first
    | rfl
    | decide
    | (rw [if_pos h24]; done)
    | (rw [if_neg h24]; done)
  ·rintro ⟨k, q, l, bd⟩ ⟨hk, hl, hs, hat, hq, hk24, hbd⟩
   have hll := z0Q l
   cases bd
   ·have hn24 := hbd rfl
    by_cases hx : 24 < n
    ·exfalso; omega
    first
    | (exact absurd h24 hx)
    | (
        by_cases hlt : k < n
        ·obtain ⟨m, hm⟩ : ∃ m, n - k = m + 1 := ⟨n - k - 1, by omega⟩
         rw [hm] at hat
         have c1 := z3o t q false ht hq
         rcases h1 : z0E t q false with ⟨a1, q1, b2⟩
         have e1 := z1A (t := t) (p := q) (bad := false) hq
         rw [h1] at c1 e1
         simp only at c1 e1
         have c2 := z3o t q1 b2 ht e1.1
         rcases h2 : z0E t q1 b2 with ⟨a2, q2, b3⟩
         have e2 := z1A (t := t) (p := q1) (bad := b2) e1.1
         rw [h2] at c2 e2
         simp only at c2 e2
         have hst := hat.step h1 h2
         repeat ((try conv => whnf); first | (refine ccB ([1]) (c1) ?_) | (refine ccB ([1]) (c2) ?_) | (refine And.intro (by simp [z0Q]; omega) ?_) | (refine stpQ ?_))
         refine ⟨(k + 1, q2, l ++ [(a1, a2)], b3), ⟨by omega, by simp [hl], zgd hs (by omega) (by show (a1.length : Int) ≤ 1000000; omega) (by show (a2.length : Int) ≤ 1000000; omega), by rw [show n - (k + 1) = m by omega]; exact hst, e2.1, by omega, fun _ => hn24⟩, (by show n - (k + 1) < n - k; omega), ?_⟩
         (refine z02 (by rfl) ?_ ?_) <;> (repeat' (first | (exact eqA) | (refine shE ?_) | (refine And.intro ?_ ?_)))
         all_goals (simp [lvE]; done)
        ·have hkn : n - k = 0 := by omega
         rw [hkn] at hat
         rw [hat.done]
         repeat ((try conv => whnf); first | (refine stpQ ?_))
         ((try conv => whnf); refine z29 ([]) (z7U l (by omega) hs.fit) ?_ (by ((repeat' (first | (exact trivial) | (exact rfl) | (refine And.intro ?_ ?_))); first | done | fail)) (by decide) (by rfl) (by first | exact .inl rfl | (refine .inr ⟨?_, ?_⟩ <;> simp [own2, own1, own0, ownE])) ?_)
         ·exact ⟨⟨rfl, rfl⟩, rfl⟩
         ·repeat ((try conv => whnf); first | (refine stpQ ?_))
          (refine z00 (by rfl) ?_ ?_ (by rfl)) <;> (repeat' (first | (exact eqA) | (refine shE ?_) | (refine And.intro ?_ ?_)))
          rfl)
   ·rw [hat.bad]
    repeat' (first | ((try conv => whnf); first | (refine stpQ ?_)) | ((try conv => whnf); first | (refine cb_d (fun h => ?_) (fun h => ?_)) | (refine cb_n (fun h => ?_) (fun h => ?_)) | (refine cb (fun h => ?_) (fun h => ?_))))
    all_goals
     (refine z00 (by rfl) ?_ ?_ (by rfl)) <;> (repeat' (first | (exact eqA) | (refine shE ?_) | (refine And.intro ?_ ?_)))
end Go.Proofs.YtgmbkbggnlponaaGreatDoor
namespace Go.Proofs.YtgmbkbggnlponaaGreatDoor
set_option maxRecDepth 100000
set_option maxHeartbeats 1000000
set_option linter.unusedVariables false
set_option linter.unusedSimpArgs false
set_option linter.unusedSectionVars false
open Go.RowKit Pl
attribute [local irreducible] z0t z0u z0y AnsP LeP
theorem z2Z (n : Nat) (hn : (n : Int) ≤ 2000000000) : CT Tryz.prog 92 [] [.int .i64 (n : Int)] (.str (z0g n)) [] :=
 z9X ⟨_, Tryz.func92, rfl, rfl⟩ rfl (fun X => z4b X _) fun w => z8K n w hn
theorem zdp (t : Bs) (p : Nat) (ht : (t.length : Int) ≤ 1000000000) (hp : p ≤ t.length) : CT Tryz.prog 103 [] [.str t, .int .i64 (p : Int)] (rvT (z0G t p)) [] :=
 z9X ⟨_, Tryz.func103, rfl, rfl⟩ rfl (rv_rs _) fun w => by
  have h := z4k (bs t) p w (by rw [z19]; exact ht) (by rw [z19]; exact hp)
  rwa [z1Z] at h
theorem za4 (t : Bs) (p : Nat) (ht : (t.length : Int) ≤ 1000000000) (hp : p ≤ t.length) : CT Tryz.prog 102 [] [.str t, .int .i64 (p : Int)] (rsT (z0o t p)) [] :=
 z9X ⟨_, Tryz.func102, rfl, rfl⟩ rfl (rs_rs _) fun w => by
  have h := z8M (bs t) p w (by rw [z19]; exact ht) (by rw [z19]; exact hp)
  rwa [z1Z] at h
theorem zcx (t : Bs) (p : Nat) (b : Bool) (ht : (t.length : Int) ≤ 1000000000) (hp : p ≤ t.length) : CT Tryz.prog 48 [fldB t p b] [.ptr 1 0 0] (.int .i64 ((numS t p b).1 : Int)) [fldB t (numS t p b).2.1 (numS t p b).2.2] := by
 have c := zdp t p ht hp
 refine z01 z0m 2 rfl Tryz.func48 rfl rfl rfl ?_
 unfold numS z2p
 cases b <;> rcases hv : z0G t p with _ | ⟨n, q⟩
 all_goals
  rw [hv] at c
  repeat ((try conv => whnf); first | (refine ccA ([]) (c) ?_) | (refine stpQ ?_))
  (refine z00 (by rfl) ?_ ?_ (by rfl)) <;> (repeat' (first | (exact eqA) | (refine shE ?_) | (refine And.intro ?_ ?_))) <;> rfl
theorem z4R (t : Bs) (p : Nat) (b : Bool) (ht : (t.length : Int) ≤ 1000000000) (hp : p ≤ t.length) : CT Tryz.prog 47 [fldB t p b] [.ptr 1 0 0] (.str (z1x t p b).1) [fldB t (z1x t p b).2.1 (z1x t p b).2.2] := by
 have c := za4 t p ht hp
 refine z01 z0m 2 rfl Tryz.func47 rfl rfl rfl ?_
 unfold z1x z0E
 cases b <;> rcases hv : z0o t p with _ | ⟨n, q⟩
 all_goals
  rw [hv] at c
  repeat ((try conv => whnf); first | (refine ccA ([]) (c) ?_) | (refine stpQ ?_))
  (refine z00 (by rfl) ?_ ?_ (by rfl)) <;> (repeat' (first | (exact eqA) | (refine shE ?_) | (refine And.intro ?_ ?_))) <;> rfl
theorem zf4 (t : Bs) (p : Nat) (b : Bool) (ht : (t.length : Int) ≤ 1000000000) (hp : p ≤ t.length) : CT Tryz.prog 101 [fldB t p b] [.ptr 1 0 0] (.ref 2) [fldB t (z2m t p b).2.1 (z2m t p b).2.2, .row 2 (lvE (z2m t p b).1)] := by
 have c := zcx t p b ht hp
 have hle := z4l (t := t) (p := p) (bad := b) hp
 unfold z2m
 rcases hN : numS t p b with ⟨n, p1, b1⟩
 rw [hN] at c hle
 simp only at c hle ⊢
 obtain ⟨hp1, hn⟩ := hle
 generalize hR : z0V (z1x t) (min n 30) p1 b1 = R
 refine z01 z0m 2 rfl Tryz.func101 rfl rfl rfl ?_
 repeat ((try conv => whnf); first | (refine ccB ([1]) (c) ?_) | (refine stpQ ?_))
 refine z0S (Nat × Nat × List Lf × Bool) (fun ⟨k, q, l, bd⟩ => ⟨[(0, .ptr 1 0 0), (3, .ref 2), (4, .int .i64 (n : Int)), (5, .int .i64 (k : Int))], [(1, some (fldB t q bd)), (2, some (.row 2 (lvE l)))], 3⟩) (fun ⟨k, q, l, bd⟩ => k ≤ min n 30 ∧ l.length = k ∧ LvAt (z1x t) R (min n 30 - k) l q bd ∧ q ≤ t.length) (fun ⟨k, q, l, bd⟩ => min n 30 - k) (0, p1, [], b1) ⟨by omega, rfl, by rw [← hR]; exact LvAt.start _ _ _ _, hp1⟩ ?_ ?_
 ·(refine z02 (by rfl) ?_ ?_) <;> (repeat' (first | (exact eqA) | (refine shE ?_) | (refine And.intro ?_ ?_))) <;> first | rfl | decide
 ·rintro ⟨k, q, l, bd⟩ ⟨hk, hl, hat, hq⟩
  have hll := z0Q l
  cases bd
  ·by_cases hlt : k < min n 30
   ·obtain ⟨m, hm⟩ : ∃ m, min n 30 - k = m + 1 := ⟨min n 30 - k - 1, by omega⟩
    rw [hm] at hat
    have c1 := z4R t q false ht hq
    rcases h1 : z1x t q false with ⟨a1, q1, b2⟩
    have e1 := z2t (t := t) (p := q) (bad := false) hq
    rw [h1] at c1 e1
    simp only at c1 e1
    have c2 := z4R t q1 b2 ht e1.1
    rcases h2 : z1x t q1 b2 with ⟨a2, q2, b3⟩
    have e2 := z2t (t := t) (p := q1) (bad := b2) e1.1
    rw [h2] at c2 e2
    simp only at c2 e2
    have hst := hat.step h1 h2
    have k1 : (k : Int) < (n : Int) := by omega
    have k2 : (k : Int) < 30 := by omega
    repeat ((try conv => whnf); first | (refine ccB ([1]) (c1) ?_) | (refine ccB ([1]) (c2) ?_) | (refine And.intro (by simp [z0Q]; omega) ?_) | (refine stpQ ?_))
    refine ⟨(k + 1, q2, l ++ [(a1, a2)], b3), ⟨by omega, by simp [hl], by rw [show min n 30 - (k + 1) = m by omega]; exact hst, e2.1⟩, (by show min n 30 - (k + 1) < min n 30 - k; omega), ?_⟩
    (refine z02 (by rfl) ?_ ?_) <;> (repeat' (first | (exact eqA) | (refine shE ?_) | (refine And.intro ?_ ?_)))
    all_goals (simp [lvE]; done)
   ·have hkn : min n 30 - k = 0 := by omega
    rw [hkn] at hat
    rw [hat.done]
    repeat' (first | ((try conv => whnf); first | (refine stpQ ?_)) | ((try conv => whnf); first | (refine cb_d (fun h => ?_) (fun h => ?_)) | (refine cb_n (fun h => ?_) (fun h => ?_)) | (refine cb (fun h => ?_) (fun h => ?_))))
    all_goals first
     | omega
     | ((refine z00 (by rfl) ?_ ?_ (by rfl)) <;> (repeat' (first | (exact eqA) | (refine shE ?_) | (refine And.intro ?_ ?_))))
  ·rw [hat.bad]
   repeat' (first | ((try conv => whnf); first | (refine stpQ ?_)) | ((try conv => whnf); first | (refine cb_d (fun h => ?_) (fun h => ?_)) | (refine cb_n (fun h => ?_) (fun h => ?_)) | (refine cb (fun h => ?_) (fun h => ?_))))
   all_goals
    (refine z00 (by rfl) ?_ ?_ (by rfl)) <;> (repeat' (first | (exact eqA) | (refine shE ?_) | (refine And.intro ?_ ?_)))
theorem zdq (t : Bs) (p : Nat) (w : Int) : z0M t p true w = ([], p, true) := by unfold z0M; split <;> simp [z0p]
theorem zcy (t : Bs) (p w : Nat) : (t.take (p + w)).drop (p + w - w) = (t.drop p).take w := by rw [Nat.add_sub_cancel, List.drop_take, Nat.add_sub_cancel_left]
theorem zbq (t : Bs) (p : Nat) (b : Bool) (w : Int) (ht : (t.length : Int) ≤ 1000000000) (hp : p ≤ t.length) : CT Tryz.prog 49 [fldB t p b] [.ptr 1 0 0, .int .i64 w] (.str (z0M t p b w).1) [fldB t (z0M t p b w).2.1 (z0M t p b w).2.2] := by
 refine z01 z0m 2 rfl Tryz.func49 rfl rfl rfl ?_
 cases b
 ·by_cases hw : w < 0
  ·have e : z0M t p false w = ([], p, true) := by rw [z0M, if_pos hw]
   rw [e]
   repeat ((try conv => whnf); first | (refine stpQ ?_))
   (refine z00 (by rfl) ?_ ?_ (by rfl)) <;> (repeat' (first | (exact eqA) | (refine shE ?_) | (refine And.intro ?_ ?_))) <;> rfl
  ·obtain ⟨n, rfl⟩ : ∃ n : Nat, w = n := ⟨w.toNat, by omega⟩
   by_cases hl : t.length - p < n
   ·have e : z0M t p false (n : Int) = ([], p, true) := by rw [z0M, if_neg hw, Int.toNat_natCast, z0p, if_pos (.inr hl)]
    rw [e]
    repeat ((try conv => whnf); first | (refine stpQ ?_))
    (refine z00 (by rfl) ?_ ?_ (by rfl)) <;> (repeat' (first | (exact eqA) | (refine shE ?_) | (refine And.intro ?_ ?_))) <;> rfl
   ·have e : z0M t p false (n : Int) = ((t.drop p).take n, p + n, false) := by rw [z0M, if_neg hw, Int.toNat_natCast, z0p, if_neg (by simp; omega)]
    rw [e]
    repeat ((try conv => whnf); first | (refine stpQ ?_))
    (refine z00 (by rfl) ?_ ?_ (by rfl)) <;> (repeat' (first | (exact eqA) | (refine shE ?_) | (refine And.intro ?_ ?_)))
    exact zcy t p n
 ·rw [zdq]
  repeat ((try conv => whnf); first | (refine stpQ ?_))
  (refine z00 (by rfl) ?_ ?_ (by rfl)) <;> (repeat' (first | (exact eqA) | (refine shE ?_) | (refine And.intro ?_ ?_))) <;> rfl
theorem z6M (t : Bs) (p : Nat) (b : Bool) (n : Nat) (ht : (t.length : Int) ≤ 1000000000) (hp : p ≤ t.length) : CT Tryz.prog 99 [fldB t p b] [.ptr 1 0 0, .int .i64 (n : Int)] (.str (z0p t p b n).1) [fldB t (z0p t p b n).2.1 (z0p t p b n).2.2] := by
 refine z01 z0m 2 rfl Tryz.func99 rfl rfl rfl ?_
 cases b
 ·by_cases hl : t.length - p < n
  ·have e : z0p t p false n = ([], p, true) := by rw [z0p, if_pos (.inr hl)]
   rw [e]
   repeat ((try conv => whnf); first | (refine stpQ ?_))
   (refine z00 (by rfl) ?_ ?_ (by rfl)) <;> (repeat' (first | (exact eqA) | (refine shE ?_) | (refine And.intro ?_ ?_))) <;> rfl
  ·have e : z0p t p false n = ((t.drop p).take n, p + n, false) := by rw [z0p, if_neg (by simp; omega)]
   rw [e]
   repeat ((try conv => whnf); first | (refine stpQ ?_))
   (refine z00 (by rfl) ?_ ?_ (by rfl)) <;> (repeat' (first | (exact eqA) | (refine shE ?_) | (refine And.intro ?_ ?_)))
   exact zcy t p n
 ·rw [z6D]
  repeat ((try conv => whnf); first | (refine stpQ ?_))
  (refine z00 (by rfl) ?_ ?_ (by rfl)) <;> (repeat' (first | (exact eqA) | (refine shE ?_) | (refine And.intro ?_ ?_))) <;> rfl
theorem z41 {t : Bs} {p n : Nat} {b : Bool} (hp : p ≤ t.length) : (z0p t p b n).2.1 ≤ t.length := by
 unfold z0p
 split
 ·exact hp
 ·rename_i h; simp at h ⊢; omega
theorem z4S {t : Bs} {p : Nat} {w : Int} {b : Bool} (hp : p ≤ t.length) : (z0M t p b w).2.1 ≤ t.length := by
 unfold z0M
 split
 ·exact hp
 ·exact z41 hp
theorem zhS (l : List Lf) (hl : Sml l) : CT Tryz.prog 170 [] [.sl 2 (lvE l)] (.str (z0z l)) [] := by
 have hlen := z0Q l
 have hll := hl.1
 have hv := z0O (n := l.length) (by omega)
 refine z01 z0m 1 rfl Tryz.func170 rfl rfl rfl ?_
 repeat ((try conv => whnf); first | (refine Exists.intro l.length (And.intro hlen ?_)) | (refine ccA ([]) (z2Z l.length (by omega)) ?_) | (refine stpQ ?_))
 refine z0S Nat (fun k => ⟨[(0, .sl 2 (lvE l)), (3, .str (z0g l.length ++ (l.take k).flatMap z1T)), (4, .int .i64 (k : Int))], [], 2⟩) (fun k => k ≤ l.length) (fun k => l.length - k) 0 (by omega) ?_ ?_
 ·(refine z02 (by rfl) ?_ ?_) <;> (repeat' (first | (exact eqA) | (refine shE ?_) | (refine And.intro ?_ ?_))) <;> simp
 ·intro k hk
  have hfl := z8R hl k
  by_cases hk2 : k < l.length
  ·have hnx := z9W hk2
   have h3 := hl.2 k
   have h1 := z0O (n := (lfAt l k).1.length) (by omega)
   have h2 := z0O (n := (lfAt l k).2.length) (by omega)
   repeat ((try conv => whnf); first | (refine Exists.intro l.length (And.intro hlen ?_)) | (refine i_at (z1K hk2) ?_) | (refine ccA ([]) (z2Z (lfAt l k).1.length (by omega)) ?_) | (refine ccA ([]) (z2Z (lfAt l k).2.length (by omega)) ?_) | (refine And.intro (by simp only [List.length_append]; omega) ?_) | (refine stpQ ?_))
   refine ⟨k + 1, by omega, by omega, ?_⟩
   (refine z02 (by rfl) ?_ ?_) <;> (repeat' (first | (exact eqA) | (refine shE ?_) | (refine And.intro ?_ ?_)))
   rw [hnx]; simp [z0e]
  ·obtain rfl : k = l.length := by omega
   repeat ((try conv => whnf); first | (refine Exists.intro l.length (And.intro hlen ?_)) | (refine stpQ ?_))
   (refine z00 (by rfl) ?_ ?_ (by rfl)) <;> repeat' (first | (exact eqA) | (refine shE ?_) | (refine And.intro ?_ ?_))
   rw [List.take_length]; rfl
theorem z8U (l : List Lf) (hl : Sml l) (hf : Fit l) : CT Tryz.prog 147 [] [.sl 2 (lvE l)] (.tup [.str (bif leavesOk l then z0z l else []), .bool (leavesOk l)]) [] := by
 have hll := hl.1
 refine z01 z0m 1 rfl Tryz.func147 rfl rfl rfl ?_
 repeat' (first | ((try conv => whnf); first | (refine ccA ([]) (z1L l (by omega) hf) ?_) | (refine ccA ([]) (zhS l hl) ?_) | (refine stpQ ?_)) | ((try conv => whnf); first | (refine cb_d (fun h => ?_) (fun h => ?_)) | (refine cb_n (fun h => ?_) (fun h => ?_)) | (refine cb (fun h => ?_) (fun h => ?_))))
 ·have h : leavesOk l = false := by simpa using h
  rw [h]
  (refine z00 (by rfl) ?_ ?_ (by rfl)) <;> (repeat' (first | (exact eqA) | (refine shE ?_) | (refine And.intro ?_ ?_))) <;> rfl
 ·have h : leavesOk l = true := by simpa using h
  rw [h]
  (refine z00 (by rfl) ?_ ?_ (by rfl)) <;> (repeat' (first | (exact eqA) | (refine shE ?_) | (refine And.intro ?_ ?_))) <;> rfl
end Go.Proofs.YtgmbkbggnlponaaGreatDoor
namespace Go.Proofs.YtgmbkbggnlponaaGreatDoor
set_option maxRecDepth 100000
set_option maxHeartbeats 1000000
set_option linter.unusedVariables false
set_option linter.unusedSimpArgs false
set_option linter.unusedSectionVars false
open Go.RowKit Pl
attribute [local irreducible] z0t z0u z0y AnsP LeP
theorem le64b {b : Int} (h : b ≤ 64) : b ≤ ((IntKind.i64.bits : Nat) : Int) := h
theorem and255 (n : Int) : bits .and .i64 n 255 = n % 256 := by
 have h127 : (BitVec.ofInt 64 255).toNat = 2 ^ 8 - 1 := by decide
 have key : (BitVec.ofInt 64 n &&& BitVec.ofInt 64 255).toNat = (n % ((2 ^ 64 : Nat) : Int)).toNat % 2 ^ 8 := by
  rw [BitVec.toNat_and, BitVec.toNat_ofInt, h127, Nat.and_two_pow_sub_one_eq_mod]
 show IntKind.i64.wrap ((BitVec.ofInt 64 n &&& BitVec.ofInt 64 255).toNat : Nat) = n % 256
 rw [key, IntKind.wrap_i64]
 omega
theorem zbn (n : Int) : ∃ x : Nat, bits .and .i64 n 255 = (x : Int) ∧ x ≤ 255 := ⟨(n % 256).toNat, by rw [and255]; omega, by omega⟩
def curE (c : Bs) (i : Nat) (h : Int) : Ent := .box [.sl 1 (z0f c), .int .i64 (i : Int), .int .i64 h]
theorem zhP {a n : Nat} {K : Int → Prop} (hk : K ((a % n : Nat) : Int)) : ∃ r, r = (a : Int).tmod (n : Int) ∧ K r := ⟨_, (Int.ofNat_tmod a n).symm, hk⟩
theorem zeZ {c : Bs} {i : Nat} (h : i < c.length) : (z0f c)[i]? = some [.int .u8 ((c.getD i 0).toNat : Int)] := by
 simp [z0f, z49, List.getD, List.getElem?_eq_getElem h]
def zdl (h : Int) : Int := IntKind.i64.wrap (IntKind.i64.wrap (h * 6364136223846793005) + 1442695040888963407)
theorem z38 (c : Bs) (i : Nat) (h : Int) (hc : (c.length : Int) ≤ 1048576) (hi : i ≤ c.length) : ∃ (x i' : Nat) (h' : Int), x ≤ 255 ∧ i' ≤ c.length ∧ CT Tryz.prog 89 [curE c i h] [.ptr 1 0 0] (.int .i64 (x : Int)) [curE c i' h'] := by
 have hlen := z0F c
 by_cases hlt : i < c.length
 ·have h8 := (c.getD i 0).toNat_lt
  obtain ⟨x0, hx0, hb0⟩ := zbn (bits .xor .i64 (zdl h / 2 ^ (33 : Int).toNat) (zdl h / 2 ^ (45 : Int).toNat))
  obtain ⟨x, hx, hb⟩ := zbn ((x0 + (c.getD i 0).toNat : Nat) : Int)
  refine ⟨x, i + 1, zdl h, hb, hlt, z01 z0m 2 rfl Tryz.func89 rfl rfl rfl ?_⟩
  repeat ((try conv => whnf); first | (refine Exists.intro c.length (And.intro hlen ?_)) | (refine And.intro (le64b (by omega)) ?_) | (refine i_at (zeZ hlt) ?_) | (refine Exists.intro _ (And.intro hx0.symm ?_)) | (refine Exists.intro _ (And.intro hx.symm ?_)) | (refine stpQ ?_))
  (refine z00 (by rfl) ?_ ?_ (by rfl)) <;> repeat' (first | (exact eqA) | (refine shE ?_) | (refine And.intro ?_ ?_))
  rfl
 ·obtain ⟨x0, hx0, hb0⟩ := zbn (bits .xor .i64 (zdl h / 2 ^ (33 : Int).toNat) (zdl h / 2 ^ (45 : Int).toNat))
  refine ⟨x0, i, zdl h, hb0, hi, z01 z0m 2 rfl Tryz.func89 rfl rfl rfl ?_⟩
  repeat ((try conv => whnf); first | (refine Exists.intro c.length (And.intro hlen ?_)) | (refine And.intro (le64b (by omega)) ?_) | (refine Exists.intro _ (And.intro hx0.symm ?_)) | (refine stpQ ?_))
  (refine z00 (by rfl) ?_ ?_ (by rfl)) <;> repeat' (first | (exact eqA) | (refine shE ?_) | (refine And.intro ?_ ?_))
  rfl
theorem z15 (c : Bs) (i : Nat) (h : Int) (n : Nat) (hc : (c.length : Int) ≤ 1048576) (hi : i ≤ c.length) (hn : 0 < n ∧ n ≤ 256) : ∃ (x i' : Nat) (h' : Int), x < n ∧ i' ≤ c.length ∧ CT Tryz.prog 33 [curE c i h] [.ptr 1 0 0, .int .i64 (n : Int)] (.int .i64 (x : Int)) [curE c i' h'] := by
 obtain ⟨x, i', h', hx, hi', k⟩ := z38 c i h hc hi
 refine ⟨x % n, i', h', Nat.mod_lt _ (by omega), hi', z01 z0m 2 rfl Tryz.func33 rfl rfl rfl ?_⟩
 repeat ((try conv => whnf); first | (refine ccB ([1]) (k) ?_) | (refine zhP ?_) | (refine stpQ ?_))
 (refine z00 (by rfl) ?_ ?_ (by rfl)) <;> repeat' (first | (exact eqA) | (refine shE ?_) | (refine And.intro ?_ ?_))
end Go.Proofs.YtgmbkbggnlponaaGreatDoor
namespace Go.Proofs.YtgmbkbggnlponaaGreatDoor
set_option maxRecDepth 100000
set_option maxHeartbeats 1000000
set_option linter.unusedVariables false
set_option linter.unusedSimpArgs false
set_option linter.unusedSectionVars false
open Go.RowKit Pl
attribute [local irreducible] z0t z0u z0y AnsP LeP
def strE (l : List Bs) : List (List T) := l.map fun s => [.str s]
theorem z0c (l : List Bs) : (strE l).length = l.length := by simp [strE]
theorem zf0 {l : List Bs} {i : Nat} (h : i < l.length) : (strE l)[i]? = some [.str (l.getD i [])] := by simp [strE, List.getD, List.getElem?_eq_getElem h]
theorem z9Z (c : Bs) (i : Nat) (h : Int) (l : List Bs) (hc : (c.length : Int) ≤ 1048576) (hi : i ≤ c.length) (hl : 0 < l.length ∧ l.length ≤ 256) : ∃ (s : Bs) (i' : Nat) (h' : Int), s ∈ l ∧ i' ≤ c.length ∧ CT Tryz.prog 152 [curE c i h] [.ptr 1 0 0, .sl 1 (strE l)] (.str s) [curE c i' h'] := by
 obtain ⟨x, i', h', hx, hi', k⟩ := z15 c i h l.length hc hi hl
 have hlen := z0c l
 refine ⟨l.getD x [], i', h', ?_, hi', z01 z0m 2 rfl Tryz.func152 rfl rfl rfl ?_⟩
 ·simp [List.getD, List.getElem?_eq_getElem hx]
 ·repeat ((try conv => whnf); first | (refine Exists.intro l.length (And.intro hlen ?_)) | (refine ccB ([1]) (k) ?_) | (refine i_at (zf0 hx) ?_) | (refine stpQ ?_))
  (refine z00 (by rfl) ?_ ?_ (by rfl)) <;> repeat' (first | (exact eqA) | (refine shE ?_) | (refine And.intro ?_ ?_))
def names12 : List Bs := [[97, 110, 110], [98, 111, 98], [99, 97, 116], [100, 97, 110], [101, 118, 101], [102, 97, 121], [103, 117, 115], [104, 97, 108], [105, 118, 121], [106, 111, 101, 64, 120, 46, 111, 114, 103], [107, 105, 109], [108, 101, 111]]
def values5 : List Bs := [[107, 49], [107, 50], [107, 51], [107, 101, 121, 45, 102, 111, 117, 114], [122]]
theorem zdm : names12.all (fun s => z1d s && decide (s.length ≤ 9)) = true := by decide +kernel
theorem zdn : values5.all (fun s => z1H s && decide (s.length ≤ 9)) = true := by decide +kernel
theorem za0 (c : Bs) (i : Nat) (h : Int) (hc : (c.length : Int) ≤ 1048576) (hi : i ≤ c.length) : ∃ (s : Bs) (i' : Nat) (h' : Int), (z1d s = true ∧ s.length ≤ 9) ∧ i' ≤ c.length ∧ CT Tryz.prog 110 [curE c i h] [.ptr 1 0 0] (.str s) [curE c i' h'] := by
 obtain ⟨s, i', h', hs, hi', k⟩ := z9Z c i h names12 hc hi (by decide)
 refine ⟨s, i', h', ?_, hi', z01 z0m 2 rfl Tryz.func110 rfl rfl rfl ?_⟩
 ·have := List.all_eq_true.1 zdm s hs
  simpa using this
 ·repeat ((try conv => whnf); first | (refine z6w ([34]) ([1]) (k) (by ((repeat' (first | (exact trivial) | (exact rfl) | (decide) | (refine And.intro ?_ ?_))); first | done | fail)) (by ((repeat' (first | (exact trivial) | (exact rfl) | (decide) | (refine And.intro ?_ ?_))); first | done | fail)) (by decide) (by rfl) (by first | exact .inl rfl | (refine .inr ⟨?_, ?_⟩ <;> simp [own2, own1, own0, ownE])) ?_) | (refine stpQ ?_))
  (refine z00 (by rfl) ?_ ?_ (by rfl)) <;> repeat' (first | (exact eqA) | (refine shE ?_) | (refine And.intro ?_ ?_))
theorem zdo (c : Bs) (i : Nat) (h : Int) (hc : (c.length : Int) ≤ 1048576) (hi : i ≤ c.length) : ∃ (s : Bs) (i' : Nat) (h' : Int), (z1H s = true ∧ s.length ≤ 9) ∧ i' ≤ c.length ∧ CT Tryz.prog 153 [curE c i h] [.ptr 1 0 0] (.str s) [curE c i' h'] := by
 obtain ⟨s, i', h', hs, hi', k⟩ := z9Z c i h values5 hc hi (by decide)
 refine ⟨s, i', h', ?_, hi', z01 z0m 2 rfl Tryz.func153 rfl rfl rfl ?_⟩
 ·have := List.all_eq_true.1 zdn s hs
  simpa using this
 ·repeat ((try conv => whnf); first | (refine z6w ([34]) ([1]) (k) (by ((repeat' (first | (exact trivial) | (exact rfl) | (decide) | (refine And.intro ?_ ?_))); first | done | fail)) (by ((repeat' (first | (exact trivial) | (exact rfl) | (decide) | (refine And.intro ?_ ?_))); first | done | fail)) (by decide) (by rfl) (by first | exact .inl rfl | (refine .inr ⟨?_, ?_⟩ <;> simp [own2, own1, own0, ownE])) ?_) | (refine stpQ ?_))
  (refine z00 (by rfl) ?_ ?_ (by rfl)) <;> repeat' (first | (exact eqA) | (refine shE ?_) | (refine And.intro ?_ ?_))
def zf1 (c : Bs) : Nat → Int
 | 0 => ((35901 + c.length : Nat) : Int)
 | k + 1 => bits .and .i64 (IntKind.i64.wrap (IntKind.i64.wrap (IntKind.i64.wrap (zf1 c k * 131) + ((c.getD k 0).toNat : Int)) + 7)) 1073741823
theorem zgh (c : Bs) (hc : (c.length : Int) ≤ 1048576) : ∃ (h : Int), CT Tryz.prog 16 [] [.sl 1 (z0f c)] (.ptr 1 0 0) [curE c 0 h] := by
 have hlen := z0F c
 refine ⟨zf1 c (min c.length 4000), z01 z0m 1 rfl Tryz.func16 rfl rfl rfl ?_⟩
 repeat ((try conv => whnf); first | (refine Exists.intro c.length (And.intro hlen ?_)) | (refine stpQ ?_))
 refine z0S Nat (fun k => ⟨[(0, .sl 1 (z0f c)), (3, .int .i64 (zf1 c k)), (4, .int .i64 (k : Int))], [], 2⟩) (fun k => k ≤ c.length ∧ k ≤ 4000) (fun k => 4000 - k) 0 ⟨by omega, by omega⟩ ?_ ?_
 ·(refine z02 (by rfl) ?_ ?_) <;> (repeat' (first | (exact eqA) | (refine shE ?_) | (refine And.intro ?_ ?_)))
  show _ = ((35901 + c.length : Nat) : Int)
  omega
 ·rintro k ⟨hk, hk2⟩
  by_cases hlt : k < c.length ∧ k < 4000
  ·have h8 := (c.getD k 0).toNat_lt
   repeat ((try conv => whnf); first | (refine Exists.intro c.length (And.intro hlen ?_)) | (refine i_at (zeZ hlt.1) ?_) | (refine stpQ ?_))
   refine ⟨k + 1, ⟨by omega, by omega⟩, by omega, ?_⟩
   (refine z02 (by rfl) ?_ ?_) <;> (repeat' (first | (exact eqA) | (refine shE ?_) | (refine And.intro ?_ ?_)))
   rfl
  ·have e : k = min c.length 4000 := by omega
   subst e
   repeat' (first | ((try conv => whnf); first | (refine Exists.intro c.length (And.intro hlen ?_)) | (refine stpQ ?_)) | ((try conv => whnf); first | (refine cb_d (fun h => ?_) (fun h => ?_)) | (refine cb_n (fun h => ?_) (fun h => ?_)) | (refine cb (fun h => ?_) (fun h => ?_))))
   all_goals first
    | omega
    | ((refine z00 (by rfl) ?_ ?_ (by rfl)) <;> (repeat' (first | (exact eqA) | (refine shE ?_) | (refine And.intro ?_ ?_))))
end Go.Proofs.YtgmbkbggnlponaaGreatDoor
