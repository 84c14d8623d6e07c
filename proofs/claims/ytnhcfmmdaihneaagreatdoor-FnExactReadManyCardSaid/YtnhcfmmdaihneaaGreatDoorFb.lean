/- A walk of old, that makes memory and writes none of what was there, as a contract by content. Functions by content: numbers, strings and entries are read. Functions by content: fields of a message. Functions by content: entries are read. Functions by content: what the reference reads: numbers, strings, entries. Functions by content: what the drawing cursor gives. Functions by content: drawn names and values. -/
import Derived.Test.YtnhcfmmdaihneaaGreatDoorVd
import Derived.Test.YtnhcfmmdaihneaaGreatDoorFa
import Derived.Test.YtnhcfmmdaihneaaGreatDoorWa
import Derived.Test.YtnhcfmmdaihneaaGreatDoorPlainM
import Derived.Laws.Bits128
namespace Go.Proofs.YtnhcfmmdaihneaaGreatDoor
set_option maxRecDepth 100000
set_option maxHeartbeats 1000000
set_option linter.unusedVariables false
set_option linter.unusedSimpArgs false
set_option linter.unusedSectionVars false
open Go.RowKit Pl
def zb6 : T → Bool
 | .int _ _ => true
 | .bool _ => true
 | .str _ => true
 | _ => false
def zcQ : T → Bool
 | .agg cs => cs.all zb6
 | x => zb6 x
def zv1 : T → Value
 | .agg cs => .agg (cs.map zv).toArray
 | x => zv x
theorem zb7 {X : Cx} : ∀ {cs : List T} {us : List Value}, cs.all zb6 = true → RSl X cs us → us = cs.map zv
 | [], us, _, h => h
 | c :: cs, us, hp, ⟨u, us', hu, _, h1, h2⟩ => by
   simp only [List.all_cons, Bool.and_eq_true] at hp
   subst hu
   rw [List.map_cons, zb7 hp.2 h2]
   congr 1
   cases c <;> first | (cases hp.1; done) | (simpa only [RS0, RV, zv] using h1)
theorem z5q {X : Cx} : ∀ {ts : List T} {vs : List Value}, ts.all zcQ = true → Args X ts vs → vs = ts.map zv1
 | [], vs, _, h => h
 | t :: ts, vs, hp, ⟨u, us, hu, h1, h2⟩ => by
   simp only [List.all_cons, Bool.and_eq_true] at hp
   subst hu
   rw [List.map_cons, z5q hp.2 h2]
   congr 1
   cases t
   case agg cs =>
    obtain ⟨vs, rfl, hl⟩ := h1
    have := zb7 hp.1 hl
    rw [zv1, ← this]
   all_goals first | (cases hp.1; done) | (simpa only [RS, RS1, RS0, RV, zv1, zv] using h1)
theorem zcd (r : Nat) : idxE [] r = none := by simp [idxE]
theorem z7b {P : Program} {f : FuncId} {ts : List T} {v : Value} {r : T} (hfn : ∃ fn, P.funcs[f]? = some fn ∧ (fn.name == "runtime.NumGoroutine") = false ∧ fn.body.isNone = false)
 (hp : ts.all zcQ = true) (hr : ∀ X, RS X r v) (h : ∀ w, Calls P f (ts.map zv1).toArray w fun e w' => e = .returned v ∧ Below w.heap.size w w') : CT P f [] ts r [] := by
 refine ⟨hfn, fun X hh hH hu vs ha => ?_⟩
 rw [z5q hp ha]
 refine (h X.w).mono ?_
 rintro e w' ⟨rfl, hb⟩
 have hgl : Gl { X with w := w' } := Gl.mono (X := X) (X' := { X with w := w' }) (fun g (hg : g < X.w.heap.size) hn => ⟨hn, hb.block g hg⟩) hh.gl
 have hno : ∀ r, X.H r = none := fun r => by rw [hH]; exact zcd r
 refine ⟨v, { X with w := w' }, rfl, rfl, hH, hu, ⟨fun g g' r hr => absurd (hno r) hr, fun g r hg => ?_, fun r e he => ?_, hh.zero, hh.pos, hgl, fun g hg => ⟨(hh.inn g hg).1, Nat.lt_of_lt_of_le (hh.inn g hg).2.1 hb.size, (hh.inn g hg).2.2⟩⟩, hr _, ?_⟩
 ·obtain ⟨a, b⟩ := hh.lt g r hg
  exact ⟨Nat.lt_of_lt_of_le a hb.size, b⟩
 ·have := hno r
  rw [show X.H r = some e from he] at this; cases this
 ·refine ⟨fun _ h => h, hb.os, hb.tape, hb.output, hb.size, fun g hg hn => ⟨hn, hb.block g hg⟩, fun r _ e' he => ?_, fun g hg hg0 => ⟨⟨hg, hg0⟩, hb.block g (hh.lt g 0 hg).1⟩, fun r _ hn => absurd (hno r) hn⟩
  have := hno r
  rw [show X.H r = some e' from he] at this; cases this
end Go.Proofs.YtnhcfmmdaihneaaGreatDoor
namespace Go.Proofs.YtnhcfmmdaihneaaGreatDoor
set_option maxRecDepth 100000
set_option maxHeartbeats 1000000
set_option linter.unusedVariables false
set_option linter.unusedSimpArgs false
set_option linter.unusedSectionVars false
open Go.RowKit Pl
attribute [local irreducible] z0s z0t z0x AnsP LeP
def rvT : Option (Nat × Nat) → T
 | none => .tup [.int .i64 0, .int .i64 0, .bool false]
 | some (n, q) => .tup [.int .i64 (n : Int), .int .i64 (q : Int), .bool true]
def rsT : Option (Bs × Nat) → T
 | none => .tup [.str [], .int .i64 0, .bool false]
 | some (l, q) => .tup [.str l, .int .i64 (q : Int), .bool true]
theorem rv_rs (o : Option (Nat × Nat)) (X : Cx) : RS X (rvT o) (zdr o) := by
 cases o with
 | none => exact ⟨_, rfl, _, _, rfl, z13 X _ _, _, _, rfl, z13 X _ _, _, _, rfl, z1n X _, rfl⟩
 | some x => exact ⟨_, rfl, _, _, rfl, z13 X _ _, _, _, rfl, z13 X _ _, _, _, rfl, z1n X _, rfl⟩
theorem rs_rs (o : Option (Bs × Nat)) (X : Cx) : RS X (rsT o) (zds o) := by
 cases o with
 | none => exact ⟨_, rfl, _, _, rfl, z2p X _, _, _, rfl, z13 X _ _, _, _, rfl, z1n X _, rfl⟩
 | some x => exact ⟨_, rfl, _, _, rfl, z2p X _, _, _, rfl, z13 X _ _, _, _, rfl, z1n X _, rfl⟩
theorem zb8 (t : Bs) (p : Nat) (ht : (t.length : Int) ≤ 1000000000) (hp : p ≤ t.length) : CT Tryz.prog 115 [] [.str t, .int .i64 (p : Int)] (rvT (z0r t p)) [] :=
 z7b ⟨_, Tryz.func115, rfl, rfl⟩ rfl (rv_rs _) fun w => by
  have h := z3u (bs t) p w (by rw [z0L]; exact ht) (by rw [z0L]; exact hp)
  rw [z1b] at h
  refine h.mono ?_
  rintro e w1 ⟨rfl, rfl⟩
  exact ⟨rfl, Below.refl _ _⟩
theorem z7Z (t : Bs) (p : Nat) (ht : (t.length : Int) ≤ 1000000000) (hp : p ≤ t.length) : CT Tryz.prog 116 [] [.str t, .int .i64 (p : Int)] (rsT (z0k t p)) [] :=
 z7b ⟨_, Tryz.func116, rfl, rfl⟩ rfl (rs_rs _) fun w => by
  have h := z74 (bs t) p w (by rw [z0L]; exact ht) (by rw [z0L]; exact hp)
  rw [z1b] at h
  refine h.mono ?_
  rintro e w1 ⟨rfl, rfl⟩
  exact ⟨rfl, Below.refl _ _⟩
end Go.Proofs.YtnhcfmmdaihneaaGreatDoor
namespace Go.Proofs.YtnhcfmmdaihneaaGreatDoor
set_option maxRecDepth 100000
set_option maxHeartbeats 1000000
set_option linter.unusedVariables false
set_option linter.unusedSimpArgs false
set_option linter.unusedSectionVars false
open Go.RowKit Pl
attribute [local irreducible] z0s z0t z0x AnsP LeP
def fldB (t : Bs) (p : Nat) (b : Bool) : Ent := .box [.str t, .int .i64 (p : Int), .bool b]
theorem zce (t : Bs) (p : Nat) (b : Bool) (ht : (t.length : Int) ≤ 1000000000) (hp : p ≤ t.length) : CT Tryz.prog 42 [fldB t p b] [.ptr 1 0 0] (.int .i64 ((z1k t p b).1 : Int)) [fldB t (z1k t p b).2.1 (z1k t p b).2.2] := by
 have c := zb8 t p ht hp
 refine z0b z0E 2 rfl Tryz.func42 rfl rfl rfl ?_
 unfold z1k
 rcases hv : z0r t p with _ | ⟨n, q⟩
 all_goals
  rw [hv] at c
  repeat ((try conv => whnf); first | (refine ccA ([]) (c) ?_) | (refine stpQ ?_))
  (refine z07 (by rfl) ?_ ?_ (by rfl)) <;> (repeat' (first | (exact eqA) | (refine shE ?_) | (refine And.intro ?_ ?_))) <;> rfl
theorem z6a (t : Bs) (p : Nat) (b : Bool) (ht : (t.length : Int) ≤ 1000000000) (hp : p ≤ t.length) : CT Tryz.prog 43 [fldB t p b] [.ptr 1 0 0] (.str (z0i t p b).1) [fldB t (z0i t p b).2.1 (z0i t p b).2.2] := by
 have c := z7Z t p ht hp
 refine z0b z0E 2 rfl Tryz.func43 rfl rfl rfl ?_
 unfold z0i
 rcases hv : z0k t p with _ | ⟨n, q⟩
 all_goals
  rw [hv] at c
  repeat ((try conv => whnf); first | (refine ccA ([]) (c) ?_) | (refine stpQ ?_))
  (refine z07 (by rfl) ?_ ?_ (by rfl)) <;> (repeat' (first | (exact eqA) | (refine shE ?_) | (refine And.intro ?_ ?_))) <;> rfl
theorem zcR (t : Bs) (p : Nat) (b : Bool) : CT Tryz.prog 47 [fldB t p b] [.ptr 1 0 0] (.bool (z2O b p t.length)) [fldB t p b] := by
 refine z0b z0E 2 rfl Tryz.func47 rfl rfl rfl ?_
 cases b
 ·repeat ((try conv => whnf); first | (refine stpQ ?_))
  (refine z07 (by rfl) ?_ ?_ (by rfl)) <;> (repeat' (first | (exact eqA) | (refine shE ?_) | (refine And.intro ?_ ?_)))
  show decide ((p : Int) = (t.length : Int)) = (p == t.length)
  by_cases hd : p = t.length
  ·rw [hd]; simp
  ·have h2 : ¬ ((p : Int) = (t.length : Int)) := by omega
   rw [decide_eq_false h2]; exact (beq_false_of_ne hd).symm
 ·repeat ((try conv => whnf); first | (refine stpQ ?_))
  (refine z07 (by rfl) ?_ ?_ (by rfl)) <;> (repeat' (first | (exact eqA) | (refine shE ?_) | (refine And.intro ?_ ?_)))
  rfl
end Go.Proofs.YtnhcfmmdaihneaaGreatDoor
namespace Go.Proofs.YtnhcfmmdaihneaaGreatDoor
set_option maxRecDepth 100000
set_option maxHeartbeats 1000000
set_option linter.unusedVariables false
set_option linter.unusedSimpArgs false
set_option linter.unusedSectionVars false
open Go.RowKit Pl
attribute [local irreducible] z0s z0t z0x AnsP LeP
theorem zcf {l : List Lf} {x : Lf} {i : Nat} : lfAt (l ++ [x]) i = if i = l.length then x else lfAt l i := by
 unfold lfAt
 by_cases h : i = l.length
 ·subst h; simp
 ·rw [if_neg h]
  rcases Nat.lt_or_ge i l.length with hl | hl
  ·simp [List.getD, List.getElem?_append_left hl]
  ·simp [List.getD, List.getElem?_eq_none (show l.length ≤ i from hl), List.getElem?_eq_none (show (l ++ [x]).length ≤ i by simp; omega)]
theorem zdy : Sml [] := ⟨by simp, fun i => by simp [lfAt]⟩
theorem zcg {l : List Lf} {x : Lf} (h : Sml l) (hl : (l.length : Int) ≤ 999) (h1 : (x.1.length : Int) ≤ 1000000) (h2 : (x.2.length : Int) ≤ 1000000) : Sml (l ++ [x]) := by
 refine ⟨by simp; omega, fun i => ?_⟩
 rw [zcf]
 split
 ·exact ⟨h1, h2⟩
 ·exact h.2 i
theorem Sml.fit {l : List Lf} (h : Sml l) : Fit l := fun i => by have := h.2 i; omega
theorem zch (t : Bs) (p : Nat) (b : Bool) (ht : (t.length : Int) ≤ 1000000000) (hp : p ≤ t.length) : CT Tryz.prog 117 [fldB t p b] [.ptr 1 0 0] (.ref 2) [fldB t (z1Z t p b).2.1 (z1Z t p b).2.2, .row 2 (lvE (z1Z t p b).1)] := by
 have c := zce t p b ht hp
 have hle := z2D (t := t) (p := p) (bad := b) hp
 unfold z1Z
 rcases hN : z1k t p b with ⟨n, p1, b1⟩
 rw [hN] at c hle
 simp only at c hle ⊢
 obtain ⟨hp1, hn⟩ := hle
 generalize hR : z0y (z0i t) n p1 (if 24 < n then true else b1) = R
 refine z0b z0E 2 rfl Tryz.func117 rfl rfl rfl ?_
 by_cases h24 : 24 < n
 all_goals
  repeat ((try conv => whnf); first | (refine ccB ([1]) (c) ?_) | (refine stpQ ?_))
  refine z0Y (Nat × Nat × List Lf × Bool) (fun ⟨k, q, l, bd⟩ => ⟨[(0, .ptr 1 0 0), (3, .int .i64 (n : Int)), (4, .ref 2), (5, .int .i64 (k : Int))], [(1, some (fldB t q bd)), (2, some (.row 2 (lvE l)))], 3⟩) (fun ⟨k, q, l, bd⟩ => k ≤ n ∧ l.length = k ∧ Sml l ∧ LvAt (z0i t) R (n - k) l q bd ∧ q ≤ t.length ∧ k ≤ 24 ∧ (bd = false → n ≤ 24)) (fun ⟨k, q, l, bd⟩ => n - k) (0, p1, [], if 24 < n then true else b1) ⟨by omega, rfl, zdy, by rw [← hR]; exact LvAt.start _ _ _ _, hp1, by omega, fun h => by first | omega | (rw [if_pos h24] at h; cases h)⟩ ?_ ?_
  ·(refine z01 (by rfl) ?_ ?_) <;> (repeat' (first | (exact eqA) | (refine shE ?_) | (refine And.intro ?_ ?_)))
   all_goals first
    | rfl
    | decide
    | (rw [if_pos h24]; done)
    | (rw [if_neg h24]; done)
  ·rintro ⟨k, q, l, bd⟩ ⟨hk, hl, hs, hat, hq, hk24, hbd⟩
   have hll := z1I l
   cases bd
   ·have hn24 := hbd rfl
    by_cases hx : 24 < n
    ·exfalso; omega
    first
    | (exact absurd h24 hx)
    | (
        by_cases hlt : k < n
        ·obtain ⟨m, hm⟩ : ∃ m, n - k = m + 1 := ⟨n - k - 1, by omega⟩
         rw [hm] at hat
         have c1 := z6a t q false ht hq
         rcases h1 : z0i t q false with ⟨a1, q1, b2⟩
         have e1 := z0D (t := t) (p := q) (bad := false) hq
         rw [h1] at c1 e1
         simp only at c1 e1
         have c2 := z6a t q1 b2 ht e1.1
         rcases h2 : z0i t q1 b2 with ⟨a2, q2, b3⟩
         have e2 := z0D (t := t) (p := q1) (bad := b2) e1.1
         rw [h2] at c2 e2
         simp only at c2 e2
         have hst := hat.step h1 h2
         repeat ((try conv => whnf); first | (refine ccB ([1]) (c1) ?_) | (refine ccB ([1]) (c2) ?_) | (refine And.intro (by simp [z1I]; omega) ?_) | (refine stpQ ?_))
         refine ⟨(k + 1, q2, l ++ [(a1, a2)], b3), ⟨by omega, by simp [hl], zcg hs (by omega) (by show (a1.length : Int) ≤ 1000000; omega) (by show (a2.length : Int) ≤ 1000000; omega), by rw [show n - (k + 1) = m by omega]; exact hst, e2.1, by omega, fun _ => hn24⟩, (by show n - (k + 1) < n - k; omega), ?_⟩
         (refine z01 (by rfl) ?_ ?_) <;> (repeat' (first | (exact eqA) | (refine shE ?_) | (refine And.intro ?_ ?_)))
         all_goals (simp [lvE]; done)
        ·have hkn : n - k = 0 := by omega
         rw [hkn] at hat
         rw [hat.done]
         repeat ((try conv => whnf); first | (refine stpQ ?_))
         ((try conv => whnf); refine zaU ([]) (z3x l (by omega) hs.fit) ?_ (by ((repeat' (first | (exact trivial) | (exact rfl) | (refine And.intro ?_ ?_))); first | done | fail)) (by decide) (by rfl) (by first | exact .inl rfl | (refine .inr ⟨?_, ?_⟩ <;> simp [own2, own1, own0, ownE])) ?_)
         ·exact ⟨⟨rfl, rfl⟩, rfl⟩
         ·repeat ((try conv => whnf); first | (refine stpQ ?_))
          (refine z07 (by rfl) ?_ ?_ (by rfl)) <;> (repeat' (first | (exact eqA) | (refine shE ?_) | (refine And.intro ?_ ?_)))
          rfl)
   ·rw [hat.bad]
    repeat' (first | ((try conv => whnf); first | (refine stpQ ?_)) | ((try conv => whnf); first | (refine cb_d (fun h => ?_) (fun h => ?_)) | (refine cb_n (fun h => ?_) (fun h => ?_)) | (refine cb (fun h => ?_) (fun h => ?_))))
    all_goals
     (refine z07 (by rfl) ?_ ?_ (by rfl)) <;> (repeat' (first | (exact eqA) | (refine shE ?_) | (refine And.intro ?_ ?_)))
theorem z7c (t : Bs) (ht : (t.length : Int) ≤ 1000000000) : CT Tryz.prog 44 [] [.str t] (.tup [.ref 1, .bool (z0P t).isSome]) [.row 2 (lvE ((z0P t).getD []))] := by
 have c1 := zch t 0 false ht (by omega)
 have c2 := zcR t (z1Z t 0 false).2.1 (z1Z t 0 false).2.2
 unfold z0P
 simp only
 generalize z1Z t 0 false = R at c1 c2 ⊢
 obtain ⟨l, q, bd⟩ := R
 simp only at c1 c2 ⊢
 refine z0b z0E 1 rfl Tryz.func44 rfl rfl rfl ?_
 repeat ((try conv => whnf); first | (refine ccB ([_]) (c1) ?_) | (refine ccB ([_]) (c2) ?_) | (refine stpQ ?_))
 ((try conv => whnf); first | (refine cb_d (fun h => ?_) (fun h => ?_)) | (refine cb_n (fun h => ?_) (fun h => ?_)) | (refine cb (fun h => ?_) (fun h => ?_)))
 ·have h : z2O bd q t.length = false := by simpa using h
  rw [h]
  repeat ((try conv => whnf); first | (refine stpQ ?_))
  (refine z07 (by rfl) ?_ ?_ (by rfl)) <;> (repeat' (first | (exact eqA) | (refine shE ?_) | (refine And.intro ?_ ?_))) <;> first | rfl | decide
 ·have h : z2O bd q t.length = true := by simpa using h
  rw [h]
  repeat ((try conv => whnf); first | (refine stpQ ?_))
  (refine z07 (by rfl) ?_ ?_ (by rfl)) <;> (repeat' (first | (exact eqA) | (refine shE ?_) | (refine And.intro ?_ ?_))) <;> first | rfl | decide
end Go.Proofs.YtnhcfmmdaihneaaGreatDoor
namespace Go.Proofs.YtnhcfmmdaihneaaGreatDoor
set_option maxRecDepth 100000
set_option maxHeartbeats 1000000
set_option linter.unusedVariables false
set_option linter.unusedSimpArgs false
set_option linter.unusedSectionVars false
open Go.RowKit Pl
attribute [local irreducible] z0s z0t z0x AnsP LeP
theorem z3g (n : Nat) (hn : (n : Int) ≤ 2000000000) : CT Tryz.prog 113 [] [.int .i64 (n : Int)] (.str (z0f n)) [] :=
 z7b ⟨_, Tryz.func113, rfl, rfl⟩ rfl (fun X => z2p X _) fun w => z60 n w hn
theorem z9V (t : Bs) (p : Nat) (ht : (t.length : Int) ≤ 1000000000) (hp : p ≤ t.length) : CT Tryz.prog 108 [] [.str t, .int .i64 (p : Int)] (rvT (z0r t p)) [] :=
 z7b ⟨_, Tryz.func108, rfl, rfl⟩ rfl (rv_rs _) fun w => by
  have h := z2Y (bs t) p w (by rw [z0L]; exact ht) (by rw [z0L]; exact hp)
  rwa [z1b] at h
theorem z7q (t : Bs) (p : Nat) (ht : (t.length : Int) ≤ 1000000000) (hp : p ≤ t.length) : CT Tryz.prog 109 [] [.str t, .int .i64 (p : Int)] (rsT (z0k t p)) [] :=
 z7b ⟨_, Tryz.func109, rfl, rfl⟩ rfl (rs_rs _) fun w => by
  have h := z62 (bs t) p w (by rw [z0L]; exact ht) (by rw [z0L]; exact hp)
  rwa [z1b] at h
theorem z9j (t : Bs) (p : Nat) (b : Bool) (ht : (t.length : Int) ≤ 1000000000) (hp : p ≤ t.length) : CT Tryz.prog 36 [fldB t p b] [.ptr 1 0 0] (.int .i64 ((numS t p b).1 : Int)) [fldB t (numS t p b).2.1 (numS t p b).2.2] := by
 have c := z9V t p ht hp
 refine z0b z0E 2 rfl Tryz.func36 rfl rfl rfl ?_
 unfold numS z1k
 cases b <;> rcases hv : z0r t p with _ | ⟨n, q⟩
 all_goals
  rw [hv] at c
  repeat ((try conv => whnf); first | (refine ccA ([]) (c) ?_) | (refine stpQ ?_))
  (refine z07 (by rfl) ?_ ?_ (by rfl)) <;> (repeat' (first | (exact eqA) | (refine shE ?_) | (refine And.intro ?_ ?_))) <;> rfl
theorem z41 (t : Bs) (p : Nat) (b : Bool) (ht : (t.length : Int) ≤ 1000000000) (hp : p ≤ t.length) : CT Tryz.prog 37 [fldB t p b] [.ptr 1 0 0] (.str (z0Z t p b).1) [fldB t (z0Z t p b).2.1 (z0Z t p b).2.2] := by
 have c := z7q t p ht hp
 refine z0b z0E 2 rfl Tryz.func37 rfl rfl rfl ?_
 unfold z0Z z0i
 cases b <;> rcases hv : z0k t p with _ | ⟨n, q⟩
 all_goals
  rw [hv] at c
  repeat ((try conv => whnf); first | (refine ccA ([]) (c) ?_) | (refine stpQ ?_))
  (refine z07 (by rfl) ?_ ?_ (by rfl)) <;> (repeat' (first | (exact eqA) | (refine shE ?_) | (refine And.intro ?_ ?_))) <;> rfl
theorem zbp (t : Bs) (p : Nat) (b : Bool) (ht : (t.length : Int) ≤ 1000000000) (hp : p ≤ t.length) : CT Tryz.prog 110 [fldB t p b] [.ptr 1 0 0] (.ref 2) [fldB t (z2e t p b).2.1 (z2e t p b).2.2, .row 2 (lvE (z2e t p b).1)] := by
 have c := z9j t p b ht hp
 have hle := z4y (t := t) (p := p) (bad := b) hp
 unfold z2e
 rcases hN : numS t p b with ⟨n, p1, b1⟩
 rw [hN] at c hle
 simp only at c hle ⊢
 obtain ⟨hp1, hn⟩ := hle
 generalize hR : z0y (z0Z t) (min n 30) p1 b1 = R
 refine z0b z0E 2 rfl Tryz.func110 rfl rfl rfl ?_
 repeat ((try conv => whnf); first | (refine ccB ([1]) (c) ?_) | (refine stpQ ?_))
 refine z0Y (Nat × Nat × List Lf × Bool) (fun ⟨k, q, l, bd⟩ => ⟨[(0, .ptr 1 0 0), (3, .ref 2), (4, .int .i64 (n : Int)), (5, .int .i64 (k : Int))], [(1, some (fldB t q bd)), (2, some (.row 2 (lvE l)))], 3⟩) (fun ⟨k, q, l, bd⟩ => k ≤ min n 30 ∧ l.length = k ∧ LvAt (z0Z t) R (min n 30 - k) l q bd ∧ q ≤ t.length) (fun ⟨k, q, l, bd⟩ => min n 30 - k) (0, p1, [], b1) ⟨by omega, rfl, by rw [← hR]; exact LvAt.start _ _ _ _, hp1⟩ ?_ ?_
 ·(refine z01 (by rfl) ?_ ?_) <;> (repeat' (first | (exact eqA) | (refine shE ?_) | (refine And.intro ?_ ?_))) <;> first | rfl | decide
 ·rintro ⟨k, q, l, bd⟩ ⟨hk, hl, hat, hq⟩
  have hll := z1I l
  cases bd
  ·by_cases hlt : k < min n 30
   ·obtain ⟨m, hm⟩ : ∃ m, min n 30 - k = m + 1 := ⟨min n 30 - k - 1, by omega⟩
    rw [hm] at hat
    have c1 := z41 t q false ht hq
    rcases h1 : z0Z t q false with ⟨a1, q1, b2⟩
    have e1 := z4z (t := t) (p := q) (bad := false) hq
    rw [h1] at c1 e1
    simp only at c1 e1
    have c2 := z41 t q1 b2 ht e1.1
    rcases h2 : z0Z t q1 b2 with ⟨a2, q2, b3⟩
    have e2 := z4z (t := t) (p := q1) (bad := b2) e1.1
    rw [h2] at c2 e2
    simp only at c2 e2
    have hst := hat.step h1 h2
    have k1 : (k : Int) < (n : Int) := by omega
    have k2 : (k : Int) < 30 := by omega
    repeat ((try conv => whnf); first | (refine ccB ([1]) (c1) ?_) | (refine ccB ([1]) (c2) ?_) | (refine And.intro (by simp [z1I]; omega) ?_) | (refine stpQ ?_))
    refine ⟨(k + 1, q2, l ++ [(a1, a2)], b3), ⟨by omega, by simp [hl], by rw [show min n 30 - (k + 1) = m by omega]; exact hst, e2.1⟩, (by show min n 30 - (k + 1) < min n 30 - k; omega), ?_⟩
    (refine z01 (by rfl) ?_ ?_) <;> (repeat' (first | (exact eqA) | (refine shE ?_) | (refine And.intro ?_ ?_)))
    all_goals (simp [lvE]; done)
   ·have hkn : min n 30 - k = 0 := by omega
    rw [hkn] at hat
    rw [hat.done]
    repeat' (first | ((try conv => whnf); first | (refine stpQ ?_)) | ((try conv => whnf); first | (refine cb_d (fun h => ?_) (fun h => ?_)) | (refine cb_n (fun h => ?_) (fun h => ?_)) | (refine cb (fun h => ?_) (fun h => ?_))))
    all_goals first
     | omega
     | ((refine z07 (by rfl) ?_ ?_ (by rfl)) <;> (repeat' (first | (exact eqA) | (refine shE ?_) | (refine And.intro ?_ ?_))))
  ·rw [hat.bad]
   repeat' (first | ((try conv => whnf); first | (refine stpQ ?_)) | ((try conv => whnf); first | (refine cb_d (fun h => ?_) (fun h => ?_)) | (refine cb_n (fun h => ?_) (fun h => ?_)) | (refine cb (fun h => ?_) (fun h => ?_))))
   all_goals
    (refine z07 (by rfl) ?_ ?_ (by rfl)) <;> (repeat' (first | (exact eqA) | (refine shE ?_) | (refine And.intro ?_ ?_)))
theorem z9W (t : Bs) (p : Nat) (w : Int) : z1i t p true w = ([], p, true) := by unfold z1i; split <;> simp [z0u]
theorem z9k (t : Bs) (p w : Nat) : (t.take (p + w)).drop (p + w - w) = (t.drop p).take w := by rw [Nat.add_sub_cancel, List.drop_take, Nat.add_sub_cancel_left]
theorem zdN (t : Bs) (p : Nat) (b : Bool) (w : Int) (ht : (t.length : Int) ≤ 1000000000) (hp : p ≤ t.length) : CT Tryz.prog 39 [fldB t p b] [.ptr 1 0 0, .int .i64 w] (.str (z1i t p b w).1) [fldB t (z1i t p b w).2.1 (z1i t p b w).2.2] := by
 refine z0b z0E 2 rfl Tryz.func39 rfl rfl rfl ?_
 cases b
 ·by_cases hw : w < 0
  ·have e : z1i t p false w = ([], p, true) := by rw [z1i, if_pos hw]
   rw [e]
   repeat ((try conv => whnf); first | (refine stpQ ?_))
   (refine z07 (by rfl) ?_ ?_ (by rfl)) <;> (repeat' (first | (exact eqA) | (refine shE ?_) | (refine And.intro ?_ ?_))) <;> rfl
  ·obtain ⟨n, rfl⟩ : ∃ n : Nat, w = n := ⟨w.toNat, by omega⟩
   by_cases hl : t.length - p < n
   ·have e : z1i t p false (n : Int) = ([], p, true) := by rw [z1i, if_neg hw, Int.toNat_natCast, z0u, if_pos (.inr hl)]
    rw [e]
    repeat ((try conv => whnf); first | (refine stpQ ?_))
    (refine z07 (by rfl) ?_ ?_ (by rfl)) <;> (repeat' (first | (exact eqA) | (refine shE ?_) | (refine And.intro ?_ ?_))) <;> rfl
   ·have e : z1i t p false (n : Int) = ((t.drop p).take n, p + n, false) := by rw [z1i, if_neg hw, Int.toNat_natCast, z0u, if_neg (by simp; omega)]
    rw [e]
    repeat ((try conv => whnf); first | (refine stpQ ?_))
    (refine z07 (by rfl) ?_ ?_ (by rfl)) <;> (repeat' (first | (exact eqA) | (refine shE ?_) | (refine And.intro ?_ ?_)))
    exact z9k t p n
 ·rw [z9W]
  repeat ((try conv => whnf); first | (refine stpQ ?_))
  (refine z07 (by rfl) ?_ ?_ (by rfl)) <;> (repeat' (first | (exact eqA) | (refine shE ?_) | (refine And.intro ?_ ?_))) <;> rfl
theorem zdO (t : Bs) (p : Nat) (b : Bool) (n : Nat) (ht : (t.length : Int) ≤ 1000000000) (hp : p ≤ t.length) : CT Tryz.prog 45 [fldB t p b] [.ptr 1 0 0, .int .i64 (n : Int)] (.str (z0u t p b n).1) [fldB t (z0u t p b n).2.1 (z0u t p b n).2.2] := by
 refine z0b z0E 2 rfl Tryz.func45 rfl rfl rfl ?_
 cases b
 ·by_cases hl : t.length - p < n
  ·have e : z0u t p false n = ([], p, true) := by rw [z0u, if_pos (.inr hl)]
   rw [e]
   repeat ((try conv => whnf); first | (refine stpQ ?_))
   (refine z07 (by rfl) ?_ ?_ (by rfl)) <;> (repeat' (first | (exact eqA) | (refine shE ?_) | (refine And.intro ?_ ?_))) <;> rfl
  ·have e : z0u t p false n = ((t.drop p).take n, p + n, false) := by rw [z0u, if_neg (by simp; omega)]
   rw [e]
   repeat ((try conv => whnf); first | (refine stpQ ?_))
   (refine z07 (by rfl) ?_ ?_ (by rfl)) <;> (repeat' (first | (exact eqA) | (refine shE ?_) | (refine And.intro ?_ ?_)))
   exact z9k t p n
 ·rw [z7Y]
  repeat ((try conv => whnf); first | (refine stpQ ?_))
  (refine z07 (by rfl) ?_ ?_ (by rfl)) <;> (repeat' (first | (exact eqA) | (refine shE ?_) | (refine And.intro ?_ ?_))) <;> rfl
theorem z5x {t : Bs} {p n : Nat} {b : Bool} (hp : p ≤ t.length) : (z0u t p b n).2.1 ≤ t.length := by
 unfold z0u
 split
 ·exact hp
 ·rename_i h; simp at h ⊢; omega
theorem z4I {t : Bs} {p : Nat} {w : Int} {b : Bool} (hp : p ≤ t.length) : (z1i t p b w).2.1 ≤ t.length := by
 unfold z1i
 split
 ·exact hp
 ·exact z5x hp
theorem zbq (l : List Lf) (hl : Sml l) : CT Tryz.prog 114 [] [.sl 2 (lvE l)] (.str (z0h l)) [] := by
 have hlen := z1I l
 have hll := hl.1
 have hv := z0R (n := l.length) (by omega)
 refine z0b z0E 1 rfl Tryz.func114 rfl rfl rfl ?_
 repeat ((try conv => whnf); first | (refine Exists.intro l.length (And.intro hlen ?_)) | (refine ccA ([]) (z3g l.length (by omega)) ?_) | (refine stpQ ?_))
 refine z0Y Nat (fun k => ⟨[(0, .sl 2 (lvE l)), (3, .str (z0f l.length ++ (l.take k).flatMap z19)), (4, .int .i64 (k : Int))], [], 2⟩) (fun k => k ≤ l.length) (fun k => l.length - k) 0 (by omega) ?_ ?_
 ·(refine z01 (by rfl) ?_ ?_) <;> (repeat' (first | (exact eqA) | (refine shE ?_) | (refine And.intro ?_ ?_))) <;> simp
 ·intro k hk
  have hfl := z69 hl k
  by_cases hk2 : k < l.length
  ·have hnx := z4C hk2
   have h3 := hl.2 k
   have h1 := z0R (n := (lfAt l k).1.length) (by omega)
   have h2 := z0R (n := (lfAt l k).2.length) (by omega)
   repeat ((try conv => whnf); first | (refine Exists.intro l.length (And.intro hlen ?_)) | (refine i_at (z2M hk2) ?_) | (refine ccA ([]) (z3g (lfAt l k).1.length (by omega)) ?_) | (refine ccA ([]) (z3g (lfAt l k).2.length (by omega)) ?_) | (refine And.intro (by simp only [List.length_append]; omega) ?_) | (refine stpQ ?_))
   refine ⟨k + 1, by omega, by omega, ?_⟩
   (refine z01 (by rfl) ?_ ?_) <;> (repeat' (first | (exact eqA) | (refine shE ?_) | (refine And.intro ?_ ?_)))
   rw [hnx]; simp [z0c]
  ·obtain rfl : k = l.length := by omega
   repeat ((try conv => whnf); first | (refine Exists.intro l.length (And.intro hlen ?_)) | (refine stpQ ?_))
   (refine z07 (by rfl) ?_ ?_ (by rfl)) <;> repeat' (first | (exact eqA) | (refine shE ?_) | (refine And.intro ?_ ?_))
   rw [List.take_length]; rfl
theorem z6l (l : List Lf) (hl : Sml l) (hf : Fit l) : CT Tryz.prog 111 [] [.sl 2 (lvE l)] (.tup [.str (bif leavesOk l then z0h l else []), .bool (leavesOk l)]) [] := by
 have hll := hl.1
 refine z0b z0E 1 rfl Tryz.func111 rfl rfl rfl ?_
 repeat' (first | ((try conv => whnf); first | (refine ccA ([]) (z30 l (by omega) hf) ?_) | (refine ccA ([]) (zbq l hl) ?_) | (refine stpQ ?_)) | ((try conv => whnf); first | (refine cb_d (fun h => ?_) (fun h => ?_)) | (refine cb_n (fun h => ?_) (fun h => ?_)) | (refine cb (fun h => ?_) (fun h => ?_))))
 ·have h : leavesOk l = false := by simpa using h
  rw [h]
  (refine z07 (by rfl) ?_ ?_ (by rfl)) <;> (repeat' (first | (exact eqA) | (refine shE ?_) | (refine And.intro ?_ ?_))) <;> rfl
 ·have h : leavesOk l = true := by simpa using h
  rw [h]
  (refine z07 (by rfl) ?_ ?_ (by rfl)) <;> (repeat' (first | (exact eqA) | (refine shE ?_) | (refine And.intro ?_ ?_))) <;> rfl
end Go.Proofs.YtnhcfmmdaihneaaGreatDoor
namespace Go.Proofs.YtnhcfmmdaihneaaGreatDoor
set_option linter.unusedVariables false
set_option linter.unusedSimpArgs false
set_option linter.unusedSectionVars false
open Go.RowKit Pl
attribute [local irreducible] z0s z0t z0x AnsP LeP
end Go.Proofs.YtnhcfmmdaihneaaGreatDoor
namespace Go.Proofs.YtnhcfmmdaihneaaGreatDoor
set_option linter.unusedVariables false
set_option linter.unusedSimpArgs false
set_option linter.unusedSectionVars false
open Go.RowKit Pl
attribute [local irreducible] z0s z0t z0x AnsP LeP
def strE (l : List Bs) : List (List T) := l.map fun s => [.str s]
theorem z0m (l : List Bs) : (strE l).length = l.length := by simp [strE]
theorem zdG {l : List Bs} {i : Nat} (h : i < l.length) : (strE l)[i]? = some [.str (l.getD i [])] := by simp [strE, List.getD, List.getElem?_eq_getElem h]
end Go.Proofs.YtnhcfmmdaihneaaGreatDoor
