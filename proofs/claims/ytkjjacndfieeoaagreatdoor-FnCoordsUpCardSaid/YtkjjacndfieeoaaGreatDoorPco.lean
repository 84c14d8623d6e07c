/- Plain: heads, signatures and seals read back; what a coordinator makes of its records. -/
import Derived.Test.YtkjjacndfieeoaaGreatDoorPs
import Derived.Test.YtkjjacndfieeoaaGreatDoorCap
namespace Go.Proofs.YtkjjacndfieeoaaGreatDoor
set_option linter.unusedVariables false
set_option linter.unusedSimpArgs false
set_option linter.unusedSectionVars false
open Go.RowKit Pl
instance hdGoodDec (h : Hd) : Decidable h.good := by unfold Hd.good; exact inferInstance
def hdOf (t : Bs) : Hd := ⟨(t.getD 0 0).toNat, (t.getD 1 0).toNat, (t.drop 2).take 16, t.drop 18⟩
def z6y (t : Bs) : Option Hd := if 18 ≤ t.length ∧ (hdOf t).good then some (hdOf t) else none
theorem zh1 {t : Bs} (h : 18 ≤ t.length) : z0T (hdOf t) = t := by
 match t, h with
 | a :: b :: r, h =>
   simp only [z0T, hdOf, List.getD_cons_zero, List.getD_cons_succ, UInt8.ofNat_toNat, List.drop_succ_cons, List.drop_zero]
   show a :: b :: (r.take 16 ++ r.drop 16) = _
   rw [List.take_append_drop]
theorem z9O {h : Hd} (g : h.good) : hdOf (z0T h) = h := by
 obtain ⟨ho, ep, ro, pr⟩ := h
 obtain ⟨h1, h2, h3, h4, h5⟩ := g
 simp only at h1 h2 h3 h4 h5
 have a : (UInt8.ofNat ho).toNat = ho := by simp [UInt8.toNat_ofNat']; omega
 have b : (UInt8.ofNat ep).toNat = ep := by simp [UInt8.toNat_ofNat']; omega
 have e : z0T ⟨ho, ep, ro, pr⟩ = UInt8.ofNat ho :: UInt8.ofNat ep :: (ro ++ pr) := by simp [z0T]
 rw [e, hdOf]
 simp only [List.getD_cons_zero, List.getD_cons_succ, a, b, List.drop_succ_cons, List.drop_zero]
 rw [show 16 = ro.length from h4.symm, List.take_left, List.drop_left]
theorem zh2 {h : Hd} (g : h.good) : 18 ≤ (z0T h).length := by
 obtain ⟨_, _, _, h4, _⟩ := g
 simp only [z0T, List.length_append, List.length_cons, List.length_nil, h4]
 omega
theorem z3v {t : Bs} {h : Hd} : z6y t = some h ↔ h.good ∧ t = z0T h := by
 unfold z6y
 constructor
 ·intro e
  split at e
  ·rename_i c
   injection e with e
   subst e
   exact ⟨c.2, (zh1 c.1).symm⟩
  ·cases e
 ·rintro ⟨g, rfl⟩
  rw [if_pos ⟨zh2 g, by rw [z9O g]; exact g⟩, z9O g]
def cutR (t : Bs) : Nat → Nat → List Bs
 | _, 0 => []
 | p, n + 1 => (t.drop p).take 16 :: cutR t (p + 16) n
theorem z5v (t : Bs) : ∀ n p, (cutR t p n).length = n
 | 0, _ => rfl
 | n + 1, p => by simp [cutR, z5v t n]
theorem z4r {t : Bs} : ∀ {l : List Bs} {p : Nat} {r : Bs}, (∀ x ∈ l, x.length = 16) → t.drop p = l.flatten ++ r → cutR t p l.length = l
 | [], p, r, _, _ => rfl
 | x :: l, p, r, hx, h => by
   have h0 := hx x (by simp)
   rw [List.flatten_cons, List.append_assoc] at h
   have h1 : (t.drop p).take 16 = x := by rw [h, ← h0, List.take_left]
   have h2 : t.drop (p + 16) = l.flatten ++ r := by rw [← List.drop_drop, h, ← h0, List.drop_left]
   rw [List.length_cons, cutR, h1, z4r (fun y hy => hx y (by simp [hy])) h2]
theorem z9P (t : Bs) : ∀ n p, (cutR t p n).flatten = (t.drop p).take (16 * n)
 | 0, p => by simp [cutR]
 | n + 1, p => by
   rw [cutR, List.flatten_cons, z9P t n (p + 16), ← List.drop_drop, show 16 * (n + 1) = 16 + 16 * n by omega, List.take_add]
theorem z4s {t : Bs} : ∀ n p, p + 16 * n ≤ t.length → ∀ x ∈ cutR t p n, x.length = 16
 | 0, p, _, x, hx => by simp [cutR] at hx
 | n + 1, p, h, x, hx => by
   rw [cutR, List.mem_cons] at hx
   rcases hx with rfl | hx
   ·simp; omega
   ·exact z4s n (p + 16) (by omega) x hx
def sgOf (t : Bs) : Sg := ⟨(t.getD 0 0).toNat, cutR t 1 8, cutR t 129 8, cutR t 257 4⟩
def ziS (t : Bs) : Option Sg := if t.length = 321 ∧ (t.getD 0 0).toNat < 16 then some (sgOf t) else none
theorem z9Q {t : Bs} {s : Sg} : ziS t = some s ↔ s.good ∧ t = sigB s := by
 unfold ziS
 constructor
 ·intro e
  split at e
  ·rename_i c
   injection e with e
   subst e
   refine ⟨⟨c.2, ⟨z5v _ _ _, z4s _ _ (by omega)⟩, ⟨z5v _ _ _, z4s _ _ (by omega)⟩, z5v _ _ _, z4s _ _ (by omega)⟩, ?_⟩
   rw [sigB, sgOf]
   simp only [z9P]
   match t, c with
   | x :: r, c =>
     have hl : r.length = 320 := by have := c.1; simp at this; omega
     simp only [List.getD_cons_zero, UInt8.ofNat_toNat, List.drop_succ_cons, List.drop_zero, List.cons_append, List.nil_append]
     congr 1
     have e1 : r = r.take 128 ++ r.drop 128 := (List.take_append_drop _ _).symm
     have e2 : r.drop 128 = (r.drop 128).take 128 ++ r.drop 256 := by rw [← List.drop_drop (i := 128) (j := 128), List.take_append_drop]
     have e3 : (r.drop 256).take (16 * 4) = r.drop 256 := List.take_of_length_le (by simp; omega)
     rw [e3]
     conv => lhs; rw [e1, e2]
     rw [List.append_assoc]
  ·cases e
 ·rintro ⟨g, rfl⟩
  have hl := z4p g
  obtain ⟨a, op, sh, si⟩ := s
  obtain ⟨h1, ⟨h2, h3⟩, ⟨h4, h5⟩, h6, h7⟩ := g
  simp only at h1 h2 h3 h4 h5 h6 h7
  have l2 := z2J h3
  have l4 := z2J h5
  have l6 := z2J h7
  rw [h2] at l2
  rw [h4] at l4
  rw [h6] at l6
  have e0 : sigB ⟨a, op, sh, si⟩ = UInt8.ofNat a :: (op.flatten ++ (sh.flatten ++ (si.flatten ++ []))) := by simp [sigB]
  have ha : (UInt8.ofNat a).toNat = a := by simp [UInt8.toNat_ofNat']; omega
  have d1 : (sigB ⟨a, op, sh, si⟩).drop 1 = op.flatten ++ (sh.flatten ++ (si.flatten ++ [])) := by rw [e0]; rfl
  have d2 : (sigB ⟨a, op, sh, si⟩).drop 129 = sh.flatten ++ (si.flatten ++ []) := by
   rw [show 129 = 1 + 128 from rfl, ← List.drop_drop, d1, show 128 = op.flatten.length by omega, List.drop_left]
  have d3 : (sigB ⟨a, op, sh, si⟩).drop 257 = si.flatten ++ [] := by
   rw [show 257 = 129 + 128 from rfl, ← List.drop_drop, d2, show 128 = sh.flatten.length by omega, List.drop_left]
  have c1 := z4r h3 d1
  have c2 := z4r h5 d2
  have c3 := z4r h7 d3
  rw [h2] at c1
  rw [h4] at c2
  rw [h6] at c3
  have hg : ((sigB ⟨a, op, sh, si⟩).getD 0 0).toNat = a := by rw [e0]; exact ha
  rw [if_pos ⟨hl, by rw [hg]; exact h1⟩, sgOf, hg, c1, c2, c3]
def z6z (t : Bs) : Option (Hd × Sg) := match z1f t 0 false with
 | (_, _, true) => none
 | (hb, q, false) => match z6y hb, ziS (t.drop q) with
   | some h, some s => some (h, s)
   | _, _ => none
theorem z3w {t : Bs} {h : Hd} {s : Sg} : z6z t = some (h, s) ↔ h.good ∧ s.good ∧ t = z1C h s := by
 unfold z6z
 constructor
 ·intro e
  split at e
  ·cases e
  ·rename_i hb q hs
   split at e
   ·rename_i h' s' e1 e2
    injection e with e
    injection e with ea eb
    subst ea eb
    obtain ⟨g1, rfl⟩ := z3v.1 e1
    obtain ⟨g2, r2⟩ := z9Q.1 e2
    obtain ⟨-, -, r3, -⟩ := z6a hs
    refine ⟨g1, g2, ?_⟩
    rw [List.drop_zero] at r3
    rw [z1C, r3, r2]
   ·cases e
 ·rintro ⟨g1, g2, rfl⟩
  have hl := z1U g1
  have e0 : (z1C h s).drop 0 = z0p (z0T h) ++ sigB s := by simp [z1C]
  have hs := z6b (l := z0T h) (by omega) e0 false
  rw [hs]
  have hd : (z1C h s).drop (0 + (z0p (z0T h)).length) = sigB s := by rw [Nat.zero_add, z1C, List.drop_left]
  simp only [hd, z3v.2 ⟨g1, rfl⟩, z9Q.2 ⟨g2, rfl⟩]
theorem zfA {t : Bs} (h : z6z t = none) {hx : Hd} {s : Sg} (g : hx.good) (gs : s.good) : t ≠ z1C hx s := fun e => by
 rw [z3w.2 ⟨g, gs, e⟩] at h; cases h
def z2T (l : List Hd) : Bs := match l[l.length - 1]? with
 | none => []
 | some h => z1G h
theorem z4t {l : List Hd} (h : 0 < l.length) : z2T l = z1G (l[l.length - 1]'(by omega)) := by
 unfold z2T
 rw [List.getElem?_eq_getElem (by omega)]
def z1u (ho : Nat) (l : List Hd) (ro : Bs) : Hd := ⟨ho, l.length + 1, ro, z2T l⟩
def z6Z (ho : Nat) (l : List Hd) : Prop := ∀ i (h : i < l.length), l[i].good ∧ l[i] = z1u ho (l.take i) l[i].ro
theorem zfB (ho : Nat) : z6Z ho [] := fun i h => by simp at h
theorem zfC {ho : Nat} {l : List Hd} (c : z6Z ho l) {ro : Bs} (g : (z1u ho l ro).good) : z6Z ho (l ++ [z1u ho l ro]) := fun i h => by
 by_cases hi : i < l.length
 ·rw [List.getElem_append_left hi, List.take_append_of_le_length (by omega)]
  exact c i hi
 ·have he : i = l.length := by simp at h; omega
  subst he
  simp only [List.getElem_append_right (Nat.le_refl _), Nat.sub_self, List.getElem_cons_zero, List.take_left]
  exact ⟨g, rfl⟩
theorem z3l {ho : Nat} {l : List Hd} (c : z6Z ho l) : l.length ≤ 4 := by
 rcases Nat.eq_zero_or_pos l.length with h | h
 ·omega
 ·have := c (l.length - 1) (by omega)
  have h2 := this.1.2.2.1
  rw [this.2, z1u] at h2
  simp at h2
  omega
theorem zh3 {ho : Nat} {l : List Hd} (c : z6Z ho l) {i : Nat} (h : i < l.length) : l[i].ep = i + 1 ∧ l[i].ho = ho := by
 have := (c i h).2
 constructor
 ·rw [this, z1u]; simp; omega
 ·rw [this, z1u]
theorem z2L {ho : Nat} {l : List Hd} {ro : Bs} (hh : ho ≤ 2) (hl : l.length < 4) (hr : ro.length = 16) : (z1u ho l ro).good := by
 refine ⟨hh, by simp [z1u], by simp only [z1u]; omega, hr, ?_⟩
 show (if l.length + 1 = 1 then z2T l = [] else (z2T l).length = 16)
 rcases Nat.eq_zero_or_pos l.length with h | h
 ·rw [if_pos (by omega)]
  have : l = [] := List.length_eq_zero_iff.1 h
  subst this
  rfl
 ·rw [if_neg (by omega), z4t h]
  exact z1q (by omega)
theorem z3G {ho : Nat} {l : List Hd} {ro : Bs} (hh : ho ≤ 2) : (z1u ho l ro).good ↔ l.length < 4 ∧ ro.length = 16 :=
 ⟨fun g => by have h3 := g.2.2.1; have h4 := g.2.2.2.1; simp only [z1u] at h3 h4; exact ⟨by omega, h4⟩, fun h => z2L hh h.1 h.2⟩
structure Cv where
 se : List (Hd × Sg)
 tr : List Nat
 ty : Nat
def cv0 : Cv := ⟨[], [], 0⟩
inductive Ck where
 | no | beg (n : Nat) | clo (h : Hd) (s : Sg)
def cHds (s : Cv) : List Hd := s.se.map fun x => x.1
def ckOf (ho : Nat) (s : Cv) : Bs → Ck
 | [] => .no
 | b :: r =>
   if b.toNat = 1 then if z40 (num1 (b :: r)).2.2 (num1 (b :: r)).2.1 (r.length + 1) = true ∧ s.ty < (num1 (b :: r)).1 ∧ (num1 (b :: r)).1 ≤ 1000 then .beg (num1 (b :: r)).1 else .no
   else if b.toNat = 2 then
    if (num1 (b :: r)).2.2 = true then .no else match z6z ((b :: r).drop (num1 (b :: r)).2.1) with
    | some (h, g) => if (num1 (b :: r)).1 = s.ty ∧ (num1 (b :: r)).1 ≠ 0 ∧ h = z1u ho (cHds s) h.ro ∧ (cHds s).length < 4 then .clo h g else .no
    | none => .no
   else .no
def ckDo (s : Cv) : Ck → Cv
 | .no => s
 | .beg n => { s with ty := n }
 | .clo h g => { s with se := s.se ++ [(h, g)], tr := s.tr ++ [s.ty] }
def z8H (ho : Nat) (s : Cv) (t : Bs) : Cv := ckDo s (ckOf ho s t)
def cvOf (ho : Nat) (ts : List Bs) : Cv := ts.foldl (z8H ho) cv0
structure CvOk (ho : Nat) (s : Cv) : Prop where
 ch : z6Z ho (cHds s)
 tl : s.tr.length = s.se.length
 sg : ∀ x ∈ s.se, x.1.good ∧ x.2.good
 ty : s.ty ≤ 1000
 tb : ∀ x ∈ s.tr, x ≤ 1000
theorem z3x (s : Cv) : (cHds s).length = s.se.length := by simp [cHds]
theorem cv0_ok (ho : Nat) : CvOk ho cv0 := ⟨zfB ho, rfl, by simp [cv0], by decide, by simp [cv0]⟩
theorem z1H {ho : Nat} {s : Cv} (h : CvOk ho s) : s.se.length ≤ 4 := by have := z3l h.ch; rwa [z3x] at this
theorem zh4 {ho : Nat} (hh : ho ≤ 2) {s : Cv} {t : Bs} (h : CvOk ho s) : CvOk ho (z8H ho s t) := by
 unfold z8H
 cases t with
 | nil => exact h
 | cons b r =>
   rw [ckOf]
   split
   ·split
    ·rename_i hc
     exact { h with ty := hc.2.2 }
    ·exact h
   ·split
    ·split
     ·exact h
     ·split
      ·rename_i hd g hr
       split
       ·rename_i hc
        obtain ⟨g1, g2, -⟩ := z3w.1 hr
        have hg : (z1u ho (cHds s) hd.ro).good := by rw [← hc.2.2.1]; exact g1
        refine ⟨?_, by simp [ckDo, h.tl], fun x hx => ?_, h.ty, fun x hx => ?_⟩
        ·have := zfC h.ch hg
         simp only [ckDo, cHds, List.map_append, List.map_cons, List.map_nil]
         rw [← hc.2.2.1] at this
         exact this
        ·simp only [ckDo, List.mem_append, List.mem_singleton] at hx
         rcases hx with hx | rfl
         ·exact h.sg x hx
         ·exact ⟨g1, g2⟩
        ·simp only [ckDo, List.mem_append, List.mem_singleton] at hx
         rcases hx with hx | rfl
         ·exact h.tb x hx
         ·exact h.ty
       ·exact h
      ·exact h
    ·exact h
theorem z9R {ho : Nat} (hh : ho ≤ 2) : ∀ (ts : List Bs) (s : Cv), CvOk ho s → CvOk ho (ts.foldl (z8H ho) s)
 | [], s, h => h
 | t :: ts, s, h => z9R hh ts _ (zh4 hh h)
theorem zaY {ho : Nat} (hh : ho ≤ 2) (ts : List Bs) : CvOk ho (cvOf ho ts) := z9R hh ts cv0 (cv0_ok ho)
theorem ziT (ho : Nat) {ts : List Bs} {k : Nat} (h : k < ts.length) : cvOf ho (ts.take (k + 1)) = z8H ho (cvOf ho (ts.take k)) ts[k] := by
 unfold cvOf
 rw [List.take_succ_eq_append_getElem h, List.foldl_append]; rfl
def slE (l : List (Hd × Sg)) : List (List T) := l.map fun x => hdE x.1 ++ sgE x.2
def hdsE (l : List Hd) : List (List T) := l.map hdE
theorem z0B (l : List (Hd × Sg)) : (slE l).length = l.length := by simp [slE]
theorem z5w (l : List Hd) : (hdsE l).length = l.length := by simp [hdsE]
theorem zaZ (l : List (Hd × Sg)) (x : Hd × Sg) : slE (l ++ [x]) = slE l ++ [hdE x.1 ++ sgE x.2] := by simp [slE]
theorem zcv (l : List Hd) (x : Hd) : hdsE (l ++ [x]) = hdsE l ++ [hdE x] := by simp [hdsE]
theorem zfD {l : List (Hd × Sg)} {k : Nat} (h : k < l.length) : (slE l)[k]? = some (hdE l[k].1 ++ sgE l[k].2) := by simp [slE, List.getElem?_eq_getElem h]
theorem z4u {l : List Hd} {k : Nat} (h : k < l.length) : (hdsE l)[k]? = some (hdE l[k]) := by simp [hdsE, List.getElem?_eq_getElem h]
def z2A (ho ep : Int) (ro pr : Bs) : List T := [.int .i64 ho, .int .i64 ep, .str ro, .str pr]
def z3z (ho ep : Int) (ro pr : Bs) : Bool := inB ho 0 2 && (inB ep 1 4 && (decide ((ro.length : Int) = 16) && (if ep = 1 then decide (pr = []) else decide ((pr.length : Int) = 16))))
theorem z8I {h : Hd} (e : z3z h.ho h.ep h.ro h.pr = true) : h.good := by
 simp only [z3z, Bool.and_eq_true, decide_eq_true_eq] at e
 obtain ⟨h1, h2, h3, h4⟩ := e
 have a := z0u.1 h1
 have b := z0u.1 h2
 refine ⟨by omega, by omega, by omega, by omega, ?_⟩
 by_cases c : h.ep = 1
 ·rw [if_pos (by omega)] at h4
  rw [if_pos c]
  exact of_decide_eq_true h4
 ·rw [if_neg (by omega)] at h4
  rw [if_neg c]
  have := of_decide_eq_true h4
  omega
theorem z9S {h : Hd} (g : h.good) : z3z h.ho h.ep h.ro h.pr = true := by
 obtain ⟨h1, h2, h3, h4, h5⟩ := g
 simp only [z3z, Bool.and_eq_true, decide_eq_true_eq]
 refine ⟨z0u.2 (by omega), z0u.2 (by omega), by omega, ?_⟩
 by_cases e : h.ep = 1
 ·rw [if_pos e] at h5
  rw [if_pos (by omega)]
  exact decide_eq_true h5
 ·rw [if_neg e] at h5
  rw [if_neg (by omega)]
  exact decide_eq_true (by omega)
def z2n (a : Int) (op sh si : List Bs) : List T := [.int .i64 a, .sl 1 (strE op), .sl 1 (strE sh), .sl 1 (strE si)]
def wideB (l : List Bs) (n : Int) : Bool := (l.all fun x => decide ((x.length : Int) = 16)) && decide ((l.length : Int) = n)
def z70 (a : Int) (op sh si : List Bs) : Bool := inB a 0 15 && (wideB op 8 && (wideB sh 8 && wideB si 4))
theorem z2M {l : List Bs} {m : Int} (n : Nat) (e : m = (n : Int)) : wideB l m = true ↔ l.length = n ∧ ∀ x ∈ l, x.length = 16 := by
 simp only [wideB, Bool.and_eq_true, List.all_eq_true, decide_eq_true_eq]
 constructor
 ·rintro ⟨h1, h2⟩
  exact ⟨by omega, fun x hx => by have := h1 x hx; omega⟩
 ·rintro ⟨h1, h2⟩
  exact ⟨fun x hx => by have := h2 x hx; omega, by omega⟩
theorem zh5 {a : Int} {op sh si : List Bs} (h : z70 a op sh si = true) : ∃ s : Sg, s.good ∧ z2n a op sh si = sgE s := by
 simp only [z70, Bool.and_eq_true] at h
 obtain ⟨h1, h2, h3, h4⟩ := h
 have b := z0u.1 h1
 refine ⟨⟨a.toNat, op, sh, si⟩, ⟨by simp only; omega, (z2M 8 rfl).1 h2, (z2M 8 rfl).1 h3, (z2M 4 rfl).1 h4⟩, ?_⟩
 have e1 : ((a.toNat : Nat) : Int) = a := by omega
 simp only [z2n, sgE, e1]
theorem z9T {s : Sg} (g : s.good) : z70 s.a s.op s.sh s.si = true := by
 obtain ⟨h1, h2, h3, h4⟩ := g
 simp only [z70, Bool.and_eq_true]
 exact ⟨z0u.2 (by omega), (z2M 8 rfl).2 h2, (z2M 8 rfl).2 h3, (z2M 4 rfl).2 h4⟩
structure Sa where
 ho : Int
 ep : Int
 ro : Bs
 pr : Bs
 a : Int
 op : List Bs
 sh : List Bs
 si : List Bs
deriving DecidableEq
def saE (x : Sa) : List T := z2A x.ho x.ep x.ro x.pr ++ z2n x.a x.op x.sh x.si
def saOf (x : Hd × Sg) : Sa := ⟨x.1.ho, x.1.ep, x.1.ro, x.1.pr, x.2.a, x.2.op, x.2.sh, x.2.si⟩
def saL (l : List Sa) : List (List T) := l.map saE
theorem zfE (l : List Sa) : (saL l).length = l.length := by simp [saL]
theorem zfF {l : List Sa} {k : Nat} (h : k < l.length) : (saL l)[k]? = some (saE l[k]) := by simp [saL, List.getElem?_eq_getElem h]
theorem ziU (l : List (Hd × Sg)) : slE l = saL (l.map saOf) := by
 simp only [slE, saL, List.map_map]
 rfl
def zdv (x : Sa) : Prop := x.op.length ≤ 1048576 ∧ x.sh.length ≤ 1048576 ∧ x.si.length ≤ 1048576
end Go.Proofs.YtkjjacndfieeoaaGreatDoor
