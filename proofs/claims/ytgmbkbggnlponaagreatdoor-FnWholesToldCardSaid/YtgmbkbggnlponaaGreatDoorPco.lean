/- Plain: heads, signatures and seals read back; what a coordinator makes of its records. -/
import Derived.Test.YtgmbkbggnlponaaGreatDoorPs
import Derived.Test.YtgmbkbggnlponaaGreatDoorCap
namespace Go.Proofs.YtgmbkbggnlponaaGreatDoor
set_option linter.unusedVariables false
set_option linter.unusedSimpArgs false
set_option linter.unusedSectionVars false
open Go.RowKit Pl
instance hdGoodDec (h : Hd) : Decidable h.good := by unfold Hd.good; exact inferInstance
def hdOf (t : Bs) : Hd := ⟨(t.getD 0 0).toNat, (t.getD 1 0).toNat, (t.drop 2).take 16, t.drop 18⟩
def z3f (t : Bs) : Option Hd := if 18 ≤ t.length ∧ (hdOf t).good then some (hdOf t) else none
theorem zgz {t : Bs} (h : 18 ≤ t.length) : z0P (hdOf t) = t := by
 match t, h with
 | a :: b :: r, h =>
   simp only [z0P, hdOf, List.getD_cons_zero, List.getD_cons_succ, UInt8.ofNat_toNat, List.drop_succ_cons, List.drop_zero]
   show a :: b :: (r.take 16 ++ r.drop 16) = _
   rw [List.take_append_drop]
theorem zak {h : Hd} (g : h.good) : hdOf (z0P h) = h := by
 obtain ⟨ho, ep, ro, pr⟩ := h
 obtain ⟨h1, h2, h3, h4, h5⟩ := g
 simp only at h1 h2 h3 h4 h5
 have a : (UInt8.ofNat ho).toNat = ho := by simp [UInt8.toNat_ofNat']; omega
 have b : (UInt8.ofNat ep).toNat = ep := by simp [UInt8.toNat_ofNat']; omega
 have e : z0P ⟨ho, ep, ro, pr⟩ = UInt8.ofNat ho :: UInt8.ofNat ep :: (ro ++ pr) := by simp [z0P]
 rw [e, hdOf]
 simp only [List.getD_cons_zero, List.getD_cons_succ, a, b, List.drop_succ_cons, List.drop_zero]
 rw [show 16 = ro.length from h4.symm, List.take_left, List.drop_left]
theorem zgA {h : Hd} (g : h.good) : 18 ≤ (z0P h).length := by
 obtain ⟨_, _, _, h4, _⟩ := g
 simp only [z0P, List.length_append, List.length_cons, List.length_nil, h4]
 omega
theorem z2M {t : Bs} {h : Hd} : z3f t = some h ↔ h.good ∧ t = z0P h := by
 unfold z3f
 constructor
 ·intro e
  split at e
  ·rename_i c
   injection e with e
   subst e
   exact ⟨c.2, (zgz c.1).symm⟩
  ·cases e
 ·rintro ⟨g, rfl⟩
  rw [if_pos ⟨zgA g, by rw [zak g]; exact g⟩, zak g]
def cutR (t : Bs) : Nat → Nat → List Bs
 | _, 0 => []
 | p, n + 1 => (t.drop p).take 16 :: cutR t (p + 16) n
theorem z52 (t : Bs) : ∀ n p, (cutR t p n).length = n
 | 0, _ => rfl
 | n + 1, p => by simp [cutR, z52 t n]
theorem zal (t : Bs) : ∀ n p, cutR t p (n + 1) = cutR t p n ++ [(t.drop (p + 16 * n)).take 16]
 | 0, p => rfl
 | n + 1, p => by
   rw [cutR, zal t n (p + 16), cutR]
   simp only [List.cons_append]
   rw [show p + 16 + 16 * n = p + 16 * (n + 1) by omega]
theorem z53 {t : Bs} : ∀ {l : List Bs} {p : Nat} {r : Bs}, (∀ x ∈ l, x.length = 16) → t.drop p = l.flatten ++ r → cutR t p l.length = l
 | [], p, r, _, _ => rfl
 | x :: l, p, r, hx, h => by
   have h0 := hx x (by simp)
   rw [List.flatten_cons, List.append_assoc] at h
   have h1 : (t.drop p).take 16 = x := by rw [h, ← h0, List.take_left]
   have h2 : t.drop (p + 16) = l.flatten ++ r := by rw [← List.drop_drop, h, ← h0, List.drop_left]
   rw [List.length_cons, cutR, h1, z53 (fun y hy => hx y (by simp [hy])) h2]
theorem zam (t : Bs) : ∀ n p, (cutR t p n).flatten = (t.drop p).take (16 * n)
 | 0, p => by simp [cutR]
 | n + 1, p => by
   rw [cutR, List.flatten_cons, zam t n (p + 16), ← List.drop_drop, show 16 * (n + 1) = 16 + 16 * n by omega, List.take_add]
theorem z54 {t : Bs} : ∀ n p, p + 16 * n ≤ t.length → ∀ x ∈ cutR t p n, x.length = 16
 | 0, p, _, x, hx => by simp [cutR] at hx
 | n + 1, p, h, x, hx => by
   rw [cutR, List.mem_cons] at hx
   rcases hx with rfl | hx
   ·simp; omega
   ·exact z54 n (p + 16) (by omega) x hx
def sgOf (t : Bs) : Sg := ⟨(t.getD 0 0).toNat, cutR t 1 8, cutR t 129 8, cutR t 257 4⟩
def z4u (t : Bs) : Option Sg := if t.length = 321 ∧ (t.getD 0 0).toNat < 16 then some (sgOf t) else none
theorem z55 {t : Bs} {s : Sg} : z4u t = some s ↔ s.good ∧ t = sigB s := by
 unfold z4u
 constructor
 ·intro e
  split at e
  ·rename_i c
   injection e with e
   subst e
   refine ⟨⟨c.2, ⟨z52 _ _ _, z54 _ _ (by omega)⟩, ⟨z52 _ _ _, z54 _ _ (by omega)⟩, z52 _ _ _, z54 _ _ (by omega)⟩, ?_⟩
   rw [sigB, sgOf]
   simp only [zam]
   match t, c with
   | x :: r, c =>
     have hl : r.length = 320 := by have := c.1; simp at this; omega
     simp only [List.getD_cons_zero, UInt8.ofNat_toNat, List.drop_succ_cons, List.drop_zero, List.cons_append, List.nil_append]
     congr 1
     have e1 : r = r.take 128 ++ r.drop 128 := (List.take_append_drop _ _).symm
     have e2 : r.drop 128 = (r.drop 128).take 128 ++ r.drop 256 := by rw [← List.drop_drop (i := 128) (j := 128), List.take_append_drop]
     have e3 : (r.drop 256).take (16 * 4) = r.drop 256 := List.take_of_length_le (by simp; omega)
     rw [e3]
     conv => lhs; rw [e1, e2]
     rw [List.append_assoc]
  ·cases e
 ·rintro ⟨g, rfl⟩
  have hl := z1Y g
  obtain ⟨a, op, sh, si⟩ := s
  obtain ⟨h1, ⟨h2, h3⟩, ⟨h4, h5⟩, h6, h7⟩ := g
  simp only at h1 h2 h3 h4 h5 h6 h7
  have l2 := z1Q h3
  have l4 := z1Q h5
  have l6 := z1Q h7
  rw [h2] at l2
  rw [h4] at l4
  rw [h6] at l6
  have e0 : sigB ⟨a, op, sh, si⟩ = UInt8.ofNat a :: (op.flatten ++ (sh.flatten ++ (si.flatten ++ []))) := by simp [sigB]
  have ha : (UInt8.ofNat a).toNat = a := by simp [UInt8.toNat_ofNat']; omega
  have d1 : (sigB ⟨a, op, sh, si⟩).drop 1 = op.flatten ++ (sh.flatten ++ (si.flatten ++ [])) := by rw [e0]; rfl
  have d2 : (sigB ⟨a, op, sh, si⟩).drop 129 = sh.flatten ++ (si.flatten ++ []) := by
   rw [show 129 = 1 + 128 from rfl, ← List.drop_drop, d1, show 128 = op.flatten.length by omega, List.drop_left]
  have d3 : (sigB ⟨a, op, sh, si⟩).drop 257 = si.flatten ++ [] := by
   rw [show 257 = 129 + 128 from rfl, ← List.drop_drop, d2, show 128 = sh.flatten.length by omega, List.drop_left]
  have c1 := z53 h3 d1
  have c2 := z53 h5 d2
  have c3 := z53 h7 d3
  rw [h2] at c1
  rw [h4] at c2
  rw [h6] at c3
  have hg : ((sigB ⟨a, op, sh, si⟩).getD 0 0).toNat = a := by rw [e0]; exact ha
  rw [if_pos ⟨hl, by rw [hg]; exact h1⟩, sgOf, hg, c1, c2, c3]
def z1i (t : Bs) : Option (Hd × Sg) := match z0E t 0 false with
 | (_, _, true) => none
 | (hb, q, false) => match z3f hb, z4u (t.drop q) with
   | some h, some s => some (h, s)
   | _, _ => none
theorem z3g {h : Hd} {s : Sg} (gs : s.good) : (z12 h s).length = (z0e (z0P h)).length + 321 := by rw [z12, List.length_append, z1Y gs]
theorem z3h {t : Bs} {h : Hd} {s : Sg} : z1i t = some (h, s) ↔ h.good ∧ s.good ∧ t = z12 h s := by
 unfold z1i
 constructor
 ·intro e
  split at e
  ·cases e
  ·rename_i hb q hs
   split at e
   ·rename_i h' s' e1 e2
    injection e with e
    injection e with ea eb
    subst ea eb
    obtain ⟨g1, rfl⟩ := z2M.1 e1
    obtain ⟨g2, r2⟩ := z55.1 e2
    obtain ⟨-, -, r3, -⟩ := z2l hs
    refine ⟨g1, g2, ?_⟩
    rw [List.drop_zero] at r3
    rw [z12, r3, r2]
   ·cases e
 ·rintro ⟨g1, g2, rfl⟩
  have hl := z0N g1
  have e0 : (z12 h s).drop 0 = z0e (z0P h) ++ sigB s := by simp [z12]
  have hs := z1n (l := z0P h) (by omega) e0 false
  rw [hs]
  have hd : (z12 h s).drop (0 + (z0e (z0P h)).length) = sigB s := by rw [Nat.zero_add, z12, List.drop_left]
  simp only [hd, z2M.2 ⟨g1, rfl⟩, z55.2 ⟨g2, rfl⟩]
theorem zfo {t : Bs} (h : z1i t = none) {hx : Hd} {s : Sg} (g : hx.good) (gs : s.good) : t ≠ z12 hx s := fun e => by
 rw [z3h.2 ⟨g, gs, e⟩] at h; cases h
def prevH (l : List Hd) : Bs := match l[l.length - 1]? with
 | none => []
 | some h => z1k h
def nextH (ho : Nat) (l : List Hd) (ro : Bs) : Hd := ⟨ho, l.length + 1, ro, prevH l⟩
def Chain (ho : Nat) (l : List Hd) : Prop := ∀ i (h : i < l.length), l[i].good ∧ l[i] = nextH ho (l.take i) l[i].ro
structure Cv where
 se : List (Hd × Sg)
 tr : List Nat
 ty : Nat
inductive Ck where
 | no | beg (n : Nat) | clo (h : Hd) (s : Sg)
def cHds (s : Cv) : List Hd := s.se.map fun x => x.1
structure CvOk (ho : Nat) (s : Cv) : Prop where
 ch : Chain ho (cHds s)
 tl : s.tr.length = s.se.length
 sg : ∀ x ∈ s.se, x.1.good ∧ x.2.good
 ty : s.ty ≤ 1000
 tb : ∀ x ∈ s.tr, x ≤ 1000
def z2I (ho ep : Int) (ro pr : Bs) : List T := [.int .i64 ho, .int .i64 ep, .str ro, .str pr]
def z2C (ho ep : Int) (ro pr : Bs) : Bool := inB ho 0 2 && (inB ep 1 4 && (decide ((ro.length : Int) = 16) && (if ep = 1 then decide (pr = []) else decide ((pr.length : Int) = 16))))
theorem z62 {h : Hd} (e : z2C h.ho h.ep h.ro h.pr = true) : h.good := by
 simp only [z2C, Bool.and_eq_true, decide_eq_true_eq] at e
 obtain ⟨h1, h2, h3, h4⟩ := e
 have a := z0r.1 h1
 have b := z0r.1 h2
 refine ⟨by omega, by omega, by omega, by omega, ?_⟩
 by_cases c : h.ep = 1
 ·rw [if_pos (by omega)] at h4
  rw [if_pos c]
  exact of_decide_eq_true h4
 ·rw [if_neg (by omega)] at h4
  rw [if_neg c]
  have := of_decide_eq_true h4
  omega
theorem zgB {ho ep : Int} {ro pr : Bs} (h : z2C ho ep ro pr = true) : ∃ x : Hd, x.good ∧ x.ho = ho.toNat ∧ z2I ho ep ro pr = hdE x := by
 have h0 := h
 simp only [z2C, Bool.and_eq_true] at h0
 have a := z0r.1 h0.1
 have b := z0r.1 h0.2.1
 obtain ⟨ho, rfl⟩ : ∃ n : Nat, ho = n := ⟨ho.toNat, by omega⟩
 obtain ⟨ep, rfl⟩ : ∃ n : Nat, ep = n := ⟨ep.toNat, by omega⟩
 exact ⟨⟨ho, ep, ro, pr⟩, z62 h, by simp, rfl⟩
theorem zan {h : Hd} (g : h.good) : z2C h.ho h.ep h.ro h.pr = true := by
 obtain ⟨h1, h2, h3, h4, h5⟩ := g
 simp only [z2C, Bool.and_eq_true, decide_eq_true_eq]
 refine ⟨z0r.2 (by omega), z0r.2 (by omega), by omega, ?_⟩
 by_cases e : h.ep = 1
 ·rw [if_pos e] at h5
  rw [if_pos (by omega)]
  exact decide_eq_true h5
 ·rw [if_neg e] at h5
  rw [if_neg (by omega)]
  exact decide_eq_true (by omega)
def z23 (a : Int) (op sh si : List Bs) : List T := [.int .i64 a, .sl 1 (strE op), .sl 1 (strE sh), .sl 1 (strE si)]
def wideB (l : List Bs) (n : Int) : Bool := (l.all fun x => decide ((x.length : Int) = 16)) && decide ((l.length : Int) = n)
def z2D (a : Int) (op sh si : List Bs) : Bool := inB a 0 15 && (wideB op 8 && (wideB sh 8 && wideB si 4))
theorem z2f {l : List Bs} {m : Int} (n : Nat) (e : m = (n : Int)) : wideB l m = true ↔ l.length = n ∧ ∀ x ∈ l, x.length = 16 := by
 simp only [wideB, Bool.and_eq_true, List.all_eq_true, decide_eq_true_eq]
 constructor
 ·rintro ⟨h1, h2⟩
  exact ⟨by omega, fun x hx => by have := h1 x hx; omega⟩
 ·rintro ⟨h1, h2⟩
  exact ⟨fun x hx => by have := h2 x hx; omega, by omega⟩
theorem zcI {a : Int} {op sh si : List Bs} (h : z2D a op sh si = true) : ∃ s : Sg, s.good ∧ z23 a op sh si = sgE s := by
 simp only [z2D, Bool.and_eq_true] at h
 obtain ⟨h1, h2, h3, h4⟩ := h
 have b := z0r.1 h1
 refine ⟨⟨a.toNat, op, sh, si⟩, ⟨by simp only; omega, (z2f 8 rfl).1 h2, (z2f 8 rfl).1 h3, (z2f 4 rfl).1 h4⟩, ?_⟩
 have e1 : ((a.toNat : Nat) : Int) = a := by omega
 simp only [z23, sgE, e1]
theorem zao {s : Sg} (g : s.good) : z2D s.a s.op s.sh s.si = true := by
 obtain ⟨h1, h2, h3, h4⟩ := g
 simp only [z2D, Bool.and_eq_true]
 exact ⟨z0r.2 (by omega), (z2f 8 rfl).2 h2, (z2f 8 rfl).2 h3, (z2f 4 rfl).2 h4⟩
structure Sa where
 ho : Int
 ep : Int
 ro : Bs
 pr : Bs
 a : Int
 op : List Bs
 sh : List Bs
 si : List Bs
deriving DecidableEq
def saE (x : Sa) : List T := z2I x.ho x.ep x.ro x.pr ++ z23 x.a x.op x.sh x.si
def saFit (x : Sa) : Prop := x.op.length ≤ 1048576 ∧ x.sh.length ≤ 1048576 ∧ x.si.length ≤ 1048576
def saOk (x : Sa) : Bool := z2C x.ho x.ep x.ro x.pr && z2D x.a x.op x.sh x.si
end Go.Proofs.YtgmbkbggnlponaaGreatDoor
