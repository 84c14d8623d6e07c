/- Plain: files of logs, and what a shard writes down. -/
import Derived.Test.YtfjbinbpgdiafaaGreatDoorCap
namespace Go.Proofs.YtfjbinbpgdiafaaGreatDoor
set_option linter.unusedVariables false
set_option linter.unusedSimpArgs false
set_option linter.unusedSectionVars false
open Pl
def shardN : Bs := [115, 104, 97, 114, 100]
def logB (ts : List Bs) : Bs := ts.flatMap z1j
theorem zbk (a b : List Bs) : logB (a ++ b) = logB a ++ logB b := by simp [logB]
theorem zbl (t : Bs) : logB [t] = z1j t := by simp [logB]
theorem z3n {t : Bs} (h : t.length ≤ 9000) : t.length + 5 ≤ (z1j t).length ∧ (z1j t).length ≤ t.length + 9 := by
 have h1 := z5k t.length
 have h2 := z0N (n := t.length) (by omega)
 rw [z1j, List.length_append, List.length_append, z39]
 omega
theorem zbm {m : Nat} : ∀ {ts : List Bs}, (∀ t ∈ ts, t.length ≤ m) → m ≤ 9000 → (logB ts).length ≤ ts.length * (m + 9)
 | [], _, _ => by simp [logB]
 | t :: ts, h, hm => by
   have ih := zbm (ts := ts) (fun x hx => h x (List.mem_cons_of_mem _ hx)) hm
   have h1 := h t List.mem_cons_self
   have h2 := (z3n (t := t) (by omega)).2
   show (z1j t ++ logB ts).length ≤ (ts.length + 1) * (m + 9)
   rw [List.length_append, Nat.succ_mul]
   omega
theorem zbn : ∀ {ts : List Bs}, (∀ t ∈ ts, 1 ≤ t.length ∧ t.length ≤ 9000) → ts.length ≤ (logB ts).length
 | [], _ => Nat.le_refl _
 | t :: ts, h => by
   have ih := zbn (ts := ts) (fun x hx => h x (List.mem_cons_of_mem _ hx))
   have h1 := (z3n (h t List.mem_cons_self).2).1
   show ts.length + 1 ≤ (z1j t ++ logB ts).length
   rw [List.length_append]
   omega
theorem zdT (f : Bs) : ∀ (ts : List Bs) (k p : Nat), (∀ t ∈ ts, 1 ≤ t.length ∧ t.length ≤ 9000) → f.drop p = logB ts → ts.length < k → (unf f k p).1 = ts
 | [], 0, p, _, _, hk => by simp at hk
 | [], k + 1, p, _, hd, hk => by
   have e : z0u f p = none := by
    rw [z0u, hd]
    rfl
   rw [unf, e]
 | t :: ts, 0, p, _, _, hk => by simp at hk
 | t :: ts, k + 1, p, h, hd, hk => by
   obtain ⟨h1, h2⟩ := h t List.mem_cons_self
   have hd2 : f.drop p = z03 t.length ++ (z28 (z2h t) ++ (t ++ logB ts)) := by
    rw [hd]
    show z1j t ++ logB ts = _
    rw [z1j]
    simp only [List.append_assoc]
   have hr := z3R (t := f) (p := p) (n := t.length) (by omega) hd2
   have hq : f.drop (p + (z03 t.length).length) = z28 (z2h t) ++ (t ++ logB ts) := by
    rw [← List.drop_drop, hd2, List.drop_left]
   have hq4 : f.drop (p + (z03 t.length).length + 4) = t ++ logB ts := by
    rw [← List.drop_drop, hq]
    exact List.drop_left' (z39 _)
   have ht : (f.drop (p + (z03 t.length).length + 4)).take t.length = t := by rw [hq4, List.take_left]
   have hl : t.length + 4 ≤ f.length - (p + (z03 t.length).length) := by
    have := congrArg List.length hq
    rw [List.length_drop, List.length_append, List.length_append, z39] at this
    omega
   have hf : (f.drop (p + (z03 t.length).length)).take 4 = z28 (z2h ((f.drop (p + (z03 t.length).length + 4)).take t.length)) := by
    rw [ht, hq]
    exact List.take_left' (z39 _)
   rw [unf, hr]
   simp only
   rw [if_pos ⟨h1, h2, hl, hf⟩, ht]
   have hn : f.drop (p + (z03 t.length).length + 4 + t.length) = logB ts := by rw [← List.drop_drop, hq4, List.drop_left]
   rw [zdT f ts k _ (fun x hx => h x (List.mem_cons_of_mem _ hx)) hn (by simp at hk; omega)]
def dkOf (n : Bs) (ts : List Bs) : List Fl := if ts = [] then [] else [(n, logB ts, ((logB ts).length : Int))]
theorem zg1 (n : Bs) : dkOf n [] = [] := rfl
theorem z3g {n : Bs} {ts : List Bs} (h : ts ≠ []) : dkOf n ts = [(n, logB ts, ((logB ts).length : Int))] := if_neg h
theorem dk_add (n : Bs) (ts : List Bs) (t : Bs) : dkOf n (ts ++ [t]) = [(n, logB (ts ++ [t]), ((logB (ts ++ [t])).length : Int))] := z3g (by simp)
def Rec (m : Nat) (ts : List Bs) : Prop := ts.length ≤ m ∧ ∀ t ∈ ts, 1 ≤ t.length ∧ t.length ≤ 200
theorem Rec.len {m : Nat} {ts : List Bs} (h : Rec m ts) : (logB ts).length ≤ m * 209 := by
 have h1 := zbm (m := 200) (ts := ts) (fun t ht => (h.2 t ht).2) (by decide)
 have h2 := Nat.mul_le_mul_right 209 h.1
 omega
theorem Rec.add {m : Nat} {ts : List Bs} (h : Rec m ts) {t : Bs} (ht : 1 ≤ t.length ∧ t.length ≤ 200) : Rec (m + 1) (ts ++ [t]) := by
 refine ⟨by simp; exact h.1, fun x hx => ?_⟩
 rcases List.mem_append.1 hx with hx | hx
 ·exact h.2 x hx
 ·rw [List.mem_singleton.1 hx]; exact ht
theorem Rec.up {m n : Nat} {ts : List Bs} (h : Rec m ts) (hn : m ≤ n) : Rec n ts := ⟨Nat.le_trans h.1 hn, h.2⟩
theorem zfd {n : Bs} {ts : List Bs} (hn : 1 ≤ n.length ∧ n.length ≤ 8) (h : Rec 90 ts) : z1t (dkOf n ts) = true := by
 have hl := h.len
 by_cases e : ts = []
 ·subst e; rfl
 ·rw [z3g e]
  refine z1S (by simp) fun k hk => ?_
  obtain rfl : k = 0 := by simp at hk; exact hk
  have e1 : flAt [(n, logB ts, ((logB ts).length : Int))] 0 = (n, logB ts, ((logB ts).length : Int)) := rfl
  rw [z23, e1]
  simp only [Bool.and_eq_true, decide_eq_true_eq, inB, beq_self_eq_true, Bool.true_or, and_true]
  omega
theorem zdU {n : Bs} {ts : List Bs} (hn : 1 ≤ n.length ∧ n.length ≤ 8) (h : Rec 90 ts) : z10 (dkOf n ts) n = ts := by
 have hl := h.len
 rw [z10, if_pos (zfd hn h)]
 have h9 : ∀ t ∈ ts, 1 ≤ t.length ∧ t.length ≤ 9000 := fun t ht => ⟨(h.2 t ht).1, by have := (h.2 t ht).2; omega⟩
 by_cases e : ts = []
 ·subst e; rfl
 ·have hg : z1H (dkOf n ts) n = some (logB ts) := by
   have hi : z1M (dkOf n ts) n = some 0 := by
    rw [z3g e]
    exact z7K (by simp) (fun j hj => by omega) rfl
   rw [z1H, hi, z3g e]
   rfl
  rw [hg, Option.getD_some, z0Q, if_neg (by omega)]
  exact zdT _ ts _ 0 h9 (by simp) (by have := zbn h9; omega)
theorem zgV {a K : Int} {s : Sv} {id : Nat} {n v : Bs} (h : z0g (id : Int) n v = true) (hs : (z18 n K : Int) = a) (hi : idIx s.al (id : Int) = none) : rkOf a K s (1 :: z0t (id : Int) n v) = .all ((id : Int), n, v) := by
 rw [rkOf, if_pos (by decide), zfb h]
 simp only
 rw [if_pos ⟨hs, hi⟩]
theorem z7M {k : UInt8} {x : Nat} {r : Bs} (hx : x ≤ 1000000000) : num1 (k :: (z03 x ++ r)) = (x, 1 + (z03 x).length, false) := z4f (r := r) hx (by simp) _
theorem z9X {k : UInt8} {x y : Nat} {r : Bs} (hx : x ≤ 1000000000) (hy : y ≤ 1000000000) : num2 (k :: (z03 x ++ (z03 y ++ r))) = (y, 1 + (z03 x).length + (z03 y).length, false) := by
 rw [num2, z7M hx]
 refine z4f (r := r) hy ?_ _
 show (k :: (z03 x ++ (z03 y ++ r))).drop (1 + (z03 x).length) = _
 rw [Nat.add_comm, List.drop_succ_cons, List.drop_left]
theorem zgW {k : UInt8} {x y z : Nat} {r : Bs} (hx : x ≤ 1000000000) (hy : y ≤ 1000000000) (hz : z ≤ 1000000000) : num3 (k :: (z03 x ++ (z03 y ++ (z03 z ++ r)))) = (z, 1 + (z03 x).length + (z03 y).length + (z03 z).length, false) := by
 rw [num3, z9X hx hy]
 refine z4f (r := r) hz ?_ _
 show (k :: (z03 x ++ (z03 y ++ (z03 z ++ r)))).drop (1 + (z03 x).length + (z03 y).length) = _
 rw [show 1 + (z03 x).length + (z03 y).length = ((z03 x).length + (z03 y).length) + 1 by omega, List.drop_succ_cons, ← List.drop_drop, List.drop_left, List.drop_left]
theorem z7N {p n : Nat} (h : p = n) : z2d false p n = true := by simp [z2d, h]
theorem zgX {a K : Int} {s : Sv} {e t k : Nat} (he : e = s.ep + 1) (h4 : e ≤ 4) (ht : s.rt < t ∧ t ≤ 1000) (hk : z3f s.tk ≤ k ∧ k ≤ s.al.length ∧ k ≤ 1000000000) : rkOf a K s (2 :: (z03 e ++ z03 t ++ z03 k)) = .rdy e t k := by
 have e1 : z03 e ++ z03 t ++ z03 k = z03 e ++ (z03 t ++ (z03 k ++ [])) := by simp
 rw [e1, rkOf, if_neg (by decide), if_pos (by decide), z7M (by omega), z9X (by omega) (by omega), zgW (by omega) (by omega) (by omega)]
 rw [if_pos ⟨z7N (by simp only [List.length_append, List.length_nil]; omega), he, h4, ht.1, ht.2, hk.1, hk.2.1⟩]
theorem rk_com {a K : Int} {s : Sv} {e : Nat} (he : e = s.re) (h0 : e ≠ 0) (h4 : e ≤ 1000) : rkOf a K s (3 :: z03 e) = .com := by
 have e1 : z03 e = z03 e ++ [] := by simp
 rw [e1, rkOf, if_neg (by decide), if_neg (by decide), if_pos (by decide), z7M (by omega)]
 rw [if_pos ⟨z7N (by simp only [List.length_append, List.length_nil]; omega), he, h0⟩]
theorem rk_abo {a K : Int} {s : Sv} {e t : Nat} (he : e = s.re) (ht : t = s.rt) (h0 : e ≠ 0) (h4 : e ≤ 1000 ∧ t ≤ 1000) : rkOf a K s (4 :: (z03 e ++ z03 t)) = .rdy 0 0 0 := by
 have e1 : z03 e ++ z03 t = z03 e ++ (z03 t ++ []) := by simp
 rw [e1, rkOf, if_neg (by decide), if_neg (by decide), if_neg (by decide), if_pos (by decide), z7M (by omega), z9X (by omega) (by omega)]
 rw [if_pos ⟨z7N (by simp only [List.length_append, List.length_nil]; omega), he, ht, h0⟩]
structure LogOk (a K : Int) (m : Nat) (ts : List Bs) (s : Sv) : Prop where
 rc : Rec m ts
 sv : s = svOf a K ts
theorem LogOk.ok {a K : Int} {m : Nat} {ts : List Bs} {s : Sv} (h : LogOk a K m ts s) : SvOk m s := by
 have h1 := z9W a K ts
 rw [← h.sv] at h1
 exact { h1 with al := Nat.le_trans h1.al h.rc.1 }
theorem LogOk.up {a K : Int} {m n : Nat} {ts : List Bs} {s : Sv} (h : LogOk a K m ts s) (hn : m ≤ n) : LogOk a K n ts s := ⟨h.rc.up hn, h.sv⟩
theorem LogOk.add {a K : Int} {m : Nat} {ts : List Bs} {s : Sv} (h : LogOk a K m ts s) {t : Bs} (ht : 1 ≤ t.length ∧ t.length ≤ 200) {k : Rk} (hk : rkOf a K s t = k) : LogOk a K (m + 1) (ts ++ [t]) (rkDo s k) := by
 refine ⟨h.rc.add ht, ?_⟩
 subst hk
 rw [svOf, List.foldl_append, ← svOf, ← h.sv]
 rfl
theorem zbo {n : Nat} {s : Sv} (h : SvOk n s) : z3f s.tk ≤ s.al.length := by
 unfold z3f
 rw [List.getLastD_eq_getLast?]
 cases hl : s.tk.getLast? with
 | none => simp
 | some x => exact h.tb x (List.mem_of_getLast? hl)
theorem zbp {id : Nat} {n v : Bs} (h : z0g (id : Int) n v = true) : 1 ≤ (1 :: z0t (id : Int) n v).length ∧ (1 :: z0t (id : Int) n v).length ≤ 200 := by
 simp only [z0g, Bool.and_eq_true, decide_eq_true_eq, Bool.or_eq_true] at h
 have h1 := z0D h.1.2
 have h2 : v.length ≤ 12 := by
  rcases h.2 with h3 | h3
  ·rw [List.isEmpty_iff.1 h3]; simp
  ·exact z11 h3
 have h3 := z0N (n := ((id : Int)).toNat) (by omega)
 have h4 := z26 (l := n) (by omega)
 have h5 := z26 (l := v) (by omega)
 rw [z0t]
 simp only [List.length_cons, List.length_append]
 omega
theorem z3o {k : UInt8} {x y z : Nat} (h : x ≤ 1000000 ∧ y ≤ 1000000 ∧ z ≤ 1000000) : (1 ≤ (k :: (z03 x ++ z03 y ++ z03 z)).length ∧ (k :: (z03 x ++ z03 y ++ z03 z)).length ≤ 200) ∧
 (1 ≤ (k :: (z03 x ++ z03 y)).length ∧ (k :: (z03 x ++ z03 y)).length ≤ 200) ∧ (1 ≤ (k :: z03 x).length ∧ (k :: z03 x).length ≤ 200) := by
 have h1 := z0N (n := x) (by omega)
 have h2 := z0N (n := y) (by omega)
 have h3 := z0N (n := z) (by omega)
 simp only [List.length_cons, List.length_append]
 omega
def upB (n : Bs) (x : Fl) : Bool := !(Op.bytesLess x.1 n || decide (x.1 = n))
def loB (n : Bs) (x : Fl) : Bool := Op.bytesLess x.1 n
def putF (l : List Fl) (f : Fl) : List Fl := l.filter (loB f.1) ++ [f] ++ l.filter (upB f.1)
def addF (l : List Fl) (n t : Bs) : List Fl := putF l (match z1M l n with | some k => ((flAt l k).1, (flAt l k).2.1 ++ t, (flAt l k).2.2) | none => (n, t, 0))
def zce (l : List Fl) (k : Nat) : List Fl := putF l ((flAt l k).1, (flAt l k).2.1, ((flAt l k).2.1.length : Int))
theorem z66 (p : Fl → Bool) {l : List Fl} {i : Nat} (h : i < l.length) : (l.take (i + 1)).filter p = (l.take i).filter p ++ (if p (flAt l i) = true then [flAt l i] else []) := by
 rw [List.take_succ_eq_append_getElem h, List.filter_append, ← zdP h]
 congr 1
 simp [List.filter_cons]
def z6A (n : Bs) (ts : List Bs) (t : Bs) : List Fl := [(n, logB (ts ++ [t]), ((logB ts).length : Int))]
theorem zdV (n : Bs) : Op.bytesLess n n = false := by
 induction n with
 | nil => rfl
 | cons a n ih => simp [Op.bytesLess, ih]
theorem zdW (n : Bs) (a b : Bs) (x y : Int) : putF [(n, a, x)] (n, b, y) = [(n, b, y)] := by
 simp [putF, loB, upB, zdV]
theorem zg2 (n : Bs) (a : Bs) (x : Int) : z1M [(n, a, x)] n = some 0 := z7K (by simp) (fun j hj => by omega) rfl
theorem zdX (n : Bs) (ts : List Bs) (t : Bs) : addF (dkOf n ts) n (z1j t) = z6A n ts t := by
 by_cases e : ts = []
 ·subst e
  rw [z6A, List.nil_append, zbl]
  rfl
 ·rw [z3g e, addF, zg2]
  show putF [(n, logB ts, _)] (n, logB ts ++ z1j t, _) = _
  rw [zdW, z6A, zbk, zbl]
  rfl
theorem dk_ix (n : Bs) (ts : List Bs) (t : Bs) : z1M (z6A n ts t) n = some 0 := zg2 n _ _
theorem z9Y (n : Bs) (ts : List Bs) (t : Bs) : zce (z6A n ts t) 0 = dkOf n (ts ++ [t]) := by
 rw [dk_add]
 show putF [(n, _, _)] (n, _, _) = _
 rw [zdW]
 rfl
theorem zbq {n : Bs} {ts : List Bs} {t : Bs} (hn : 1 ≤ n.length ∧ n.length ≤ 8) (h : Rec 90 (ts ++ [t])) : z1t (z6A n ts t) = true := by
 have hl := h.len
 have hl2 : (logB ts).length ≤ (logB (ts ++ [t])).length := by rw [zbk, List.length_append]; omega
 rw [z6A]
 refine z1S (by simp) fun k hk => ?_
 obtain rfl : k = 0 := by simp at hk; exact hk
 have e1 : flAt [(n, logB (ts ++ [t]), ((logB ts).length : Int))] 0 = (n, logB (ts ++ [t]), ((logB ts).length : Int)) := rfl
 rw [z23, e1]
 simp only [Bool.and_eq_true, decide_eq_true_eq, inB, beq_self_eq_true, Bool.true_or, and_true]
 omega
def FlB (l : List Fl) : Prop := l.length ≤ 1000 ∧ ∀ k, (flAt l k).1.length ≤ 30000 ∧ (flAt l k).2.1.length ≤ 30000
theorem zg3 (l : List Fl) (k : Nat) (h : l.length ≤ k) : flAt l k = ([], [], 0) := by simp [flAt, List.getD, List.getElem?_eq_none h]
theorem z9Z {n a : Bs} {x : Int} (hn : n.length ≤ 30000) (ha : a.length ≤ 30000) : FlB [(n, a, x)] := by
 refine ⟨by simp, fun k => ?_⟩
 by_cases hk : k = 0
 ·subst hk; exact ⟨hn, ha⟩
 ·rw [zg3 _ _ (by simp; omega)]; simp
theorem z67 {n : Bs} {ts : List Bs} (hn : n.length ≤ 8) (h : Rec 90 ts) : FlB (dkOf n ts) := by
 have hl := h.len
 by_cases e : ts = []
 ·subst e; exact ⟨by simp [zg1], fun k => by rw [zg1, zg3 _ _ (by simp)]; simp⟩
 ·rw [z3g e]; exact z9Z (by omega) (by omega)
theorem zdY {n : Bs} {ts : List Bs} {t : Bs} (hn : n.length ≤ 8) (h : Rec 90 (ts ++ [t])) : FlB (z6A n ts t) := by
 have hl := h.len
 exact z9Z (by omega) (by omega)
end Go.Proofs.YtfjbinbpgdiafaaGreatDoor
