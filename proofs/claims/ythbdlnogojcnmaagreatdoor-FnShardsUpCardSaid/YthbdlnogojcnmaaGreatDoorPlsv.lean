/- Plain: files of logs, and what a shard writes down. -/
import Derived.Test.YthbdlnogojcnmaaGreatDoorCap
namespace Go.Proofs.YthbdlnogojcnmaaGreatDoor
set_option linter.unusedVariables false
set_option linter.unusedSimpArgs false
set_option linter.unusedSectionVars false
open Pl
def shardN : Bs := [115, 104, 97, 114, 100]
def logB (ts : List Bs) : Bs := ts.flatMap z0N
theorem z7M (a b : List Bs) : logB (a ++ b) = logB a ++ logB b := by simp [logB]
theorem z5f (t : Bs) : logB [t] = z0N t := by simp [logB]
theorem z3r {t : Bs} (h : t.length ≤ 9000) : t.length + 5 ≤ (z0N t).length ∧ (z0N t).length ≤ t.length + 9 := by
 have h1 := z5k t.length
 have h2 := z0z (n := t.length) (by omega)
 rw [z0N, List.length_append, List.length_append, z2A]
 omega
theorem zbp {m : Nat} : ∀ {ts : List Bs}, (∀ t ∈ ts, t.length ≤ m) → m ≤ 9000 → (logB ts).length ≤ ts.length * (m + 9)
 | [], _, _ => by simp [logB]
 | t :: ts, h, hm => by
   have ih := zbp (ts := ts) (fun x hx => h x (List.mem_cons_of_mem _ hx)) hm
   have h1 := h t List.mem_cons_self
   have h2 := (z3r (t := t) (by omega)).2
   show (z0N t ++ logB ts).length ≤ (ts.length + 1) * (m + 9)
   rw [List.length_append, Nat.succ_mul]
   omega
theorem zbq : ∀ {ts : List Bs}, (∀ t ∈ ts, 1 ≤ t.length ∧ t.length ≤ 9000) → ts.length ≤ (logB ts).length
 | [], _ => Nat.le_refl _
 | t :: ts, h => by
   have ih := zbq (ts := ts) (fun x hx => h x (List.mem_cons_of_mem _ hx))
   have h1 := (z3r (h t List.mem_cons_self).2).1
   show ts.length + 1 ≤ (z0N t ++ logB ts).length
   rw [List.length_append]
   omega
theorem ze5 (f : Bs) : ∀ (ts : List Bs) (k p : Nat), (∀ t ∈ ts, 1 ≤ t.length ∧ t.length ≤ 9000) → f.drop p = logB ts → ts.length < k → (unf f k p).1 = ts
 | [], 0, p, _, _, hk => by simp at hk
 | [], k + 1, p, _, hd, hk => by
   have e : z0u f p = none := by
    rw [z0u, hd]
    rfl
   rw [unf, e]
 | t :: ts, 0, p, _, _, hk => by simp at hk
 | t :: ts, k + 1, p, h, hd, hk => by
   obtain ⟨h1, h2⟩ := h t List.mem_cons_self
   have hd2 : f.drop p = z03 t.length ++ (z1Z (z1U t) ++ (t ++ logB ts)) := by
    rw [hd]
    show z0N t ++ logB ts = _
    rw [z0N]
    simp only [List.append_assoc]
   have hr := z3N (t := f) (p := p) (n := t.length) (by omega) hd2
   have hq : f.drop (p + (z03 t.length).length) = z1Z (z1U t) ++ (t ++ logB ts) := by
    rw [← List.drop_drop, hd2, List.drop_left]
   have hq4 : f.drop (p + (z03 t.length).length + 4) = t ++ logB ts := by
    rw [← List.drop_drop, hq]
    exact List.drop_left' (z2A _)
   have ht : (f.drop (p + (z03 t.length).length + 4)).take t.length = t := by rw [hq4, List.take_left]
   have hl : t.length + 4 ≤ f.length - (p + (z03 t.length).length) := by
    have := congrArg List.length hq
    rw [List.length_drop, List.length_append, List.length_append, z2A] at this
    omega
   have hf : (f.drop (p + (z03 t.length).length)).take 4 = z1Z (z1U ((f.drop (p + (z03 t.length).length + 4)).take t.length)) := by
    rw [ht, hq]
    exact List.take_left' (z2A _)
   rw [unf, hr]
   simp only
   rw [if_pos ⟨h1, h2, hl, hf⟩, ht]
   have hn : f.drop (p + (z03 t.length).length + 4 + t.length) = logB ts := by rw [← List.drop_drop, hq4, List.drop_left]
   rw [ze5 f ts k _ (fun x hx => h x (List.mem_cons_of_mem _ hx)) hn (by simp at hk; omega)]
def dkOf (n : Bs) (ts : List Bs) : List Fl := if ts = [] then [] else [(n, logB ts, ((logB ts).length : Int))]
theorem ze6 (n : Bs) : dkOf n [] = [] := rfl
theorem z3T {n : Bs} {ts : List Bs} (h : ts ≠ []) : dkOf n ts = [(n, logB ts, ((logB ts).length : Int))] := if_neg h
theorem zgb (n : Bs) (ts : List Bs) (t : Bs) : dkOf n (ts ++ [t]) = [(n, logB (ts ++ [t]), ((logB (ts ++ [t])).length : Int))] := z3T (by simp)
def Rec (m : Nat) (ts : List Bs) : Prop := ts.length ≤ m ∧ ∀ t ∈ ts, 1 ≤ t.length ∧ t.length ≤ 200
theorem Rec.len {m : Nat} {ts : List Bs} (h : Rec m ts) : (logB ts).length ≤ m * 209 := by
 have h1 := zbp (m := 200) (ts := ts) (fun t ht => (h.2 t ht).2) (by decide)
 have h2 := Nat.mul_le_mul_right 209 h.1
 omega
theorem Rec.add {m : Nat} {ts : List Bs} (h : Rec m ts) {t : Bs} (ht : 1 ≤ t.length ∧ t.length ≤ 200) : Rec (m + 1) (ts ++ [t]) := by
 refine ⟨by simp; exact h.1, fun x hx => ?_⟩
 rcases List.mem_append.1 hx with hx | hx
 ·exact h.2 x hx
 ·rw [List.mem_singleton.1 hx]; exact ht
theorem Rec.up {m n : Nat} {ts : List Bs} (h : Rec m ts) (hn : m ≤ n) : Rec n ts := ⟨Nat.le_trans h.1 hn, h.2⟩
theorem ze7 {n : Bs} {ts : List Bs} (hn : 1 ≤ n.length ∧ n.length ≤ 8) (h : Rec 90 ts) : z1b (dkOf n ts) = true := by
 have hl := h.len
 by_cases e : ts = []
 ·subst e; rfl
 ·rw [z3T e]
  refine z2j (by simp) fun k hk => ?_
  obtain rfl : k = 0 := by simp at hk; exact hk
  have e1 : flAt [(n, logB ts, ((logB ts).length : Int))] 0 = (n, logB ts, ((logB ts).length : Int)) := rfl
  rw [z29, e1]
  simp only [Bool.and_eq_true, decide_eq_true_eq, inB, beq_self_eq_true, Bool.true_or, and_true]
  omega
theorem ze8 {n : Bs} {ts : List Bs} (hn : 1 ≤ n.length ∧ n.length ≤ 8) (h : Rec 90 ts) : z0Y (dkOf n ts) n = ts := by
 have hl := h.len
 rw [z0Y, if_pos (ze7 hn h)]
 have h9 : ∀ t ∈ ts, 1 ≤ t.length ∧ t.length ≤ 9000 := fun t ht => ⟨(h.2 t ht).1, by have := (h.2 t ht).2; omega⟩
 by_cases e : ts = []
 ·subst e; rfl
 ·have hg : z1G (dkOf n ts) n = some (logB ts) := by
   have hi : z1F (dkOf n ts) n = some 0 := by
    rw [z3T e]
    exact z7K (by simp) (fun j hj => by omega) rfl
   rw [z1G, hi, z3T e]
   rfl
  rw [hg, Option.getD_some, z0R, if_neg (by omega)]
  exact ze5 _ ts _ 0 h9 (by simp) (by have := zbq h9; omega)
theorem zh3 {a K : Int} {s : Sv} {id : Nat} {n v : Bs} (h : z0h (id : Int) n v = true) (hs : (z1L n K : Int) = a) (hi : idIx s.al (id : Int) = none) : rkOf a K s (1 :: z0s (id : Int) n v) = .all ((id : Int), n, v) := by
 rw [rkOf, if_pos (by decide), zfz h]
 simp only
 rw [if_pos ⟨hs, hi⟩]
def recB (k : UInt8) (ns : List Nat) : Bs := k :: ns.flatMap z03
theorem zhT (k : UInt8) (x : Nat) : recB k [x] = k :: z03 x := by simp [recB]
theorem zgd (k : UInt8) (x y z : Nat) : recB k [x, y, z] = k :: (z03 x ++ z03 y ++ z03 z) := by simp [recB]
theorem z7N {k : UInt8} {x : Nat} {r : Bs} (hx : x ≤ 1000000000) : num1 (k :: (z03 x ++ r)) = (x, 1 + (z03 x).length, false) := z4d (r := r) hx (by simp) _
theorem z9W {k : UInt8} {x y : Nat} {r : Bs} (hx : x ≤ 1000000000) (hy : y ≤ 1000000000) : num2 (k :: (z03 x ++ (z03 y ++ r))) = (y, 1 + (z03 x).length + (z03 y).length, false) := by
 rw [num2, z7N hx]
 refine z4d (r := r) hy ?_ _
 show (k :: (z03 x ++ (z03 y ++ r))).drop (1 + (z03 x).length) = _
 rw [Nat.add_comm, List.drop_succ_cons, List.drop_left]
theorem zh4 {k : UInt8} {x y z : Nat} {r : Bs} (hx : x ≤ 1000000000) (hy : y ≤ 1000000000) (hz : z ≤ 1000000000) : num3 (k :: (z03 x ++ (z03 y ++ (z03 z ++ r)))) = (z, 1 + (z03 x).length + (z03 y).length + (z03 z).length, false) := by
 rw [num3, z9W hx hy]
 refine z4d (r := r) hz ?_ _
 show (k :: (z03 x ++ (z03 y ++ (z03 z ++ r)))).drop (1 + (z03 x).length + (z03 y).length) = _
 rw [show 1 + (z03 x).length + (z03 y).length = ((z03 x).length + (z03 y).length) + 1 by omega, List.drop_succ_cons, ← List.drop_drop, List.drop_left, List.drop_left]
theorem z7O {p n : Nat} (h : p = n) : z2c false p n = true := by simp [z2c, h]
theorem zh5 {a K : Int} {s : Sv} {e t k : Nat} (he : e = s.ep + 1) (h4 : e ≤ 4) (ht : s.rt < t ∧ t ≤ 1000) (hk : z3j s.tk ≤ k ∧ k ≤ s.al.length ∧ k ≤ 1000000000) : rkOf a K s (2 :: (z03 e ++ z03 t ++ z03 k)) = .rdy e t k := by
 have e1 : z03 e ++ z03 t ++ z03 k = z03 e ++ (z03 t ++ (z03 k ++ [])) := by simp
 rw [e1, rkOf, if_neg (by decide), if_pos (by decide), z7N (by omega), z9W (by omega) (by omega), zh4 (by omega) (by omega) (by omega)]
 rw [if_pos ⟨z7O (by simp only [List.length_append, List.length_nil]; omega), he, h4, ht.1, ht.2, hk.1, hk.2.1⟩]
theorem rk_com {a K : Int} {s : Sv} {e : Nat} (he : e = s.re) (h0 : e ≠ 0) (h4 : e ≤ 1000) : rkOf a K s (3 :: z03 e) = .com := by
 have e1 : z03 e = z03 e ++ [] := by simp
 rw [e1, rkOf, if_neg (by decide), if_neg (by decide), if_pos (by decide), z7N (by omega)]
 rw [if_pos ⟨z7O (by simp only [List.length_append, List.length_nil]; omega), he, h0⟩]
theorem rk_abo {a K : Int} {s : Sv} {e t : Nat} (he : e = s.re) (ht : t = s.rt) (h0 : e ≠ 0) (h4 : e ≤ 1000 ∧ t ≤ 1000) : rkOf a K s (4 :: (z03 e ++ z03 t)) = .rdy 0 0 0 := by
 have e1 : z03 e ++ z03 t = z03 e ++ (z03 t ++ []) := by simp
 rw [e1, rkOf, if_neg (by decide), if_neg (by decide), if_neg (by decide), if_pos (by decide), z7N (by omega), z9W (by omega) (by omega)]
 rw [if_pos ⟨z7O (by simp only [List.length_append, List.length_nil]; omega), he, ht, h0⟩]
structure LogOk (a K : Int) (m : Nat) (ts : List Bs) (s : Sv) : Prop where
 rc : Rec m ts
 sv : s = svOf a K ts
theorem LogOk.ok {a K : Int} {m : Nat} {ts : List Bs} {s : Sv} (h : LogOk a K m ts s) : SvOk m s := by
 have h1 := z9V a K ts
 rw [← h.sv] at h1
 exact { h1 with al := Nat.le_trans h1.al h.rc.1 }
theorem LogOk.up {a K : Int} {m n : Nat} {ts : List Bs} {s : Sv} (h : LogOk a K m ts s) (hn : m ≤ n) : LogOk a K n ts s := ⟨h.rc.up hn, h.sv⟩
theorem LogOk.add {a K : Int} {m : Nat} {ts : List Bs} {s : Sv} (h : LogOk a K m ts s) {t : Bs} (ht : 1 ≤ t.length ∧ t.length ≤ 200) {k : Rk} (hk : rkOf a K s t = k) : LogOk a K (m + 1) (ts ++ [t]) (rkDo s k) := by
 refine ⟨h.rc.add ht, ?_⟩
 subst hk
 rw [svOf, List.foldl_append, ← svOf, ← h.sv]
 rfl
theorem zbr {n : Nat} {s : Sv} (h : SvOk n s) : z3j s.tk ≤ s.al.length := by
 unfold z3j
 rw [List.getLastD_eq_getLast?]
 cases hl : s.tk.getLast? with
 | none => simp
 | some x => exact h.tb x (List.mem_of_getLast? hl)
theorem zbs {id : Nat} {n v : Bs} (h : z0h (id : Int) n v = true) : 1 ≤ (1 :: z0s (id : Int) n v).length ∧ (1 :: z0s (id : Int) n v).length ≤ 200 := by
 simp only [z0h, Bool.and_eq_true, decide_eq_true_eq, Bool.or_eq_true] at h
 have h1 := z1f h.1.2
 have h2 : v.length ≤ 12 := by
  rcases h.2 with h3 | h3
  ·rw [List.isEmpty_iff.1 h3]; simp
  ·exact z1o h3
 have h3 := z0z (n := ((id : Int)).toNat) (by omega)
 have h4 := z27 (l := n) (by omega)
 have h5 := z27 (l := v) (by omega)
 rw [z0s]
 simp only [List.length_cons, List.length_append]
 omega
theorem z2o {k : UInt8} {x y z : Nat} (h : x ≤ 1000000 ∧ y ≤ 1000000 ∧ z ≤ 1000000) : (1 ≤ (k :: (z03 x ++ z03 y ++ z03 z)).length ∧ (k :: (z03 x ++ z03 y ++ z03 z)).length ≤ 200) ∧
 (1 ≤ (k :: (z03 x ++ z03 y)).length ∧ (k :: (z03 x ++ z03 y)).length ≤ 200) ∧ (1 ≤ (k :: z03 x).length ∧ (k :: z03 x).length ≤ 200) := by
 have h1 := z0z (n := x) (by omega)
 have h2 := z0z (n := y) (by omega)
 have h3 := z0z (n := z) (by omega)
 simp only [List.length_cons, List.length_append]
 omega
def upB (n : Bs) (x : Fl) : Bool := !(Op.bytesLess x.1 n || decide (x.1 = n))
def loB (n : Bs) (x : Fl) : Bool := Op.bytesLess x.1 n
def putF (l : List Fl) (f : Fl) : List Fl := l.filter (loB f.1) ++ [f] ++ l.filter (upB f.1)
def addF (l : List Fl) (n t : Bs) : List Fl := putF l (match z1F l n with | some k => ((flAt l k).1, (flAt l k).2.1 ++ t, (flAt l k).2.2) | none => (n, t, 0))
def zcm (l : List Fl) (k : Nat) : List Fl := putF l ((flAt l k).1, (flAt l k).2.1, ((flAt l k).2.1.length : Int))
theorem z65 (p : Fl → Bool) {l : List Fl} {i : Nat} (h : i < l.length) : (l.take (i + 1)).filter p = (l.take i).filter p ++ (if p (flAt l i) = true then [flAt l i] else []) := by
 rw [List.take_succ_eq_append_getElem h, List.filter_append, ← ze1 h]
 congr 1
 simp [List.filter_cons]
def z2Y (n : Bs) (ts : List Bs) (t : Bs) : List Fl := [(n, logB (ts ++ [t]), ((logB ts).length : Int))]
theorem ze9 (n : Bs) : Op.bytesLess n n = false := by
 induction n with
 | nil => rfl
 | cons a n ih => simp [Op.bytesLess, ih]
theorem zea (n : Bs) (a b : Bs) (x y : Int) : putF [(n, a, x)] (n, b, y) = [(n, b, y)] := by
 simp [putF, loB, upB, ze9]
theorem zbt (n : Bs) (a : Bs) (x : Int) : z1F [(n, a, x)] n = some 0 := z7K (by simp) (fun j hj => by omega) rfl
theorem zeb (n : Bs) (ts : List Bs) (t : Bs) : addF (dkOf n ts) n (z0N t) = z2Y n ts t := by
 by_cases e : ts = []
 ·subst e
  rw [z2Y, List.nil_append, z5f]
  rfl
 ·rw [z3T e, addF, zbt]
  show putF [(n, logB ts, _)] (n, logB ts ++ z0N t, _) = _
  rw [zea, z2Y, z7M, z5f]
  rfl
theorem dk_ix (n : Bs) (ts : List Bs) (t : Bs) : z1F (z2Y n ts t) n = some 0 := zbt n _ _
theorem z9X (n : Bs) (ts : List Bs) (t : Bs) : zcm (z2Y n ts t) 0 = dkOf n (ts ++ [t]) := by
 rw [zgb]
 show putF [(n, _, _)] (n, _, _) = _
 rw [zea]
 rfl
theorem z5g {n : Bs} {ts : List Bs} {t : Bs} (hn : 1 ≤ n.length ∧ n.length ≤ 8) (h : Rec 90 (ts ++ [t])) : z1b (z2Y n ts t) = true := by
 have hl := h.len
 have hl2 : (logB ts).length ≤ (logB (ts ++ [t])).length := by rw [z7M, List.length_append]; omega
 rw [z2Y]
 refine z2j (by simp) fun k hk => ?_
 obtain rfl : k = 0 := by simp at hk; exact hk
 have e1 : flAt [(n, logB (ts ++ [t]), ((logB ts).length : Int))] 0 = (n, logB (ts ++ [t]), ((logB ts).length : Int)) := rfl
 rw [z29, e1]
 simp only [Bool.and_eq_true, decide_eq_true_eq, inB, beq_self_eq_true, Bool.true_or, and_true]
 omega
def FlB (l : List Fl) : Prop := l.length ≤ 1000 ∧ ∀ k, (flAt l k).1.length ≤ 30000 ∧ (flAt l k).2.1.length ≤ 30000
theorem zge (l : List Fl) (k : Nat) (h : l.length ≤ k) : flAt l k = ([], [], 0) := by simp [flAt, List.getD, List.getElem?_eq_none h]
theorem zec {n a : Bs} {x : Int} (hn : n.length ≤ 30000) (ha : a.length ≤ 30000) : FlB [(n, a, x)] := by
 refine ⟨by simp, fun k => ?_⟩
 by_cases hk : k = 0
 ·subst hk; exact ⟨hn, ha⟩
 ·rw [zge _ _ (by simp; omega)]; simp
theorem z2p {n : Bs} {ts : List Bs} (hn : n.length ≤ 8) (h : Rec 90 ts) : FlB (dkOf n ts) := by
 have hl := h.len
 by_cases e : ts = []
 ·subst e; exact ⟨by simp [ze6], fun k => by rw [ze6, zge _ _ (by simp)]; simp⟩
 ·rw [z3T e]; exact zec (by omega) (by omega)
theorem z7P {n : Bs} {ts : List Bs} {t : Bs} (hn : n.length ≤ 8) (h : Rec 90 (ts ++ [t])) : FlB (z2Y n ts t) := by
 have hl := h.len
 exact zec (by omega) (by omega)
end Go.Proofs.YthbdlnogojcnmaaGreatDoor
