/- Plain: files of logs, and what a shard writes down. Plain: what a coordinator writes down, and what becomes of it. -/
import Derived.Test.YtkjjacndfieeoaaGreatDoorCap
import Derived.Test.YtkjjacndfieeoaaGreatDoorPco
import Derived.Test.YtkjjacndfieeoaaGreatDoorSc
namespace Go.Proofs.YtkjjacndfieeoaaGreatDoor
set_option linter.unusedVariables false
set_option linter.unusedSimpArgs false
set_option linter.unusedSectionVars false
open Pl
def logB (ts : List Bs) : Bs := ts.flatMap z0J
theorem z5u (a b : List Bs) : logB (a ++ b) = logB a ++ logB b := by simp [logB]
theorem z4q (t : Bs) : logB [t] = z0J t := by simp [logB]
theorem z2K {t : Bs} (h : t.length ≤ 9000) : t.length + 5 ≤ (z0J t).length ∧ (z0J t).length ≤ t.length + 9 := by
 have h1 := z5z t.length
 have h2 := z0I (n := t.length) (by omega)
 rw [z0J, List.length_append, List.length_append, z2E]
 omega
theorem zcr {m : Nat} : ∀ {ts : List Bs}, (∀ t ∈ ts, t.length ≤ m) → m ≤ 9000 → (logB ts).length ≤ ts.length * (m + 9)
 | [], _, _ => by simp [logB]
 | t :: ts, h, hm => by
   have ih := zcr (ts := ts) (fun x hx => h x (List.mem_cons_of_mem _ hx)) hm
   have h1 := h t List.mem_cons_self
   have h2 := (z2K (t := t) (by omega)).2
   show (z0J t ++ logB ts).length ≤ (ts.length + 1) * (m + 9)
   rw [List.length_append, Nat.succ_mul]
   omega
theorem zcs : ∀ {ts : List Bs}, (∀ t ∈ ts, 1 ≤ t.length ∧ t.length ≤ 9000) → ts.length ≤ (logB ts).length
 | [], _ => Nat.le_refl _
 | t :: ts, h => by
   have ih := zcs (ts := ts) (fun x hx => h x (List.mem_cons_of_mem _ hx))
   have h1 := (z2K (h t List.mem_cons_self).2).1
   show ts.length + 1 ≤ (z0J t ++ logB ts).length
   rw [List.length_append]
   omega
theorem zfu (f : Bs) : ∀ (ts : List Bs) (k p : Nat), (∀ t ∈ ts, 1 ≤ t.length ∧ t.length ≤ 9000) → f.drop p = logB ts → ts.length < k → (unf f k p).1 = ts
 | [], 0, p, _, _, hk => by simp at hk
 | [], k + 1, p, _, hd, hk => by
   have e : z0z f p = none := by
    rw [z0z, hd]
    rfl
   rw [unf, e]
 | t :: ts, 0, p, _, _, hk => by simp at hk
 | t :: ts, k + 1, p, h, hd, hk => by
   obtain ⟨h1, h2⟩ := h t List.mem_cons_self
   have hd2 : f.drop p = z0e t.length ++ (z1Z (z1T t) ++ (t ++ logB ts)) := by
    rw [hd]
    show z0J t ++ logB ts = _
    rw [z0J]
    simp only [List.append_assoc]
   have hr := z3Q (t := f) (p := p) (n := t.length) (by omega) hd2
   have hq : f.drop (p + (z0e t.length).length) = z1Z (z1T t) ++ (t ++ logB ts) := by
    rw [← List.drop_drop, hd2, List.drop_left]
   have hq4 : f.drop (p + (z0e t.length).length + 4) = t ++ logB ts := by
    rw [← List.drop_drop, hq]
    exact List.drop_left' (z2E _)
   have ht : (f.drop (p + (z0e t.length).length + 4)).take t.length = t := by rw [hq4, List.take_left]
   have hl : t.length + 4 ≤ f.length - (p + (z0e t.length).length) := by
    have := congrArg List.length hq
    rw [List.length_drop, List.length_append, List.length_append, z2E] at this
    omega
   have hf : (f.drop (p + (z0e t.length).length)).take 4 = z1Z (z1T ((f.drop (p + (z0e t.length).length + 4)).take t.length)) := by
    rw [ht, hq]
    exact List.take_left' (z2E _)
   rw [unf, hr]
   simp only
   rw [if_pos ⟨h1, h2, hl, hf⟩, ht]
   have hn : f.drop (p + (z0e t.length).length + 4 + t.length) = logB ts := by rw [← List.drop_drop, hq4, List.drop_left]
   rw [zfu f ts k _ (fun x hx => h x (List.mem_cons_of_mem _ hx)) hn (by simp at hk; omega)]
def dkOf (n : Bs) (ts : List Bs) : List Fl := if ts = [] then [] else [(n, logB ts, ((logB ts).length : Int))]
theorem zct (n : Bs) : dkOf n [] = [] := rfl
theorem z3k {n : Bs} {ts : List Bs} (h : ts ≠ []) : dkOf n ts = [(n, logB ts, ((logB ts).length : Int))] := if_neg h
theorem zhV (n : Bs) (ts : List Bs) (t : Bs) : dkOf n (ts ++ [t]) = [(n, logB (ts ++ [t]), ((logB (ts ++ [t])).length : Int))] := z3k (by simp)
def Rec (m : Nat) (ts : List Bs) : Prop := ts.length ≤ m ∧ ∀ t ∈ ts, 1 ≤ t.length ∧ t.length ≤ 200
theorem Rec.len {m : Nat} {ts : List Bs} (h : Rec m ts) : (logB ts).length ≤ m * 209 := by
 have h1 := zcr (m := 200) (ts := ts) (fun t ht => (h.2 t ht).2) (by decide)
 have h2 := Nat.mul_le_mul_right 209 h.1
 omega
theorem Rec.add {m : Nat} {ts : List Bs} (h : Rec m ts) {t : Bs} (ht : 1 ≤ t.length ∧ t.length ≤ 200) : Rec (m + 1) (ts ++ [t]) := by
 refine ⟨by simp; exact h.1, fun x hx => ?_⟩
 rcases List.mem_append.1 hx with hx | hx
 ·exact h.2 x hx
 ·rw [List.mem_singleton.1 hx]; exact ht
theorem Rec.up {m n : Nat} {ts : List Bs} (h : Rec m ts) (hn : m ≤ n) : Rec n ts := ⟨Nat.le_trans h.1 hn, h.2⟩
def recB (k : UInt8) (ns : List Nat) : Bs := k :: ns.flatMap z0e
theorem zfv {k : UInt8} {x : Nat} {r : Bs} (hx : x ≤ 1000000000) : num1 (k :: (z0e x ++ r)) = (x, 1 + (z0e x).length, false) := zeL (r := r) hx (by simp) _
theorem zh0 {p n : Nat} (h : p = n) : z40 false p n = true := by simp [z40, h]
structure LogOk (a K : Int) (m : Nat) (ts : List Bs) (s : Sv) : Prop where
 rc : Rec m ts
 sv : s = svOf a K ts
theorem LogOk.ok {a K : Int} {m : Nat} {ts : List Bs} {s : Sv} (h : LogOk a K m ts s) : SvOk m s := by
 have h1 := ziB a K ts
 rw [← h.sv] at h1
 exact { h1 with al := Nat.le_trans h1.al h.rc.1 }
theorem LogOk.up {a K : Int} {m n : Nat} {ts : List Bs} {s : Sv} (h : LogOk a K m ts s) (hn : m ≤ n) : LogOk a K n ts s := ⟨h.rc.up hn, h.sv⟩
theorem LogOk.add {a K : Int} {m : Nat} {ts : List Bs} {s : Sv} (h : LogOk a K m ts s) {t : Bs} (ht : 1 ≤ t.length ∧ t.length ≤ 200) {k : Rk} (hk : rkOf a K s t = k) : LogOk a K (m + 1) (ts ++ [t]) (rkDo s k) := by
 refine ⟨h.rc.add ht, ?_⟩
 subst hk
 rw [svOf, List.foldl_append, ← svOf, ← h.sv]
 rfl
def upB (n : Bs) (x : Fl) : Bool := !(Op.bytesLess x.1 n || decide (x.1 = n))
def loB (n : Bs) (x : Fl) : Bool := Op.bytesLess x.1 n
def putF (l : List Fl) (f : Fl) : List Fl := l.filter (loB f.1) ++ [f] ++ l.filter (upB f.1)
def addF (l : List Fl) (n t : Bs) : List Fl := putF l (match z1z l n with | some k => ((flAt l k).1, (flAt l k).2.1 ++ t, (flAt l k).2.2) | none => (n, t, 0))
def zdu (l : List Fl) (k : Nat) : List Fl := putF l ((flAt l k).1, (flAt l k).2.1, ((flAt l k).2.1.length : Int))
theorem z6x (p : Fl → Bool) {l : List Fl} {i : Nat} (h : i < l.length) : (l.take (i + 1)).filter p = (l.take i).filter p ++ (if p (flAt l i) = true then [flAt l i] else []) := by
 rw [List.take_succ_eq_append_getElem h, List.filter_append, ← zf5 h]
 congr 1
 simp [List.filter_cons]
def z31 (n : Bs) (ts : List Bs) (t : Bs) : List Fl := [(n, logB (ts ++ [t]), ((logB ts).length : Int))]
theorem zfw (n : Bs) : Op.bytesLess n n = false := by
 induction n with
 | nil => rfl
 | cons a n ih => simp [Op.bytesLess, ih]
theorem zfx (n : Bs) (a b : Bs) (x y : Int) : putF [(n, a, x)] (n, b, y) = [(n, b, y)] := by
 simp [putF, loB, upB, zfw]
theorem zcu (n : Bs) (a : Bs) (x : Int) : z1z [(n, a, x)] n = some 0 := z8z (by simp) (fun j hj => by omega) rfl
theorem zfy (n : Bs) (ts : List Bs) (t : Bs) : addF (dkOf n ts) n (z0J t) = z31 n ts t := by
 by_cases e : ts = []
 ·subst e
  rw [z31, List.nil_append, z4q]
  rfl
 ·rw [z3k e, addF, zcu]
  show putF [(n, logB ts, _)] (n, logB ts ++ z0J t, _) = _
  rw [zfx, z31, z5u, z4q]
  rfl
theorem dk_ix (n : Bs) (ts : List Bs) (t : Bs) : z1z (z31 n ts t) n = some 0 := zcu n _ _
theorem zaX (n : Bs) (ts : List Bs) (t : Bs) : zdu (z31 n ts t) 0 = dkOf n (ts ++ [t]) := by
 rw [zhV]
 show putF [(n, _, _)] (n, _, _) = _
 rw [zfx]
 rfl
def FlB (l : List Fl) : Prop := l.length ≤ 1000 ∧ ∀ k, (flAt l k).1.length ≤ 30000 ∧ (flAt l k).2.1.length ≤ 30000
theorem zhW (l : List Fl) (k : Nat) (h : l.length ≤ k) : flAt l k = ([], [], 0) := by simp [flAt, List.getD, List.getElem?_eq_none h]
theorem zfz {n a : Bs} {x : Int} (hn : n.length ≤ 30000) (ha : a.length ≤ 30000) : FlB [(n, a, x)] := by
 refine ⟨by simp, fun k => ?_⟩
 by_cases hk : k = 0
 ·subst hk; exact ⟨hn, ha⟩
 ·rw [zhW _ _ (by simp; omega)]; simp
end Go.Proofs.YtkjjacndfieeoaaGreatDoor
namespace Go.Proofs.YtkjjacndfieeoaaGreatDoor
set_option linter.unusedVariables false
set_option linter.unusedSimpArgs false
set_option linter.unusedSectionVars false
open Go.RowKit Pl
theorem z7Q {n : Bs} {ts : List Bs} (hn : 1 ≤ n.length ∧ n.length ≤ 8) (hl : (logB ts).length ≤ 18000) : z0X (dkOf n ts) = true := by
 by_cases e : ts = []
 ·subst e; rfl
 ·rw [z3k e]
  refine z2i (by simp) fun k hk => ?_
  obtain rfl : k = 0 := by simp at hk; exact hk
  have e1 : flAt [(n, logB ts, ((logB ts).length : Int))] 0 = (n, logB ts, ((logB ts).length : Int)) := rfl
  rw [z28, e1]
  simp only [Bool.and_eq_true, decide_eq_true_eq, inB, beq_self_eq_true, Bool.true_or, and_true]
  omega
theorem z4x (ts : List Bs) (t : Bs) : (logB ts).length ≤ (logB (ts ++ [t])).length := by rw [z5u, List.length_append]; omega
theorem z4y {n : Bs} {ts : List Bs} {t : Bs} (hn : 1 ≤ n.length ∧ n.length ≤ 8) (hl : (logB (ts ++ [t])).length ≤ 18000) : z0X (z31 n ts t) = true := by
 have hl2 := z4x ts t
 rw [z31]
 refine z2i (by simp) fun k hk => ?_
 obtain rfl : k = 0 := by simp at hk; exact hk
 have e1 : flAt [(n, logB (ts ++ [t]), ((logB ts).length : Int))] 0 = (n, logB (ts ++ [t]), ((logB ts).length : Int)) := rfl
 rw [z28, e1]
 simp only [Bool.and_eq_true, decide_eq_true_eq, inB, beq_self_eq_true, Bool.true_or, and_true]
 omega
theorem z1k {n : Bs} {ts : List Bs} (hn : n.length ≤ 8) (hl : (logB ts).length ≤ 18000) : FlB (dkOf n ts) := by
 by_cases e : ts = []
 ·subst e; exact ⟨by simp [zct], fun k => by rw [zct, zhW _ _ (by simp)]; simp⟩
 ·rw [z3k e]; exact zfz (by omega) (by omega)
theorem z5y {n : Bs} {ts : List Bs} {t : Bs} (hn : n.length ≤ 8) (hl : (logB (ts ++ [t])).length ≤ 18000) : FlB (z31 n ts t) := zfz (by omega) (by omega)
theorem z7R {n : Bs} {ts : List Bs} (hn : 1 ≤ n.length ∧ n.length ≤ 8) (h9 : ∀ t ∈ ts, 1 ≤ t.length ∧ t.length ≤ 9000) (hl : (logB ts).length ≤ 18000) : z0N (dkOf n ts) n = ts := by
 rw [z0N, if_pos (z7Q hn hl)]
 by_cases e : ts = []
 ·subst e; rfl
 ·have hg : z1A (dkOf n ts) n = some (logB ts) := by
   have hi : z1z (dkOf n ts) n = some 0 := by
    rw [z3k e]
    exact z8z (by simp) (fun j hj => by omega) rfl
   rw [z1A, hi, z3k e]
   rfl
  rw [hg, Option.getD_some, z0K, if_neg (by omega)]
  exact zfu _ ts _ 0 h9 (by simp) (by have := zcs h9; omega)
theorem z6I {h : Hd} {s : Sg} (g : h.good) (gs : s.good) : (z1C h s).length ≤ 460 := by
 have a := z1U g
 have b := z4p gs
 have c := z57 (l := z0T h) (by omega)
 rw [z1C, List.length_append]
 omega
def coordN : Bs := [99, 111, 111, 114, 100]
theorem za7 : coordN = z0P := rfl
def begB (n : Nat) : Bs := 1 :: z0e n
def cloB (n : Nat) (h : Hd) (g : Sg) : Bs := 2 :: (z0e n ++ z1C h g)
theorem zfO (ho : Nat) (ts : List Bs) (t : Bs) : cvOf ho (ts ++ [t]) = z8H ho (cvOf ho ts) t := by
 unfold cvOf
 rw [List.foldl_append]
 rfl
theorem ck_beg {ho : Nat} {s : Cv} {n : Nat} (h : s.ty < n ∧ n ≤ 1000) : ckOf ho s (begB n) = .beg n := by
 have e1 : num1 (1 :: z0e n) = (n, 1 + (z0e n).length, false) := by
  have := zfv (k := 1) (x := n) (r := []) (by omega)
  rwa [List.append_nil] at this
 rw [begB, ckOf, if_pos (by decide), e1]
 rw [if_pos ⟨zh0 (by simp only []; omega), h.1, h.2⟩]
theorem ck_clo {ho : Nat} {s : Cv} {h : Hd} {g : Sg} (hy : s.ty ≠ 0 ∧ s.ty ≤ 1000) (hh : h = z1u ho (cHds s) h.ro) (hl : (cHds s).length < 4) (gh : h.good) (gs : g.good) : ckOf ho s (cloB s.ty h g) = .clo h g := by
 have e1 : num1 (2 :: (z0e s.ty ++ z1C h g)) = (s.ty, 1 + (z0e s.ty).length, false) := zfv (by omega)
 have e2 : (2 :: (z0e s.ty ++ z1C h g)).drop (1 + (z0e s.ty).length) = z1C h g := by
  rw [Nat.add_comm, List.drop_succ_cons, List.drop_left]
 rw [cloB, ckOf, if_neg (by decide), if_pos (by decide), e1]
 simp only
 rw [if_neg (by decide), e2, z3w.2 ⟨gh, gs, rfl⟩]
 simp only
 rw [if_pos ⟨trivial, hy.1, hh, hl⟩]
structure CLog (ho : Nat) (m : Nat) (ts : List Bs) (s : Cv) : Prop where
 tl : ∀ t ∈ ts, 1 ≤ t.length ∧ t.length ≤ 9000
 sz : (logB ts).length ≤ 20 * m + 500 * s.se.length
 sv : s = cvOf ho ts
 ty : s.ty ≤ m
theorem zhc (ho : Nat) : CLog ho 0 [] cv0 := ⟨fun t h => (by cases h), by simp [logB], rfl, Nat.le_refl _⟩
theorem CLog.up {ho m n : Nat} {ts : List Bs} {s : Cv} (h : CLog ho m ts s) (hn : m ≤ n) : CLog ho n ts s := ⟨h.tl, by have := h.sz; omega, h.sv, by have := h.ty; omega⟩
theorem CLog.ok {ho m : Nat} {ts : List Bs} {s : Cv} (h : CLog ho m ts s) (hh : ho ≤ 2) : CvOk ho s := by rw [h.sv]; exact zaY hh ts
theorem CLog.small {ho m : Nat} {ts : List Bs} {s : Cv} (h : CLog ho m ts s) (hh : ho ≤ 2) (hm : m ≤ 100) : (logB ts).length ≤ 4000 := by
 have h1 := h.sz
 have h2 := z1H (h.ok hh)
 omega
theorem z1V {ts : List Bs} {t : Bs} (h : t.length ≤ 9000) : (logB (ts ++ [t])).length ≤ (logB ts).length + t.length + 9 := by
 rw [z5u, List.length_append, z4q]
 have := (z2K h).2
 omega
theorem z1D {n : Nat} (h : n ≤ 1000) : 1 ≤ (begB n).length ∧ (begB n).length ≤ 11 := by
 have h1 := z0I (n := n) (by omega)
 rw [begB, List.length_cons]
 omega
theorem z8O {n : Nat} {h : Hd} {g : Sg} (hn : n ≤ 1000) (gh : h.good) (gs : g.good) : 1 ≤ (cloB n h g).length ∧ (cloB n h g).length ≤ 480 := by
 have h1 := z0I (n := n) (by omega)
 have h2 : (z1C h g).length ≤ 460 := z6I gh gs
 rw [cloB, List.length_cons, List.length_append]
 omega
theorem CLog.beg {ho m : Nat} {ts : List Bs} {s : Cv} (h : CLog ho m ts s) (hm : m ≤ 900) : CLog ho (m + 1) (ts ++ [begB (s.ty + 1)]) { s with ty := s.ty + 1 } := by
 have hy := h.ty
 have hb := z1D (n := s.ty + 1) (by omega)
 refine ⟨fun t ht => ?_, ?_, ?_, by show s.ty + 1 ≤ m + 1; omega⟩
 ·rcases List.mem_append.1 ht with ht | ht
  ·exact h.tl t ht
  ·rw [List.mem_singleton.1 ht]; omega
 ·have h1 := z1V (ts := ts) (t := begB (s.ty + 1)) (by omega)
  have h2 := h.sz
  show _ ≤ 20 * (m + 1) + 500 * s.se.length
  omega
 ·rw [zfO, ← h.sv, z8H, ck_beg ⟨by omega, by omega⟩]
  rfl
theorem CLog.clo {ho m : Nat} {ts : List Bs} {s : Cv} (h : CLog ho m ts s) (hm : m ≤ 900) (hy : s.ty ≠ 0) {hd : Hd} {g : Sg} (hh : hd = z1u ho (cHds s) hd.ro) (hl : (cHds s).length < 4) (gh : hd.good) (gs : g.good) : CLog ho m (ts ++ [cloB s.ty hd g]) { s with se := s.se ++ [(hd, g)], tr := s.tr ++ [s.ty] } := by
 have hy2 := h.ty
 have hb := z8O (n := s.ty) (by omega) gh gs
 refine ⟨fun t ht => ?_, ?_, ?_, hy2⟩
 ·rcases List.mem_append.1 ht with ht | ht
  ·exact h.tl t ht
  ·rw [List.mem_singleton.1 ht]; omega
 ·have h1 := z1V (ts := ts) (t := cloB s.ty hd g) (by omega)
  have h2 := h.sz
  show _ ≤ 20 * m + 500 * (s.se ++ [(hd, g)]).length
  rw [List.length_append, List.length_singleton]
  omega
 ·rw [zfO, ← h.sv, z8H, ck_clo ⟨hy, by omega⟩ hh hl gh gs]
  rfl
structure Co where
 ts : List Bs
 s : Cv
 ask : Bool
 vo : List Bs
 dn : List Bool
def emN (K : Nat) : List Bs := List.replicate (2 ^ K) []
def emF (K : Nat) : List Bool := List.replicate (2 ^ K) false
def co0 (K : Nat) : Co := ⟨[], cv0, false, emN K, emF K⟩
def begC (K : Nat) (c : Co) : Co := if c.ask = false ∧ c.s.se.length < 4 ∧ c.s.ty ≤ 999 then ⟨c.ts ++ [begB (c.s.ty + 1)], { c.s with ty := c.s.ty + 1 }, true, emN K, c.dn⟩ else c
def givC (K : Nat) (c : Co) : Co := if c.ask = true then { c with ask := false, vo := emN K } else c
def clHd (ho : Nat) (c : Co) : Hd := z1u ho (cHds c.s) (z2o c.vo)
def clSg (ho : Nat) (c : Co) : Sg := z4o (z0j ho) (z0g (z0j ho) 16) ((clHd ho c).ep - 1) (z1G (clHd ho c))
def cloC (ho K : Nat) (c : Co) : Co := ⟨c.ts ++ [cloB c.s.ty (clHd ho c) (clSg ho c)], { c.s with se := c.s.se ++ [(clHd ho c, clSg ho c)], tr := c.s.tr ++ [c.s.ty] }, false, emN K, emF K⟩
def votC (ho K : Nat) (c : Co) (i : Nat) (r : Bs) : Co := if [] ∈ c.vo.set i r then { c with vo := c.vo.set i r } else cloC ho K { c with vo := c.vo.set i r }
structure CoOk (ho K m : Nat) (c : Co) : Prop where
 lg : CLog ho m c.ts c.s
 vl : c.vo.length = 2 ^ K
 dl : c.dn.length = 2 ^ K
 vw : ∀ v ∈ c.vo, v = [] ∨ v.length = 16
 na : c.ask = false → c.vo = emN K
 ya : c.ask = true → c.s.se.length < 4 ∧ c.s.ty ≠ 0
theorem z4R {K : Nat} {v : Bs} (h : v ∈ emN K) : v = [] := List.eq_of_mem_replicate h
theorem z6J (K : Nat) : (emN K).length = 2 ^ K := by simp [emN]
theorem zbb (K : Nat) : (emF K).length = 2 ^ K := by simp [emF]
theorem zi1 (ho K : Nat) : CoOk ho K 0 (co0 K) := ⟨zhc ho, z6J K, zbb K, fun v hv => .inl (z4R hv), fun _ => rfl, fun h => (by cases h)⟩
theorem CoOk.up {ho K m n : Nat} {c : Co} (h : CoOk ho K m c) (hn : m ≤ n) : CoOk ho K n c := ⟨h.lg.up hn, h.vl, h.dl, h.vw, h.na, h.ya⟩
theorem zfP {ho K m : Nat} {c : Co} (h : CoOk ho K m c) (hm : m ≤ 900) : CoOk ho K (m + 1) (begC K c) := by
 unfold begC
 split
 ·rename_i hc
  exact ⟨h.lg.beg hm, z6J K, h.dl, fun v hv => .inl (z4R hv), fun e => (by cases e), fun _ => ⟨hc.2.1, by show c.s.ty + 1 ≠ 0; omega⟩⟩
 ·exact h.up (by omega)
theorem zfQ {ho K m : Nat} {c : Co} (h : CoOk ho K m c) : CoOk ho K m (givC K c) := by
 unfold givC
 split
 ·exact ⟨h.lg, z6J K, h.dl, fun v hv => .inl (z4R hv), fun _ => rfl, fun e => (by cases e)⟩
 ·exact h
theorem zfR {ho K m : Nat} {c : Co} (hh : ho ≤ 2) (h : CoOk ho K m c) (hm : m ≤ 900) (ha : c.ask = true) (hr : (z2o c.vo).length = 16) : CoOk ho K m (cloC ho K c) := by
 obtain ⟨h1, h2⟩ := h.ya ha
 have hl : (cHds c.s).length < 4 := by rw [z3x]; exact h1
 have gh : (clHd ho c).good := z2L hh hl hr
 have gs : (clSg ho c).good := z7G (z0H _ _) z2I (by have h3 := gh.2.2.1; omega)
 exact ⟨h.lg.clo hm h2 rfl hl gh gs, z6J K, zbb K, fun v hv => .inl (z4R hv), fun _ => rfl, fun e => (by cases e)⟩
end Go.Proofs.YtkjjacndfieeoaaGreatDoor
