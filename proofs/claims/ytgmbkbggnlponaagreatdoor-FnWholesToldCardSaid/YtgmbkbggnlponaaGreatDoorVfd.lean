/- Functions by content: every complete proof that is drawn, and the law FnWholesTold. -/
import Derived.Test.YtgmbkbggnlponaaGreatDoorVfc
namespace Go.Proofs.YtgmbkbggnlponaaGreatDoor
set_option maxRecDepth 100000
set_option maxHeartbeats 8000000
set_option linter.unusedVariables false
set_option linter.unusedSimpArgs false
set_option linter.unusedSectionVars false
open Go.RowKit Pl
theorem ucv_lf (l : List Lf) : ucE (lvE l) = lvE l := z9e fun e he c hc => by
 simp only [lvE, List.mem_map] at he
 obtain ⟨x, _, rfl⟩ := he
 simp only [List.mem_cons, List.not_mem_nil, or_false] at hc
 rcases hc with rfl | rfl <;> rfl
theorem zcS : ∀ l : List (Nat × Sg), ucE (stD l) = stE l
 | [] => by simp [stD, stE, ucE]
 | x :: l => by
   have ih := zcS l
   simp only [stD, stE, sgE, List.map_cons, ucE, ucL, ucT, z9f] at ih ⊢
   rw [ih]
theorem z7n (l : List Bs) (i : Nat) (x : Bs) : strE (l.set i x) = (strE l).set i [.str x] := by simp [strE, List.map_set]
theorem spV_X (l : List (Nat × Sg)) : spX (l.map fun y => (y.1, y.2.a, strE y.2.op, strE y.2.sh, strE y.2.si)) = stE l := by simp only [spX, stE, List.map_map]; rfl
theorem spV_D (l : List (Nat × Sg)) : spD (l.map fun y => (y.1, y.2.a, strE y.2.op, strE y.2.sh, strE y.2.si)) = stD l := by simp only [spD, stD, List.map_map]; rfl
theorem zgM (l : List (Nat × Sg)) (n : Nat) : stE (l.drop n) = (stE l).drop n := by simp [stE, List.map_drop]
theorem zaQ {l : List Bs} {i : Nat} (h : i < l.length) : (strE l)[i]? = some [.str l[i]] := by simp [strE, List.getElem?_eq_getElem h]
theorem zbO {l : List Bs} {n i : Nat} {x : Bs} (h : ∀ y ∈ l, y.length = n) (hx : x.length = n) : ∀ y ∈ l.set i x, y.length = n := fun y hy => by
 rcases List.mem_or_eq_of_mem_set hy with q | q
 ·exact h y q
 ·rw [q]; exact hx
def whR3 (x : Wh) : List T := [.sl 2 (lvE x.B), .sl 1 (strE x.S), .sl 1 (strE x.T), .int .i64 (x.hd.ho : Int), .int .i64 (x.hd.ep : Int), .str x.hd.ro, .str x.hd.pr, .int .i64 (x.sg.a : Int), .sl 1 (strE x.sg.op), .sl 1 (strE x.sg.sh), .sl 1 (strE x.sg.si), .ref 3]
theorem zgN (c : Bs) (i i1 i2 i3 : Nat) (h h1 h2 h3 : Int) (x y : Nat) (hy : y < 60) (w : Wh) (hw : WhN w) (hB9 : w.B.length ≤ 9) (hst2 : w.st.length = 2) (hS0 : 0 < w.S.length) (K need : Nat) (hK : K < 3) (R : List Bs) (hRn : R.length = 3) (nm : Bs) (hnm : nm.length ≤ 9) (LL : List (List T)) (hi3 : i3 ≤ c.length)
 (k1 : CT Tryz.prog 33 [curE c i h] [.ptr 1 0 0, .int .i64 20] (.int .i64 (x : Int)) [curE c i1 h1])
 (k2 : CT Tryz.prog 33 [curE c i1 h1] [.ptr 1 0 0, .int .i64 60] (.int .i64 (y : Int)) [curE c i2 h2])
 (k3 : CT Tryz.prog 60 [curE c i2 h2] [.ptr 1 0 0] (.tup [.agg [.ref 2, .int .i64 (K : Int), .int .i64 (need : Int)], .int .i64 (w.hd.ho : Int), .str nm, .int .i64 (w.hd.ep : Int), .agg (whE w), .sl 2 LL]) [curE c i3 h3, .row 1 (strE R)]) :
 ∃ (R : List Bs) (K need house : Int) (nm : Bs) (ep0 : Int) (x : Wh) (j : Nat) (h2 : Int), (R.length = 3 ∧ (-5 ≤ K ∧ K ≤ 5) ∧ nm.length ≤ 9 ∧ WhN x ∧ j ≤ c.length) ∧
   (CT Tryz.prog 15 [curE c i h] [.ptr 1 0 0] (.tup [.agg [.ref 2, .int .i64 K, .int .i64 need], .int .i64 house, .str nm, .int .i64 ep0, .agg (whE x)]) [curE c j h2, .row 1 (strE R)] ∨
    CT Tryz.prog 15 [curE c i h] [.ptr 1 0 0] (.tup [.agg [.ref 2, .int .i64 K, .int .i64 need], .int .i64 house, .str nm, .int .i64 ep0, .agg (whR3 x)]) [curE c j h2, .row 1 (strE R), .deep 5 (stD x.st) []]) := by
 obtain ⟨B, S, T0, ⟨ho, ep, ro, pr⟩, ⟨a, op, sh, si⟩, st⟩ := w
 obtain ⟨g1, ⟨g2, g3⟩, ⟨g4, g5⟩, g6, g7⟩ := hw.sg
 have gh := hw.hd
 simp only at hB9 hst2 hS0 g1 g2 g3 g4 g5 g6 g7
 have bB : B.length ≤ 9 := hB9
 have bS := hw.sl
 have bT := hw.tl
 simp only at bS bT
 have lT := z0c T0
 have l1 := z0c op
 have l2 := z0c sh
 have l3 := z0c si
 have lS := z0c S
 have lR := z0c R
 have hz : ∀ k (h : k < (st.map fun y => (y.1, y.2.a, strE y.2.op, strE y.2.sh, strE y.2.si)).length), (st.map fun y => (y.1, y.2.a, strE y.2.op, strE y.2.sh, strE y.2.si))[k].2.2.1.length ≤ 1000 ∧ (st.map fun y => (y.1, y.2.a, strE y.2.op, strE y.2.sh, strE y.2.si))[k].2.2.2.1.length ≤ 1000 ∧ (st.map fun y => (y.1, y.2.a, strE y.2.op, strE y.2.sh, strE y.2.si))[k].2.2.2.2.length ≤ 1000 := fun k hk => by
  rw [List.length_map] at hk
  obtain ⟨_, q1, ⟨q2, q3⟩, ⟨q4, q5⟩, q6, q7⟩ := hw.sh _ (List.getElem_mem hk)
  have q2 : st[k].2.op.length = 8 := q2
  have q4 : st[k].2.sh.length = 8 := q4
  have q6 : st[k].2.si.length = 4 := q6
  simp only [List.getElem_map, z0c]
  omega
 have k4 := zdV B S (strE T0) (ho : Int) (ep : Int) ro pr (a : Int) (strE op) (strE sh) (strE si) (st.map fun y => (y.1, y.2.a, strE y.2.op, strE y.2.sh, strE y.2.si)) (by omega) (by omega) (by omega) (by omega) (by omega) (by omega) (by rw [List.length_map]; omega) hz
 have k4B := zdW B S (strE T0) (ho : Int) (ep : Int) ro pr (a : Int) (strE op) (strE sh) (strE si) (st.map fun y => (y.1, y.2.a, strE y.2.op, strE y.2.sh, strE y.2.si)) (by omega) (by omega) (by omega) (by omega) (by omega) (by omega) (by rw [List.length_map]; omega) hz (fun k hk => by
  simp only [List.getElem_map]
  exact ⟨zdX _, zdX _, zdX _⟩)
 rw [spV_X] at k4 k4B
 rw [spV_D] at k4B
 clear hz
 have r16 : ∀ b : UInt8, (List.replicate 16 b).length = 16 := fun b => List.length_replicate
 by_cases x0 : x = 0
 ·have q := c_any0 c i i1 i2 i3 h h1 h2 h3 x y hy (strE R) (lvE B) (strE S) (strE T0) (strE op) (strE sh) (strE si) (stE st) LL (K : Int) (need : Int) (ho : Int) (ep : Int) (a : Int) nm ro pr ⟨k1, k2, k3, k4⟩  x0
  exact ⟨R, ((y % 5 : Nat) : Int) - 1, need, ho, nm, ep, ⟨B, S, T0, ⟨ho, ep, ro, pr⟩, ⟨a, op, sh, si⟩, st⟩, i3, h3, ⟨hRn, (by omega), hnm, hw, hi3⟩, .inl q⟩
 by_cases x1 : x = 1
 ·have q := c_any1 c i i1 i2 i3 h h1 h2 h3 x y hy (strE R) (lvE B) (strE S) (strE T0) (strE op) (strE sh) (strE si) (stE st) LL (K : Int) (need : Int) (ho : Int) (ep : Int) (a : Int) nm ro pr ⟨k1, k2, k3, k4⟩  x1
  exact ⟨R, K, ((y % 5 : Nat) : Int) - 1, ho, nm, ep, ⟨B, S, T0, ⟨ho, ep, ro, pr⟩, ⟨a, op, sh, si⟩, st⟩, i3, h3, ⟨hRn, (by omega), hnm, hw, hi3⟩, .inl q⟩
 by_cases x2 : x = 2
 ·have q := c_any2 c i i1 i2 i3 h h1 h2 h3 x y hy (strE R) (lvE B) (strE S) (strE T0) (strE op) (strE sh) (strE si) (stE st) LL (K : Int) (need : Int) (ho : Int) (ep : Int) (a : Int) nm ro pr ⟨k1, k2, k3, k4⟩  x2
  exact ⟨R, K, need, ((y % 5 : Nat) : Int) - 1, nm, ep, ⟨B, S, T0, ⟨ho, ep, ro, pr⟩, ⟨a, op, sh, si⟩, st⟩, i3, h3, ⟨hRn, (by omega), hnm, hw, hi3⟩, .inl q⟩
 by_cases x3 : x = 3
 ·obtain ⟨n4, hn4, g4⟩ : ∃ n4 : Bs, n4.length ≤ 9 ∧ ([[.str []], [.str [111, 116, 104, 101, 114]], [.str [97, 110, 110]], [.str [98, 111, 98]]] : List (List T))[y % 4]? = some [.str n4] := by
   rcases (by omega : y % 4 = 0 ∨ y % 4 = 1 ∨ y % 4 = 2 ∨ y % 4 = 3) with e | e | e | e <;> rw [e]
   ·exact ⟨_, by decide, rfl⟩
   ·exact ⟨_, by decide, rfl⟩
   ·exact ⟨_, by decide, rfl⟩
   ·exact ⟨_, by decide, rfl⟩
  have q := c_any3 c i i1 i2 i3 h h1 h2 h3 x y hy (strE R) (lvE B) (strE S) (strE T0) (strE op) (strE sh) (strE si) (stE st) LL (K : Int) (need : Int) (ho : Int) (ep : Int) (a : Int) nm ro pr ⟨k1, k2, k3, k4⟩ n4 g4 x3
  exact ⟨R, K, need, ho, n4, ep, ⟨B, S, T0, ⟨ho, ep, ro, pr⟩, ⟨a, op, sh, si⟩, st⟩, i3, h3, ⟨hRn, (by omega), hn4, hw, hi3⟩, .inl q⟩
 by_cases x4 : x = 4
 ·have q := c_any4 c i i1 i2 i3 h h1 h2 h3 x y hy (strE R) (lvE B) (strE S) (strE T0) (strE op) (strE sh) (strE si) (stE st) LL (K : Int) (need : Int) (ho : Int) (ep : Int) (a : Int) nm ro pr ⟨k1, k2, k3, k4⟩  x4
  exact ⟨R, K, need, ho, nm, ((y % 6 : Nat) : Int), ⟨B, S, T0, ⟨ho, ep, ro, pr⟩, ⟨a, op, sh, si⟩, st⟩, i3, h3, ⟨hRn, (by omega), hnm, hw, hi3⟩, .inl q⟩
 by_cases x5 : x = 5
 ·have q := c_any5 c i i1 i2 i3 h h1 h2 h3 x y hy (strE R) (lvE B) (strE S) (strE T0) (strE op) (strE sh) (strE si) (stE st) LL (K : Int) (need : Int) (ho : Int) (ep : Int) (a : Int) nm ro pr ⟨k1, k2, k3, k4⟩ (by rw [z3V]; exact hst2) x5
  rw [← zgM] at q
  exact ⟨R, K, need, ho, nm, ep, ⟨B, S, T0, ⟨ho, ep, ro, pr⟩, ⟨a, op, sh, si⟩, st.drop (y % 2 + 1)⟩, i3, h3, ⟨hRn, (by omega), hnm, { hw with sl2 := by show (st.drop _).length ≤ 2; rw [List.length_drop]; omega, sh := fun z hz => hw.sh z (List.mem_of_mem_drop hz) }, hi3⟩, .inl q⟩
 by_cases x6 : x = 6
 ·have hlt : y % 2 < st.length := by omega
  have eS : stE (st.set (y % 2) (y % 4, st[y % 2].2)) = (stE st).set (y % 2) [.int .i64 ((y % 4 : Nat) : Int), .int .i64 (st[y % 2].2.a : Int), .sl 1 (strE st[y % 2].2.op), .sl 1 (strE st[y % 2].2.sh), .sl 1 (strE st[y % 2].2.si)] := by simp [stE, sgE, List.map_set]
  have hs2 : (st.set (y % 2) (y % 4, st[y % 2].2)).length ≤ 2 := by rw [List.length_set]; omega
  have hsh : ∀ z ∈ st.set (y % 2) (y % 4, st[y % 2].2), z.1 ≤ 3 ∧ z.2.good := fun z hz => by
   rcases List.mem_or_eq_of_mem_set hz with q | q
   ·exact hw.sh z q
   ·rw [q]; exact ⟨by show y % 4 ≤ 3; omega, (hw.sh _ (List.getElem_mem hlt)).2⟩
  have q := c_any6 c i i1 i2 i3 h h1 h2 h3 x y hy (strE R) (lvE B) (strE S) (strE T0) (strE op) (strE sh) (strE si) (stE st) LL (K : Int) (need : Int) (ho : Int) (ep : Int) (a : Int) nm ro pr ⟨k1, k2, k3, k4⟩ (st[y % 2].1 : Int) (st[y % 2].2.a : Int) (strE st[y % 2].2.op) (strE st[y % 2].2.sh) (strE st[y % 2].2.si) (by simp [stE, sgE, List.getElem?_eq_getElem hlt]) x6
  rw [← eS] at q
  exact ⟨R, K, need, ho, nm, ep, ⟨B, S, T0, ⟨ho, ep, ro, pr⟩, ⟨a, op, sh, si⟩, st.set (y % 2) (y % 4, st[y % 2].2)⟩, i3, h3, ⟨hRn, (by omega), hnm, { hw with sl2 := hs2, sh := hsh }, hi3⟩, .inl q⟩
 by_cases x7 : x = 7
 ·have k7 := z7Y B nm [102, 111, 114, 103, 101, 100] (by omega) (Small9.fit hw.bs) (Small9.fit (Small9.put hw.bs (by omega) (by decide)))
  have q := c_any7 c i i1 i2 i3 h h1 h2 h3 x y hy (strE R) (lvE B) (strE S) (strE T0) (strE op) (strE sh) (strE si) (stE st) LL (K : Int) (need : Int) (ho : Int) (ep : Int) (a : Int) nm ro pr ⟨k1, k2, k3, k4⟩ _ _ k7 x7
  exact ⟨R, K, need, ho, nm, ep, ⟨(putR B nm [102, 111, 114, 103, 101, 100]).1, S, T0, ⟨ho, ep, ro, pr⟩, ⟨a, op, sh, si⟩, st⟩, i3, h3, ⟨hRn, (by omega), hnm, { hw with bs := z5l hw.bs (by omega) (by decide), bl := by have := z8X (l := B) (n := nm) (v := [102, 111, 114, 103, 101, 100]); show (putR B nm [102, 111, 114, 103, 101, 100]).1.length ≤ 20; omega }, hi3⟩, .inl q⟩
 by_cases x8 : x = 8
 ·have hlt : y % S.length < S.length := Nat.mod_lt _ hS0
  have q := c_any8 c i i1 i2 i3 h h1 h2 h3 x y hy (strE R) (lvE B) (strE S) (strE T0) (strE op) (strE sh) (strE si) (stE st) LL (K : Int) (need : Int) (ho : Int) (ep : Int) (a : Int) nm ro pr ⟨k1, k2, k3, k4⟩ (by omega) S[y % S.length] (by rw [lS]; exact zaQ hlt) x8
  rw [lS, ← z7n] at q
  exact ⟨R, K, need, ho, nm, ep, ⟨B, S.set (y % S.length) (List.replicate 16 (UInt8.ofNat y)), T0, ⟨ho, ep, ro, pr⟩, ⟨a, op, sh, si⟩, st⟩, i3, h3, ⟨hRn, (by omega), hnm, { hw with sl := by show (S.set _ _).length ≤ 8; rw [List.length_set]; exact hw.sl, sw := zbO hw.sw (r16 _) }, hi3⟩, .inl q⟩
 by_cases x9 : x = 9
 ·rcases Nat.eq_zero_or_pos T0.length with hT | hT
  ·have q := zi9 c i i1 i2 i3 h h1 h2 h3 x y hy (strE R) (lvE B) (strE S) (strE T0) (strE op) (strE sh) (strE si) (stE st) LL (K : Int) (need : Int) (ho : Int) (ep : Int) (a : Int) nm ro pr ⟨k1, k2, k3, k4⟩ (by omega) x9
   exact ⟨R, K, need, ho, nm, ep, ⟨B, S, T0, ⟨ho, ep, ro, pr⟩, ⟨a, op, sh, si⟩, st⟩, i3, h3, ⟨hRn, (by omega), hnm, hw, hi3⟩, .inl q⟩
  ·have ht2 : (T0.set 0 (List.replicate (16 - y % 2) (UInt8.ofNat y))).length ≤ 2 := by rw [List.length_set]; exact hw.tl
   have htw : ∀ z ∈ T0.set 0 (List.replicate (16 - y % 2) (UInt8.ofNat y)), z.length ≤ 16 := fun z hz => by
    rcases List.mem_or_eq_of_mem_set hz with q | q
    ·exact hw.tw z q
    ·rw [q, List.length_replicate]; omega
   have q := c_any9 c i i1 i2 i3 h h1 h2 h3 x y hy (strE R) (lvE B) (strE S) (strE T0) (strE op) (strE sh) (strE si) (stE st) LL (K : Int) (need : Int) (ho : Int) (ep : Int) (a : Int) nm ro pr ⟨k1, k2, k3, k4⟩ (by omega) T0[0] (zaQ hT) x9
   rw [← z7n] at q
   exact ⟨R, K, need, ho, nm, ep, ⟨B, S, T0.set 0 (List.replicate (16 - y % 2) (UInt8.ofNat y)), ⟨ho, ep, ro, pr⟩, ⟨a, op, sh, si⟩, st⟩, i3, h3, ⟨hRn, (by omega), hnm, { hw with tl := ht2, tw := htw }, hi3⟩, .inl q⟩
 by_cases x10 : x = 10
 ·have hlt : y % 8 < sh.length := by omega
  have q := zia c i i1 i2 i3 h h1 h2 h3 x y hy (strE R) (lvE B) (strE S) (strE T0) (strE op) (strE sh) (strE si) (stE st) LL (K : Int) (need : Int) (ho : Int) (ep : Int) (a : Int) nm ro pr ⟨k1, k2, k3, k4⟩ sh[y % 8] (zaQ hlt) x10
  rw [← z7n] at q
  exact ⟨R, K, need, ho, nm, ep, ⟨B, S, T0, ⟨ho, ep, ro, pr⟩, ⟨a, op, sh.set (y % 8) (List.replicate 16 (UInt8.ofNat y)), si⟩, st⟩, i3, h3, ⟨hRn, (by omega), hnm, { hw with sg := ⟨g1, ⟨g2, g3⟩, ⟨by show (sh.set _ _).length = 8; rw [List.length_set]; exact g4, zbO g5 (r16 _)⟩, g6, g7⟩ }, hi3⟩, .inl q⟩
 by_cases x11 : x = 11
 ·have hlt : y % 3 < R.length := by omega
  have q := zib c i i1 i2 i3 h h1 h2 h3 x y hy (strE R) (lvE B) (strE S) (strE T0) (strE op) (strE sh) (strE si) (stE st) LL (K : Int) (need : Int) (ho : Int) (ep : Int) (a : Int) nm ro pr ⟨k1, k2, k3, k4⟩ R[y % 3] (zaQ hlt) x11
  rw [← z7n] at q
  exact ⟨R.set (y % 3) (List.replicate 16 97), K, need, ho, nm, ep, ⟨B, S, T0, ⟨ho, ep, ro, pr⟩, ⟨a, op, sh, si⟩, st⟩, i3, h3, ⟨(by rw [List.length_set]; exact hRn), (by omega), hnm, hw, hi3⟩, .inl q⟩
 by_cases x12 : x = 12
 ·cases st with
  | nil => simp at hst2
  | cons s0 sr =>
    obtain ⟨b0, ⟨a0, o0, t0, u0⟩⟩ := s0
    have hs0 := hw.sh _ (List.mem_cons_self)
    obtain ⟨q1, ⟨q2, q3⟩, ⟨q4, q5⟩, q6, q7⟩ := hs0.2
    have q2 : o0.length = 8 := q2
    have hlt : y % 8 < o0.length := by omega
    have q := zid c i i1 i2 i3 h h1 h2 h3 x y hy (strE R) (lvE B) (strE S) (strE T0) (strE op) (strE sh) (strE si) (stE ((b0, ⟨a0, o0, t0, u0⟩) :: sr)) LL (K : Int) (need : Int) (ho : Int) (ep : Int) (a : Int) nm ro pr (b0 : Int) (a0 : Int) (strE o0) (strE t0) (strE u0) (stD sr) o0[y % 8] (zaQ hlt) ⟨k1, k2, k3, k4B⟩ x12
    rw [← z7n] at q
    have hsh : ∀ z ∈ (b0, (⟨a0, o0.set (y % 8) (List.replicate 16 (UInt8.ofNat y)), t0, u0⟩ : Sg)) :: sr, z.1 ≤ 3 ∧ z.2.good := fun z hz => by
     rcases List.mem_cons.1 hz with e | e
     ·rw [e]; exact ⟨hs0.1, q1, ⟨by show (o0.set _ _).length = 8; rw [List.length_set]; exact q2, zbO q3 (r16 _)⟩, ⟨q4, q5⟩, q6, q7⟩
     ·exact hw.sh z (List.mem_cons_of_mem _ e)
    exact ⟨R, K, need, ho, nm, ep, ⟨B, S, T0, ⟨ho, ep, ro, pr⟩, ⟨a, op, sh, si⟩, (b0, ⟨a0, o0.set (y % 8) (List.replicate 16 (UInt8.ofNat y)), t0, u0⟩) :: sr⟩, i3, h3, ⟨hRn, (by omega), hnm, { hw with sl2 := hw.sl2, sh := hsh }, hi3⟩, .inr q⟩
 by_cases x13 : x = 13
 ·have q := zic c i i1 i2 i3 h h1 h2 h3 x y hy (strE R) (lvE B) (strE S) (strE T0) (strE op) (strE sh) (strE si) (stE st) LL (K : Int) (need : Int) (ho : Int) (ep : Int) (a : Int) nm ro pr ⟨k1, k2, k3, k4⟩  x13
  exact ⟨R, K, need, ho, nm, ep, ⟨B, S, T0, ⟨ho, ep, List.replicate 16 (UInt8.ofNat y), pr⟩, ⟨a, op, sh, si⟩, st⟩, i3, h3, ⟨hRn, (by omega), hnm, { hw with hd := ⟨gh.1, gh.2.1, gh.2.2.1, r16 _, gh.2.2.2.2⟩ }, hi3⟩, .inl q⟩
 ·have q := c_anye c i i1 i2 i3 h h1 h2 h3 x y hy (strE R) (lvE B) (strE S) (strE T0) (strE op) (strE sh) (strE si) (stE st) LL (K : Int) (need : Int) (ho : Int) (ep : Int) (a : Int) nm ro pr ⟨k1, k2, k3, k4⟩ (by omega)
  exact ⟨R, K, need, ho, nm, ep, ⟨B, S, T0, ⟨ho, ep, ro, pr⟩, ⟨a, op, sh, si⟩, st⟩, i3, h3, ⟨hRn, (by omega), hnm, hw, hi3⟩, .inl q⟩
theorem whD_N {K need : Nat} {nm : Bs} {L : List Lf} {hd : Hd} (d : WhD K need nm L hd) : WhN (whD K nm L hd) ∧ (whD K nm L hd).B.length ≤ 9 ∧ (whD K nm L hd).st.length = 2 ∧ 0 < (whD K nm L hd).S.length := by
 have g := whD_ok d
 have hBl : (z0v L (ixB nm : Int)).length ≤ 9 := Nat.le_trans (List.length_filter_le _ _) d.len
 have hS := g.sl
 have hk := d.k
 have ht := g.tl
 refine ⟨⟨fun x hx => d.sm x (List.mem_filter.1 hx).1, by show (z0v L (ixB nm : Int)).length ≤ 20; omega, by omega, fun y hy => z4o (by omega) y hy, by omega, fun y hy => by have := g.tw y hy; omega, g.hd, g.sg, by have := g.st; omega, fun y hy => ?_⟩, hBl, g.st, by omega⟩
 obtain ⟨k, hk, rfl⟩ := List.getElem_of_mem hy
 have hk2 := g.st
 have q := g.sh k (by omega)
 have e : stAt (whD K nm L hd).st k = (whD K nm L hd).st[k] := by simp [stAt, List.getD, List.getElem?_eq_getElem hk]
 rw [e] at q
 exact ⟨by omega, q.2.2.1⟩
theorem z7o (c : Bs) (i : Nat) (h : Int) (hc : (c.length : Int) ≤ 1048576) (hi : i ≤ c.length) : ∃ (R : List Bs) (K need house : Int) (nm : Bs) (ep0 : Int) (x : Wh) (j : Nat) (h2 : Int), (R.length = 3 ∧ (-5 ≤ K ∧ K ≤ 5) ∧ nm.length ≤ 9 ∧ WhN x ∧ j ≤ c.length) ∧
 (CT Tryz.prog 15 [curE c i h] [.ptr 1 0 0] (.tup [.agg [.ref 2, .int .i64 K, .int .i64 need], .int .i64 house, .str nm, .int .i64 ep0, .agg (whE x)]) [curE c j h2, .row 1 (strE R)] ∨
  CT Tryz.prog 15 [curE c i h] [.ptr 1 0 0] (.tup [.agg [.ref 2, .int .i64 K, .int .i64 need], .int .i64 house, .str nm, .int .i64 ep0, .agg (whR3 x)]) [curE c j h2, .row 1 (strE R), .deep 5 (stD x.st) []]) := by
 obtain ⟨x, i1, h1, hx, hi1, k1⟩ := z15 c i h 20 hc hi (by omega)
 obtain ⟨y, i2, h2, hy, hi2, k2⟩ := z15 c i1 h1 60 hc hi1 (by omega)
 obtain ⟨K, need, nm, L, hd, i3, h3, ⟨⟨a1, a2⟩, ⟨a3, a4⟩, ⟨a5, a6, a7⟩, a8, a9⟩, hi3, k3⟩ := zdS c i2 h2 hc hi2
 have d : WhD K need nm L hd := ⟨a1, a2, a3, a4, a5, a6, a7, a8, a9⟩
 obtain ⟨q1, q2, q3, q4⟩ := whD_N d
 exact zgN c i i1 i2 i3 h h1 h2 h3 x y (by omega) (whD K nm L hd) q1 q2 q3 q4 K need a1 (z1z 3) (z45 3) nm a4 (lvE L) hi3 k1 k2 k3
structure WhZ (x : Wh) : Prop where
 b : x.B.length ≤ 1000
 s : x.S.length ≤ 1000
 t : x.T.length ≤ 1000
 g : x.sg.op.length ≤ 1000 ∧ x.sg.sh.length ≤ 1000 ∧ x.sg.si.length ≤ 1000
 st : x.st.length ≤ 1000
 sh : ∀ y ∈ x.st, y.2.op.length ≤ 1000 ∧ y.2.sh.length ≤ 1000 ∧ y.2.si.length ≤ 1000
section
attribute [local irreducible] z0t z0u z0y AnsP LeP W CvE
theorem z8j (s : Sg) (g : s.op.length ≤ 1000 ∧ s.sh.length ≤ 1000 ∧ s.si.length ≤ 1000) : CT Tryz.prog 56 [] [.agg (sgE s), .agg (sgE s)] (.bool true) [] := by
 obtain ⟨a, op, sh, si⟩ := s
 obtain ⟨h1, h2, h3⟩ := g
 simp only at h1 h2 h3
 have c1 := z9j op (by omega)
 have c2 := z9j sh (by omega)
 have c3 := z9j si (by omega)
 have e0 : (a : Int) = (a : Int) := rfl
 unfold sgE
 simp only
 refine z01 z0d 1 rfl Tryz.func56 rfl rfl rfl ?_
 conv => arg 6; whnf
 repeat ((try conv => whnf); first | (with_reducible first | refine z0b (fun Qs hN hE hR => ?_) | refine z09 ?_ | refine z03 (fun Qb kN kE kX kR => ?_) | refine z05 ?_ | refine z06 ?_ | refine z0a ?_ | refine z07 ?_ | refine z08 ?_ | (show W _ _ _ (.cond _ _ _) _ _; refine z04 rfl ?_) | (refine hN _ ?_; try clear hN hE hR Qs; (try (conv => arg 6; dsimp only [ovl, List.set, List.map, ren0]))) | ((first | refine hE _ _ ?_ | refine hR _ ?_); try clear hN hE hR Qs) | ((first | refine kN _ ?_ | refine kE _ ?_ | refine kX _ _ rfl ?_ | refine kR _ ?_); try clear kN kE kX kR Qb)) | (refine z0i e0 ?_) | (refine ccA ([]) (c1) ?_) | (refine ccA ([]) (c2) ?_) | (refine ccA ([]) (c3) ?_) | (refine And.intro (by kernel_rfl) ?_) | (refine stpQ ?_))
 (refine z00 (by rfl) ?_ ?_ (by rfl)) <;> (repeat' (first | (exact eqA) | (refine And.intro ?_ ?_) | ((fail_if_success (with_reducible (show _ = _))); (show _ = _))))
theorem zbP (h : Hd) (s : Sg) (g : s.op.length ≤ 1000 ∧ s.sh.length ≤ 1000 ∧ s.si.length ≤ 1000) : CT Tryz.prog 55 [] [.agg (hdE h ++ sgE s), .agg (hdE h ++ sgE s)] (.bool true) [] := by
 have c1 := z8j s g
 obtain ⟨a, op, sh, si⟩ := s
 obtain ⟨ho, ep, ro, pr⟩ := h
 have e0 := eq_hd ⟨ho, ep, ro, pr⟩
 unfold hdE sgE at *
 simp only [List.cons_append, List.nil_append] at *
 refine z01 z0d 1 rfl Tryz.func55 rfl rfl rfl ?_
 conv => arg 6; whnf
 repeat ((try conv => whnf); first | (with_reducible first | refine z0b (fun Qs hN hE hR => ?_) | refine z09 ?_ | refine z03 (fun Qb kN kE kX kR => ?_) | refine z05 ?_ | refine z06 ?_ | refine z0a ?_ | refine z07 ?_ | refine z08 ?_ | (show W _ _ _ (.cond _ _ _) _ _; refine z04 rfl ?_) | (refine hN _ ?_; try clear hN hE hR Qs; (try (conv => arg 6; dsimp only [ovl, List.set, List.map, ren0]))) | ((first | refine hE _ _ ?_ | refine hR _ ?_); try clear hN hE hR Qs) | ((first | refine kN _ ?_ | refine kE _ ?_ | refine kX _ _ rfl ?_ | refine kR _ ?_); try clear kN kE kX kR Qb)) | (refine cb_t e0 ?_) | (refine ccA ([]) (c1) ?_) | (refine And.intro (by kernel_rfl) ?_) | (refine stpQ ?_))
 (refine z00 (by rfl) ?_ ?_ (by rfl)) <;> (repeat' (first | (exact eqA) | (refine And.intro ?_ ?_) | ((fail_if_success (with_reducible (show _ = _))); (show _ = _))))
theorem zcT (x : Wh) (g : WhZ x) : CT Tryz.prog 12 [] [.agg (whE x), .agg (whE x)] (.bool true) [] := by
 have c1 := zbz x.B x.B x.S x.S (by have := g.b; omega) (by have := g.b; omega) (by have := g.s; omega) (by have := g.s; omega)
 rw [decide_eq_true rfl, decide_eq_true rfl] at c1
 have c2 := z9j x.T (by have := g.t; omega)
 have c3 := zbP x.hd x.sg g.g
 have gst := g.st
 have hst := z3V x.st
 have sok : ∀ k, k < x.st.length → ∃ (b : Nat) (s : Sg), (stE x.st)[k]? = some (T.int .i64 (b : Int) :: sgE s) ∧ CT Tryz.prog 56 [] [.agg (sgE s), .agg (sgE s)] (.bool true) [] := fun k hk =>
  ⟨_, _, zi5 hk, z8j _ (by
    have e : stAt x.st k = x.st[k] := by simp [stAt, List.getD, List.getElem?_eq_getElem hk]
    rw [e]; exact g.sh _ (List.getElem_mem hk))⟩
 clear g
 obtain ⟨B, S, T0, ⟨ho, ep, ro, pr⟩, ⟨sa, so, ss, si⟩, st⟩ := x
 simp only at gst c1 c2 c3 hst sok
 show CT _ _ _ [.agg [.sl 2 (lvE B), .sl 1 (strE S), .sl 1 (strE T0), .int .i64 (ho : Int), .int .i64 (ep : Int), .str ro, .str pr, .int .i64 (sa : Int), .sl 1 (strE so), .sl 1 (strE ss), .sl 1 (strE si), .sl 5 (stE st)], .agg [.sl 2 (lvE B), .sl 1 (strE S), .sl 1 (strE T0), .int .i64 (ho : Int), .int .i64 (ep : Int), .str ro, .str pr, .int .i64 (sa : Int), .sl 1 (strE so), .sl 1 (strE ss), .sl 1 (strE si), .sl 5 (stE st)]] _ _
 generalize stE st = ST at hst sok ⊢
 unfold hdE sgE at c3
 simp only [List.cons_append, List.nil_append] at c3
 have r1 : (st.length : Int) = (st.length : Int) := rfl
 refine z01 z0d 1 rfl Tryz.func12 rfl rfl rfl ?_
 conv => arg 6; whnf
 repeat ((try conv => whnf); first | (with_reducible first | refine z0b (fun Qs hN hE hR => ?_) | refine z09 ?_ | refine z03 (fun Qb kN kE kX kR => ?_) | refine z05 ?_ | refine z06 ?_ | refine z0a ?_ | refine z07 ?_ | refine z08 ?_ | (show W _ _ _ (.cond _ _ _) _ _; refine z04 rfl ?_) | (refine hN _ ?_; try clear hN hE hR Qs; (try (conv => arg 6; dsimp only [ovl, List.set, List.map, ren0]))) | ((first | refine hE _ _ ?_ | refine hR _ ?_); try clear hN hE hR Qs) | ((first | refine kN _ ?_ | refine kE _ ?_ | refine kX _ _ rfl ?_ | refine kR _ ?_); try clear kN kE kX kR Qb)) | (refine ccA ([]) (c1) ?_) | (refine ccA ([]) (c2) ?_) | (refine ccA ([]) (c3) ?_) | (refine Exists.intro st.length (And.intro hst ?_)) | (refine z1C r1 ?_) | (refine And.intro (by kernel_rfl) ?_) | (refine stpQ ?_))
 refine z0h 0 ⟨[], [], 1⟩ Nat (fun k => ⟨[(2, .ptr 1 0 0), (3, .ptr 2 0 0), (5, .int .i64 (k : Int))], [(1, some (.box [.sl 2 (lvE B), .sl 1 (strE S), .sl 1 (strE T0), .int .i64 (ho : Int), .int .i64 (ep : Int), .str ro, .str pr, .int .i64 (sa : Int), .sl 1 (strE so), .sl 1 (strE ss), .sl 1 (strE si), .sl 5 ST])), (2, some (.box [.sl 2 (lvE B), .sl 1 (strE S), .sl 1 (strE T0), .int .i64 (ho : Int), .int .i64 (ep : Int), .str ro, .str pr, .int .i64 (sa : Int), .sl 1 (strE so), .sl 1 (strE ss), .sl 1 (strE si), .sl 5 ST]))], 3⟩) (fun k => k ≤ st.length) (fun k => st.length - k) 0 (by omega) ?_ ?_ ?_
 ·(refine z02 (by rfl) ?_ ?_) <;> (repeat' (first | (exact eqA) | (refine And.intro ?_ ?_) | ((fail_if_success (with_reducible (show _ = _))); (show _ = _)))) <;> first | rfl | decide
 ·intro k hk
  by_cases hlt : k < st.length
  ·have hk2 : (k : Int) < (st.length : Int) := by omega
   obtain ⟨b, s, gs, cs⟩ := sok k hlt
   obtain ⟨s1, s2, s3, s4⟩ := s
   have eb : (b : Int) = (b : Int) := rfl
   unfold sgE at gs cs
   repeat ((try conv => whnf); first | (with_reducible first | refine z0b (fun Qs hN hE hR => ?_) | refine z09 ?_ | refine z03 (fun Qb kN kE kX kR => ?_) | refine z05 ?_ | refine z06 ?_ | refine z0a ?_ | refine z07 ?_ | refine z08 ?_ | (show W _ _ _ (.cond _ _ _) _ _; refine z04 rfl ?_) | (refine hN _ ?_; try clear hN hE hR Qs; (try (conv => arg 6; dsimp only [ovl, List.set, List.map, ren0]))) | ((first | refine hE _ _ ?_ | refine hR _ ?_); try clear hN hE hR Qs) | ((first | refine kN _ ?_ | refine kE _ ?_ | refine kX _ _ rfl ?_ | refine kR _ ?_); try clear kN kE kX kR Qb)) | (refine Exists.intro st.length (And.intro hst ?_)) | (refine z0i hk2 ?_) | (refine i_at gs ?_) | (refine z1C eb ?_) | (refine ccA ([]) (cs) ?_) | (refine And.intro (by kernel_rfl) ?_) | (refine stpQ ?_))
   refine ⟨k + 1, by omega, by omega, ?_⟩
   (refine z02 (by rfl) ?_ ?_) <;> (repeat' (first | (exact eqA) | (refine And.intro ?_ ?_) | ((fail_if_success (with_reducible (show _ = _))); (show _ = _))))
  ·obtain rfl : k = st.length := by omega
   have hk2 : ¬ (st.length : Int) < (st.length : Int) := by omega
   repeat ((try conv => whnf); first | (with_reducible first | refine z0b (fun Qs hN hE hR => ?_) | refine z09 ?_ | refine z03 (fun Qb kN kE kX kR => ?_) | refine z05 ?_ | refine z06 ?_ | refine z0a ?_ | refine z07 ?_ | refine z08 ?_ | (show W _ _ _ (.cond _ _ _) _ _; refine z04 rfl ?_) | (refine hN _ ?_; try clear hN hE hR Qs; (try (conv => arg 6; dsimp only [ovl, List.set, List.map, ren0]))) | ((first | refine hE _ _ ?_ | refine hR _ ?_); try clear hN hE hR Qs) | ((first | refine kN _ ?_ | refine kE _ ?_ | refine kX _ _ rfl ?_ | refine kR _ ?_); try clear kN kE kX kR Qb)) | (refine Exists.intro st.length (And.intro hst ?_)) | (refine z0k hk2 ?_) | (refine And.intro (by kernel_rfl) ?_) | (refine stpQ ?_))
   (refine z02 (by rfl) ?_ ?_) <;> (repeat' (first | (exact eqA) | (refine And.intro ?_ ?_) | ((fail_if_success (with_reducible (show _ = _))); (show _ = _))))
 ·repeat ((try conv => whnf); first | (with_reducible first | refine z0b (fun Qs hN hE hR => ?_) | refine z09 ?_ | refine z03 (fun Qb kN kE kX kR => ?_) | refine z05 ?_ | refine z06 ?_ | refine z0a ?_ | refine z07 ?_ | refine z08 ?_ | (show W _ _ _ (.cond _ _ _) _ _; refine z04 rfl ?_) | (refine hN _ ?_; try clear hN hE hR Qs; (try (conv => arg 6; dsimp only [ovl, List.set, List.map, ren0]))) | ((first | refine hE _ _ ?_ | refine hR _ ?_); try clear hN hE hR Qs) | ((first | refine kN _ ?_ | refine kE _ ?_ | refine kX _ _ rfl ?_ | refine kR _ ?_); try clear kN kE kX kR Qb)) | (refine And.intro (by kernel_rfl) ?_) | (refine stpQ ?_))
  (refine z00 (by rfl) ?_ ?_ (by rfl)) <;> (repeat' (first | (exact eqA) | (refine And.intro ?_ ?_) | ((fail_if_success (with_reducible (show _ = _))); (show _ = _))))
end
theorem zgO {x : Wh} (g : WhGood x) : WhZ x := by
 obtain ⟨p1, p2, p3, _, _⟩ := z1o.1 g.pf
 obtain ⟨k1, k2, _⟩ := z0K p1
 obtain ⟨g1, ⟨g2, g3⟩, ⟨g4, g5⟩, g6, g7⟩ := g.sg
 refine ⟨by omega, by omega, by have := g.tl; omega, by omega, by have := g.sl; omega, fun y hy => ?_⟩
 obtain ⟨q1, ⟨q2, q3⟩, ⟨q4, q5⟩, q6, q7⟩ := (g.sh y hy).2
 omega
theorem zim (s : Bs) (hs : s.length ≤ 1000000) : ∃ (ok : Bool) (D1 D2 D3 D4 D5 D6 D7 E1 E2 E3 E4 E5 E6 E7 : List (List T)) (wo we wa : Int) (wr wp : Bs),
 CT Tryz.prog 9 [] [.str s] (.tup [.agg [.ref 1, .ref 2, .ref 3, .int .i64 wo, .int .i64 we, .str wr, .str wp, .int .i64 wa, .ref 4, .ref 5, .ref 6, .ref 7], .bool ok]) [.deep 2 D1 [], .deep 1 D2 [], .deep 1 D3 [], .deep 1 D4 [], .deep 1 D5 [], .deep 1 D6 [], .deep 5 D7 []] ∧
 CT Tryz.prog 10 [] [.str s] (.tup [.agg [.sl 2 E1, .sl 1 E2, .sl 1 E3, .int .i64 wo, .int .i64 we, .str wr, .str wp, .int .i64 wa, .sl 1 E4, .sl 1 E5, .sl 1 E6, .sl 5 E7], .bool ok]) [] ∧
 CT Tryz.prog 12 [] [.agg [.sl 2 (ucE D1), .sl 1 (ucE D2), .sl 1 (ucE D3), .int .i64 wo, .int .i64 we, .str wr, .str wp, .int .i64 wa, .sl 1 (ucE D4), .sl 1 (ucE D5), .sl 1 (ucE D6), .sl 5 (ucE D7)], .agg [.sl 2 E1, .sl 1 E2, .sl 1 E3, .int .i64 wo, .int .i64 we, .str wr, .str wp, .int .i64 wa, .sl 1 E4, .sl 1 E5, .sl 1 E6, .sl 5 E7]] (.bool true) [] := by
 by_cases hx : ∃ x, WhGood x ∧ s = z1V x
 ·obtain ⟨x, g, rfl⟩ := hx
  have s1 := z9h x g
  have s2 := zaJ x g (z2x g.pf)
  have s3 := zcT x (zgO g)
  obtain ⟨B, S, T0, ⟨ho, ep, ro, pr⟩, ⟨a, op, sh, si⟩, st⟩ := x
  refine ⟨true, lvE B, strE S, strE T0, strE op, strE sh, strE si, stD st, lvE B, strE S, strE T0, strE op, strE sh, strE si, stE st, ho, ep, a, ro, pr, s2, s1, ?_⟩
  rw [ucv_lf, z9f, z9f, z9f, z9f, z9f, zcS]
  exact s3
 ·have hn : ∀ x, WhGood x → s ≠ z1V x := fun x g e => hx ⟨x, g, e⟩
  have s1 := z9i s (by omega) hn
  have s2 := zaL s (by omega) hn
  have s3 := zcT ⟨[], [], [], ⟨0, 0, [], []⟩, ⟨0, [], [], []⟩, []⟩ ⟨by simp, by simp, by simp, by simp, by simp, fun y hy => by cases hy⟩
  refine ⟨false, [], [], [], [], [], [], [], [], [], [], [], [], [], [], 0, 0, 0, [], [], s2, s1, ?_⟩
  simp only [ucE]
  exact s3
section
attribute [local irreducible] z0t z0u z0y AnsP LeP W CvE
theorem zin (c : Bs) (cb : CT Tryz.prog 4 [] [.sl 1 (z0f c)] (.bool true) []) : CT Tryz.prog 3 [] [.sl 1 (z0f c)] (.bool true) [] := by
 refine z01 z0d 1 rfl Tryz.func3 rfl rfl rfl ?_
 conv => arg 6; whnf
 repeat ((try conv => whnf); first | (with_reducible first | refine z0b (fun Qs hN hE hR => ?_) | refine z09 ?_ | refine z03 (fun Qb kN kE kX kR => ?_) | refine z05 ?_ | refine z06 ?_ | refine z0a ?_ | refine z07 ?_ | refine z08 ?_ | (show W _ _ _ (.cond _ _ _) _ _; refine z04 rfl ?_) | (refine hN _ ?_; try clear hN hE hR Qs; (try (conv => arg 6; dsimp only [ovl, List.set, List.map, ren0]))) | ((first | refine hE _ _ ?_ | refine hR _ ?_); try clear hN hE hR Qs) | ((first | refine kN _ ?_ | refine kE _ ?_ | refine kX _ _ rfl ?_ | refine kR _ ?_); try clear kN kE kX kR Qb)) | (refine ccA ([]) (cb) ?_) | (refine And.intro (by kernel_rfl) ?_) | (refine stpQ ?_))
 (refine z00 (by rfl) ?_ ?_ (by rfl)) <;> (repeat' (first | (exact eqA) | (refine And.intro ?_ ?_) | ((fail_if_success (with_reducible (show _ = _))); (show _ = _))))
end
theorem zio (c : Bs) : CT Tryz.prog 3 [] [.sl 1 (z0f c)] (.bool true) [] := by
 have cb := c_big c
 by_cases hc : (c.length : Int) ≤ 1048576
 rotate_left
 ·rw [decide_eq_true (show (1048576 : Int) < (c.length : Int) by omega)] at cb
  exact zin c cb
 rw [decide_eq_false (show ¬ (1048576 : Int) < (c.length : Int) by omega)] at cb
 obtain ⟨h, k0⟩ := zgh c hc
 obtain ⟨s, hs, c3⟩ : ∃ s : Bs, s.length ≤ 100001 ∧ CT Tryz.prog 8 [] [.sl 1 (z0f c)] (.str s) [] := by
  obtain ⟨x, i1, h1, hx, hi1, kx⟩ := z15 c 0 h 4 hc (by omega) (by omega)
  obtain ⟨R, K, need, house, nm, ep0, w, j, h2, ⟨hRn, hK, hnm, hw, hj⟩, kA⟩ := z7o c i1 h1 hc hi1
  obtain ⟨t, b, ht, kt⟩ := z9l w hw
  rcases kA with k | k
  ·exact c_drA c hc j i1 x h h1 h2 hj (strE R) (lvE w.B) (strE w.S) (strE w.T) (strE w.sg.op) (strE w.sg.sh) (strE w.sg.si) (stE w.st) [] (w.hd.ho : Int) (w.hd.ep : Int) (w.sg.a : Int) w.hd.ro w.hd.pr K need house ep0 nm k0 kx k t b ht kt
  ·have kt2 : CT Tryz.prog 34 [] [.agg [.sl 2 (lvE w.B), .sl 1 (strE w.S), .sl 1 (strE w.T), .int .i64 (w.hd.ho : Int), .int .i64 (w.hd.ep : Int), .str w.hd.ro, .str w.hd.pr, .int .i64 (w.sg.a : Int), .sl 1 (strE w.sg.op), .sl 1 (strE w.sg.sh), .sl 1 (strE w.sg.si), .sl 5 (ucE (stD w.st))]] (.tup [.str t, .bool b]) [] := by rw [zcS]; exact kt
   exact c_drB c hc j i1 x h h1 h2 hj (strE R) (lvE w.B) (strE w.S) (strE w.T) (strE w.sg.op) (strE w.sg.sh) (strE w.sg.si) [] (stD w.st) (w.hd.ho : Int) (w.hd.ep : Int) (w.sg.a : Int) w.hd.ro w.hd.pr K need house ep0 nm k0 kx k t b ht kt2
 obtain ⟨R2, K2, need2, hR2, c7⟩ : ∃ (R2 : List Bs) (K2 need2 : Int), R2.length ≤ 1000 ∧ CT Tryz.prog 11 [] [.sl 1 (z0f c)] (.agg [.sl 1 (strE R2), .int .i64 K2, .int .i64 need2]) [] := by
  obtain ⟨x, i1, h1, hx, hi1, kx⟩ := z15 c 0 h 6 hc (by omega) (by omega)
  obtain ⟨R, K, need, house, nm, ep0, w, j, h2, ⟨hRn, hK, hnm, hw, hj⟩, kA⟩ := z7o c i1 h1 hc hi1
  rcases kA with k | k
  ·obtain ⟨R', q1, q2⟩ := c_dtA c j i1 x h h1 h2 R hRn (lvE w.B) (strE w.S) (strE w.T) (strE w.sg.op) (strE w.sg.sh) (strE w.sg.si) (stE w.st) [] (w.hd.ho : Int) (w.hd.ep : Int) (w.sg.a : Int) w.hd.ro w.hd.pr K need house ep0 nm k0 kx k
   exact ⟨R', K, need, q1, q2⟩
  ·obtain ⟨R', q1, q2⟩ := c_dtB c j i1 x h h1 h2 R hRn (lvE w.B) (strE w.S) (strE w.T) (strE w.sg.op) (strE w.sg.sh) (strE w.sg.si) [] (stD w.st) (w.hd.ho : Int) (w.hd.ep : Int) (w.sg.a : Int) w.hd.ro w.hd.pr K need house ep0 nm k0 kx k
   exact ⟨R', K, need, q1, q2⟩
 have c8 := z8c R2 K2 need2 hR2
 have c9 := z7i R2 K2 need2 hR2
 obtain ⟨ok, D1, D2, D3, D4, D5, D6, D7, E1, E2, E3, E4, E5, E6, E7, wo, we, wa, wr, wp, c4, c5, c6⟩ := zim s (by omega)
 obtain ⟨R, K, need, house, nm, ep0, w, j, h2, ⟨hRn, hK, hnm, hw, hj⟩, kA⟩ := z7o c 0 h hc (by omega)
 obtain ⟨v, has, no, hno, c1, c2⟩ := z9k R K need house nm ep0 w hRn hK hnm hw
 rcases kA with k | k
 ·have cD := c_dvA c j h h2 (strE R) (lvE w.B) (strE w.S) (strE w.T) (strE w.sg.op) (strE w.sg.sh) (strE w.sg.si) (stE w.st) [] (w.hd.ho : Int) (w.hd.ep : Int) (w.sg.a : Int) w.hd.ro w.hd.pr K need house ep0 nm k0 k
  by_cases h0 : no = 0
  ·subst h0
   exact zfC c cb (strE R) (lvE w.B) (strE w.S) (strE w.T) (strE w.sg.op) (strE w.sg.sh) (strE w.sg.si) (stE w.st) [] (w.hd.ho : Int) (w.hd.ep : Int) (w.sg.a : Int) w.hd.ro w.hd.pr K need house ep0 nm _ K2 need2 ok _ s v has D1 D2 D3 D4 D5 D6 D7 E1 E2 E3 E4 E5 E6 E7 wo we wa wr wp cD c1 c2 c3 c4 c5 c6 c7 c8 c9
  ·obtain ⟨rfl, rfl⟩ := hno.resolve_left h0
   exact zfD c cb (strE R) (lvE w.B) (strE w.S) (strE w.T) (strE w.sg.op) (strE w.sg.sh) (strE w.sg.si) (stE w.st) [] (w.hd.ho : Int) (w.hd.ep : Int) (w.sg.a : Int) w.hd.ro w.hd.pr K need house ep0 nm _ K2 need2 ok _ s no h0 D1 D2 D3 D4 D5 D6 D7 E1 E2 E3 E4 E5 E6 E7 wo we wa wr wp cD c1 c2 c3 c4 c5 c6 c7 c8 c9
 ·have cD := c_dvB c j h h2 (strE R) (lvE w.B) (strE w.S) (strE w.T) (strE w.sg.op) (strE w.sg.sh) (strE w.sg.si) [] (stD w.st) (w.hd.ho : Int) (w.hd.ep : Int) (w.sg.a : Int) w.hd.ro w.hd.pr K need house ep0 nm k0 k
  have eW : whE w = [.sl 2 (lvE w.B), .sl 1 (strE w.S), .sl 1 (strE w.T), .int .i64 (w.hd.ho : Int), .int .i64 (w.hd.ep : Int), .str w.hd.ro, .str w.hd.pr, .int .i64 (w.sg.a : Int), .sl 1 (strE w.sg.op), .sl 1 (strE w.sg.sh), .sl 1 (strE w.sg.si), .sl 5 (ucE (stD w.st))] := by rw [zcS]; rfl
  rw [eW] at c1 c2
  by_cases h0 : no = 0
  ·subst h0
   exact zfE c cb (strE R) (lvE w.B) (strE w.S) (strE w.T) (strE w.sg.op) (strE w.sg.sh) (strE w.sg.si) [] (stD w.st) (w.hd.ho : Int) (w.hd.ep : Int) (w.sg.a : Int) w.hd.ro w.hd.pr K need house ep0 nm _ K2 need2 ok _ s v has D1 D2 D3 D4 D5 D6 D7 E1 E2 E3 E4 E5 E6 E7 wo we wa wr wp cD c1 c2 c3 c4 c5 c6 c7 c8 c9
  ·obtain ⟨rfl, rfl⟩ := hno.resolve_left h0
   exact zfF c cb (strE R) (lvE w.B) (strE w.S) (strE w.T) (strE w.sg.op) (strE w.sg.sh) (strE w.sg.si) [] (stD w.st) (w.hd.ho : Int) (w.hd.ep : Int) (w.sg.a : Int) w.hd.ro w.hd.pr K need house ep0 nm _ K2 need2 ok _ s no h0 D1 D2 D3 D4 D5 D6 D7 E1 E2 E3 E4 E5 E6 E7 wo we wa wr wp cD c1 c2 c3 c4 c5 c6 c7 c8 c9
end Go.Proofs.YtgmbkbggnlponaaGreatDoor
