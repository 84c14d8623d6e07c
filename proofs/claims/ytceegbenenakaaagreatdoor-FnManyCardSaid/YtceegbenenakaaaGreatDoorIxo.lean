/- Functions by content: the indexes of names, by the program: a set in a map, a row that grows and is sorted. -/
import Derived.Maps.OwnOps
import Derived.Maps.AppendAt
import Derived.Maps.Views
import Derived.WalkKit
import Derived.Test.YtceegbenenakaaaGreatDoorSoi
import Derived.Test.YtceegbenenakaaaGreatDoorPlainBl
import Derived.Test.YtceegbenenakaaaGreatDoorHb
import Derived.Test.YtceegbenenakaaaGreatDoorXt
import Derived.Test.YtceegbenenakaaaGreatDoorOcw
namespace Go.Proofs.YtceegbenenakaaaGreatDoor
set_option linter.unusedVariables false
set_option linter.unusedSimpArgs false
set_option linter.unusedSectionVars false
open Go.RowKit Go.Maps Pl
def MpIx (D : DataW Unit) (l : List Int) : Prop := IsMap D ∧ ∀ x, D.atKey (.int .i64 x) (.lit (.int .i64 0)) = .lit (.int .i64 (if l.contains x then 1 else 0))
theorem zcz : MpIx (.map []) [] := ⟨isMap_empty, fun x => by rw [atKey_of_not_has rfl]; rfl⟩
theorem zcA {D : DataW Unit} {l : List Int} {x : Int} (h : MpIx D l) : MpIx (D.put (.int .i64 x) (.lit (.int .i64 1))) (l ++ [x]) :=
 ⟨h.1.put _ _, fun y => by
   by_cases e : y = x
   ·subst e
    rw [atKey_put_same (k := .int .i64 y) h.1 trivial]
    simp
   ·rw [atKey_put_other (by simp [e]), h.2 y]
    simp [e]⟩
def ixL (nm : Nat → Bs) (k : Nat) : List Int := (List.range k).map fun i => (ixB (nm i) : Int)
theorem z9f (nm : Nat → Bs) (k : Nat) : ixL nm (k + 1) = ixL nm k ++ [(ixB (nm k) : Int)] := by simp [ixL, List.range_succ]
def NmRd (w : World) (A : Option Addr) (n : Nat) (nm : Nat → Bs) : Prop := ∀ k, k < n → ∃ b off, A = some ⟨b, off, none⟩ ∧ b < w.heap.size ∧ w.cell? ⟨b, off + k, none⟩ = some (.string (bs (nm k)))
theorem ze0 : Keyed Tryz.prog 3 := int_keyed Tryz.underlying3
theorem zdd (w : World) : (zeroValue 3).run Tryz.prog w = .ok (.int .i64 0) w := by kernel_rfl
theorem infoIx : (Tryz.prog.info? 3).map (fun i => (i.zero, i.size, i.bytes)) = some (some (.int .i64 0), 1, 8) := by kernel_rfl
theorem zbi {w : World} {base : Nat} {e : TypeId} {size : Nat} {v : Value} {n : Nat} {xs : List Value} (h : w.ownsRow base e size v n xs) {b : Nat} (hb : b < base) : some b ≠ v.ownBlock := fun e1 => by
 have := (h.lt b e1.symm).1
 omega
theorem z9g (nm : Nat → Bs) : ∀ k, (z1G (ixL nm k)).length ≤ k
 | 0 => by simp [z1G, ixL]
 | k + 1 => by
   have h1 := z9g nm k
   rw [z9f, z5v]
   unfold addH
   split
   ·omega
   ·rw [List.length_append]; simp; omega
theorem ix_wf {n : Nat} (h : n < 256) : (Lit.int .i64 ((n : Nat) : Int)).wf = true := by
 show (decide (-9223372036854775808 ≤ ((n : Nat) : Int)) && decide (((n : Nat) : Int) ≤ 9223372036854775807)) = true
 rw [decide_eq_true (by omega), decide_eq_true (by omega)]; rfl
theorem gB {w w' : World} (h : Below w.heap.size w w') : w.grownBy w' none := ⟨h.os, h.tape, h.output, h.size, fun k hk _ => h.block k hk⟩
theorem z9h {B : Nat} {a w w' : World} (h : Below B a w) (hB : B ≤ w.heap.size) (k : Below w.heap.size w w') : Below B a w' := h.trans ⟨k.os, k.tape, k.output, k.size, fun i hi => k.block i (Nat.lt_of_lt_of_le hi hB)⟩
theorem zcB {w w' : World} (h : Gl (cx0 w)) (hb : Below w.heap.size w w') : Gl (cx0 w') := Gl.mono (X := cx0 w) (X' := cx0 w') (fun g (hg : g < w.heap.size) hn => ⟨hn, hb.block g hg⟩) h
theorem cIx (t : Bs) (w : World) (hg : Gl (cx0 w)) (ht : (t.length : Int) ≤ 100000000) : Calls Tryz.prog 41 #[.string (bs t)] w fun e w' => e = .returned (.int .i64 (ixB t : Int)) ∧ Below w.heap.size w w' := by
 refine ((z3i t ht).2 (cx0 w) (zdc w hg) rfl rfl [.string (bs t)] ⟨_, _, rfl, rfl, rfl⟩).mono ?_
 rintro e w' ⟨v, X', rfl, rfl, _, _, _, hv, hs⟩
 have hv : v = .int .i64 (ixB t : Int) := by simpa only [RS, RS1, RS0, RV] using hv
 subst hv
 exact ⟨rfl, ⟨hs.os, hs.tape, hs.output, hs.size, fun k hk => (hs.stab k hk rfl).2⟩⟩
set_option maxHeartbeats 8000000 in
set_option maxRecDepth 100000 in
theorem z7Y (A : Option Addr) (n c : Nat) (nm : Nat → Bs) (w : World) (hg : Gl (cx0 w)) (hn : n ≤ 1048576) (hA : NmRd w A n nm) (hl : ∀ k, k < n → ((nm k).length : Int) ≤ 100000000) :
 Calls Tryz.prog 35 #[.slice A n c] w fun e w' => ∃ v, e = .returned v ∧ w'.ownsRow (w.heap.size + 1) 3 1 v (z1G (ixL nm n)).length (((z1G (ixL nm n)).mergeSort fun x y => decide (x ≤ y)).map (Value.int .i64)) ∧ Below w.heap.size w w' := by
 have hmm := @run_makeMap Tryz.prog
 obtain ⟨i0, hi, hz0, hz1, hz2⟩ := info_parts infoIx
 go_enter Tryz.func35, Tryz.ntmps35
 go_wp2
 go_loopw [4, 11] (fun v i wr => ∃ (k : Nat) (D : DataW Unit), k ≤ n ∧ i = .int .i64 k ∧ wr.ownsMap Tryz.prog 3 (plainElem Tryz.prog 3) w.heap.size k D ∧ Hid (MpIx D (z1G (ixL nm k))) ∧ wr.ownsRow (w.heap.size + 1) 3 1 v (z1G (ixL nm k)).length ((z1G (ixL nm k)).map (Value.int .i64)) ∧ Below w.heap.size w wr ∧ w.heap.size + 1 ≤ wr.heap.size)
  (fun _ i _ => n - (intOf i).toNat)
 case atStart => exact ⟨0, _, Nat.zero_le _, rfl, World.ownsMap_made _ _ _ _, Lib.hid (by simpa [z1G, ixL] using zcz), by simpa [z1G, ixL] using World.ownsRow_nil _ _ _ _, (Below.refl _ _).alloc (Nat.le_refl _) _, by simp⟩
 case round =>
  obtain ⟨k, D, hk, rfl, hown, HM, hrow, hnx, hws⟩ := hrel
  rename_i wr _
  have hle := z9g nm k
  by_cases hin : k < n
  ·obtain ⟨b, off, rfl, hb, q0⟩ := hA k hin
   have a0 := (hnx.cell (p := ⟨b, off + k, none⟩) hb).trans q0
   clear q0
   have hix := zd9 (nm k)
   have hkey : keyOf Tryz.prog 3 (.int .i64 ((ixB (nm k) : Nat) : Int)) = some (.int .i64 ((ixB (nm k) : Nat) : Int)) := keyOf_int_mk Tryz.underlying3 (ix_wf hix)
   have hadd : z1G (ixL nm (k + 1)) = addH (z1G (ixL nm k)) ((ixB (nm k) : Nat) : Int) := by rw [z9f, z5v]
   have HA := Lib.hid hadd
   clear hadd
   have hcl := cIx (nm k) wr (zcB hg hnx) (hl k hin)
   by_cases hs : (z1G (ixL nm k)).contains ((ixB (nm k) : Nat) : Int) = true
   ·have hcc : ∀ c, D.atKey (.int .i64 ((ixB (nm k) : Nat) : Int)) (.lit (.int .i64 0)) = .lit (.int .i64 c) → c = 1 := fun c h => by
     rw [HM.out.2, if_pos hs] at h
     simpa using h.symm
    have HC := Lib.hid hcc
    have HS := Lib.hid hs
    clear hcc hs
    generalize ((ixB (nm k) : Nat) : Int) = x at hcl hkey HA HC HS
    generalize nm k = u at a0 hcl
    go_wp2_with (first
     | (go_at_call 41; refine hcl.mono ?_; rintro e w2 ⟨rfl, hb2⟩)
     | (at_lookup; refine wpList_lookup_own_int _ rfl _ _ 111 rfl 3 3 .i64 ze0 Tryz.underlying111 Tryz.underlying3 (zdd _) w.heap.size k D rfl (hown.kept (gB hb2) (by simp)) _ _ rfl hkey ?_; intro c hat hwc; obtain rfl := HC.out c hat; clear hat hwc)
     | go_in)
    have hg2 := gB hb2
    have s0 := hb2.size
    go_roundw
    case rel =>
     have e : z1G (ixL nm (k + 1)) = z1G (ixL nm k) := by rw [HA.out, addH, if_pos HS.out]
     refine ⟨k + 1, D, by omega, by go_num, (hown.kept hg2 (by simp)).mono (Nat.le_succ _), ?_, ?_, z9h hnx (by omega) hb2, by omega⟩
     ·rw [e]; exact HM
     ·rw [e]; exact hrow.kept hg2 (Classical.em _)
    case measure => simp [intOf]; omega
   ·have hs : (z1G (ixL nm k)).contains ((ixB (nm k) : Nat) : Int) = false := by simpa using hs
    have hcc : ∀ c, D.atKey (.int .i64 ((ixB (nm k) : Nat) : Int)) (.lit (.int .i64 0)) = .lit (.int .i64 c) → c = 0 := fun c h => by
     rw [HM.out.2, if_neg (by rw [hs]; decide)] at h
     simpa using h.symm
    have HC := Lib.hid hcc
    have HS := Lib.hid hs
    clear hcc hs
    generalize ((ixB (nm k) : Nat) : Int) = x at hcl hkey HA HC HS
    generalize nm k = u at a0 hcl
    go_wp2_with (first
     | (go_at_call 41; refine hcl.mono ?_; rintro e w2 ⟨rfl, hb2⟩)
     | (at_lookup; refine wpList_lookup_own_int _ rfl _ _ 111 rfl 3 3 .i64 ze0 Tryz.underlying111 Tryz.underlying3 (zdd _) w.heap.size k D rfl (hown.kept (gB hb2) (by simp)) _ _ rfl hkey ?_; intro c hat hwc; obtain rfl := HC.out c hat; clear hat hwc)
     | (at_mapUpdate; refine wpList_mapUpdate_own _ rfl _ _ _ 111 rfl 3 3 ze0 Tryz.underlying111 _ w.heap.size k D rfl (hown.kept (gB hb2) (by simp)) (by unfold maxLen; omega) _ _ _ rfl rfl hkey _ [] (plainElem_int Tryz.underlying3 (by decide)) ?_; intro w1 hown1 hgrow1)
     | (at_builtin; refine wpList_append_own _ rfl _ _ 28 rfl (w.heap.size + 1) 3 i0 (.int .i64 0) 1 8 Tryz.underlying28 hi hz0 hz1 hz2 rfl (by decide) _ _ _ rfl (((hrow.kept (gB hb2) (Classical.em _)).kept hgrow1 (Or.inr (zbi hrow (Nat.lt_succ_self _)).symm)).alloc _) ⟨w1.heap.size, 0, none⟩ 1 1 [.int .i64 x] rfl rfl (cell_one_new _ _ _) (ints_oneCell .i64 [x]) (by unfold maxLen; omega) (by omega) (by have h1 := hgrow1.size; have h2 := hb2.size; (try simp at h1); (try simp); omega) ?_; intro v' w3 hown' hgrow2 hnil2)
     | go_in)
    have hg2 := gB hb2
    have hr1 := (hrow.kept hg2 (Classical.em _)).kept hgrow1 (Or.inr (zbi hrow (Nat.lt_succ_self _)).symm)
    have s0 := hb2.size
    have s1 := hgrow1.size
    have s2 := hgrow2.size
    simp at s1 s2
    go_roundw
    case rel =>
     have e : z1G (ixL nm (k + 1)) = z1G (ixL nm k) ++ [x] := by rw [HA.out, addH, if_neg (by rw [HS.out]; decide)]
     refine ⟨k + 1, _, by omega, by go_num, (hown1.alloc _).kept hgrow2 (zbi hr1 (Nat.lt_succ_self _)), ?_, ?_, ?_, by omega⟩
     ·rw [e]; exact Lib.hid (zcA HM.out)
     ·rw [e]; simpa using hown'
     ·exact (((z9h hnx (by omega) hb2).grown hgrow1 (by (try simp); omega) (fun j hj => by cases hj; exact Nat.le_refl _)).alloc (by omega) _).grown hgrow2 (by (try simp); omega) (fun j hj => Nat.le_trans (Nat.le_succ _) (hr1.lt j hj).1)
    case measure => simp [intOf]; omega
  ·obtain rfl : k = n := by omega
   go_wp2_with (first
    | (go_at_call 86; refine (zcq (w.heap.size + 1) 3 _ _ _ hrow (by omega)).mono ?_; rintro e w2 ⟨rfl, hown2, hgr2⟩)
    | go_in)
   go_ret
   exact ⟨_, rfl, hown2, hnx.grown hgr2 (by omega) (fun j hj => Nat.le_trans (Nat.le_succ _) (hrow.lt j hj).1)⟩
end Go.Proofs.YtceegbenenakaaaGreatDoor
