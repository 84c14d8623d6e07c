/- Functions by content: the indexes of names, by the program: a set in a map, a row that grows and is sorted. Functions by content: the indexes of names, both sides. Plain: proofs of many: the places above some places, how many hashes are wanted. -/
import Derived.Maps.OwnOps
import Derived.Maps.AppendAt
import Derived.Maps.Views
import Derived.WalkKit
import Derived.Test.YtfjbinbpgdiafaaGreatDoorSoi
import Derived.Test.YtfjbinbpgdiafaaGreatDoorPlainBl
import Derived.Test.YtfjbinbpgdiafaaGreatDoorHb
import Derived.Test.YtfjbinbpgdiafaaGreatDoorXt
import Derived.Test.YtfjbinbpgdiafaaGreatDoorOcw
import Derived.Test.YtfjbinbpgdiafaaGreatDoorVe
import Derived.Test.YtfjbinbpgdiafaaGreatDoorVd
namespace Go.Proofs.YtfjbinbpgdiafaaGreatDoor
set_option linter.unusedVariables false
set_option linter.unusedSimpArgs false
set_option linter.unusedSectionVars false
open Go.RowKit Go.Maps Pl
def MpIx (D : DataW Unit) (l : List Int) : Prop := IsMap D ∧ ∀ x, D.atKey (.int .i64 x) (.lit (.int .i64 0)) = .lit (.int .i64 (if l.contains x then 1 else 0))
theorem zdN : MpIx (.map []) [] := ⟨isMap_empty, fun x => by rw [atKey_of_not_has rfl]; rfl⟩
theorem zdO {D : DataW Unit} {l : List Int} {x : Int} (h : MpIx D l) : MpIx (D.put (.int .i64 x) (.lit (.int .i64 1))) (l ++ [x]) :=
 ⟨h.1.put _ _, fun y => by
   by_cases e : y = x
   ·subst e
    rw [atKey_put_same (k := .int .i64 y) h.1 trivial]
    simp
   ·rw [atKey_put_other (by simp [e]), h.2 y]
    simp [e]⟩
def ixL (nm : Nat → Bs) (k : Nat) : List Int := (List.range k).map fun i => (ixB (nm i) : Int)
theorem zal (nm : Nat → Bs) (k : Nat) : ixL nm (k + 1) = ixL nm k ++ [(ixB (nm k) : Int)] := by simp [ixL, List.range_succ]
def NmRd (w : World) (A : Option Addr) (n : Nat) (nm : Nat → Bs) : Prop := ∀ k, k < n → ∃ b off, A = some ⟨b, off, none⟩ ∧ b < w.heap.size ∧ w.cell? ⟨b, off + k, none⟩ = some (.string (bs (nm k)))
theorem zfn : Keyed Tryz.prog 3 := int_keyed Tryz.underlying3
theorem zeu (w : World) : (zeroValue 3).run Tryz.prog w = .ok (.int .i64 0) w := by kernel_rfl
theorem infoIx : (Tryz.prog.info? 3).map (fun i => (i.zero, i.size, i.bytes)) = some (some (.int .i64 0), 1, 8) := by kernel_rfl
theorem zcB {w : World} {base : Nat} {e : TypeId} {size : Nat} {v : Value} {n : Nat} {xs : List Value} (h : w.ownsRow base e size v n xs) {b : Nat} (hb : b < base) : some b ≠ v.ownBlock := fun e1 => by
 have := (h.lt b e1.symm).1
 omega
theorem zam (nm : Nat → Bs) : ∀ k, (z1X (ixL nm k)).length ≤ k
 | 0 => by simp [z1X, ixL]
 | k + 1 => by
   have h1 := zam nm k
   rw [zal, z6p]
   unfold addH
   split
   ·omega
   ·rw [List.length_append]; simp; omega
theorem ix_wf {n : Nat} (h : n < 256) : (Lit.int .i64 ((n : Nat) : Int)).wf = true := by
 show (decide (-9223372036854775808 ≤ ((n : Nat) : Int)) && decide (((n : Nat) : Int) ≤ 9223372036854775807)) = true
 rw [decide_eq_true (by omega), decide_eq_true (by omega)]; rfl
theorem gB {w w' : World} (h : Below w.heap.size w w') : w.grownBy w' none := ⟨h.os, h.tape, h.output, h.size, fun k hk _ => h.block k hk⟩
theorem zan {B : Nat} {a w w' : World} (h : Below B a w) (hB : B ≤ w.heap.size) (k : Below w.heap.size w w') : Below B a w' := h.trans ⟨k.os, k.tape, k.output, k.size, fun i hi => k.block i (Nat.lt_of_lt_of_le hi hB)⟩
theorem zdP {w w' : World} (h : Gl (cx0 w)) (hb : Below w.heap.size w w') : Gl (cx0 w') := Gl.mono (X := cx0 w) (X' := cx0 w') (fun g (hg : g < w.heap.size) hn => ⟨hn, hb.block g hg⟩) h
theorem cIx (t : Bs) (w : World) (hg : Gl (cx0 w)) (ht : (t.length : Int) ≤ 100000000) : Calls Tryz.prog 95 #[.string (bs t)] w fun e w' => e = .returned (.int .i64 (ixB t : Int)) ∧ Below w.heap.size w w' := by
 refine ((z3I t ht).2 (cx0 w) (zet w hg) rfl rfl [.string (bs t)] ⟨_, _, rfl, rfl, rfl⟩).mono ?_
 rintro e w' ⟨v, X', rfl, rfl, _, _, _, hv, hs⟩
 have hv : v = .int .i64 (ixB t : Int) := by simpa only [RS, RS1, RS0, RV] using hv
 subst hv
 exact ⟨rfl, ⟨hs.os, hs.tape, hs.output, hs.size, fun k hk => (hs.stab k hk rfl).2⟩⟩
set_option maxHeartbeats 8000000 in
set_option maxRecDepth 100000 in
theorem z93 (A : Option Addr) (n c : Nat) (nm : Nat → Bs) (w : World) (hg : Gl (cx0 w)) (hn : n ≤ 1048576) (hA : NmRd w A n nm) (hl : ∀ k, k < n → ((nm k).length : Int) ≤ 100000000) :
 Calls Tryz.prog 57 #[.slice A n c] w fun e w' => ∃ v, e = .returned v ∧ w'.ownsRow (w.heap.size + 1) 3 1 v (z1X (ixL nm n)).length (((z1X (ixL nm n)).mergeSort fun x y => decide (x ≤ y)).map (Value.int .i64)) ∧ Below w.heap.size w w' := by
 have hmm := @run_makeMap Tryz.prog
 obtain ⟨i0, hi, hz0, hz1, hz2⟩ := info_parts infoIx
 go_enter Tryz.func57, Tryz.ntmps57
 go_wp2
 go_loopw [4, 11] (fun v i wr => ∃ (k : Nat) (D : DataW Unit), k ≤ n ∧ i = .int .i64 k ∧ wr.ownsMap Tryz.prog 3 (plainElem Tryz.prog 3) w.heap.size k D ∧ Hid (MpIx D (z1X (ixL nm k))) ∧ wr.ownsRow (w.heap.size + 1) 3 1 v (z1X (ixL nm k)).length ((z1X (ixL nm k)).map (Value.int .i64)) ∧ Below w.heap.size w wr ∧ w.heap.size + 1 ≤ wr.heap.size)
  (fun _ i _ => n - (intOf i).toNat)
 case atStart => exact ⟨0, _, Nat.zero_le _, rfl, World.ownsMap_made _ _ _ _, Lib.hid (by simpa [z1X, ixL] using zdN), by simpa [z1X, ixL] using World.ownsRow_nil _ _ _ _, (Below.refl _ _).alloc (Nat.le_refl _) _, by simp⟩
 case round =>
  obtain ⟨k, D, hk, rfl, hown, HM, hrow, hnx, hws⟩ := hrel
  rename_i wr _
  have hle := zam nm k
  by_cases hin : k < n
  ·obtain ⟨b, off, rfl, hb, q0⟩ := hA k hin
   have a0 := (hnx.cell (p := ⟨b, off + k, none⟩) hb).trans q0
   clear q0
   have hix := zeq (nm k)
   have hkey : keyOf Tryz.prog 3 (.int .i64 ((ixB (nm k) : Nat) : Int)) = some (.int .i64 ((ixB (nm k) : Nat) : Int)) := keyOf_int_mk Tryz.underlying3 (ix_wf hix)
   have hadd : z1X (ixL nm (k + 1)) = addH (z1X (ixL nm k)) ((ixB (nm k) : Nat) : Int) := by rw [zal, z6p]
   have HA := Lib.hid hadd
   clear hadd
   have hcl := cIx (nm k) wr (zdP hg hnx) (hl k hin)
   by_cases hs : (z1X (ixL nm k)).contains ((ixB (nm k) : Nat) : Int) = true
   ·have hcc : ∀ c, D.atKey (.int .i64 ((ixB (nm k) : Nat) : Int)) (.lit (.int .i64 0)) = .lit (.int .i64 c) → c = 1 := fun c h => by
     rw [HM.out.2, if_pos hs] at h
     simpa using h.symm
    have HC := Lib.hid hcc
    have HS := Lib.hid hs
    clear hcc hs
    generalize ((ixB (nm k) : Nat) : Int) = x at hcl hkey HA HC HS
    generalize nm k = u at a0 hcl
    go_wp2_with (first
     | (go_at_call 95; refine hcl.mono ?_; rintro e w2 ⟨rfl, hb2⟩)
     | (at_lookup; refine wpList_lookup_own_int _ rfl _ _ 163 rfl 3 3 .i64 zfn Tryz.underlying163 Tryz.underlying3 (zeu _) w.heap.size k D rfl (hown.kept (gB hb2) (by simp)) _ _ rfl hkey ?_; intro c hat hwc; obtain rfl := HC.out c hat; clear hat hwc)
     | go_in)
    have hg2 := gB hb2
    have s0 := hb2.size
    go_roundw
    case rel =>
     have e : z1X (ixL nm (k + 1)) = z1X (ixL nm k) := by rw [HA.out, addH, if_pos HS.out]
     refine ⟨k + 1, D, by omega, by go_num, (hown.kept hg2 (by simp)).mono (Nat.le_succ _), ?_, ?_, zan hnx (by omega) hb2, by omega⟩
     ·rw [e]; exact HM
     ·rw [e]; exact hrow.kept hg2 (Classical.em _)
    case measure => simp [intOf]; omega
   ·have hs : (z1X (ixL nm k)).contains ((ixB (nm k) : Nat) : Int) = false := by simpa using hs
    have hcc : ∀ c, D.atKey (.int .i64 ((ixB (nm k) : Nat) : Int)) (.lit (.int .i64 0)) = .lit (.int .i64 c) → c = 0 := fun c h => by
     rw [HM.out.2, if_neg (by rw [hs]; decide)] at h
     simpa using h.symm
    have HC := Lib.hid hcc
    have HS := Lib.hid hs
    clear hcc hs
    generalize ((ixB (nm k) : Nat) : Int) = x at hcl hkey HA HC HS
    generalize nm k = u at a0 hcl
    go_wp2_with (first
     | (go_at_call 95; refine hcl.mono ?_; rintro e w2 ⟨rfl, hb2⟩)
     | (at_lookup; refine wpList_lookup_own_int _ rfl _ _ 163 rfl 3 3 .i64 zfn Tryz.underlying163 Tryz.underlying3 (zeu _) w.heap.size k D rfl (hown.kept (gB hb2) (by simp)) _ _ rfl hkey ?_; intro c hat hwc; obtain rfl := HC.out c hat; clear hat hwc)
     | (at_mapUpdate; refine wpList_mapUpdate_own _ rfl _ _ _ 163 rfl 3 3 zfn Tryz.underlying163 _ w.heap.size k D rfl (hown.kept (gB hb2) (by simp)) (by unfold maxLen; omega) _ _ _ rfl rfl hkey _ [] (plainElem_int Tryz.underlying3 (by decide)) ?_; intro w1 hown1 hgrow1)
     | (at_builtin; refine wpList_append_own _ rfl _ _ 28 rfl (w.heap.size + 1) 3 i0 (.int .i64 0) 1 8 Tryz.underlying28 hi hz0 hz1 hz2 rfl (by decide) _ _ _ rfl (((hrow.kept (gB hb2) (Classical.em _)).kept hgrow1 (Or.inr (zcB hrow (Nat.lt_succ_self _)).symm)).alloc _) ⟨w1.heap.size, 0, none⟩ 1 1 [.int .i64 x] rfl rfl (cell_one_new _ _ _) (ints_oneCell .i64 [x]) (by unfold maxLen; omega) (by omega) (by have h1 := hgrow1.size; have h2 := hb2.size; (try simp at h1); (try simp); omega) ?_; intro v' w3 hown' hgrow2 hnil2)
     | go_in)
    have hg2 := gB hb2
    have hr1 := (hrow.kept hg2 (Classical.em _)).kept hgrow1 (Or.inr (zcB hrow (Nat.lt_succ_self _)).symm)
    have s0 := hb2.size
    have s1 := hgrow1.size
    have s2 := hgrow2.size
    simp at s1 s2
    go_roundw
    case rel =>
     have e : z1X (ixL nm (k + 1)) = z1X (ixL nm k) ++ [x] := by rw [HA.out, addH, if_neg (by rw [HS.out]; decide)]
     refine ⟨k + 1, _, by omega, by go_num, (hown1.alloc _).kept hgrow2 (zcB hr1 (Nat.lt_succ_self _)), ?_, ?_, ?_, by omega⟩
     ·rw [e]; exact Lib.hid (zdO HM.out)
     ·rw [e]; simpa using hown'
     ·exact (((zan hnx (by omega) hb2).grown hgrow1 (by (try simp); omega) (fun j hj => by cases hj; exact Nat.le_refl _)).alloc (by omega) _).grown hgrow2 (by (try simp); omega) (fun j hj => Nat.le_trans (Nat.le_succ _) (hr1.lt j hj).1)
    case measure => simp [intOf]; omega
  ·obtain rfl : k = n := by omega
   go_wp2_with (first
    | (go_at_call 122; refine (zdG (w.heap.size + 1) 3 _ _ _ hrow (by omega)).mono ?_; rintro e w2 ⟨rfl, hown2, hgr2⟩)
    | go_in)
   go_ret
   exact ⟨_, rfl, hown2, hnx.grown hgr2 (by omega) (fun j hj => Nat.le_trans (Nat.le_succ _) (hrow.lt j hj).1)⟩
end Go.Proofs.YtfjbinbpgdiafaaGreatDoor
namespace Go.Proofs.YtfjbinbpgdiafaaGreatDoor
set_option linter.unusedVariables false
set_option linter.unusedSimpArgs false
set_option linter.unusedSectionVars false
open Go.RowKit Pl
def ixsI (names : List Bs) : List Int := z4q (names.map fun s => (ixB s : Int))
theorem z43 (l : List Int) : (inE l).length = l.length := by simp [inE]
theorem z95 (l : List Int) (x : Int) : inE (l ++ [x]) = inE l ++ [[.int .i64 x]] := by simp [inE]
theorem zcC {l : List Int} {k : Nat} (h : k < l.length) : (inE l)[k]? = some [.int .i64 l[k]] := by simp [inE, List.getElem?_eq_getElem h]
theorem zcD (names : List Bs) : ixL (fun k => names.getD k []) names.length = names.map fun s => (ixB s : Int) := by
 apply List.ext_getElem
 ·simp [ixL]
 ·intro i h1 h2
  have hi : i < names.length := by simpa [ixL] using h1
  simp [ixL, List.getD, List.getElem?_eq_getElem hi]
theorem zdR (names : List Bs) : (ixsI names).length ≤ names.length := by
 have := zac (names.map fun s => (ixB s : Int))
 rwa [List.length_map] at this
theorem zcE : ∀ (hs : List Int), ∀ x ∈ z1X hs, x ∈ hs := by
 have key : ∀ (hs a : List Int), ∀ x ∈ hs.foldl addH a, x ∈ a ∨ x ∈ hs := by
  intro hs
  induction hs with
  | nil => intro a x hx; exact .inl hx
  | cons y hs ih =>
    intro a x hx
    rcases ih _ x hx with h | h
    ·rcases z78.1 h with h | rfl
     ·exact .inl h
     ·exact .inr (by simp)
    ·exact .inr (by simp [h])
 intro hs x hx
 rcases key hs [] x hx with h | h
 ·cases h
 ·exact h
theorem z7c (names : List Bs) : ∀ x ∈ ixsI names, 0 ≤ x ∧ x < 256 := fun x hx => by
 have h2 := (z3n (names.map fun s => (ixB s : Int)) [] [] List.Pairwise.nil (List.Perm.refl _)).2
 have h3 : x ∈ z1X (names.map fun s => (ixB s : Int)) := h2.mem_iff.1 hx
 have h4 := zcE _ x h3
 simp only [List.mem_map] at h4
 obtain ⟨s, _, rfl⟩ := h4
 have := zeq s
 omega
theorem z96 (names : List Bs) : (ixsI names).Pairwise (· < ·) := (z3n (names.map fun s => (ixB s : Int)) [] [] List.Pairwise.nil (List.Perm.refl _)).1
theorem zfo {ow : Own} {w : World} {names : List Bs} {A : Option Addr}
 (h : strE names = [] ∨ ∃ g o C t fr, A = some ⟨g, o, none⟩ ∧ ow g = none ∧ w.heap[g]? = some (.cells C t fr) ∧ RE ow w 1 (strE names) (C.toList.drop o)) : NmRd w A names.length (fun k => names.getD k []) := by
 intro k hk
 have hz : (strE names)[k]? = some [.str (names.getD k [])] := by simp [strE, List.getD, List.getElem?_eq_getElem hk]
 rcases h with h | ⟨g, o, C, t, fr, rfl, -, hC, hE⟩
 ·rw [h] at hz; simp at hz
 obtain ⟨us, hl, hr, hv⟩ := z8l _ _ k _ hE hz
 simp only [RL] at hr
 obtain ⟨v0, r0, rfl, h0, rfl⟩ := hr
 simp only [RV] at h0
 subst h0
 have h1 := hv 0 (by decide)
 refine ⟨g, o, rfl, z0O hC, ?_⟩
 rw [List.getElem?_drop] at h1
 simp only [World.cell?, hC]
 simp only [Option.isSome_none, Bool.false_eq_true, if_false]
 rw [← Array.getElem?_toList]
 simpa using h1
theorem z3o (names : List Bs) (hn : names.length ≤ 1048576) (hl : ∀ s ∈ names, (s.length : Int) ≤ 100000000) : CT Tryz.prog 57 [] [.sl 1 (strE names)] (.sl 1 (inE (ixsI names))) [] := by
 refine zfm ⟨_, Tryz.func57, rfl, rfl⟩ fun X hh vs ha => ?_
 obtain ⟨v, us, rfl, hv, rfl⟩ := ha
 have hv : RV X.ow X.w (.sl 1 (strE names)) v := hv
 simp only [RV] at hv
 obtain ⟨A, c, rfl, hc, hE⟩ := hv
 have hgl : Gl (cx0 X.w) := Gl.mono (X := X) (X' := cx0 X.w) (fun g hg hn => ⟨rfl, rfl⟩) hh.gl
 rw [z0h]
 refine (z93 A names.length c (fun k => names.getD k []) X.w hgl hn (zfo hE) fun k hk => ?_).mono ?_
 ·have : names.getD k [] = names[k] := by simp [List.getD, List.getElem?_eq_getElem hk]
  rw [this]
  exact hl _ (List.getElem_mem hk)
 ·rw [zcD]
  rintro e w' ⟨v, rfl, hown, hb⟩
  have hl : (z1X (names.map fun s => (ixB s : Int))).length = (ixsI names).length := by unfold ixsI; rw [← z8b]; simp
  rw [z8b, hl] at hown
  refine ⟨v, rfl, hb, ?_⟩
  change w'.ownsRow _ _ 1 v (ixsI names).length ((ixsI names).map (Value.int .i64)) at hown
  generalize ixsI names = L at hown
  show RV X.ow w' (.sl 1 (inE L)) v
  simp only [RV]
  rcases hown.2 with ⟨rfl, h0⟩ | ⟨g, cap, cur, rfl, hg, hC, h1, h2, h3, h4⟩
  ·obtain rfl : L = [] := List.eq_nil_of_length_eq_zero h0
   exact ⟨none, 0, rfl, Nat.le_refl _, .inl rfl⟩
  ·refine ⟨some ⟨g, 0, none⟩, cap, by rw [z43], by rw [z43]; exact h1, .inr ⟨g, 0, cur, _, _, rfl, ?_, hC, ?_⟩⟩
   ·cases ho : X.ow g with
    | none => rfl
    | some r => have := (hh.lt g r ho).1; omega
   ·rw [List.drop_zero]
    exact zak L _ (by simpa using h4)
section
attribute [local irreducible] z0t z0u z0A AnsP LeP W CvE
theorem z8m {l : List Int} {p : Int → Bool} {k : Nat} (h : k < l.length) : (l.take (k + 1)).filter p = (l.take k).filter p ++ (if p l[k] then [l[k]] else []) := by
 rw [List.take_succ_eq_append_getElem h, List.filter_append]
 congr 1
 by_cases hp : p l[k] = true
 ·rw [List.filter_cons_of_pos hp, if_pos hp]; rfl
 ·rw [List.filter_cons_of_neg hp, if_neg hp]; rfl
set_option maxRecDepth 100000 in
set_option maxHeartbeats 8000000 in
theorem z2f (names : List Bs) (hn : names.length ≤ 1048576) (hl : ∀ s ∈ names, (s.length : Int) ≤ 100000000) : CT Tryz.prog 66 [] [.sl 1 (strE names)] (.sl 1 (inE (ixsI names))) [] := by
 have hlen := z0h names
 refine z0b z5r 1 rfl Tryz.func66 rfl rfl rfl ?_
 conv => arg 6; whnf
 repeat ((try conv => whnf); first | (with_reducible first | refine z0a (fun Qs hN hE hR => ?_) | refine z08 ?_ | refine z00 (fun Qb kN kE kX kR => ?_) | refine z04 ?_ | refine z05 ?_ | refine z09 ?_ | refine z06 ?_ | refine z07 ?_ | (show W _ _ _ (.cond _ _ _) _ _; refine z03 rfl ?_) | (refine hN _ ?_; try clear hN hE hR Qs) | ((first | refine hE _ _ ?_ | refine hR _ ?_); try clear hN hE hR Qs) | ((first | refine kN _ ?_ | refine kE _ ?_ | refine kX _ _ rfl ?_ | refine kR _ ?_); try clear kN kE kX kR Qb)) | (refine And.intro (by kernel_rfl) ?_) | (refine stpQ ?_))
 refine z0g 0 ⟨[(3, .ref 1)], [(1, some (.row 1 (inE (ixsI names))))], 2⟩ Nat (fun k => ⟨[(0, .sl 1 (strE names)), (3, .ref 1), (4, .int .i64 (k : Int))], [(1, some (.row 1 (inE (z4q ((names.take k).map fun s => (ixB s : Int))))))], 2⟩) (fun k => k ≤ names.length) (fun k => names.length - k) 0 (Nat.zero_le _) ?_ ?_ ?_
 ·(refine z01 (by rfl) ?_ ?_) <;> (repeat' (first | (exact eqA) | (refine And.intro ?_ ?_) | ((fail_if_success (with_reducible (show _ = _))); (show _ = _)))) <;> first | rfl | decide
 ·intro k hk
  by_cases hlt : k < names.length
  ·have f1 : (k : Int) < ((names.length : Nat) : Int) := by omega
   have g : (strE names)[k]? = some [.str names[k]] := by simp [strE, List.getElem?_eq_getElem hlt]
   have cI := z31 names[k] (hl _ (List.getElem_mem hlt))
   have hnx : z4q ((names.take (k + 1)).map fun s => (ixB s : Int)) = insH (z4q ((names.take k).map fun s => (ixB s : Int))) (ixB names[k] : Int) := by
    rw [List.take_succ_eq_append_getElem hlt, List.map_append, List.map_cons, List.map_nil, zb2]
   have hle : (z4q ((names.take k).map fun s => (ixB s : Int))).length ≤ 1048576 := by
    have := zac ((names.take k).map fun s => (ixB s : Int))
    rw [List.length_map, List.length_take] at this
    omega
   generalize z4q ((names.take k).map fun s => (ixB s : Int)) = L at *
   generalize ((ixB names[k] : Nat) : Int) = x at *
   generalize names[k] = u at *
   have hL := z43 L
   repeat ((try conv => whnf); first | (with_reducible first | refine z0a (fun Qs hN hE hR => ?_) | refine z08 ?_ | refine z00 (fun Qb kN kE kX kR => ?_) | refine z04 ?_ | refine z05 ?_ | refine z09 ?_ | refine z06 ?_ | refine z07 ?_ | (show W _ _ _ (.cond _ _ _) _ _; refine z03 rfl ?_) | (refine hN _ ?_; try clear hN hE hR Qs) | ((first | refine hE _ _ ?_ | refine hR _ ?_); try clear hN hE hR Qs) | ((first | refine kN _ ?_ | refine kE _ ?_ | refine kX _ _ rfl ?_ | refine kR _ ?_); try clear kN kE kX kR Qb)) | (refine Exists.intro names.length (And.intro hlen ?_)) | (refine z0c f1 ?_) | (refine i_at g ?_) | (refine ccA ([]) (cI) ?_) | (refine And.intro (by kernel_rfl) ?_) | (refine stpQ ?_))
   refine z0g 2 ⟨[(0, .sl 1 (strE names)), (3, .ref 1), (4, .int .i64 (k : Int)), (5, .int .i64 x), (6, .ref 2)], [(1, some (.row 1 (inE L))), (2, some (.row 1 (inE (L.filter fun y => decide (y < x)))))], 3⟩ Nat (fun j => ⟨[(0, .sl 1 (strE names)), (3, .ref 1), (4, .int .i64 (k : Int)), (5, .int .i64 x), (6, .ref 2), (7, .int .i64 (j : Int))], [(1, some (.row 1 (inE L))), (2, some (.row 1 (inE ((L.take j).filter fun y => decide (y < x)))))], 3⟩) (fun j => j ≤ L.length) (fun j => L.length - j) 0 (Nat.zero_le _) ?_ ?_ ?_
   ·(refine z01 (by rfl) ?_ ?_) <;> (repeat' (first | (exact eqA) | (refine And.intro ?_ ?_) | ((fail_if_success (with_reducible (show _ = _))); (show _ = _)))) <;> first | rfl | decide
   ·intro j hj
    by_cases hjl : j < L.length
    ·have f2 : (j : Int) < ((L.length : Nat) : Int) := by omega
     have gj := zcC hjl
     have hfn := z8m (p := fun y => decide (y < x)) hjl
     have hfl := List.length_filter_le (fun y => decide (y < x)) (L.take j)
     rw [List.length_take] at hfl
     generalize (L.take j).filter (fun y => decide (y < x)) = F at *
     have hF := z43 F
     generalize L[j] = y at *
     by_cases hy : y < x
     ·rw [if_pos (decide_eq_true hy)] at hfn
      have happ := z95 F y
      repeat ((try conv => whnf); first | (with_reducible first | refine z0a (fun Qs hN hE hR => ?_) | refine z08 ?_ | refine z00 (fun Qb kN kE kX kR => ?_) | refine z04 ?_ | refine z05 ?_ | refine z09 ?_ | refine z06 ?_ | refine z07 ?_ | (show W _ _ _ (.cond _ _ _) _ _; refine z03 rfl ?_) | (refine hN _ ?_; try clear hN hE hR Qs) | ((first | refine hE _ _ ?_ | refine hR _ ?_); try clear hN hE hR Qs) | ((first | refine kN _ ?_ | refine kE _ ?_ | refine kX _ _ rfl ?_ | refine kR _ ?_); try clear kN kE kX kR Qb)) | (refine Exists.intro L.length (And.intro hL ?_)) | (refine z0c f2 ?_) | (refine Exists.intro _ (And.intro gj ?_)) | (refine i_at gj ?_) | (refine z0c hy ?_) | (refine And.intro (by simp only [List.length_append, List.length_set, List.length_replicate, List.length_cons, List.length_nil]; omega) ?_) | (refine And.intro (by kernel_rfl) ?_) | (refine stpQ ?_))
      refine ⟨j + 1, hjl, by omega, ?_⟩
      rw [hfn, happ]
      (refine z01 (by rfl) ?_ ?_) <;> (repeat' (first | (exact eqA) | (refine And.intro ?_ ?_) | ((fail_if_success (with_reducible (show _ = _))); (show _ = _)))) <;> rfl
     ·rw [if_neg (by simpa using hy), List.append_nil] at hfn
      repeat ((try conv => whnf); first | (with_reducible first | refine z0a (fun Qs hN hE hR => ?_) | refine z08 ?_ | refine z00 (fun Qb kN kE kX kR => ?_) | refine z04 ?_ | refine z05 ?_ | refine z09 ?_ | refine z06 ?_ | refine z07 ?_ | (show W _ _ _ (.cond _ _ _) _ _; refine z03 rfl ?_) | (refine hN _ ?_; try clear hN hE hR Qs) | ((first | refine hE _ _ ?_ | refine hR _ ?_); try clear hN hE hR Qs) | ((first | refine kN _ ?_ | refine kE _ ?_ | refine kX _ _ rfl ?_ | refine kR _ ?_); try clear kN kE kX kR Qb)) | (refine Exists.intro L.length (And.intro hL ?_)) | (refine z0c f2 ?_) | (refine Exists.intro _ (And.intro gj ?_)) | (refine i_at gj ?_) | (refine z0d hy ?_) | (refine And.intro (by kernel_rfl) ?_) | (refine stpQ ?_))
      refine ⟨j + 1, hjl, by omega, ?_⟩
      rw [hfn]
      (refine z01 (by rfl) ?_ ?_) <;> (repeat' (first | (exact eqA) | (refine And.intro ?_ ?_) | ((fail_if_success (with_reducible (show _ = _))); (show _ = _)))) <;> rfl
    ·have hje : j = L.length := by omega
     subst hje
     have f2 : ¬ ((L.length : Nat) : Int) < ((L.length : Nat) : Int) := by omega
     repeat ((try conv => whnf); first | (with_reducible first | refine z0a (fun Qs hN hE hR => ?_) | refine z08 ?_ | refine z00 (fun Qb kN kE kX kR => ?_) | refine z04 ?_ | refine z05 ?_ | refine z09 ?_ | refine z06 ?_ | refine z07 ?_ | (show W _ _ _ (.cond _ _ _) _ _; refine z03 rfl ?_) | (refine hN _ ?_; try clear hN hE hR Qs) | ((first | refine hE _ _ ?_ | refine hR _ ?_); try clear hN hE hR Qs) | ((first | refine kN _ ?_ | refine kE _ ?_ | refine kX _ _ rfl ?_ | refine kR _ ?_); try clear kN kE kX kR Qb)) | (refine Exists.intro L.length (And.intro hL ?_)) | (refine z0d f2 ?_) | (refine stpQ ?_))
     rw [List.take_length]
     (refine z01 (by rfl) ?_ ?_) <;> (repeat' (first | (exact eqA) | (refine And.intro ?_ ?_) | ((fail_if_success (with_reducible (show _ = _))); (show _ = _)))) <;> rfl
   ·have hfl := List.length_filter_le (fun y => decide (y < x)) L
    obtain ⟨F, hF0⟩ : ∃ F, F = L.filter (fun y => decide (y < x)) := ⟨_, rfl⟩
    rw [← hF0] at hfl ⊢
    have hF := z43 F
    have happ := z95 F x
    repeat ((try conv => whnf); first | (with_reducible first | refine z0a (fun Qs hN hE hR => ?_) | refine z08 ?_ | refine z00 (fun Qb kN kE kX kR => ?_) | refine z04 ?_ | refine z05 ?_ | refine z09 ?_ | refine z06 ?_ | refine z07 ?_ | (show W _ _ _ (.cond _ _ _) _ _; refine z03 rfl ?_) | (refine hN _ ?_; try clear hN hE hR Qs) | ((first | refine hE _ _ ?_ | refine hR _ ?_); try clear hN hE hR Qs) | ((first | refine kN _ ?_ | refine kE _ ?_ | refine kX _ _ rfl ?_ | refine kR _ ?_); try clear kN kE kX kR Qb)) | (refine And.intro (by simp only [List.length_append, List.length_set, List.length_replicate, List.length_cons, List.length_nil]; omega) ?_) | (refine And.intro (by kernel_rfl) ?_) | (refine stpQ ?_))
    have hins : insH L x = (F ++ [x]) ++ L.filter (fun y => decide (x < y)) := by rw [hF0]; simp [insH]
    have hG1 : (F ++ [x]).length ≤ L.length + 1 := by simp; omega
    obtain ⟨G, hG⟩ : ∃ G, G = F ++ [x] := ⟨_, rfl⟩
    rw [← hG] at happ hins hG1
    clear hF0 hG
    refine z0g 4 ⟨[(0, .sl 1 (strE names)), (4, .int .i64 (k : Int)), (6, .ref 1)], [(1, some (.row 1 (inE (insH L x))))], 2⟩ Nat (fun j => ⟨[(0, .sl 1 (strE names)), (3, .ref 1), (4, .int .i64 (k : Int)), (5, .int .i64 x), (6, .ref 2), (8, .int .i64 (j : Int))], [(1, some (.row 1 (inE L))), (2, some (.row 1 (inE (G ++ (L.take j).filter fun y => decide (x < y)))))], 3⟩) (fun j => j ≤ L.length) (fun j => L.length - j) 0 (Nat.zero_le _) ?_ ?_ ?_
    ·(refine z01 (by rfl) ?_ ?_) <;> (repeat' (first | (exact eqA) | (refine And.intro ?_ ?_) | ((fail_if_success (with_reducible (show _ = _))); (show _ = _)))) <;> first | rfl | (simp only [List.take_zero, List.filter_nil, List.append_nil]; rw [happ]; rfl)
    ·clear happ hF
     intro j hj
     by_cases hjl : j < L.length
     ·have f2 : (j : Int) < ((L.length : Nat) : Int) := by omega
      have gj := zcC hjl
      have hfn := z8m (p := fun y => decide (x < y)) hjl
      have hfl2 := List.length_filter_le (fun y => decide (x < y)) (L.take j)
      rw [List.length_take] at hfl2
      generalize (L.take j).filter (fun y => decide (x < y)) = F2 at *
      have hF2 := z43 (G ++ F2)
      rw [List.length_append] at hF2
      generalize L[j] = y at *
      by_cases hy : y > x
      ·rw [if_pos (decide_eq_true hy)] at hfn
       have happ := z95 (G ++ F2) y
       repeat ((try conv => whnf); first | (with_reducible first | refine z0a (fun Qs hN hE hR => ?_) | refine z08 ?_ | refine z00 (fun Qb kN kE kX kR => ?_) | refine z04 ?_ | refine z05 ?_ | refine z09 ?_ | refine z06 ?_ | refine z07 ?_ | (show W _ _ _ (.cond _ _ _) _ _; refine z03 rfl ?_) | (refine hN _ ?_; try clear hN hE hR Qs) | ((first | refine hE _ _ ?_ | refine hR _ ?_); try clear hN hE hR Qs) | ((first | refine kN _ ?_ | refine kE _ ?_ | refine kX _ _ rfl ?_ | refine kR _ ?_); try clear kN kE kX kR Qb)) | (refine Exists.intro L.length (And.intro hL ?_)) | (refine z0c f2 ?_) | (refine Exists.intro _ (And.intro gj ?_)) | (refine i_at gj ?_) | (refine z0c hy ?_) | (refine And.intro (by simp only [List.length_append, List.length_set, List.length_replicate, List.length_cons, List.length_nil]; omega) ?_) | (refine And.intro (by kernel_rfl) ?_) | (refine stpQ ?_))
       refine ⟨j + 1, hjl, by omega, ?_⟩
       rw [hfn, ← List.append_assoc, happ]
       (refine z01 (by rfl) ?_ ?_) <;> (repeat' (first | (exact eqA) | (refine And.intro ?_ ?_) | ((fail_if_success (with_reducible (show _ = _))); (show _ = _)))) <;> rfl
      ·rw [if_neg (by simpa using hy), List.append_nil] at hfn
       repeat ((try conv => whnf); first | (with_reducible first | refine z0a (fun Qs hN hE hR => ?_) | refine z08 ?_ | refine z00 (fun Qb kN kE kX kR => ?_) | refine z04 ?_ | refine z05 ?_ | refine z09 ?_ | refine z06 ?_ | refine z07 ?_ | (show W _ _ _ (.cond _ _ _) _ _; refine z03 rfl ?_) | (refine hN _ ?_; try clear hN hE hR Qs) | ((first | refine hE _ _ ?_ | refine hR _ ?_); try clear hN hE hR Qs) | ((first | refine kN _ ?_ | refine kE _ ?_ | refine kX _ _ rfl ?_ | refine kR _ ?_); try clear kN kE kX kR Qb)) | (refine Exists.intro L.length (And.intro hL ?_)) | (refine z0c f2 ?_) | (refine Exists.intro _ (And.intro gj ?_)) | (refine i_at gj ?_) | (refine z0d hy ?_) | (refine And.intro (by kernel_rfl) ?_) | (refine stpQ ?_))
       refine ⟨j + 1, hjl, by omega, ?_⟩
       rw [hfn]
       (refine z01 (by rfl) ?_ ?_) <;> (repeat' (first | (exact eqA) | (refine And.intro ?_ ?_) | ((fail_if_success (with_reducible (show _ = _))); (show _ = _)))) <;> rfl
     ·have hje : j = L.length := by omega
      subst hje
      have f2 : ¬ ((L.length : Nat) : Int) < ((L.length : Nat) : Int) := by omega
      repeat ((try conv => whnf); first | (with_reducible first | refine z0a (fun Qs hN hE hR => ?_) | refine z08 ?_ | refine z00 (fun Qb kN kE kX kR => ?_) | refine z04 ?_ | refine z05 ?_ | refine z09 ?_ | refine z06 ?_ | refine z07 ?_ | (show W _ _ _ (.cond _ _ _) _ _; refine z03 rfl ?_) | (refine hN _ ?_; try clear hN hE hR Qs) | ((first | refine hE _ _ ?_ | refine hR _ ?_); try clear hN hE hR Qs) | ((first | refine kN _ ?_ | refine kE _ ?_ | refine kX _ _ rfl ?_ | refine kR _ ?_); try clear kN kE kX kR Qb)) | (refine Exists.intro L.length (And.intro hL ?_)) | (refine z0d f2 ?_) | (refine stpQ ?_))
      rw [List.take_length, hins]
      (refine z01 (by rfl) ?_ ?_) <;> (repeat' (first | (exact eqA) | (refine And.intro ?_ ?_) | ((fail_if_success (with_reducible (show _ = _))); (show _ = _)))) <;> rfl
    ·repeat ((try conv => whnf); first | (with_reducible first | refine z0a (fun Qs hN hE hR => ?_) | refine z08 ?_ | refine z00 (fun Qb kN kE kX kR => ?_) | refine z04 ?_ | refine z05 ?_ | refine z09 ?_ | refine z06 ?_ | refine z07 ?_ | (show W _ _ _ (.cond _ _ _) _ _; refine z03 rfl ?_) | (refine hN _ ?_; try clear hN hE hR Qs) | ((first | refine hE _ _ ?_ | refine hR _ ?_); try clear hN hE hR Qs) | ((first | refine kN _ ?_ | refine kE _ ?_ | refine kX _ _ rfl ?_ | refine kR _ ?_); try clear kN kE kX kR Qb)) | (refine stpQ ?_))
     refine ⟨k + 1, hlt, by omega, ?_⟩
     rw [hnx]
     (refine z01 (by rfl) ?_ ?_) <;> (repeat' (first | (exact eqA) | (refine And.intro ?_ ?_) | ((fail_if_success (with_reducible (show _ = _))); (show _ = _)))) <;> rfl
  ·have hke : k = names.length := by omega
   subst hke
   have f1 : ¬ ((names.length : Nat) : Int) < ((names.length : Nat) : Int) := by omega
   repeat ((try conv => whnf); first | (with_reducible first | refine z0a (fun Qs hN hE hR => ?_) | refine z08 ?_ | refine z00 (fun Qb kN kE kX kR => ?_) | refine z04 ?_ | refine z05 ?_ | refine z09 ?_ | refine z06 ?_ | refine z07 ?_ | (show W _ _ _ (.cond _ _ _) _ _; refine z03 rfl ?_) | (refine hN _ ?_; try clear hN hE hR Qs) | ((first | refine hE _ _ ?_ | refine hR _ ?_); try clear hN hE hR Qs) | ((first | refine kN _ ?_ | refine kE _ ?_ | refine kX _ _ rfl ?_ | refine kR _ ?_); try clear kN kE kX kR Qb)) | (refine Exists.intro names.length (And.intro hlen ?_)) | (refine z0d f1 ?_) | (refine stpQ ?_))
   rw [List.take_length]
   (refine z01 (by rfl) ?_ ?_) <;> (repeat' (first | (exact eqA) | (refine And.intro ?_ ?_) | ((fail_if_success (with_reducible (show _ = _))); (show _ = _)))) <;> rfl
 ·repeat ((try conv => whnf); first | (with_reducible first | refine z0a (fun Qs hN hE hR => ?_) | refine z08 ?_ | refine z00 (fun Qb kN kE kX kR => ?_) | refine z04 ?_ | refine z05 ?_ | refine z09 ?_ | refine z06 ?_ | refine z07 ?_ | (show W _ _ _ (.cond _ _ _) _ _; refine z03 rfl ?_) | (refine hN _ ?_; try clear hN hE hR Qs) | ((first | refine hE _ _ ?_ | refine hR _ ?_); try clear hN hE hR Qs) | ((first | refine kN _ ?_ | refine kE _ ?_ | refine kX _ _ rfl ?_ | refine kR _ ?_); try clear kN kE kX kR Qb)) | (refine stpQ ?_))
  (refine z02 (by rfl) ?_ ?_ (by rfl)) <;> (repeat' (first | (exact eqA) | (refine And.intro ?_ ?_) | ((fail_if_success (with_reducible (show _ = _))); (show _ = _)))) <;> rfl
end
end Go.Proofs.YtfjbinbpgdiafaaGreatDoor
namespace Go.Proofs.YtfjbinbpgdiafaaGreatDoor
set_option linter.unusedVariables false
set_option linter.unusedSimpArgs false
set_option linter.unusedSectionVars false
open Go.RowKit Pl
def lvUp : List Nat → List Nat
 | [] => []
 | [p] => [p / 2]
 | p :: q :: l => if p % 2 = 0 ∧ q = p + 1 then p / 2 :: lvUp l else p / 2 :: lvUp (q :: l)
def lvNd : List Nat → Nat
 | [] => 0
 | [_] => 1
 | p :: q :: l => if p % 2 = 0 ∧ q = p + 1 then lvNd l else lvNd (q :: l) + 1
def z1e : Nat → List Nat → Nat
 | 0, _ => 0
 | n + 1, l => lvNd l + z1e n (lvUp l)
theorem z7d : ∀ {l : List Nat} {b : Nat}, (∀ x ∈ l, b ≤ x) → ∀ y ∈ lvUp l, b / 2 ≤ y
 | [], b, h, y, hy => by cases hy
 | [p], b, h, y, hy => by
   rw [lvUp, List.mem_singleton] at hy
   have := h p (by simp)
   omega
 | p :: q :: l, b, h, y, hy => by
   have hp := h p (by simp)
   rw [lvUp] at hy
   split at hy
   ·rcases List.mem_cons.1 hy with rfl | hy
    ·omega
    ·exact z7d (fun x hx => h x (by simp [hx])) y hy
   ·rcases List.mem_cons.1 hy with rfl | hy
    ·omega
    ·exact z7d (l := q :: l) (fun x hx => h x (List.mem_cons_of_mem _ hx)) y hy
theorem z7e : ∀ {l : List Nat} {b : Nat}, (∀ x ∈ l, x < b) → ∀ y ∈ lvUp l, y < b
 | [], b, h, y, hy => by cases hy
 | [p], b, h, y, hy => by
   rw [lvUp, List.mem_singleton] at hy
   have := h p (by simp)
   omega
 | p :: q :: l, b, h, y, hy => by
   have hp := h p (by simp)
   rw [lvUp] at hy
   split at hy
   ·rcases List.mem_cons.1 hy with rfl | hy
    ·omega
    ·exact z7e (fun x hx => h x (by simp [hx])) y hy
   ·rcases List.mem_cons.1 hy with rfl | hy
    ·omega
    ·exact z7e (l := q :: l) (fun x hx => h x (List.mem_cons_of_mem _ hx)) y hy
abbrev Ups (l : List Nat) : Prop := l.Pairwise (· < ·)
theorem z1G : ∀ {l : List Nat}, Ups l → Ups (lvUp l)
 | [], _ => List.Pairwise.nil
 | [p], _ => by rw [lvUp]; exact List.pairwise_singleton _ _
 | p :: q :: l, h => by
   obtain ⟨h1, h2⟩ := List.pairwise_cons.1 h
   obtain ⟨h3, h4⟩ := List.pairwise_cons.1 h2
   have hpq := h1 q (by simp)
   rw [lvUp]
   split
   ·rename_i hc
    refine List.pairwise_cons.2 ⟨fun y hy => ?_, z1G h4⟩
    have := z7d (b := p + 2) (fun x hx => by have := h3 x hx; omega) y hy
    omega
   ·rename_i hc
    refine List.pairwise_cons.2 ⟨fun y hy => ?_, z1G h2⟩
    have := z7d (b := q) (fun x hx => by
     rcases List.mem_cons.1 hx with rfl | hx
     ·omega
     ·have := h3 x hx; omega) y hy
    omega
theorem z97 : ∀ {l : List Nat}, l ≠ [] → lvUp l ≠ []
 | [], h => absurd rfl h
 | [p], _ => by rw [lvUp]; simp
 | p :: q :: l, _ => by rw [lvUp]; split <;> simp
def z1N (out : List Nat) (p : Nat) : List Nat := if out.contains (p / 2) then out else out ++ [p / 2]
theorem zcF {out : List Nat} {p : Nat} (h : p / 2 ∈ out) : z1N out p = out := by
 unfold z1N; rw [if_pos (by simpa using h)]
theorem z6v {out : List Nat} {p : Nat} (h : p / 2 ∉ out) : z1N out p = out ++ [p / 2] := by
 unfold z1N; rw [if_neg (by simpa using h)]
theorem z7f : ∀ {l : List Nat} (out : List Nat), Ups l → (∀ y ∈ out, ∀ z ∈ l, y < z / 2) → l.foldl z1N out = out ++ lvUp l
 | [], out, _, _ => by simp [lvUp]
 | [p], out, _, h => by
   have hn : p / 2 ∉ out := fun c => by have := h _ c p (by simp); omega
   rw [List.foldl_cons, List.foldl_nil, z6v hn, lvUp]
 | p :: q :: l, out, hs, h => by
   obtain ⟨h1, h2⟩ := List.pairwise_cons.1 hs
   obtain ⟨h3, h4⟩ := List.pairwise_cons.1 h2
   have hpq := h1 q (by simp)
   have hn : p / 2 ∉ out := fun c => by have := h _ c p (by simp); omega
   rw [List.foldl_cons, z6v hn, lvUp]
   split
   ·rename_i hc
    have hq : q / 2 ∈ out ++ [p / 2] := by
     rw [List.mem_append, List.mem_singleton]
     right; omega
    rw [List.foldl_cons, zcF hq, z7f _ h4, List.append_assoc]
    ·rfl
    ·intro y hy z hz
     have hz2 := h3 z hz
     rcases List.mem_append.1 hy with hy | hy
     ·exact h y hy z (by simp [hz])
     ·rw [List.mem_singleton] at hy; omega
   ·rename_i hc
    rw [z7f _ h2, List.append_assoc]
    ·rfl
    ·intro y hy z hz
     have hz2 : q ≤ z := by
      rcases List.mem_cons.1 hz with rfl | hz
      ·omega
      ·have := h3 z hz; omega
     rcases List.mem_append.1 hy with hy | hy
     ·exact h y hy z (List.mem_cons_of_mem _ hz)
     ·rw [List.mem_singleton] at hy; omega
theorem zdS {l : List Nat} {k : Nat} (h : k + 1 < l.length) : l.drop k = l[k] :: l[k + 1] :: l.drop (k + 2) := by
 rw [List.drop_eq_getElem_cons (by omega), List.drop_eq_getElem_cons h]
theorem z98 {l : List Nat} {k : Nat} (h : k + 1 < l.length) (h0 : l[k] % 2 = 0) (h1 : l[k + 1] = l[k] + 1) : lvUp (l.drop k) = l[k] / 2 :: lvUp (l.drop (k + 2)) ∧ lvNd (l.drop k) = lvNd (l.drop (k + 2)) := by
 rw [zdS h, lvUp, lvNd, if_pos ⟨h0, h1⟩, if_pos ⟨h0, h1⟩]
 exact ⟨rfl, rfl⟩
theorem zcG {l : List Nat} {k : Nat} (h : k < l.length) (hn : ∀ h2 : k + 1 < l.length, ¬ (l[k] % 2 = 0 ∧ l[k + 1] = l[k] + 1)) : lvUp (l.drop k) = l[k] / 2 :: lvUp (l.drop (k + 1)) ∧ lvNd (l.drop k) = lvNd (l.drop (k + 1)) + 1 := by
 by_cases h2 : k + 1 < l.length
 ·rw [zdS h2, lvUp, lvNd, if_neg (hn h2), if_neg (hn h2)]
  rw [List.drop_eq_getElem_cons h2]
  exact ⟨rfl, rfl⟩
 ·rw [List.drop_eq_getElem_cons h, List.drop_eq_nil_of_le (by omega), lvUp, lvNd]
  exact ⟨rfl, rfl⟩
theorem z3J {l : List Nat} (h : Ups l) {k : Nat} (hk : k + 1 < l.length) : l[k] < l[k + 1] := List.pairwise_iff_getElem.1 h k (k + 1) (by omega) hk (by omega)
def x1 (p : Nat) : Nat := if p % 2 = 0 then p + 1 else p - 1
set_option maxRecDepth 100000 in
theorem x1_fin : ∀ p : Fin 256, bits .xor .i64 (p.val : Int) 1 = ((x1 p.val : Nat) : Int) := by decide
theorem zfp {p : Nat} (h : p < 256) : bits .xor .i64 (p : Int) 1 = ((x1 p : Nat) : Int) := x1_fin ⟨p, h⟩
def ixsN (names : List Bs) : List Nat := (ixsI names).map Int.toNat
def npE (l : List Nat) : List (List T) := l.map fun (n : Nat) => [T.int .i64 ((n : Nat) : Int)]
theorem z1d (l : List Nat) : (npE l).length = l.length := by simp [npE]
theorem z7g (l : List Nat) (x : Nat) : npE (l ++ [x]) = npE l ++ [[.int .i64 (x : Int)]] := by simp [npE]
theorem z0C {l : List Nat} {k : Nat} (h : k < l.length) : (npE l)[k]? = some [.int .i64 (l[k] : Int)] := by simp [npE, List.getElem?_eq_getElem h]
theorem z5s (names : List Bs) : inE (ixsI names) = npE (ixsN names) := by
 simp only [inE, npE, ixsN, List.map_map]
 apply List.map_congr_left
 intro x hx
 have := z7c names x hx
 show [T.int .i64 x] = [T.int .i64 ((x.toNat : Nat) : Int)]
 rw [Int.toNat_of_nonneg this.1]
theorem z7h (names : List Bs) : ∀ x ∈ ixsN names, x < 256 := fun x hx => by
 simp only [ixsN, List.mem_map] at hx
 obtain ⟨y, hy, rfl⟩ := hx
 have := z7c names y hy
 omega
theorem z2b (names : List Bs) : Ups (ixsN names) := by
 unfold ixsN Ups
 rw [List.pairwise_map]
 refine List.Pairwise.imp_of_mem ?_ (z96 names)
 intro a b ha hb hab
 have h1 := z7c names a ha
 have h2 := z7c names b hb
 omega
theorem z1Y (names : List Bs) : (ixsN names).length ≤ names.length := by
 have := zdR names
 unfold ixsN
 rwa [List.length_map]
def z0N (names : List Bs) : Bool := names.all z0E && decide (1 ≤ names.length ∧ names.length ≤ 8)
def bksB (bks : List (List Lf)) (ix : List Nat) : Bool := (List.range bks.length).all fun i => leavesOk (bks.getD i []) && decide ((z0k (bks.getD i []) (ix.getD i 0 : Int)).length = (bks.getD i []).length)
def z15 (names : List Bs) (bks : List (List Lf)) (sides : List Bs) (w : Int) : Bool :=
 z0N names && (decide (bks.length = (ixsN names).length) && (inB w 1 32 && ((sides.all fun x => decide ((x.length : Int) = w)) && (bksB bks (ixsN names) && decide (sides.length = z1e 8 (ixsN names))))))
end Go.Proofs.YtfjbinbpgdiafaaGreatDoor
