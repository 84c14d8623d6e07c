/- Slices of entries in memory; the law's own eyes and marks on them. -/
import Derived.Test.YtkdajahiaedoiaaWords
import Derived.Test.YtkdajahiaedoiaaPlainLeaf
import Derived.Test.YtkdajahiaedoiaaHeld
import Derived.Deep.RegionHeld3
import Derived.Deep.LoopGhost
namespace Go.Proofs.Ytkdajahiaedoiaa
open Go.RowKit Pl
set_option linter.unusedVariables false

/-- The slice at A of n elements of sz cells each reads as the cells xs, below block hi. -/
def Rd (w : World) (hi sz : Nat) (A : Option Addr) (n : Nat) (xs : List Value) : Prop :=
  xs.length = n * sz ∧ (0 < n → ∃ g o, A = some ⟨g, o, none⟩ ∧ g < hi ∧ ∀ j u, xs[j]? = some u → w.cell? ⟨g, o + j, none⟩ = some u)
theorem Rd.below {w w' : World} {hi hi' sz : Nat} {A : Option Addr} {n : Nat} {xs : List Value} (h : Rd w hi sz A n xs) (hb : Below hi' w w') (hh : hi ≤ hi') : Rd w' hi sz A n xs :=
  ⟨h.1, fun hn => by
    obtain ⟨g, o, e, hg, hc⟩ := h.2 hn
    exact ⟨g, o, e, hg, fun j u hu => (hb.cell (p := ⟨g, o + j, none⟩) (by simp; omega)).trans (hc j u hu)⟩⟩
theorem Rd.more {w : World} {hi hi' sz : Nat} {A : Option Addr} {n : Nat} {xs : List Value} (h : Rd w hi sz A n xs) (hh : hi ≤ hi') : Rd w hi' sz A n xs :=
  ⟨h.1, fun hn => by
    obtain ⟨g, o, e, hg, hc⟩ := h.2 hn
    exact ⟨g, o, e, by omega, hc⟩⟩

/-- The cells of entries. -/
def lvC (l : List Lf) : List Value := l.flatMap fun x => [.string (bs x.1), .string (bs x.2)]
theorem lvC_len (l : List Lf) : (lvC l).length = l.length * 2 := by
  unfold lvC; induction l with
  | nil => rfl
  | cons x l ih => simp [List.flatMap_cons] at ih ⊢; omega
theorem lvC_get (l : List Lf) (k : Nat) (hk : k < l.length) : (lvC l)[k * 2]? = some (.string (bs (lfAt l k).1)) ∧ (lvC l)[k * 2 + 1]? = some (.string (bs (lfAt l k).2)) := by
  unfold lvC lfAt
  induction l generalizing k with
  | nil => simp at hk
  | cons x l ih =>
    rcases k with _ | k
    · simp [List.flatMap_cons]
    · have := ih k (by simpa using hk)
      rw [List.flatMap_cons]
      have e1 : (k + 1) * 2 = k * 2 + 2 := by omega
      rw [e1]
      simpa using this
theorem lvC_append (a b : List Lf) : lvC (a ++ b) = lvC a ++ lvC b := by simp [lvC]

/-- A slice of entries that can be read. -/
def RdL (w : World) (hi : Nat) (A : Option Addr) (n : Nat) (l : List Lf) : Prop := n = l.length ∧ Rd w hi 2 A n (lvC l)
theorem RdL.at {w : World} {hi : Nat} {A : Option Addr} {n k : Nat} {l : List Lf} (h : RdL w hi A n l) (hk : k < n) :
    ∃ g o, A = some ⟨g, o, none⟩ ∧ g < hi ∧ ∀ i, i < n → w.cell? ⟨g, o + i * 2, none⟩ = some (.string (bs (lfAt l i).1)) ∧ w.cell? ⟨g, o + i * 2 + 1, none⟩ = some (.string (bs (lfAt l i).2)) := by
  obtain ⟨hn, h1, h2⟩ := h
  obtain ⟨g, o, e, hg, hc⟩ := h2 (by omega)
  refine ⟨g, o, e, hg, fun i hi => ?_⟩
  have hl := lvC_get l i (by omega)
  exact ⟨hc _ _ hl.1, by rw [Nat.add_assoc]; exact hc _ _ hl.2⟩
theorem RdL.below {w w' : World} {hi hi' : Nat} {A : Option Addr} {n : Nat} {l : List Lf} (h : RdL w hi A n l) (hb : Below hi' w w') (hh : hi ≤ hi') : RdL w' hi A n l := ⟨h.1, h.2.below hb hh⟩

set_option maxRecDepth 100000 in
set_option maxHeartbeats 400000 in
theorem eqLeaf_same (a b : Bs) (w : World) :
    Calls Try.prog 65 #[.agg #[.string (bs a), .string (bs b)], .agg #[.string (bs a), .string (bs b)]] w fun e w' => e = .returned (.bool true) ∧ Below w.heap.size w w' := by
  go_enter Try.func65, Try.ntmps65
  go_wp2
  go_ret
  exact ⟨rfl, ((Below.refl _ w).alloc (Nat.le_refl _) _).alloc (by simp) _⟩

set_option maxRecDepth 100000 in
set_option maxHeartbeats 800000 in
theorem eqLeafS_same (A B : Option Addr) (n c d : Nat) (l : List Lf) (w : World) (hn : (n : Int) ≤ 1000000) (hA : RdL w w.heap.size A n l) (hB : RdL w w.heap.size B n l) :
    Calls Try.prog 18 #[.slice A n c, .slice B n d] w fun e w' => e = .returned (.bool true) ∧ Below w.heap.size w w' := by
  go_enter Try.func18, Try.ntmps18
  go_wp2
  go_loopw [5] (fun i wr => ∃ k : Nat, i = .int .i64 (k : Int) ∧ k ≤ n ∧ Below w.heap.size w wr) (fun i _ => n - (intOf i).toNat)
  case atStart => exact ⟨0, rfl, by omega, Below.refl _ _⟩
  case round =>
    obtain ⟨k, rfl, hk, hb⟩ := hrel
    by_cases hin : k < n
    · obtain ⟨g, o, rfl, hg, hcA⟩ := hA.at hin
      obtain ⟨g', o', rfl, hg', hcB⟩ := hB.at hin
      have a0 := (hb.cell (p := ⟨g, o + k * 2, none⟩) hg).trans (hcA k hin).1
      have a1 := (hb.cell (p := ⟨g, o + k * 2 + 1, none⟩) hg).trans (hcA k hin).2
      have b0 := (hb.cell (p := ⟨g', o' + k * 2, none⟩) hg').trans (hcB k hin).1
      have b1 := (hb.cell (p := ⟨g', o' + k * 2 + 1, none⟩) hg').trans (hcB k hin).2
      clear hcA hcB hA hB
      go_wp2
      go_region_held3 (fun W => Below w.heap.size w W ∧ W.cell? ⟨g, o + k * 2, none⟩ = some (.string (bs (lfAt l k).1)) ∧ W.cell? ⟨g, o + k * 2 + 1, none⟩ = some (.string (bs (lfAt l k).2)) ∧ W.cell? ⟨g', o' + k * 2, none⟩ = some (.string (bs (lfAt l k).1)) ∧ W.cell? ⟨g', o' + k * 2 + 1, none⟩ = some (.string (bs (lfAt l k).2))) (first | exact ⟨hb.drew, a0, a1, b0, b1⟩ | assumption | exact cellsStep4 hg hg hg' hg' (by assumption) hb2) (first | (go_at_call 65; refine (eqLeaf_same _ _ _).mono ?_; rintro e w2 ⟨rfl, hb2⟩) | fail)
      rename Below _ _ _ ∧ _ => hH
      have hB2 := hH.1
      clear hH
      go_wp2
      go_roundw
      case rel => exact ⟨k + 1, by go_num, by omega, hB2⟩
      case measure => simp [intOf]; omega
    · go_wp2
      go_ret
      exact ⟨rfl, hb⟩

set_option maxRecDepth 100000 in
set_option maxHeartbeats 800000 in
theorem markText_any (k : Nat) (w : World) (hk : (k : Int) ≤ 1000000000) :
    Calls Try.prog 66 #[.int .i64 (k : Int)] w fun e w' => e = .returned (.string (bs (markText k))) ∧ Below w.heap.size w w' := by
  by_cases h0 : (k : Int) ≤ 0
  · obtain rfl : k = 0 := by omega
    go_enter Try.func66, Try.ntmps66
    go_wp2
    go_ret
    exact ⟨rfl, Below.refl _ _⟩
  · go_enter Try.func66, Try.ntmps66
    go_wp2
    go_loopw [0, 3] (fun m s wr => ∃ (j : Nat) (out : Bs), m = .int .i64 (j : Int) ∧ s = .string (bs out) ∧ (out.length : Int) + (j : Int) ≤ (k : Int) ∧ Hid (decG k [] = decG j out) ∧ Below w.heap.size w wr) (fun m _ _ => (intOf m).toNat)
    case atStart => exact ⟨k, [], rfl, rfl, by simp, Lib.hid rfl, Below.refl _ _⟩
    case round =>
      obtain ⟨j, out, rfl, rfl, hj, HD, hb⟩ := hrel
      have hz := bs_size out
      by_cases hj0 : (0 : Int) < (j : Int)
      · obtain ⟨c, hc⟩ : ∃ c, UInt8.ofNat (48 + j % 10) = c := ⟨_, rfl⟩
        have hcv := (Byt.lit wr #[.int .u8 (48 + (j : Int) % 10)] [c] 1 rfl (by rw [← hc]; simp [bv]; omega) (by simp)).string
        have hz1 := bs_size [c]
        have hq : (bs [c]).size + (bs out).size ≤ 1000000010 := by rw [hz, hz1]; simp; omega
        have HC := Lib.hid hc
        clear hc
        have HZ := Lib.hid hz
        have HZ1 := Lib.hid hz1
        clear hz hz1
        go_wp2
        go_roundw
        case rel =>
          refine ⟨j / 10, c :: out, by go_num, ?_, by simp; omega, Lib.hid (by rw [HD.out, decG_step (by omega), HC.out]), hb.alloc hb.size _⟩
          exact congrArg Value.string (data_ext (by rw [data_append, bs_data, bs_data, bs_data]; rfl))
        case measure => simp [intOf]; omega
      · obtain rfl : j = 0 := by omega
        have hq : (bs out).size ≤ 1000000000 := by rw [hz]; omega
        have HZ := Lib.hid hz
        clear hz
        go_wp2
        go_ret
        refine ⟨?_, hb⟩
        have e1 : (ByteArray.mk #[109]) ++ bs out = bs (markText k) := by
          refine data_ext ?_
          rw [data_append, bs_data, bs_data, markText, if_neg (by omega), HD.out, decG_zero]; rfl
        rw [← e1]; rfl

theorem markText_at (z : Int) (k : Nat) (w : World) (hz : z = (k : Int)) (hk : (k : Int) ≤ 1000000000) :
    Calls Try.prog 66 #[.int .i64 z] w fun e w' => e = .returned (.string (bs (markText k))) ∧ Below w.heap.size w w' := by subst hz; exact markText_any k w hk

/-! ### a slice of entries of the call's own -/
def OwL (w : World) (base : Nat) (v : Value) (n : Nat) (l : List Lf) : Prop := n = l.length ∧ w.ownsRow base 47 2 v n (lvC l)
theorem lvC_set0 {a r : List Lf} {x : Lf} {m : Bs} {j : Nat} (ha : a.length = j) : (lvC (a ++ x :: r)).set (j * 2) (.string (bs m)) = lvC (a ++ (m, x.2) :: r) := by
  subst ha
  rw [lvC_append, lvC_append, List.set_append, if_neg (by rw [lvC_len]; omega), lvC_len, Nat.sub_self]; rfl
theorem lvC_set1 {a r : List Lf} {x : Lf} {m : Bs} {j : Nat} (ha : a.length = j) : (lvC (a ++ x :: r)).set (j * 2 + 1) (.string (bs m)) = lvC (a ++ (x.1, m) :: r) := by
  subst ha
  rw [lvC_append, lvC_append, List.set_append, if_neg (by rw [lvC_len]; omega), lvC_len, Nat.add_sub_cancel_left]; rfl
section
variable {w : World} {base g n c j : Nat} {a r : List Lf} {x : Lf} (h : OwL w base (.slice (some ⟨g, 0, none⟩) n c) n (a ++ x :: r)) (ha : a.length = j)
include h ha
theorem OwL.store0 (m : Bs) : OwL (w.setCell ⟨g, j * 2, none⟩ (.string (bs m))) base (.slice (some ⟨g, 0, none⟩) n c) n (a ++ (m, x.2) :: r) := by
  refine ⟨by have := h.1; simpa using this, ?_⟩
  rw [← lvC_set0 ha]
  exact (h.2.stored (j * 2) (.string (bs m))).1
theorem OwL.store1 (m : Bs) : OwL (w.setCell ⟨g, j * 2 + 1, none⟩ (.string (bs m))) base (.slice (some ⟨g, 0, none⟩) n c) n (a ++ (x.1, m) :: r) := by
  refine ⟨by have := h.1; simpa using this, ?_⟩
  rw [← lvC_set1 ha]
  exact (h.2.stored (j * 2 + 1) (.string (bs m))).1
theorem OwL.cell0 : w.cell? ⟨g, j * 2, none⟩ = some (.string (bs x.1)) := by
  have hl := h.1
  simp at hl
  rw [h.2.cellAt (j * 2) (by omega), (lvC_get _ j (by simp; omega)).1]
  subst ha; simp [lfAt]
theorem OwL.cell1 : w.cell? ⟨g, j * 2 + 1, none⟩ = some (.string (bs x.2)) := by
  have hl := h.1
  simp at hl
  rw [h.2.cellAt (j * 2 + 1) (by omega), (lvC_get _ j (by simp; omega)).2]
  subst ha; simp [lfAt]
end
theorem OwL.rd {w : World} {base : Nat} {A : Option Addr} {n c : Nat} {l : List Lf} (h : OwL w base (.slice A n c) n l) : RdL w w.heap.size A n l := by
  refine ⟨h.1, h.2.1, fun hn => ?_⟩
  rcases h.2.2 with ⟨he, h0⟩ | ⟨g, cap, cur, he, hb, hg, hnc, hcm, hcs, htake⟩
  · omega
  · have hA : A = some ⟨g, 0, none⟩ := by injection he
    refine ⟨g, 0, hA, (Array.getElem?_eq_some_iff.1 hg).1, fun j u hu => ?_⟩
    have hc := World.ownsRow.cellAt (cap := cap) (by rw [← he]; exact h.2) j (by
      have := (List.getElem?_eq_some_iff.1 hu).1
      rw [h.2.1] at this; exact this)
    rw [Nat.zero_add, hc, hu]
theorem OwL.grown {w w' : World} {base : Nat} {v : Value} {n : Nat} {l : List Lf} {row : Option Nat} (h : OwL w base v n l) (hb : w.grownBy w' row) (hr : v.ownBlock = none ∨ v.ownBlock ≠ row) : OwL w' base v n l := ⟨h.1, h.2.kept hb hr⟩
theorem OwL.below {w w' : World} {base : Nat} {v : Value} {n : Nat} {l : List Lf} (h : OwL w base v n l) (hb : Below w.heap.size w w') : OwL w' base v n l :=
  h.grown (row := none) ⟨hb.os, hb.tape, hb.output, hb.size, fun i hi _ => hb.block i hi⟩ (by cases h : v.ownBlock <;> simp)

def marksF (k : Nat) : Nat → List Lf
  | 0 => []
  | n + 1 => marksF k n ++ [(markText (k + 2 * n), markText (k + 2 * n + 1))]
theorem marksF_len (k n : Nat) : (marksF k n).length = n := by induction n with
  | zero => rfl
  | succ n ih => rw [marksF, List.length_append, ih]; rfl
theorem drop_at (l : List Lf) (i : Nat) (h : i < l.length) : l.drop i = lfAt l i :: l.drop (i + 1) := by
  rw [List.drop_eq_getElem_cons h, lfAt, List.getD_eq_getElem?_getD, List.getElem?_eq_getElem h]; rfl

set_option maxRecDepth 100000 in
set_option maxHeartbeats 1000000 in
theorem markLeafS_any (g n c base k : Nat) (l : List Lf) (w : World) (hn : (n : Int) ≤ 1000000) (hk : (k : Int) ≤ 100000000) (hO : OwL w base (.slice (some ⟨g, 0, none⟩) n c) n l) :
    Calls Try.prog 19 #[.slice (some ⟨g, 0, none⟩) n c, .int .i64 (k : Int)] w fun e w' => e = .returned (.int .i64 ((k + 2 * n : Nat) : Int)) ∧ OwL w' base (.slice (some ⟨g, 0, none⟩) n c) n (marksF k n) ∧ Only g w w' := by
  have HLN := Lib.hid hO.1
  go_enter Try.func19, Try.ntmps19
  go_wp2
  go_loopw [1, 5] (fun m i wr => ∃ j : Nat, i = .int .i64 (j : Int) ∧ m = .int .i64 ((k : Int) + 2 * (j : Int)) ∧ j ≤ n ∧ OwL wr base (.slice (some ⟨g, 0, none⟩) n c) n (marksF k j ++ l.drop j) ∧ Only g w wr) (fun _ i _ => n - (intOf i).toNat)
  case atStart => exact ⟨0, rfl, by simp, by omega, by simpa [marksF] using hO, Only.refl _ _⟩
  case round =>
    obtain ⟨j, rfl, rfl, hj, hOw, hon⟩ := hrel
    by_cases hin : j < n
    · have hjl : j < l.length := by have := HLN.out; omega
      rw [drop_at l j hjl] at hOw
      clear hjl
      have hml := marksF_len k j
      have HM := Lib.hid hml
      clear hml
      go_wp2_with (fail)
      refine (markText_at _ (k + 2 * j) _ (by omega) (by omega)).mono ?_
      rintro e w1 ⟨rfl, hb1⟩
      have hO1 := hOw.below hb1
      have hon1 : Only g w w1 := hon.trans (Only.of_below hb1 g)
      have x0 := hO1.cell0 HM.out
      have y0 := hO1.2.frozenAt (j * 2)
      have hO2 := hO1.store0 HM.out (markText (k + 2 * j))
      have hon2 : Only g w (w1.setCell ⟨g, j * 2, none⟩ (.string (bs (markText (k + 2 * j))))) := hon1.set (.inl rfl) _
      go_wp2_with (fail)
      refine (markText_at _ (k + 2 * j + 1) _ (by omega) (by omega)).mono ?_
      rintro e w2 ⟨rfl, hb2⟩
      have hO3 := hO2.below hb2
      have hon3 := hon2.trans (Only.of_below hb2 g)
      have x1 := hO3.cell1 HM.out
      have y1 := hO3.2.frozenAt (j * 2 + 1)
      have hO4 := hO3.store1 HM.out (markText (k + 2 * j + 1))
      have hon4 : Only g w (w2.setCell ⟨g, j * 2 + 1, none⟩ (.string (bs (markText (k + 2 * j + 1))))) := hon3.set (.inl rfl) _
      have H4 := Lib.hid hO4
      clear hO4 hO3 hO2 hO1 x0 y0
      go_wp2
      go_roundw
      case rel =>
        refine ⟨j + 1, by go_num, by go_num, by omega, ?_, hon4⟩
        have := H4.out
        rw [marksF, List.append_assoc]
        exact this
      case measure => simp [intOf]; omega
    · obtain rfl : j = n := by omega
      go_wp2
      go_ret
      refine ⟨by go_num, ?_, hon⟩
      rw [List.drop_of_length_le (by have := HLN.out; omega), List.append_nil] at hOw
      exact hOw

set_option maxRecDepth 100000 in
set_option maxHeartbeats 400000 in
theorem markLeafS_own (A : Option Addr) (n c base k : Nat) (l : List Lf) (w : World) (hn : (n : Int) ≤ 1000000) (hk : (k : Int) ≤ 100000000) (hO : OwL w base (.slice A n c) n l) :
    Calls Try.prog 19 #[.slice A n c, .int .i64 (k : Int)] w fun e w' => e = .returned (.int .i64 ((k + 2 * n : Nat) : Int)) ∧ OwL w' base (.slice A n c) n (marksF k n) ∧ w.grownBy w' (Value.slice A n c).ownBlock := by
  rcases hO.2.2 with ⟨he, h0⟩ | ⟨g, cap, cur, he, hb, hg, hnc, hcm, hcs, htake⟩
  · obtain rfl : A = none := by injection he
    obtain rfl : c = 0 := by injection he
    subst h0
    clear he
    have H := Lib.hid hO
    clear hO
    go_enter Try.func19, Try.ntmps19
    go_wp2
    go_loop [1, 5] (fun m i => i = .int .i64 0 ∧ m = .int .i64 (k : Int)) (fun _ _ => 0)
    case atStart => exact ⟨rfl, rfl⟩
    case round =>
      obtain ⟨rfl, rfl⟩ := hrel
      go_wp2
      go_ret
      exact ⟨by simp, ⟨rfl, rfl, .inl ⟨rfl, rfl⟩⟩, World.grownBy.refl _ _⟩
  · obtain rfl : A = some ⟨g, 0, none⟩ := by injection he
    exact markLeafS_any g n c base k l w hn hk hO

theorem marksF_at (k : Nat) : ∀ (n i : Nat), i < n → lfAt (marksF k n) i = (markText (k + 2 * i), markText (k + 2 * i + 1))
  | 0, _, h => by omega
  | n + 1, i, h => by
    rw [marksF, lfAt, List.getD_eq_getElem?_getD]
    rcases Nat.lt_or_ge i n with hi | hi
    · rw [List.getElem?_append_left (by rw [marksF_len]; exact hi)]
      have := marksF_at k n i hi
      rw [lfAt, List.getD_eq_getElem?_getD] at this
      exact this
    · obtain rfl : i = n := by omega
      rw [List.getElem?_append_right (by rw [marksF_len]; omega), marksF_len]
      simp

set_option maxRecDepth 100000 in
set_option maxHeartbeats 1000000 in
theorem heldLeafS_any (A : Option Addr) (n c k : Nat) (w : World) (hn : (n : Int) ≤ 1000000) (hk : (k : Int) ≤ 100000000) (hA : RdL w w.heap.size A n (marksF k n)) :
    Calls Try.prog 20 #[.slice A n c, .int .i64 (k : Int)] w fun e w' => e = .returned (.int .i64 ((k + 2 * n : Nat) : Int)) ∧ Below w.heap.size w w' := by
  go_enter Try.func20, Try.ntmps20
  go_wp2
  go_loopw [1, 5] (fun m i wr => ∃ j : Nat, i = .int .i64 (j : Int) ∧ m = .int .i64 ((k : Int) + 2 * (j : Int)) ∧ j ≤ n ∧ Below w.heap.size w wr) (fun _ i _ => n - (intOf i).toNat)
  case atStart => exact ⟨0, rfl, by simp, by omega, Below.refl _ _⟩
  case round =>
    obtain ⟨j, rfl, rfl, hj, hb⟩ := hrel
    by_cases hin : j < n
    · obtain ⟨g, o, rfl, hg, hcA⟩ := hA.at hin
      have a0 := (hb.cell (p := ⟨g, o + j * 2, none⟩) hg).trans (hcA j hin).1
      have a1 := (hb.cell (p := ⟨g, o + j * 2 + 1, none⟩) hg).trans (hcA j hin).2
      rw [marksF_at k n j hin] at a0 a1
      have hne0 : ((bs (markText (k + 2 * j))).toList == (bs (markText (k + 2 * j))).toList) = true := by simp
      have hne1 : ((bs (markText (k + 2 * j + 1))).toList == (bs (markText (k + 2 * j + 1))).toList) = true := by simp
      clear hcA hA
      go_wp2
      go_region_held3 (fun W => Below w.heap.size w W ∧ W.cell? ⟨g, o + j * 2, none⟩ = some (.string (bs (markText (k + 2 * j)))) ∧ W.cell? ⟨g, o + j * 2 + 1, none⟩ = some (.string (bs (markText (k + 2 * j + 1))))) (first | exact ⟨hb.drew, a0, a1⟩ | assumption | exact cellsStep2 hg hg (by assumption) hb2) (first | (go_at_call 66; refine (markText_at _ (k + 2 * j) _ (by omega) (by omega)).mono ?_; rintro e w2 ⟨rfl, hb2⟩) | fail)
      rename Below _ _ _ ∧ _ => hH
      obtain ⟨hB2, c0, c1⟩ := hH
      clear a0 a1
      go_wp2
      go_region_held3 (fun W => Below w.heap.size w W ∧ W.cell? ⟨g, o + j * 2, none⟩ = some (.string (bs (markText (k + 2 * j)))) ∧ W.cell? ⟨g, o + j * 2 + 1, none⟩ = some (.string (bs (markText (k + 2 * j + 1))))) (first | exact ⟨hB2.drew, c0, c1⟩ | assumption | exact cellsStep2 hg hg (by assumption) hb3) (first | (go_at_call 66; refine (markText_at _ (k + 2 * j + 1) _ (by omega) (by omega)).mono ?_; rintro e w3 ⟨rfl, hb3⟩) | fail)
      rename Below _ _ _ ∧ _ => hH
      have hB3 := hH.1
      clear hH c0 c1
      go_wp2
      go_roundw
      case rel => exact ⟨j + 1, by go_num, by go_num, by omega, hB3⟩
      case measure => simp [intOf]; omega
    · obtain rfl : j = n := by omega
      go_wp2
      go_ret
      exact ⟨by go_num, hb⟩
end Go.Proofs.Ytkdajahiaedoiaa
