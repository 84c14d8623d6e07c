/- Memory that a call makes: rows of bytes, and the strings made of them. What the small functions on numbers and strings compute. What the reference's small functions on numbers and strings compute. Names and values: the program's tests and the reference's. -/
import Derived.Test.YtfgkjgfigjpkoaaDoorRows
import Derived.Test.YtfgkjgfigjpkoaaDoorPlain
import Derived.WalkKit
import Derived.WalkSpells
import Derived.WalkLawsBesides
import Derived.Lib.Hide
import Derived.Laws.BytesArg
import Derived.Laws.IdiomStrings
import Derived.Deep.Draws
import Derived.Deep.QuietTactic
import Derived.BigQuiet
import Derived.Laws.OwnMore
import Derived.Laws.Rows
import Derived.Deep.DeepMust
import Derived.PlainAid
import Derived.Deep.RegionHeld3
import Derived.Deep.RegionWith
namespace Go.Proofs.YtfgkjgfigjpkoaaDoor
set_option maxRecDepth 100000
set_option maxHeartbeats 800000
set_option linter.unusedVariables false
set_option linter.unusedSimpArgs false
set_option linter.unusedSectionVars false
open Go.RowKit Pl
def bv (b : UInt8) : Value := .int .u8 (b.toNat : Int)
def Byt (w : World) (base : Nat) (v : Value) (l : Bs) : Prop := w.ownsRow base 5 1 v l.length (l.map bv)
theorem Byt.string {w : World} {base : Nat} {v : Value} {l : Bs} (h : Byt w base v l) : (convert 22 9 v).run Tryd.prog w = .ok (.string (bs l)) w := by
 rcases h.2 with ⟨rfl, hn⟩ | ⟨g, cap, cur, rfl, _, _, _⟩
 ·have : l = [] := List.eq_nil_of_length_eq_zero hn
  subst this
  exact run_convert_bytes_nil w _ _ Tryd.underlying22 Tryd.underlying5 0 0 _ Tryd.underlying9
 ·refine run_convert_bytes_back w _ _ _ _ cap l Tryd.underlying22 Tryd.underlying5 Tryd.underlying9 (fun j hj => ?_)
  exact World.ownsRow.cells h (g := g) rfl j _ (by simp [bv, List.getElem?_eq_getElem hj])
theorem Byt.nil (w : World) (base : Nat) : Byt w base (.slice none 0 0) [] := ⟨rfl, .inl ⟨rfl, rfl⟩⟩
theorem Byt.lit (w : World) (C : Array Value) (l : Bs) (m : Nat) (hm : m = l.length) (hC : C.toList = l.map bv) (hl : l.length ≤ 1000000) : Byt (w.alloc (.cells C 5)) w.heap.size (.slice (some ⟨w.heap.size, 0, none⟩) m m) l := by
 subst hm
 have hs : C.size = l.length := by rw [← Array.length_toList, hC, List.length_map]
 refine ⟨by simp, .inr ⟨w.heap.size, l.length, C, rfl, Nat.le_refl _, heap_alloc_new w _, Nat.le_refl _, by unfold maxLen; omega, by omega, ?_⟩⟩
 rw [Nat.mul_one, hC, List.take_of_length_le (by simp)]
theorem Byt.empty (w : World) : Byt (w.alloc (.cells #[] 5)) w.heap.size (.slice (some ⟨w.heap.size, 0, none⟩) 0 0) [] :=
 ⟨rfl, .inr ⟨w.heap.size, 0, #[], rfl, Nat.le_refl _, heap_alloc_new w _, Nat.le_refl _, Nat.zero_le _, rfl, rfl⟩⟩
def Box (w : World) (g : Nat) (t : TypeId) (cs : Array Value) : Prop := w.heap[g]? = some (.cells cs t (0, 0))
def Only (g : Nat) (w w' : World) : Prop := w.grownBy w' (some g)
section
variable {w w' w2 : World} {g : Nat} {t : TypeId} {cs : Array Value}
theorem Box.lt (h : Box w g t cs) : g < w.heap.size := by
 unfold Box at h
 rcases Nat.lt_or_ge g w.heap.size with hlt | hge
 ·exact hlt
 ·rw [Array.getElem?_eq_none hge] at h; cases h
theorem Box.cell (h : Box w g t cs) (i : Nat) : w.cell? ⟨g, i, none⟩ = cs[i]? := cell_of_row w g i cs t (0, 0) h
theorem Box.new (w : World) (t : TypeId) (cs : Array Value) : Box (w.alloc (.cells cs t)) w.heap.size t cs := heap_alloc_new w _
theorem Box.drew (h : Box w g t cs) : Box w.drew g t cs := h
theorem Box.alloc (h : Box w g t cs) (o : Obj) : Box (w.alloc o) g t cs := (Below.heap_alloc w o g h.lt).trans h
theorem Box.set (h : Box w g t cs) (i : Nat) (u : Value) : Box (w.setCell ⟨g, i, none⟩ u) g t (cs.setIfInBounds i u) := by
 unfold Box at h ⊢
 simp [World.setCell, Array.getElem?_modify, h]
theorem Box.below {B : Nat} (h : Box w g t cs) (hb : Below B w w') (hg : g < B) : Box w' g t cs := (hb.block g hg).trans h
theorem Box.grown {row : Option Nat} (h : Box w g t cs) (hb : w.grownBy w' row) (hg : some g ≠ row) : Box w' g t cs := (hb.block g h.lt hg).trans h
theorem Box.only {g' : Nat} (h : Box w g t cs) (hb : Only g' w w') (hg : g ≠ g') : Box w' g t cs := h.grown hb (fun e => hg (by injection e))
theorem Only.refl (g : Nat) (w : World) : Only g w w := World.grownBy.refl w _
theorem Only.trans (h : Only g w w') (k : Only g w' w2) : Only g w w2 :=
 ⟨k.os.trans h.os, k.tape.trans h.tape, k.output.trans h.output, Nat.le_trans h.size k.size, fun i hi hn => (k.block i (Nat.lt_of_lt_of_le hi h.size) hn).trans (h.block i hi hn)⟩
theorem Only.drew (h : Only g w w') : Only g w w'.drew := ⟨h.os, h.tape, h.output, h.size, h.block⟩
theorem Only.alloc (h : Only g w w') (o : Obj) : Only g w (w'.alloc o) :=
 ⟨h.os, h.tape, h.output, Nat.le_trans h.size (by simp), fun i hi hne => (Below.heap_alloc w' o i (Nat.lt_of_lt_of_le hi h.size)).trans (h.block i hi hne)⟩
theorem Only.set (h : Only g w w') {p : Addr} (hp : p.block = g ∨ w.heap.size ≤ p.block) (u : Value) : Only g w (w'.setCell p u) :=
 ⟨h.os, h.tape, h.output, by simpa [World.setCell] using h.size, fun i hi hne => (Below.heap_setCell w' p u i (by
   rintro rfl
   rcases hp with hp | hp
   ·exact hne (by rw [hp])
   ·omega)).trans (h.block i hi hne)⟩
theorem Only.below {B : Nat} (h : Only g w w') (hg : B ≤ g) (hB : B ≤ w.heap.size) : Below B w w' := ⟨h.os, h.tape, h.output, h.size, fun i hi => h.block i (by omega) (fun e => by injection e; omega)⟩
end
end Go.Proofs.YtfgkjgfigjpkoaaDoor
namespace Go.Proofs.YtfgkjgfigjpkoaaDoor
set_option maxRecDepth 100000
set_option maxHeartbeats 800000
set_option linter.unusedVariables false
set_option linter.unusedSimpArgs false
set_option linter.unusedSectionVars false
open Go.RowKit Pl
theorem z1D (n lo hi : Int) (w : World) (h : lo ≤ n) (h2 : n ≤ hi) :
 Calls Tryd.prog 12 #[.int .i64 n, .int .i64 lo, .int .i64 hi] w fun e w' => e = .returned (.bool true) ∧ w = w' := by
 go_enter Tryd.func12, Tryd.ntmps12
 go_wp2
 go_ret
 exact ⟨rfl, rfl⟩
theorem z7l (n lo hi : Int) (w : World) (h : ¬ (lo ≤ n ∧ n ≤ hi)) :
 Calls Tryd.prog 12 #[.int .i64 n, .int .i64 lo, .int .i64 hi] w fun e w' => e = .returned (.bool false) ∧ w = w' := by
 by_cases h1 : lo ≤ n
 ·have h2 : ¬ n ≤ hi := fun c => h ⟨h1, c⟩
  clear h
  go_enter Tryd.func12, Tryd.ntmps12
  go_wp2
  go_ret
  exact ⟨rfl, rfl⟩
 ·clear h
  go_enter Tryd.func12, Tryd.ntmps12
  go_wp2
  go_ret
  exact ⟨rfl, rfl⟩
end Go.Proofs.YtfgkjgfigjpkoaaDoor
namespace Go.Proofs.YtfgkjgfigjpkoaaDoor
set_option maxRecDepth 100000
set_option maxHeartbeats 800000
set_option linter.unusedVariables false
set_option linter.unusedSimpArgs false
set_option linter.unusedSectionVars false
open Go.RowKit Pl
theorem z3m (n lo hi : Int) (w : World) (h : lo ≤ n) (h2 : n ≤ hi) :
 Calls Tryd.prog 30 #[.int .i64 n, .int .i64 lo, .int .i64 hi] w fun e w' => e = .returned (.bool true) ∧ w = w' := by
 go_enter Tryd.func30, Tryd.ntmps30
 go_wp2
 go_ret
 exact ⟨rfl, rfl⟩
theorem z8s (n lo hi : Int) (w : World) (h : ¬ (lo ≤ n ∧ n ≤ hi)) :
 Calls Tryd.prog 30 #[.int .i64 n, .int .i64 lo, .int .i64 hi] w fun e w' => e = .returned (.bool false) ∧ w = w' := by
 by_cases h1 : lo ≤ n
 ·have h2 : ¬ n ≤ hi := fun c => h ⟨h1, c⟩
  clear h
  go_enter Tryd.func30, Tryd.ntmps30
  go_wp2
  go_ret
  exact ⟨rfl, rfl⟩
 ·clear h
  go_enter Tryd.func30, Tryd.ntmps30
  go_wp2
  go_ret
  exact ⟨rfl, rfl⟩
end Go.Proofs.YtfgkjgfigjpkoaaDoor
namespace Go.Proofs.YtfgkjgfigjpkoaaDoor
set_option maxRecDepth 100000
set_option maxHeartbeats 800000
set_option linter.unusedVariables false
set_option linter.unusedSimpArgs false
set_option linter.unusedSectionVars false
open Go.RowKit Pl
theorem z2B (s : ByteArray) (w : World) (hs : (s.size : Int) ≤ 1000000000) :
 Calls Tryd.prog 83 #[.string s] w fun e w' => e = .returned (.bool (z1v s.data.toList)) ∧ w = w' := by
 go_enter Tryd.func83, Tryd.ntmps83
 go_wp2
 go_loop [3] (fun i => ∃ k : Nat, i = .int .i64 (k : Int) ∧ k ≤ s.size ∧ Hid (∀ j, j < k → z2X (nb s j) = true)) (fun i => s.size - (intOf i).toNat)
 case atStart => exact ⟨0, rfl, by omega, Lib.hid (fun j hj => absurd hj (by omega))⟩
 case round =>
  obtain ⟨k, rfl, hk, HK⟩ := hrel
  by_cases hin : k < s.size ∧ k ≤ 12
  ·have hnb := z68 s
   have hb1 := z9m s k
   have hcase : (97 ≤ nb s k ∧ nb s k ≤ 122) ∨ (48 ≤ nb s k ∧ nb s k ≤ 57) ∨ (64 ≤ nb s k ∧ nb s k ≤ 64) ∨ (46 ≤ nb s k ∧ nb s k ≤ 46) ∨ (0 ≤ nb s k ∧ nb s k ≤ 45) ∨ (47 ≤ nb s k ∧ nb s k ≤ 47) ∨ (58 ≤ nb s k ∧ nb s k ≤ 63) ∨ (65 ≤ nb s k ∧ nb s k ≤ 96) ∨ (123 ≤ nb s k ∧ nb s k ≤ 255) := by omega
   have hgood : ∀ n : Nat, ((97 ≤ n ∧ n ≤ 122) ∨ (48 ≤ n ∧ n ≤ 57) ∨ n = 64 ∨ n = 46) → z2X n = true := by
    rintro n (h | h | h | h) <;> simp [z2X, h]
   have hbad : ¬ ((97 ≤ nb s k ∧ nb s k ≤ 122) ∨ (48 ≤ nb s k ∧ nb s k ≤ 57) ∨ nb s k = 64 ∨ nb s k = 46) → z1v s.data.toList = false := by
    intro h
    refine z2K (f := z2X) hin.1 ?_
    simp only [z2X, Bool.or_eq_false_iff, Bool.and_eq_false_iff, decide_eq_false_iff_not, beq_eq_false_iff_ne]
    omega
   have HG := Lib.hid hgood
   have HBad := Lib.hid hbad
   clear hgood hbad
   rcases hcase with ⟨h1, h2⟩ | ⟨h1, h2⟩ | ⟨h1, h2⟩ | ⟨h1, h2⟩ | ⟨h1, h2⟩ | ⟨h1, h2⟩ | ⟨h1, h2⟩ | ⟨h1, h2⟩ | ⟨h1, h2⟩
   iterate 2
    ·go_wp2
     go_round
     case rel => exact ⟨k + 1, by go_num, by omega, Lib.hid (fun j hj => by
      rcases Nat.lt_or_ge j k with h | h
      ·exact HK.out j h
      ·obtain rfl : j = k := by omega
       exact HG.out _ (by omega))⟩
     case measure => simp [intOf]; omega
   ·have hn1 : (((nb s k : Nat) : Int) != 64) = false := by simp; omega
    go_wp2
    go_round
    case rel => exact ⟨k + 1, by go_num, by omega, Lib.hid (fun j hj => by
     rcases Nat.lt_or_ge j k with h | h
     ·exact HK.out j h
     ·obtain rfl : j = k := by omega
      exact HG.out _ (by omega))⟩
    case measure => simp [intOf]; omega
   ·have hn1 : (((nb s k : Nat) : Int) != 64) = true := by simp; omega
    have hn2 : (((nb s k : Nat) : Int) != 46) = false := by simp; omega
    go_wp2
    go_round
    case rel => exact ⟨k + 1, by go_num, by omega, Lib.hid (fun j hj => by
     rcases Nat.lt_or_ge j k with h | h
     ·exact HK.out j h
     ·obtain rfl : j = k := by omega
      exact HG.out _ (by omega))⟩
    case measure => simp [intOf]; omega
   iterate 5
    ·have hn1 : (((nb s k : Nat) : Int) != 64) = true := by simp; omega
     have hn2 : (((nb s k : Nat) : Int) != 46) = true := by simp; omega
     go_wp2
     go_ret
     exact ⟨by rw [HBad.out (by omega)]; rfl, rfl⟩
  ·by_cases hr : 1 ≤ s.size ∧ s.size ≤ 12
   ·obtain rfl : k = s.size := by omega
    have hfin : z1v s.data.toList = true := z2a HK.out hr.1 hr.2
    have HF := Lib.hid hfin
    clear hfin
    go_wp2_with (go_at_call 12; refine (z1D _ _ _ _ (by omega) (by omega)).mono ?_; rintro e w1 ⟨rfl, rfl⟩)
    all_goals
     go_ret
     exact ⟨by rw [HF.out]; rfl, rfl⟩
   ·have hfin : z1v s.data.toList = false := z2b hr
    have HF := Lib.hid hfin
    clear hfin
    go_wp2_with (go_at_call 12; refine (z7l _ _ _ _ (by omega)).mono ?_; rintro e w1 ⟨rfl, rfl⟩)
    all_goals
     go_ret
     exact ⟨by rw [HF.out]; rfl, rfl⟩
theorem z60 (s : ByteArray) (w : World) (hs : (s.size : Int) ≤ 1000000000) :
 Calls Tryd.prog 84 #[.string s] w fun e w' => e = .returned (.bool (z0Y s.data.toList)) ∧ w = w' := by
 go_enter Tryd.func84, Tryd.ntmps84
 go_wp2
 go_loop [3] (fun i => ∃ k : Nat, i = .int .i64 (k : Int) ∧ k ≤ s.size ∧ Hid (∀ j, j < k → valN (nb s j) = true)) (fun i => s.size - (intOf i).toNat)
 case atStart => exact ⟨0, rfl, by omega, Lib.hid (fun j hj => absurd hj (by omega))⟩
 case round =>
  obtain ⟨k, rfl, hk, HK⟩ := hrel
  by_cases hin : k < s.size ∧ k ≤ 12
  ·have hnb := z68 s
   have hb1 := z9m s k
   by_cases hv : 33 ≤ nb s k ∧ nb s k ≤ 126
   ·have HY := Lib.hid (show valN (nb s k) = true by simp [valN, hv.1, hv.2])
    go_wp2_with (go_at_call 12; refine (z1D _ _ _ _ (by omega) (by omega)).mono ?_; rintro e w1 ⟨rfl, rfl⟩)
    go_round
    case rel => exact ⟨k + 1, by go_num, by omega, Lib.hid (fun j hj => by
     rcases Nat.lt_or_ge j k with h | h
     ·exact HK.out j h
     ·obtain rfl : j = k := by omega
      exact HY.out)⟩
    case measure => simp [intOf]; omega
   ·have HY := Lib.hid (z2K (f := valN) hin.1 (by simp [valN]; omega))
    go_wp2_with (go_at_call 12; refine (z7l _ _ _ _ (by omega)).mono ?_; rintro e w1 ⟨rfl, rfl⟩)
    go_ret
    exact ⟨by rw [z0Y, HY.out]; rfl, rfl⟩
  ·by_cases hr : 1 ≤ s.size ∧ s.size ≤ 12
   ·obtain rfl : k = s.size := by omega
    have hfin : z0Y s.data.toList = true := z2a HK.out hr.1 hr.2
    have HF := Lib.hid hfin
    clear hfin
    go_wp2_with (go_at_call 12; refine (z1D _ _ _ _ (by omega) (by omega)).mono ?_; rintro e w1 ⟨rfl, rfl⟩)
    all_goals
     go_ret
     exact ⟨by rw [HF.out]; rfl, rfl⟩
   ·have hfin : z0Y s.data.toList = false := z2b hr
    have HF := Lib.hid hfin
    clear hfin
    go_wp2_with (go_at_call 12; refine (z7l _ _ _ _ (by omega)).mono ?_; rintro e w1 ⟨rfl, rfl⟩)
    all_goals
     go_ret
     exact ⟨by rw [HF.out]; rfl, rfl⟩
theorem z27 (s : ByteArray) (w : World) (hs : (s.size : Int) ≤ 1000000000) :
 Calls Tryd.prog 75 #[.string s] w fun e w' => e = .returned (.bool (z1v s.data.toList)) ∧ w = w' := by
 go_enter Tryd.func75, Tryd.ntmps75
 go_wp2
 go_loop [3] (fun i => ∃ k : Nat, i = .int .i64 (k : Int) ∧ k ≤ s.size ∧ Hid (∀ j, j < k → z2X (nb s j) = true)) (fun i => s.size - (intOf i).toNat)
 case atStart => exact ⟨0, rfl, by omega, Lib.hid (fun j hj => absurd hj (by omega))⟩
 case round =>
  obtain ⟨k, rfl, hk, HK⟩ := hrel
  by_cases hin : k < s.size
  ·have hnb := z68 s
   have hb1 := z9m s k
   have hcase : (97 ≤ nb s k ∧ nb s k ≤ 122) ∨ (48 ≤ nb s k ∧ nb s k ≤ 57) ∨ (64 ≤ nb s k ∧ nb s k ≤ 64) ∨ (46 ≤ nb s k ∧ nb s k ≤ 46) ∨ (0 ≤ nb s k ∧ nb s k ≤ 45) ∨ (47 ≤ nb s k ∧ nb s k ≤ 47) ∨ (58 ≤ nb s k ∧ nb s k ≤ 63) ∨ (65 ≤ nb s k ∧ nb s k ≤ 96) ∨ (123 ≤ nb s k ∧ nb s k ≤ 255) := by omega
   have hgood : ∀ n : Nat, ((97 ≤ n ∧ n ≤ 122) ∨ (48 ≤ n ∧ n ≤ 57) ∨ n = 64 ∨ n = 46) → z2X n = true := by
    rintro n (h | h | h | h) <;> simp [z2X, h]
   have hbad : ¬ ((97 ≤ nb s k ∧ nb s k ≤ 122) ∨ (48 ≤ nb s k ∧ nb s k ≤ 57) ∨ nb s k = 64 ∨ nb s k = 46) → z1v s.data.toList = false := by
    intro h
    refine z2K (f := z2X) hin ?_
    simp only [z2X, Bool.or_eq_false_iff, Bool.and_eq_false_iff, decide_eq_false_iff_not, beq_eq_false_iff_ne]
    omega
   have HG := Lib.hid hgood
   have HBad := Lib.hid hbad
   clear hgood hbad
   rcases hcase with ⟨h1, h2⟩ | ⟨h1, h2⟩ | ⟨h1, h2⟩ | ⟨h1, h2⟩ | ⟨h1, h2⟩ | ⟨h1, h2⟩ | ⟨h1, h2⟩ | ⟨h1, h2⟩ | ⟨h1, h2⟩
   iterate 2
    ·go_wp2
     go_round
     case rel => exact ⟨k + 1, by go_num, by omega, Lib.hid (fun j hj => by
      rcases Nat.lt_or_ge j k with h | h
      ·exact HK.out j h
      ·obtain rfl : j = k := by omega
       exact HG.out _ (by omega))⟩
     case measure => simp [intOf]; omega
   ·have hn1 : (((nb s k : Nat) : Int) != 64) = false := by simp; omega
    go_wp2
    go_round
    case rel => exact ⟨k + 1, by go_num, by omega, Lib.hid (fun j hj => by
     rcases Nat.lt_or_ge j k with h | h
     ·exact HK.out j h
     ·obtain rfl : j = k := by omega
      exact HG.out _ (by omega))⟩
    case measure => simp [intOf]; omega
   ·have hn1 : (((nb s k : Nat) : Int) != 64) = true := by simp; omega
    have hn2 : (((nb s k : Nat) : Int) != 46) = false := by simp; omega
    go_wp2
    go_round
    case rel => exact ⟨k + 1, by go_num, by omega, Lib.hid (fun j hj => by
     rcases Nat.lt_or_ge j k with h | h
     ·exact HK.out j h
     ·obtain rfl : j = k := by omega
      exact HG.out _ (by omega))⟩
    case measure => simp [intOf]; omega
   iterate 5
    ·have hn1 : (((nb s k : Nat) : Int) != 64) = true := by simp; omega
     have hn2 : (((nb s k : Nat) : Int) != 46) = true := by simp; omega
     go_wp2
     go_ret
     exact ⟨by rw [HBad.out (by omega)]; rfl, rfl⟩
  ·by_cases hr : 1 ≤ s.size ∧ s.size ≤ 12
   ·obtain rfl : k = s.size := by omega
    have hfin : z1v s.data.toList = true := z2a HK.out hr.1 hr.2
    have HF := Lib.hid hfin
    clear hfin
    go_wp2_with (go_at_call 30; refine (z3m _ _ _ _ (by omega) (by omega)).mono ?_; rintro e w1 ⟨rfl, rfl⟩)
    all_goals
     go_ret
     exact ⟨by rw [HF.out]; rfl, rfl⟩
   ·have hfin : z1v s.data.toList = false := z2b hr
    have HF := Lib.hid hfin
    clear hfin
    go_wp2_with (go_at_call 30; refine (z8s _ _ _ _ (by omega)).mono ?_; rintro e w1 ⟨rfl, rfl⟩)
    all_goals
     go_ret
     exact ⟨by rw [HF.out]; rfl, rfl⟩
theorem z5g (s : ByteArray) (w : World) (hs : (s.size : Int) ≤ 1000000000) :
 Calls Tryd.prog 76 #[.string s] w fun e w' => e = .returned (.bool (z0Y s.data.toList)) ∧ w = w' := by
 go_enter Tryd.func76, Tryd.ntmps76
 go_wp2
 go_loop [3] (fun i => ∃ k : Nat, i = .int .i64 (k : Int) ∧ k ≤ s.size ∧ Hid (∀ j, j < k → valN (nb s j) = true)) (fun i => s.size - (intOf i).toNat)
 case atStart => exact ⟨0, rfl, by omega, Lib.hid (fun j hj => absurd hj (by omega))⟩
 case round =>
  obtain ⟨k, rfl, hk, HK⟩ := hrel
  by_cases hin : k < s.size
  ·have hnb := z68 s
   have hb1 := z9m s k
   by_cases hv : 33 ≤ nb s k ∧ nb s k ≤ 126
   ·have HY := Lib.hid (show valN (nb s k) = true by simp [valN, hv.1, hv.2])
    obtain ⟨hv1, hv2⟩ := hv
    go_wp2
    go_round
    case rel => exact ⟨k + 1, by go_num, by omega, Lib.hid (fun j hj => by
     rcases Nat.lt_or_ge j k with h | h
     ·exact HK.out j h
     ·obtain rfl : j = k := by omega
      exact HY.out)⟩
    case measure => simp [intOf]; omega
   ·have HY := Lib.hid (z2K (f := valN) hin (by simp [valN]; omega))
    by_cases h33 : nb s k < 33
    ·go_wp2
     go_ret
     exact ⟨by rw [z0Y, HY.out]; rfl, rfl⟩
    ·go_wp2
     go_ret
     exact ⟨by rw [z0Y, HY.out]; rfl, rfl⟩
  ·by_cases hr : 1 ≤ s.size ∧ s.size ≤ 12
   ·obtain rfl : k = s.size := by omega
    have hfin : z0Y s.data.toList = true := z2a HK.out hr.1 hr.2
    have HF := Lib.hid hfin
    clear hfin
    go_wp2_with (go_at_call 30; refine (z3m _ _ _ _ (by omega) (by omega)).mono ?_; rintro e w1 ⟨rfl, rfl⟩)
    all_goals
     go_ret
     exact ⟨by rw [HF.out]; rfl, rfl⟩
   ·have hfin : z0Y s.data.toList = false := z2b hr
    have HF := Lib.hid hfin
    clear hfin
    go_wp2_with (go_at_call 30; refine (z8s _ _ _ _ (by omega)).mono ?_; rintro e w1 ⟨rfl, rfl⟩)
    all_goals
     go_ret
     exact ⟨by rw [HF.out]; rfl, rfl⟩
end Go.Proofs.YtfgkjgfigjpkoaaDoor
