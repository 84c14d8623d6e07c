/- Letters: sealing, and the bytes of a letter, both sides. -/
import Derived.Test.YtkdajahiaedoiaaLetter0
import Derived.Test.YtkdajahiaedoiaaHeld
namespace Go.Proofs.Ytkdajahiaedoiaa
open Go.RowKit Pl
set_option linter.unusedVariables false

theorem conv4_below {W w2 : World} {a b c d : Int} {k f t e : Nat} (hb : Below ((W.alloc (.cells #[.int .u8 a, .int .u8 b, .int .u8 c, .int .u8 d] 5)).drew).heap.size ((W.alloc (.cells #[.int .u8 a, .int .u8 b, .int .u8 c, .int .u8 d] 5)).drew) w2)
    (h : [Value.int .u8 a, .int .u8 b, .int .u8 c, .int .u8 d] = [UInt8.ofNat k, UInt8.ofNat f, UInt8.ofNat t, UInt8.ofNat e].map bv) :
    (convert 38 9 (.slice (some ⟨W.heap.size, 0, none⟩) 4 4)).run Try.prog w2 = .ok (.string (bs [UInt8.ofNat k, UInt8.ofNat f, UInt8.ofNat t, UInt8.ofNat e])) w2 := by
  have h1 := Byt.lit W #[.int .u8 a, .int .u8 b, .int .u8 c, .int .u8 d] [UInt8.ofNat k, UInt8.ofNat f, UInt8.ofNat t, UInt8.ofNat e] 4 rfl h (by simp)
  refine Byt.string (base := W.heap.size) ?_
  refine World.ownsRow.kept (w := W.alloc _) h1 (row := none) ⟨hb.os, hb.tape, hb.output, hb.size, fun i hi _ => hb.block i hi⟩ ?_
  simp [Value.ownBlock]

set_option maxRecDepth 100000 in
set_option maxHeartbeats 400000 in
theorem sealed_yes (s : ByteArray) (w : World) (hs : (s.size : Int) ≤ 20000) :
    Calls Try.prog 82 #[.string s] w fun e w' => e = .returned (.tuple #[.string (bs (sealed s.data.toList)), .bool true]) ∧ Below w.heap.size w w' := by
  have hz := bs_size (fourB (sumOf s.data.toList))
  rw [fourB_len] at hz
  have hz4 : (bs (fourB (sumOf s.data.toList))).size ≤ 4 := by omega
  clear hz
  go_enter Try.func82, Try.ntmps82
  go_wp2_with (first | (go_at_call 105; refine (sumOf_any _ _ (by omega)).mono ?_; rintro e w1 ⟨rfl, rfl⟩) | (go_at_call 104; refine (sfourBytes_any _ _ (sumOf_lt _)).mono ?_; rintro e w2 ⟨rfl, hb⟩))
  go_ret2
  refine ⟨?_, hb⟩
  have e1 : s ++ bs (fourB (sumOf s.data.toList)) = bs (sealed s.data.toList) := data_ext (by rw [data_append, bs_data, bs_data]; rfl)
  rw [← e1]; rfl

set_option maxRecDepth 100000 in
set_option maxHeartbeats 400000 in
theorem sSealed_yes (s : ByteArray) (w : World) (hs : (s.size : Int) ≤ 20000) :
    Calls Try.prog 88 #[.string s] w fun e w' => e = .returned (.tuple #[.string (bs (sealed s.data.toList)), .bool true]) ∧ Below w.heap.size w w' := by
  have hz := bs_size (fourB (sumOf s.data.toList))
  rw [fourB_len] at hz
  have hz4 : (bs (fourB (sumOf s.data.toList))).size ≤ 4 := by omega
  clear hz
  go_enter Try.func88, Try.ntmps88
  go_wp2_with (first | (go_at_call 103; refine (sSumOf_any _ _ (by omega)).mono ?_; rintro e w1 ⟨rfl, rfl⟩) | (go_at_call 102; refine (sSfourBytes_any _ _ (sumOf_lt _)).mono ?_; rintro e w2 ⟨rfl, hb⟩))
  go_ret2
  refine ⟨?_, hb⟩
  have e1 : s ++ bs (fourB (sumOf s.data.toList)) = bs (sealed s.data.toList) := data_ext (by rw [data_append, bs_data, bs_data]; rfl)
  rw [← e1]; rfl

set_option maxRecDepth 100000 in
set_option maxHeartbeats 400000 in
theorem sLetterText_no (k f t e y : Int) (r : ByteArray) (w : World) (ho : letterOk k f t e y r.data.toList = false) :
    Calls Try.prog 59 #[.agg #[.int .i64 k, .int .i64 f, .int .i64 t, .int .i64 e, .int .i64 y, .string r]] w fun e' w' => e' = .returned (.tuple #[.string (bs []), .bool false]) ∧ Below w.heap.size w w' := by
  go_enter Try.func59, Try.ntmps59
  go_wp2_with (go_at_call 37; refine (sLetterOk_any _ _ _ _ _ _ _).mono ?_; rintro e w1 ⟨rfl, hb1⟩)
  go_ret2
  exact ⟨rfl, ((Below.refl _ w).alloc (Nat.le_refl _) _).trans (hb1.mono (by simp))⟩

set_option maxRecDepth 100000 in
set_option maxHeartbeats 1000000 in
theorem sLetterText_yes (k f t e y : Nat) (r : ByteArray) (w : World) (ho : letterOk (k : Int) (f : Int) (t : Int) (e : Int) (y : Int) r.data.toList = true) :
    Calls Try.prog 59 #[.agg #[.int .i64 (k : Int), .int .i64 (f : Int), .int .i64 (t : Int), .int .i64 (e : Int), .int .i64 (y : Int), .string r]] w fun e' w' => e' = .returned (.tuple #[.string (bs (letterText k f t e y r.data.toList)), .bool true]) ∧ Below w.heap.size w w' := by
  obtain ⟨hk, hf, ht, he, hy, hr⟩ := letterOk_bounds ho
  rw [size_data] at hr
  have hk0 : (0 : Int) ≤ (k : Int) := by omega
  have hf0 : (0 : Int) ≤ (f : Int) := by omega
  have ht0 : (0 : Int) ≤ (t : Int) := by omega
  have he0 : (0 : Int) ≤ (e : Int) := by omega
  have l1 := varText_len (n := y) (by omega)
  have l2 := bs_size (varText y)
  have l3 := bs_size [UInt8.ofNat k, UInt8.ofNat f, UInt8.ofNat t, UInt8.ofNat e]
  have hcv : ∀ W : World, (convert 38 9 (.slice (some ⟨W.heap.size, 0, none⟩) 4 4)).run Try.prog ((W.alloc (.cells #[.int .u8 (k : Int), .int .u8 (f : Int), .int .u8 (t : Int), .int .u8 (e : Int)] 5)).drew) = .ok (.string (bs [UInt8.ofNat k, UInt8.ofNat f, UInt8.ofNat t, UInt8.ofNat e])) ((W.alloc (.cells #[.int .u8 (k : Int), .int .u8 (f : Int), .int .u8 (t : Int), .int .u8 (e : Int)] 5)).drew) :=
    fun W => Byt.string (base := W.heap.size) (Byt.lit W _ [UInt8.ofNat k, UInt8.ofNat f, UInt8.ofNat t, UInt8.ofNat e] 4 rfl (by simp [bv]; omega) (by simp))
  have hcw : ∀ W : World, (convert 38 9 (.slice (some ⟨W.heap.size, 0, none⟩) 4 4)).run Try.prog (W.alloc (.cells #[.int .u8 (k : Int), .int .u8 (f : Int), .int .u8 (t : Int), .int .u8 (e : Int)] 5)) = .ok (.string (bs [UInt8.ofNat k, UInt8.ofNat f, UInt8.ofNat t, UInt8.ofNat e])) (W.alloc (.cells #[.int .u8 (k : Int), .int .u8 (f : Int), .int .u8 (t : Int), .int .u8 (e : Int)] 5)) :=
    fun W => Byt.string (base := W.heap.size) (Byt.lit W _ [UInt8.ofNat k, UInt8.ofNat f, UInt8.ofNat t, UInt8.ofNat e] 4 rfl (by simp [bv]; omega) (by simp))
  have wk : IntKind.u8.wrap (k : Int) = (k : Int) := IntWalk.u8_in _ (by omega)
  have wf : IntKind.u8.wrap (f : Int) = (f : Int) := IntWalk.u8_in _ (by omega)
  have wt : IntKind.u8.wrap (t : Int) = (t : Int) := IntWalk.u8_in _ (by omega)
  have we : IntKind.u8.wrap (e : Int) = (e : Int) := IntWalk.u8_in _ (by omega)
  have q1 : ¬ (9223372036854775807 < (bs [UInt8.ofNat k, UInt8.ofNat f, UInt8.ofNat t, UInt8.ofNat e]).size + (bs (varText y)).size) := by rw [l2, l3]; simp; omega
  have q2 : ¬ (9223372036854775807 < (bs [UInt8.ofNat k, UInt8.ofNat f, UInt8.ofNat t, UInt8.ofNat e]).size + (bs (varText y)).size + r.size) := by rw [l2, l3]; simp; omega
  have hz : ((bs [UInt8.ofNat k, UInt8.ofNat f, UInt8.ofNat t, UInt8.ofNat e] ++ bs (varText y) ++ r).size : Int) ≤ 20000 := by
    simp only [ByteArray.size_append', l2, l3]; simp; omega
  have hfin : (bs [UInt8.ofNat k, UInt8.ofNat f, UInt8.ofNat t, UInt8.ofNat e]).data.toList ++ ((bs (varText y)).data.toList ++ r.data.toList) = letterBody k f t e y r.data.toList := by
    simp only [bs_data]; simp [letterBody]
  have HZ := Lib.hid hz
  have L2 := Lib.hid l2
  have L3 := Lib.hid l3
  have HF := Lib.hid hfin
  clear l2 l3 hfin
  clear hz
  go_enter Try.func59, Try.ntmps59
  go_wp2_with (go_at_call 37; refine (sLetterOk_any _ _ _ _ _ _ _).mono ?_; rintro e w1 ⟨rfl, hb1⟩)
  have hB1 : Below w.heap.size w w1 := ((Below.refl _ w).alloc (Nat.le_refl _) _).trans (hb1.mono (by simp))
  have hX1 := (Box.new w 29 #[.int .i64 (k : Int), .int .i64 (f : Int), .int .i64 (t : Int), .int .i64 (e : Int), .int .i64 (y : Int), .string r]).below hb1 (by simp)
  go_region_held (fun W => Below w.heap.size w W ∧ Box W w.heap.size 29 #[.int .i64 (k : Int), .int .i64 (f : Int), .int .i64 (t : Int), .int .i64 (e : Int), .int .i64 (y : Int), .string r] ∧ W.cell? ⟨w.heap.size, 0, none⟩ = some (.int .i64 (k : Int)) ∧ W.cell? ⟨w.heap.size, 1, none⟩ = some (.int .i64 (f : Int)) ∧ W.cell? ⟨w.heap.size, 2, none⟩ = some (.int .i64 (t : Int)) ∧ W.cell? ⟨w.heap.size, 3, none⟩ = some (.int .i64 (e : Int)) ∧ W.cell? ⟨w.heap.size, 4, none⟩ = some (.int .i64 (y : Int)) ∧ W.cell? ⟨w.heap.size, 5, none⟩ = some (.string r)) (first | exact ⟨hB1.drew, hX1.drew, hX1.drew.cell 0, hX1.drew.cell 1, hX1.drew.cell 2, hX1.drew.cell 3, hX1.drew.cell 4, hX1.drew.cell 5⟩ | assumption | exact heldAlloc6 (by assumption) | exact heldStep6 (by assumption) hb) (first | (go_at_call 99; refine (sVar_any _ _ (by omega)).mono ?_; rintro e w2 ⟨rfl, hb⟩; try have hcv2 := conv4_below (k := k) (f := f) (t := t) (e := e) hb (by simp [bv]; omega)) | (go_at_call 88; refine (sSealed_yes _ _ HZ.out).mono ?_; rintro e w2 ⟨rfl, hb⟩) | fail)
  all_goals
    rename Below _ _ _ ∧ _ => hH
    have hB2 := hH.1
    clear hH
    go_wp2
    go_ret2
    exact ⟨congrArg (fun x => Ending.returned (Value.tuple #[Value.string (bs (sealed x)), Value.bool true])) HF.out, hB2⟩
end Go.Proofs.Ytkdajahiaedoiaa
