/- Memory that a call makes: rows of bytes, and the strings made of them. What the small functions on numbers and strings compute. What the reference's small functions on numbers and strings compute. Names and values: the program's tests and the reference's. -/
import Derived.Test.YtkgfidphcpklhaaDoorRows
import Derived.Test.YtkgfidphcpklhaaDoorPlain
import Derived.WalkKit
import Derived.WalkSpells
import Derived.WalkLawsBesides
import Derived.Lib.Hide
import Derived.Laws.BytesArg
import Derived.Laws.IdiomStrings
import Derived.Deep.Draws
import Derived.Deep.QuietTactic
import Derived.BigQuiet
import Derived.Laws.OwnMore
import Derived.Laws.Rows
import Derived.Deep.DeepMust
import Derived.PlainAid
import Derived.Deep.RegionHeld3
import Derived.Deep.RegionWith
set_option linter.unusedSimpArgs false
namespace Go.Proofs.YtkgfidphcpklhaaDoor
open Go.RowKit Pl

/-- One byte as a value. -/
def bv (b : UInt8) : Value := .int .u8 (b.toNat : Int)
/-- A row of bytes that the call made. -/
def Byt (w : World) (base : Nat) (v : Value) (l : Bs) : Prop := w.ownsRow base 5 1 v l.length (l.map bv)

theorem byte_info : (Tryd.prog.info? 5).map (fun i => (i.zero, i.size, i.bytes)) = some (some (.int .u8 0), 1, 1) := by kernel_rfl

theorem Byt.string {w : World} {base : Nat} {v : Value} {l : Bs} (h : Byt w base v l) : (convert 22 9 v).run Tryd.prog w = .ok (.string (bs l)) w := by
  rcases h.2 with ⟨rfl, hn⟩ | ⟨g, cap, cur, rfl, _, _, _⟩
  · have : l = [] := List.eq_nil_of_length_eq_zero hn
    subst this
    exact run_convert_bytes_nil w _ _ Tryd.underlying22 Tryd.underlying5 0 0 _ Tryd.underlying9
  · refine run_convert_bytes_back w _ _ _ _ cap l Tryd.underlying22 Tryd.underlying5 Tryd.underlying9 (fun j hj => ?_)
    exact World.ownsRow.cells h (g := g) rfl j _ (by simp [bv, List.getElem?_eq_getElem hj])

theorem bv1 {k : Nat} (h : k < 256) : (#[Value.int .u8 (k : Int)]).toList = [UInt8.ofNat k].map bv := by simp [bv]; omega
theorem bv1' {z : Int} {k : Nat} (h : k < 256) (hz : z = (k : Int)) : (#[Value.int .u8 z]).toList = [UInt8.ofNat k].map bv := by subst hz; exact bv1 h
theorem Byt.nil (w : World) (base : Nat) : Byt w base (.slice none 0 0) [] := ⟨rfl, .inl ⟨rfl, rfl⟩⟩

theorem Byt.lit (w : World) (C : Array Value) (l : Bs) (m : Nat) (hm : m = l.length) (hC : C.toList = l.map bv) (hl : l.length ≤ 1000000) : Byt (w.alloc (.cells C 5)) w.heap.size (.slice (some ⟨w.heap.size, 0, none⟩) m m) l := by
  subst hm
  have hs : C.size = l.length := by rw [← Array.length_toList, hC, List.length_map]
  refine ⟨by simp, .inr ⟨w.heap.size, l.length, C, rfl, Nat.le_refl _, heap_alloc_new w _, Nat.le_refl _, by unfold maxLen; omega, by omega, ?_⟩⟩
  rw [Nat.mul_one, hC, List.take_of_length_le (by simp)]
theorem Byt.empty (w : World) : Byt (w.alloc (.cells #[] 5)) w.heap.size (.slice (some ⟨w.heap.size, 0, none⟩) 0 0) [] :=
  ⟨rfl, .inr ⟨w.heap.size, 0, #[], rfl, Nat.le_refl _, heap_alloc_new w _, Nat.le_refl _, Nat.zero_le _, rfl, rfl⟩⟩
/-- 'append(v, b, ..)': some bytes more onto a row of the call's own. -/
theorem wp_app_bytes {ops : Array Oper} {rest : List Oper} {o : Oper} {a : Act} {Q : Exit → Act → World → Prop} (hgd : o.guard = none) (s x : Operand)
    (ho : o.op = .call { callee := .builtin .append, args := #[s, x], argTypes := #[22, 22] })
    (W : World) (base : Nat) (v : Value) (l news : Bs) (hown : Byt W base v l) (C : Array Value) (hC : C.toList = news.map bv) (hs : a.eval s = v)
    (m c : Nat) (hm : m = news.length) (hx : a.eval x = .slice (some ⟨W.heap.size, 0, none⟩) m c) (hlen : l.length + news.length ≤ 1099511627776) (hbase : base ≤ W.heap.size)
    (h : ∀ v' w', Byt w' base v' (l ++ news) → Below base W w' → wpList Tryd.prog ops Q rest (a.put o.dst v') w') :
    wpList Tryd.prog ops Q (o :: rest) a (W.alloc (.cells C 5)) := by
  obtain ⟨i0, hi0, hz0, hz1, hz2⟩ := info_parts byte_info
  subst hm
  refine wpList_append_own _ hgd s x _ ho base 5 i0 _ 1 1 Tryd.underlying22 hi0 hz0 hz1 hz2 rfl (by decide) v l.length (l.map bv) hs (hown.alloc _) ⟨W.heap.size, 0, none⟩ news.length c (news.map bv) hx (by simp) ?_ ?_ ?_ ?_ ?_ ?_
  · intro j u hu
    have hadd : (⟨W.heap.size, 0, none⟩ : Addr).add j = ⟨W.heap.size, j, none⟩ := by unfold Addr.add; split <;> simp_all
    rw [hadd, World.cell?_alloc_mark, ← Array.getElem?_toList, hC]
    exact hu
  · intro u hu
    simp only [List.mem_map] at hu
    obtain ⟨b, _, rfl⟩ := hu
    rfl
  · unfold maxLen; omega
  · omega
  · simp; omega
  · intro v' w' h2 h3 _
    refine h v' w' ?_ ?_
    · unfold Byt
      rw [List.length_append, List.map_append]
      exact h2
    · refine Below.grown ((Below.refl _ _).alloc hbase _) h3 (by simp; omega) ?_
      intro k hk
      exact (World.ownsRow.lt hown k hk).1

/-! ### A block that is known whole -/
/-- Block g holds just the cells cs of element type t; none is frozen. -/
def Box (w : World) (g : Nat) (t : TypeId) (cs : Array Value) : Prop := w.heap[g]? = some (.cells cs t (0, 0))
/-- Only block g has turned, and what is new. -/
def Only (g : Nat) (w w' : World) : Prop := w.grownBy w' (some g)

section
variable {w w' w2 : World} {g : Nat} {t : TypeId} {cs : Array Value}
theorem Box.lt (h : Box w g t cs) : g < w.heap.size := by
  unfold Box at h
  rcases Nat.lt_or_ge g w.heap.size with hlt | hge
  · exact hlt
  · rw [Array.getElem?_eq_none hge] at h; cases h
theorem Box.cell (h : Box w g t cs) (i : Nat) : w.cell? ⟨g, i, none⟩ = cs[i]? := cell_of_row w g i cs t (0, 0) h
theorem Box.free (h : Box w g t cs) (i : Nat) : w.frozen? ⟨g, i, none⟩ = false := by
  unfold Box at h
  simp [World.frozen?, h]
theorem Box.new (w : World) (t : TypeId) (cs : Array Value) : Box (w.alloc (.cells cs t)) w.heap.size t cs := heap_alloc_new w _
theorem Box.drew (h : Box w g t cs) : Box w.drew g t cs := h
theorem Box.drewN (h : Box w g t cs) (n : Nat) : Box (w.drewN n) g t cs := h
theorem Box.alloc (h : Box w g t cs) (o : Obj) : Box (w.alloc o) g t cs := (Below.heap_alloc w o g h.lt).trans h
theorem Box.set (h : Box w g t cs) (i : Nat) (u : Value) : Box (w.setCell ⟨g, i, none⟩ u) g t (cs.setIfInBounds i u) := by
  unfold Box at h ⊢
  simp [World.setCell, Array.getElem?_modify, h]
theorem Box.far (h : Box w g t cs) {p : Addr} (hp : g ≠ p.block) (u : Value) : Box (w.setCell p u) g t cs := (Below.heap_setCell w p u g hp).trans h
theorem Box.below {B : Nat} (h : Box w g t cs) (hb : Below B w w') (hg : g < B) : Box w' g t cs := (hb.block g hg).trans h
theorem Box.grown {row : Option Nat} (h : Box w g t cs) (hb : w.grownBy w' row) (hg : some g ≠ row) : Box w' g t cs := (hb.block g h.lt hg).trans h
theorem Box.only {g' : Nat} (h : Box w g t cs) (hb : Only g' w w') (hg : g ≠ g') : Box w' g t cs := h.grown hb (fun e => hg (by injection e))

theorem Only.refl (g : Nat) (w : World) : Only g w w := World.grownBy.refl w _
theorem Only.trans (h : Only g w w') (k : Only g w' w2) : Only g w w2 :=
  ⟨k.os.trans h.os, k.tape.trans h.tape, k.output.trans h.output, Nat.le_trans h.size k.size, fun i hi hn => (k.block i (Nat.lt_of_lt_of_le hi h.size) hn).trans (h.block i hi hn)⟩
theorem Only.drewN (h : Only g w w') (n : Nat) : Only g w (w'.drewN n) := ⟨h.os, h.tape, h.output, h.size, h.block⟩
theorem Only.drew (h : Only g w w') : Only g w w'.drew := ⟨h.os, h.tape, h.output, h.size, h.block⟩
theorem Only.alloc (h : Only g w w') (o : Obj) : Only g w (w'.alloc o) :=
  ⟨h.os, h.tape, h.output, Nat.le_trans h.size (by simp), fun i hi hne => (Below.heap_alloc w' o i (Nat.lt_of_lt_of_le hi h.size)).trans (h.block i hi hne)⟩
theorem Only.set (h : Only g w w') {p : Addr} (hp : p.block = g ∨ w.heap.size ≤ p.block) (u : Value) : Only g w (w'.setCell p u) :=
  ⟨h.os, h.tape, h.output, by simpa [World.setCell] using h.size, fun i hi hne => (Below.heap_setCell w' p u i (by
    rintro rfl
    rcases hp with hp | hp
    · exact hne (by rw [hp])
    · omega)).trans (h.block i hi hne)⟩
theorem Only.of_below (h : Below w.heap.size w w') (g : Nat) : Only g w w' := ⟨h.os, h.tape, h.output, h.size, fun i hi _ => h.block i hi⟩
theorem Only.below {B : Nat} (h : Only g w w') (hg : B ≤ g) (hB : B ≤ w.heap.size) : Below B w w' := ⟨h.os, h.tape, h.output, h.size, fun i hi => h.block i (by omega) (fun e => by injection e; omega)⟩
theorem below_drewN {B : Nat} (h : Below B w w') (n : Nat) : Below B w (w'.drewN n) := ⟨h.os, h.tape, h.output, h.size, h.block⟩
end

/-- A quiet callee whose contract says 'w = w''. -/
theorem quiet_l {P : Program} {f : FuncId} {args : Array Value} {w : World} {n : Nat} {v : Value}
    (h : Calls P f args (w.drewN n) fun e w' => e = .returned v ∧ w.drewN n = w') : Calls P f args (w.drewN n) fun e w'' => e = .returned v ∧ ∃ m, w'' = w.drewN m :=
  h.mono fun _ _ ⟨he, hm⟩ => ⟨he, n, hm.symm⟩


/-! ### what a region holds while calls make memory: a box of one, two, three .. cells -/
theorem heldStep3 {w0 W W' : World} {g : Nat} {t : TypeId} {a b c : Value} (h : Below w0.heap.size w0 W ∧ Box W g t #[a, b, c] ∧ W.cell? ⟨g, 0, none⟩ = some a ∧ W.cell? ⟨g, 1, none⟩ = some b ∧ W.cell? ⟨g, 2, none⟩ = some c) (hb : Below W.heap.size W W') :
    Below w0.heap.size w0 W' ∧ Box W' g t #[a, b, c] ∧ W'.cell? ⟨g, 0, none⟩ = some a ∧ W'.cell? ⟨g, 1, none⟩ = some b ∧ W'.cell? ⟨g, 2, none⟩ = some c := by
  have hx := h.2.1.below hb h.2.1.lt
  exact ⟨h.1.trans (hb.mono h.1.size), hx, hx.cell 0, hx.cell 1, hx.cell 2⟩
end Go.Proofs.YtkgfidphcpklhaaDoor
namespace Go.Proofs.YtkgfidphcpklhaaDoor
open Go.RowKit Pl

set_option maxHeartbeats 400000 in
theorem in_yes (n lo hi : Int) (w : World) (h : lo ≤ n) (h2 : n ≤ hi) :
    Calls Tryd.prog 16 #[.int .i64 n, .int .i64 lo, .int .i64 hi] w fun e w' => e = .returned (.bool true) ∧ w = w' := by
  go_enter Tryd.func16, Tryd.ntmps16
  go_wp2
  go_ret
  exact ⟨rfl, rfl⟩
set_option maxHeartbeats 400000 in
theorem in_no (n lo hi : Int) (w : World) (h : ¬ (lo ≤ n ∧ n ≤ hi)) :
    Calls Tryd.prog 16 #[.int .i64 n, .int .i64 lo, .int .i64 hi] w fun e w' => e = .returned (.bool false) ∧ w = w' := by
  by_cases h1 : lo ≤ n
  · have h2 : ¬ n ≤ hi := fun c => h ⟨h1, c⟩
    clear h
    go_enter Tryd.func16, Tryd.ntmps16
    go_wp2
    go_ret
    exact ⟨rfl, rfl⟩
  · clear h
    go_enter Tryd.func16, Tryd.ntmps16
    go_wp2
    go_ret
    exact ⟨rfl, rfl⟩

/-- What ReadVar hands back. -/
def rvVal : Option (Nat × Nat) → Value
  | none => .tuple #[.int .i64 0, .int .i64 0, .bool false]
  | some (n, q) => .tuple #[.int .i64 (n : Int), .int .i64 (q : Int), .bool true]

/-- What ReadShort hands back. -/
def rsVal : Option (Bs × Nat) → Value
  | none => .tuple #[.string (bs []), .int .i64 0, .bool false]
  | some (l, q) => .tuple #[.string (bs l), .int .i64 (q : Int), .bool true]

end Go.Proofs.YtkgfidphcpklhaaDoor
namespace Go.Proofs.YtkgfidphcpklhaaDoor
open Go.RowKit Pl
set_option linter.unusedVariables false

set_option maxHeartbeats 400000 in
theorem sin_yes (n lo hi : Int) (w : World) (h : lo ≤ n) (h2 : n ≤ hi) :
    Calls Tryd.prog 40 #[.int .i64 n, .int .i64 lo, .int .i64 hi] w fun e w' => e = .returned (.bool true) ∧ w = w' := by
  go_enter Tryd.func40, Tryd.ntmps40
  go_wp2
  go_ret
  exact ⟨rfl, rfl⟩
set_option maxHeartbeats 400000 in
theorem sin_no (n lo hi : Int) (w : World) (h : ¬ (lo ≤ n ∧ n ≤ hi)) :
    Calls Tryd.prog 40 #[.int .i64 n, .int .i64 lo, .int .i64 hi] w fun e w' => e = .returned (.bool false) ∧ w = w' := by
  by_cases h1 : lo ≤ n
  · have h2 : ¬ n ≤ hi := fun c => h ⟨h1, c⟩
    clear h
    go_enter Tryd.func40, Tryd.ntmps40
    go_wp2
    go_ret
    exact ⟨rfl, rfl⟩
  · clear h
    go_enter Tryd.func40, Tryd.ntmps40
    go_wp2
    go_ret
    exact ⟨rfl, rfl⟩

end Go.Proofs.YtkgfidphcpklhaaDoor
namespace Go.Proofs.YtkgfidphcpklhaaDoor
open Go.RowKit Pl
set_option linter.unusedVariables false

set_option maxRecDepth 100000 in
set_option maxHeartbeats 800000 in
theorem nameOk_any (s : ByteArray) (w : World) (hs : (s.size : Int) ≤ 1000000000) :
    Calls Tryd.prog 98 #[.string s] w fun e w' => e = .returned (.bool (nameOk s.data.toList)) ∧ w = w' := by
  go_enter Tryd.func98, Tryd.ntmps98
  go_wp2
  go_loop [3] (fun i => ∃ k : Nat, i = .int .i64 (k : Int) ∧ k ≤ s.size ∧ Hid (∀ j, j < k → nameN (nb s j) = true)) (fun i => s.size - (intOf i).toNat)
  case atStart => exact ⟨0, rfl, by omega, Lib.hid (fun j hj => absurd hj (by omega))⟩
  case round =>
    obtain ⟨k, rfl, hk, HK⟩ := hrel
    by_cases hin : k < s.size ∧ k ≤ 12
    · have hnb := get_nb s
      have hb1 := nb_le s k
      have hcase : (97 ≤ nb s k ∧ nb s k ≤ 122) ∨ (48 ≤ nb s k ∧ nb s k ≤ 57) ∨ (64 ≤ nb s k ∧ nb s k ≤ 64) ∨ (46 ≤ nb s k ∧ nb s k ≤ 46) ∨ (0 ≤ nb s k ∧ nb s k ≤ 45) ∨ (47 ≤ nb s k ∧ nb s k ≤ 47) ∨ (58 ≤ nb s k ∧ nb s k ≤ 63) ∨ (65 ≤ nb s k ∧ nb s k ≤ 96) ∨ (123 ≤ nb s k ∧ nb s k ≤ 255) := by omega
      have hgood : ∀ n : Nat, ((97 ≤ n ∧ n ≤ 122) ∨ (48 ≤ n ∧ n ≤ 57) ∨ n = 64 ∨ n = 46) → nameN n = true := by
        rintro n (h | h | h | h) <;> simp [nameN, h]
      have hbad : ¬ ((97 ≤ nb s k ∧ nb s k ≤ 122) ∨ (48 ≤ nb s k ∧ nb s k ≤ 57) ∨ nb s k = 64 ∨ nb s k = 46) → nameOk s.data.toList = false := by
        intro h
        refine allN_bad (f := nameN) hin.1 ?_
        simp only [nameN, Bool.or_eq_false_iff, Bool.and_eq_false_iff, decide_eq_false_iff_not, beq_eq_false_iff_ne]
        omega
      have HG := Lib.hid hgood
      have HBad := Lib.hid hbad
      clear hgood hbad
      rcases hcase with ⟨h1, h2⟩ | ⟨h1, h2⟩ | ⟨h1, h2⟩ | ⟨h1, h2⟩ | ⟨h1, h2⟩ | ⟨h1, h2⟩ | ⟨h1, h2⟩ | ⟨h1, h2⟩ | ⟨h1, h2⟩
      iterate 2
        · go_wp2
          go_round
          case rel => exact ⟨k + 1, by go_num, by omega, Lib.hid (fun j hj => by
            rcases Nat.lt_or_ge j k with h | h
            · exact HK.out j h
            · obtain rfl : j = k := by omega
              exact HG.out _ (by omega))⟩
          case measure => simp [intOf]; omega
      · have hn1 : (((nb s k : Nat) : Int) != 64) = false := by simp; omega
        go_wp2
        go_round
        case rel => exact ⟨k + 1, by go_num, by omega, Lib.hid (fun j hj => by
          rcases Nat.lt_or_ge j k with h | h
          · exact HK.out j h
          · obtain rfl : j = k := by omega
            exact HG.out _ (by omega))⟩
        case measure => simp [intOf]; omega
      · have hn1 : (((nb s k : Nat) : Int) != 64) = true := by simp; omega
        have hn2 : (((nb s k : Nat) : Int) != 46) = false := by simp; omega
        go_wp2
        go_round
        case rel => exact ⟨k + 1, by go_num, by omega, Lib.hid (fun j hj => by
          rcases Nat.lt_or_ge j k with h | h
          · exact HK.out j h
          · obtain rfl : j = k := by omega
            exact HG.out _ (by omega))⟩
        case measure => simp [intOf]; omega
      iterate 5
        · have hn1 : (((nb s k : Nat) : Int) != 64) = true := by simp; omega
          have hn2 : (((nb s k : Nat) : Int) != 46) = true := by simp; omega
          go_wp2
          go_ret
          exact ⟨by rw [HBad.out (by omega)]; rfl, rfl⟩
    · by_cases hr : 1 ≤ s.size ∧ s.size ≤ 12
      · obtain rfl : k = s.size := by omega
        have hfin : nameOk s.data.toList = true := allN_good HK.out hr.1 hr.2
        have HF := Lib.hid hfin
        clear hfin
        go_wp2_with (go_at_call 16; refine (in_yes _ _ _ _ (by omega) (by omega)).mono ?_; rintro e w1 ⟨rfl, rfl⟩)
        all_goals
          go_ret
          exact ⟨by rw [HF.out]; rfl, rfl⟩
      · have hfin : nameOk s.data.toList = false := allN_long hr
        have HF := Lib.hid hfin
        clear hfin
        go_wp2_with (go_at_call 16; refine (in_no _ _ _ _ (by omega)).mono ?_; rintro e w1 ⟨rfl, rfl⟩)
        all_goals
          go_ret
          exact ⟨by rw [HF.out]; rfl, rfl⟩

set_option maxRecDepth 100000 in
set_option maxHeartbeats 800000 in
theorem valueOk_any (s : ByteArray) (w : World) (hs : (s.size : Int) ≤ 1000000000) :
    Calls Tryd.prog 99 #[.string s] w fun e w' => e = .returned (.bool (valueOk s.data.toList)) ∧ w = w' := by
  go_enter Tryd.func99, Tryd.ntmps99
  go_wp2
  go_loop [3] (fun i => ∃ k : Nat, i = .int .i64 (k : Int) ∧ k ≤ s.size ∧ Hid (∀ j, j < k → valN (nb s j) = true)) (fun i => s.size - (intOf i).toNat)
  case atStart => exact ⟨0, rfl, by omega, Lib.hid (fun j hj => absurd hj (by omega))⟩
  case round =>
    obtain ⟨k, rfl, hk, HK⟩ := hrel
    by_cases hin : k < s.size ∧ k ≤ 12
    · have hnb := get_nb s
      have hb1 := nb_le s k
      by_cases hv : 33 ≤ nb s k ∧ nb s k ≤ 126
      · have HY := Lib.hid (show valN (nb s k) = true by simp [valN, hv.1, hv.2])
        go_wp2_with (go_at_call 16; refine (in_yes _ _ _ _ (by omega) (by omega)).mono ?_; rintro e w1 ⟨rfl, rfl⟩)
        go_round
        case rel => exact ⟨k + 1, by go_num, by omega, Lib.hid (fun j hj => by
          rcases Nat.lt_or_ge j k with h | h
          · exact HK.out j h
          · obtain rfl : j = k := by omega
            exact HY.out)⟩
        case measure => simp [intOf]; omega
      · have HY := Lib.hid (allN_bad (f := valN) hin.1 (by simp [valN]; omega))
        go_wp2_with (go_at_call 16; refine (in_no _ _ _ _ (by omega)).mono ?_; rintro e w1 ⟨rfl, rfl⟩)
        go_ret
        exact ⟨by rw [valueOk, HY.out]; rfl, rfl⟩
    · by_cases hr : 1 ≤ s.size ∧ s.size ≤ 12
      · obtain rfl : k = s.size := by omega
        have hfin : valueOk s.data.toList = true := allN_good HK.out hr.1 hr.2
        have HF := Lib.hid hfin
        clear hfin
        go_wp2_with (go_at_call 16; refine (in_yes _ _ _ _ (by omega) (by omega)).mono ?_; rintro e w1 ⟨rfl, rfl⟩)
        all_goals
          go_ret
          exact ⟨by rw [HF.out]; rfl, rfl⟩
      · have hfin : valueOk s.data.toList = false := allN_long hr
        have HF := Lib.hid hfin
        clear hfin
        go_wp2_with (go_at_call 16; refine (in_no _ _ _ _ (by omega)).mono ?_; rintro e w1 ⟨rfl, rfl⟩)
        all_goals
          go_ret
          exact ⟨by rw [HF.out]; rfl, rfl⟩

set_option maxRecDepth 100000 in
set_option maxHeartbeats 800000 in
theorem sNameOk_any (s : ByteArray) (w : World) (hs : (s.size : Int) ≤ 1000000000) :
    Calls Tryd.prog 90 #[.string s] w fun e w' => e = .returned (.bool (nameOk s.data.toList)) ∧ w = w' := by
  go_enter Tryd.func90, Tryd.ntmps90
  go_wp2
  go_loop [3] (fun i => ∃ k : Nat, i = .int .i64 (k : Int) ∧ k ≤ s.size ∧ Hid (∀ j, j < k → nameN (nb s j) = true)) (fun i => s.size - (intOf i).toNat)
  case atStart => exact ⟨0, rfl, by omega, Lib.hid (fun j hj => absurd hj (by omega))⟩
  case round =>
    obtain ⟨k, rfl, hk, HK⟩ := hrel
    by_cases hin : k < s.size
    · have hnb := get_nb s
      have hb1 := nb_le s k
      have hcase : (97 ≤ nb s k ∧ nb s k ≤ 122) ∨ (48 ≤ nb s k ∧ nb s k ≤ 57) ∨ (64 ≤ nb s k ∧ nb s k ≤ 64) ∨ (46 ≤ nb s k ∧ nb s k ≤ 46) ∨ (0 ≤ nb s k ∧ nb s k ≤ 45) ∨ (47 ≤ nb s k ∧ nb s k ≤ 47) ∨ (58 ≤ nb s k ∧ nb s k ≤ 63) ∨ (65 ≤ nb s k ∧ nb s k ≤ 96) ∨ (123 ≤ nb s k ∧ nb s k ≤ 255) := by omega
      have hgood : ∀ n : Nat, ((97 ≤ n ∧ n ≤ 122) ∨ (48 ≤ n ∧ n ≤ 57) ∨ n = 64 ∨ n = 46) → nameN n = true := by
        rintro n (h | h | h | h) <;> simp [nameN, h]
      have hbad : ¬ ((97 ≤ nb s k ∧ nb s k ≤ 122) ∨ (48 ≤ nb s k ∧ nb s k ≤ 57) ∨ nb s k = 64 ∨ nb s k = 46) → nameOk s.data.toList = false := by
        intro h
        refine allN_bad (f := nameN) hin ?_
        simp only [nameN, Bool.or_eq_false_iff, Bool.and_eq_false_iff, decide_eq_false_iff_not, beq_eq_false_iff_ne]
        omega
      have HG := Lib.hid hgood
      have HBad := Lib.hid hbad
      clear hgood hbad
      rcases hcase with ⟨h1, h2⟩ | ⟨h1, h2⟩ | ⟨h1, h2⟩ | ⟨h1, h2⟩ | ⟨h1, h2⟩ | ⟨h1, h2⟩ | ⟨h1, h2⟩ | ⟨h1, h2⟩ | ⟨h1, h2⟩
      iterate 2
        · go_wp2
          go_round
          case rel => exact ⟨k + 1, by go_num, by omega, Lib.hid (fun j hj => by
            rcases Nat.lt_or_ge j k with h | h
            · exact HK.out j h
            · obtain rfl : j = k := by omega
              exact HG.out _ (by omega))⟩
          case measure => simp [intOf]; omega
      · have hn1 : (((nb s k : Nat) : Int) != 64) = false := by simp; omega
        go_wp2
        go_round
        case rel => exact ⟨k + 1, by go_num, by omega, Lib.hid (fun j hj => by
          rcases Nat.lt_or_ge j k with h | h
          · exact HK.out j h
          · obtain rfl : j = k := by omega
            exact HG.out _ (by omega))⟩
        case measure => simp [intOf]; omega
      · have hn1 : (((nb s k : Nat) : Int) != 64) = true := by simp; omega
        have hn2 : (((nb s k : Nat) : Int) != 46) = false := by simp; omega
        go_wp2
        go_round
        case rel => exact ⟨k + 1, by go_num, by omega, Lib.hid (fun j hj => by
          rcases Nat.lt_or_ge j k with h | h
          · exact HK.out j h
          · obtain rfl : j = k := by omega
            exact HG.out _ (by omega))⟩
        case measure => simp [intOf]; omega
      iterate 5
        · have hn1 : (((nb s k : Nat) : Int) != 64) = true := by simp; omega
          have hn2 : (((nb s k : Nat) : Int) != 46) = true := by simp; omega
          go_wp2
          go_ret
          exact ⟨by rw [HBad.out (by omega)]; rfl, rfl⟩
    · by_cases hr : 1 ≤ s.size ∧ s.size ≤ 12
      · obtain rfl : k = s.size := by omega
        have hfin : nameOk s.data.toList = true := allN_good HK.out hr.1 hr.2
        have HF := Lib.hid hfin
        clear hfin
        go_wp2_with (go_at_call 40; refine (sin_yes _ _ _ _ (by omega) (by omega)).mono ?_; rintro e w1 ⟨rfl, rfl⟩)
        all_goals
          go_ret
          exact ⟨by rw [HF.out]; rfl, rfl⟩
      · have hfin : nameOk s.data.toList = false := allN_long hr
        have HF := Lib.hid hfin
        clear hfin
        go_wp2_with (go_at_call 40; refine (sin_no _ _ _ _ (by omega)).mono ?_; rintro e w1 ⟨rfl, rfl⟩)
        all_goals
          go_ret
          exact ⟨by rw [HF.out]; rfl, rfl⟩

set_option maxRecDepth 100000 in
set_option maxHeartbeats 800000 in
theorem sValueOk_any (s : ByteArray) (w : World) (hs : (s.size : Int) ≤ 1000000000) :
    Calls Tryd.prog 91 #[.string s] w fun e w' => e = .returned (.bool (valueOk s.data.toList)) ∧ w = w' := by
  go_enter Tryd.func91, Tryd.ntmps91
  go_wp2
  go_loop [3] (fun i => ∃ k : Nat, i = .int .i64 (k : Int) ∧ k ≤ s.size ∧ Hid (∀ j, j < k → valN (nb s j) = true)) (fun i => s.size - (intOf i).toNat)
  case atStart => exact ⟨0, rfl, by omega, Lib.hid (fun j hj => absurd hj (by omega))⟩
  case round =>
    obtain ⟨k, rfl, hk, HK⟩ := hrel
    by_cases hin : k < s.size
    · have hnb := get_nb s
      have hb1 := nb_le s k
      by_cases hv : 33 ≤ nb s k ∧ nb s k ≤ 126
      · have HY := Lib.hid (show valN (nb s k) = true by simp [valN, hv.1, hv.2])
        obtain ⟨hv1, hv2⟩ := hv
        go_wp2
        go_round
        case rel => exact ⟨k + 1, by go_num, by omega, Lib.hid (fun j hj => by
          rcases Nat.lt_or_ge j k with h | h
          · exact HK.out j h
          · obtain rfl : j = k := by omega
            exact HY.out)⟩
        case measure => simp [intOf]; omega
      · have HY := Lib.hid (allN_bad (f := valN) hin (by simp [valN]; omega))
        by_cases h33 : nb s k < 33
        · go_wp2
          go_ret
          exact ⟨by rw [valueOk, HY.out]; rfl, rfl⟩
        · go_wp2
          go_ret
          exact ⟨by rw [valueOk, HY.out]; rfl, rfl⟩
    · by_cases hr : 1 ≤ s.size ∧ s.size ≤ 12
      · obtain rfl : k = s.size := by omega
        have hfin : valueOk s.data.toList = true := allN_good HK.out hr.1 hr.2
        have HF := Lib.hid hfin
        clear hfin
        go_wp2_with (go_at_call 40; refine (sin_yes _ _ _ _ (by omega) (by omega)).mono ?_; rintro e w1 ⟨rfl, rfl⟩)
        all_goals
          go_ret
          exact ⟨by rw [HF.out]; rfl, rfl⟩
      · have hfin : valueOk s.data.toList = false := allN_long hr
        have HF := Lib.hid hfin
        clear hfin
        go_wp2_with (go_at_call 40; refine (sin_no _ _ _ _ (by omega)).mono ?_; rintro e w1 ⟨rfl, rfl⟩)
        all_goals
          go_ret
          exact ⟨by rw [HF.out]; rfl, rfl⟩

end Go.Proofs.YtkgfidphcpklhaaDoor
