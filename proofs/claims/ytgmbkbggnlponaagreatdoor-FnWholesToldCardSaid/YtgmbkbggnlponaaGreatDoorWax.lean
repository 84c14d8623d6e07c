/- Memory that a call makes: rows of bytes, and the strings made of them. What the small functions on numbers and strings compute. What the reference's small functions on numbers and strings compute. Names and values: the program's tests and the reference's. What a region holds while calls make memory: a box of some cells. -/
import Derived.Test.YtgmbkbggnlponaaGreatDoorRows
import Derived.Test.YtgmbkbggnlponaaGreatDoorPlain
import Derived.WalkKit
import Derived.WalkSpells
import Derived.WalkLawsBesides
import Derived.Lib.Hide
import Derived.Laws.BytesArg
import Derived.Laws.IdiomStrings
import Derived.Deep.Draws
import Derived.Deep.QuietTactic
import Derived.BigQuiet
import Derived.Laws.OwnMore
import Derived.Laws.Rows
import Derived.Deep.DeepMust
import Derived.PlainAid
import Derived.Deep.RegionHeld3
import Derived.Deep.RegionWith
namespace Go.Proofs.YtgmbkbggnlponaaGreatDoor
set_option maxRecDepth 100000
set_option maxHeartbeats 800000
set_option linter.unusedVariables false
set_option linter.unusedSimpArgs false
set_option linter.unusedSectionVars false
open Go.RowKit Pl
def bv (b : UInt8) : Value := .int .u8 (b.toNat : Int)
def Byt (w : World) (base : Nat) (v : Value) (l : Bs) : Prop := w.ownsRow base 5 1 v l.length (l.map bv)
theorem zeG : (Tryz.prog.info? 5).map (fun i => (i.zero, i.size, i.bytes)) = some (some (.int .u8 0), 1, 1) := by kernel_rfl
theorem Byt.string {w : World} {base : Nat} {v : Value} {l : Bs} (h : Byt w base v l) : (convert 22 9 v).run Tryz.prog w = .ok (.string (bs l)) w := by
 rcases h.2 with ⟨rfl, hn⟩ | ⟨g, cap, cur, rfl, _, _, _⟩
 ·have : l = [] := List.eq_nil_of_length_eq_zero hn
  subst this
  exact run_convert_bytes_nil w _ _ Tryz.underlying22 Tryz.underlying5 0 0 _ Tryz.underlying9
 ·refine run_convert_bytes_back w _ _ _ _ cap l Tryz.underlying22 Tryz.underlying5 Tryz.underlying9 (fun j hj => ?_)
  exact World.ownsRow.cells h (g := g) rfl j _ (by simp [bv, List.getElem?_eq_getElem hj])
theorem bv1 {k : Nat} (h : k < 256) : (#[Value.int .u8 (k : Int)]).toList = [UInt8.ofNat k].map bv := by simp [bv]; omega
theorem bv1' {z : Int} {k : Nat} (h : k < 256) (hz : z = (k : Int)) : (#[Value.int .u8 z]).toList = [UInt8.ofNat k].map bv := by subst hz; exact bv1 h
theorem Byt.nil (w : World) (base : Nat) : Byt w base (.slice none 0 0) [] := ⟨rfl, .inl ⟨rfl, rfl⟩⟩
theorem Byt.empty (w : World) : Byt (w.alloc (.cells #[] 5)) w.heap.size (.slice (some ⟨w.heap.size, 0, none⟩) 0 0) [] :=
 ⟨rfl, .inr ⟨w.heap.size, 0, #[], rfl, Nat.le_refl _, heap_alloc_new w _, Nat.le_refl _, Nat.zero_le _, rfl, rfl⟩⟩
theorem z5z {ops : Array Oper} {rest : List Oper} {o : Oper} {a : Act} {Q : Exit → Act → World → Prop} (hgd : o.guard = none) (s x : Operand)
 (ho : o.op = .call { callee := .builtin .append, args := #[s, x], argTypes := #[22, 22] })
 (W : World) (base : Nat) (v : Value) (l news : Bs) (hown : Byt W base v l) (C : Array Value) (hC : C.toList = news.map bv) (hs : a.eval s = v)
 (m c : Nat) (hm : m = news.length) (hx : a.eval x = .slice (some ⟨W.heap.size, 0, none⟩) m c) (hlen : l.length + news.length ≤ 1099511627776) (hbase : base ≤ W.heap.size)
 (h : ∀ v' w', Byt w' base v' (l ++ news) → Below base W w' → wpList Tryz.prog ops Q rest (a.put o.dst v') w') :
 wpList Tryz.prog ops Q (o :: rest) a (W.alloc (.cells C 5)) := by
 obtain ⟨i0, hi0, hz0, hz1, hz2⟩ := info_parts zeG
 subst hm
 refine wpList_append_own _ hgd s x _ ho base 5 i0 _ 1 1 Tryz.underlying22 hi0 hz0 hz1 hz2 rfl (by decide) v l.length (l.map bv) hs (hown.alloc _) ⟨W.heap.size, 0, none⟩ news.length c (news.map bv) hx (by simp) ?_ ?_ ?_ ?_ ?_ ?_
 ·intro j u hu
  have hadd : (⟨W.heap.size, 0, none⟩ : Addr).add j = ⟨W.heap.size, j, none⟩ := by unfold Addr.add; split <;> simp_all
  rw [hadd, World.cell?_alloc_mark, ← Array.getElem?_toList, hC]
  exact hu
 ·intro u hu
  simp only [List.mem_map] at hu
  obtain ⟨b, _, rfl⟩ := hu
  rfl
 ·unfold maxLen; omega
 ·omega
 ·simp; omega
 ·intro v' w' h2 h3 _
  refine h v' w' ?_ ?_
  ·unfold Byt
   rw [List.length_append, List.map_append]
   exact h2
  ·refine Below.grown ((Below.refl _ _).alloc hbase _) h3 (by simp; omega) ?_
   intro k hk
   exact (World.ownsRow.lt hown k hk).1
def Box (w : World) (g : Nat) (t : TypeId) (cs : Array Value) : Prop := w.heap[g]? = some (.cells cs t (0, 0))
def Only (g : Nat) (w w' : World) : Prop := w.grownBy w' (some g)
section
variable {w w' w2 : World} {g : Nat} {t : TypeId} {cs : Array Value}
theorem Box.lt (h : Box w g t cs) : g < w.heap.size := by
 unfold Box at h
 rcases Nat.lt_or_ge g w.heap.size with hlt | hge
 ·exact hlt
 ·rw [Array.getElem?_eq_none hge] at h; cases h
theorem Box.cell (h : Box w g t cs) (i : Nat) : w.cell? ⟨g, i, none⟩ = cs[i]? := cell_of_row w g i cs t (0, 0) h
theorem Box.new (w : World) (t : TypeId) (cs : Array Value) : Box (w.alloc (.cells cs t)) w.heap.size t cs := heap_alloc_new w _
theorem Box.drew (h : Box w g t cs) : Box w.drew g t cs := h
theorem Box.drewN (h : Box w g t cs) (n : Nat) : Box (w.drewN n) g t cs := h
theorem Box.alloc (h : Box w g t cs) (o : Obj) : Box (w.alloc o) g t cs := (Below.heap_alloc w o g h.lt).trans h
theorem Box.set (h : Box w g t cs) (i : Nat) (u : Value) : Box (w.setCell ⟨g, i, none⟩ u) g t (cs.setIfInBounds i u) := by
 unfold Box at h ⊢
 simp [World.setCell, Array.getElem?_modify, h]
theorem Box.below {B : Nat} (h : Box w g t cs) (hb : Below B w w') (hg : g < B) : Box w' g t cs := (hb.block g hg).trans h
theorem Box.grown {row : Option Nat} (h : Box w g t cs) (hb : w.grownBy w' row) (hg : some g ≠ row) : Box w' g t cs := (hb.block g h.lt hg).trans h
theorem Box.only {g' : Nat} (h : Box w g t cs) (hb : Only g' w w') (hg : g ≠ g') : Box w' g t cs := h.grown hb (fun e => hg (by injection e))
theorem Only.refl (g : Nat) (w : World) : Only g w w := World.grownBy.refl w _
theorem Only.trans (h : Only g w w') (k : Only g w' w2) : Only g w w2 :=
 ⟨k.os.trans h.os, k.tape.trans h.tape, k.output.trans h.output, Nat.le_trans h.size k.size, fun i hi hn => (k.block i (Nat.lt_of_lt_of_le hi h.size) hn).trans (h.block i hi hn)⟩
theorem Only.drewN (h : Only g w w') (n : Nat) : Only g w (w'.drewN n) := ⟨h.os, h.tape, h.output, h.size, h.block⟩
theorem Only.drew (h : Only g w w') : Only g w w'.drew := ⟨h.os, h.tape, h.output, h.size, h.block⟩
theorem Only.alloc (h : Only g w w') (o : Obj) : Only g w (w'.alloc o) :=
 ⟨h.os, h.tape, h.output, Nat.le_trans h.size (by simp), fun i hi hne => (Below.heap_alloc w' o i (Nat.lt_of_lt_of_le hi h.size)).trans (h.block i hi hne)⟩
theorem Only.set (h : Only g w w') {p : Addr} (hp : p.block = g ∨ w.heap.size ≤ p.block) (u : Value) : Only g w (w'.setCell p u) :=
 ⟨h.os, h.tape, h.output, by simpa [World.setCell] using h.size, fun i hi hne => (Below.heap_setCell w' p u i (by
   rintro rfl
   rcases hp with hp | hp
   ·exact hne (by rw [hp])
   ·omega)).trans (h.block i hi hne)⟩
theorem Only.below {B : Nat} (h : Only g w w') (hg : B ≤ g) (hB : B ≤ w.heap.size) : Below B w w' := ⟨h.os, h.tape, h.output, h.size, fun i hi => h.block i (by omega) (fun e => by injection e; omega)⟩
theorem zbg {B : Nat} (h : Below B w w') (n : Nat) : Below B w (w'.drewN n) := ⟨h.os, h.tape, h.output, h.size, h.block⟩
end
end Go.Proofs.YtgmbkbggnlponaaGreatDoor
namespace Go.Proofs.YtgmbkbggnlponaaGreatDoor
set_option maxRecDepth 100000
set_option maxHeartbeats 800000
set_option linter.unusedVariables false
set_option linter.unusedSimpArgs false
set_option linter.unusedSectionVars false
open Go.RowKit Pl
theorem in_yes (n lo hi : Int) (w : World) (h : lo ≤ n) (h2 : n ≤ hi) :
 Calls Tryz.prog 22 #[.int .i64 n, .int .i64 lo, .int .i64 hi] w fun e w' => e = .returned (.bool true) ∧ w = w' := by
 go_enter Tryz.func22, Tryz.ntmps22
 go_wp2
 go_ret
 exact ⟨rfl, rfl⟩
def zhH : Option (Nat × Nat) → Value
 | none => .tuple #[.int .i64 0, .int .i64 0, .bool false]
 | some (n, q) => .tuple #[.int .i64 (n : Int), .int .i64 (q : Int), .bool true]
theorem z5i (s : ByteArray) (p : Nat) (w : World) (hs : (s.size : Int) ≤ 1000000000) (hp : p ≤ s.size) :
 Calls Tryz.prog 98 #[.string s, .int .i64 (p : Int)] w fun e w' => e = .returned (zhH (z0G s.data.toList p)) ∧ w = w' := by
 have hp0 : 0 ≤ (p : Int) := by omega
 have hp1 : (p : Int) ≤ s.size := by omega
 have hfin : ∀ o, rvGo 5 0 0 (s.data.toList.drop p) = o → z0G s.data.toList p = o.map fun x => (x.1, p + x.2) := fun o h => by rw [z0G, h]
 have HF := Lib.hid hfin
 clear hfin
 go_enter Tryz.func98, Tryz.ntmps98
 go_wp2_with (go_at_call 22; refine (in_yes _ _ _ _ hp0 hp1).mono ?_; rintro e w1 ⟨rfl, rfl⟩)
 go_loop [7, 8] (fun n k => ∃ j m : Nat, k = .int .i64 (j : Int) ∧ n = .int .i64 (m : Int) ∧ j ≤ 5 ∧ m < 128 ^ j ∧ rvGo (5 - j) j m (s.data.toList.drop (p + j)) = rvGo 5 0 0 (s.data.toList.drop p)) (fun _ k => 5 - (intOf k).toNat)
 case atStart => exact ⟨0, 0, rfl, rfl, by omega, by omega, rfl⟩
 case round =>
  obtain ⟨j, m, rfl, rfl, hj, hm, hrv⟩ := hrel
  have HR := Lib.hid hrv
  clear hrv
  by_cases h5 : j < 5
  ·by_cases hin : p + j < s.size
   ·have hnb := zgP s
    have hb1 := nb_le s (p + j)
    obtain ⟨b, hbn, hdr⟩ := ze0 s (p + j) hin
    obtain ⟨hw, hlt⟩ := zcU m (nb s (p + j)) j h5 hm
    have hf5 : 5 - j = (5 - (j + 1)) + 1 := by omega
    have HB := Lib.hid hbn
    have HD := Lib.hid hdr
    have H5 := Lib.hid hf5
    have HL := Lib.hid hlt
    clear hbn hdr hf5 hlt
    obtain ⟨m', hm'⟩ : ∃ m' : Nat, m + nb s (p + j) % 128 * 2 ^ (7 * j) = m' := ⟨_, rfl⟩
    rw [hm'] at hw
    have HM := Lib.hid hm'
    clear hm'
    by_cases hx : ((nb s (p + j) : Nat) : Int) < 128
    ·have hmul : nb s (p + j) % 128 = nb s (p + j) := by omega
     have HU := Lib.hid hmul
     clear hmul
     have hfin : ∀ o, (if (nb s (p + j) = 0 ∧ 0 < j) ∨ 1000000000 < m' then none else some (m', j + 1)) = o → z0G s.data.toList p = o.map fun x => (x.1, p + x.2) := by
      rintro o rfl
      refine HF.out _ ?_
      rw [← HR.out, HD.out, H5.out, rvGo, if_pos (by rw [HB.out]; omega), HB.out, ← HM.out, HU.out]
     have HX := Lib.hid hfin
     clear hfin
     by_cases hbad : nb s (p + j) = 0
     ·by_cases hj0 : 0 < j
      ·have h1 : (((nb s (p + j) : Nat) : Int) == 0) = true := by simp [hbad]
       have h2 : (0 : Int) < (j : Int) := by omega
       have HBad := Lib.hid hbad
       clear hbad
       go_wp2
       go_ret3
       exact ⟨by rw [HX.out _ (if_pos (.inl ⟨HBad.out, hj0⟩))]; rfl, rfl⟩
      ·have h1 : (((nb s (p + j) : Nat) : Int) == 0) = true := by simp [hbad]
       have h2 : decide ((0 : Int) < (j : Int)) = false := by simp; omega
       have HBad := Lib.hid hbad
       clear hbad
       by_cases hm1 : (m' : Int) ≤ 1000000000
       ·go_wp2
        go_ret3
        exact ⟨by rw [HX.out _ (if_neg (by omega))]; rfl, rfl⟩
       ·go_wp2
        go_ret3
        exact ⟨by rw [HX.out _ (if_pos (by omega))]; rfl, rfl⟩
     ·have h1 : (((nb s (p + j) : Nat) : Int) == 0) = false := by simp; omega
      by_cases hm1 : (m' : Int) ≤ 1000000000
      ·go_wp2
       go_ret3
       exact ⟨by rw [HX.out _ (if_neg (by omega))]; rfl, rfl⟩
      ·go_wp2
       go_ret3
       exact ⟨by rw [HX.out _ (if_pos (by omega))]; rfl, rfl⟩
    ·go_wp2
     go_round
     case rel =>
      refine ⟨j + 1, m', by go_num, congrArg (Value.int .i64) hw, by omega, by rw [← HM.out]; exact HL.out, ?_⟩
      rw [← HR.out, HD.out, H5.out, z63 _ _ _ _ _ (by rw [HB.out]; omega), HB.out, HM.out, Nat.add_assoc]
     case measure => simp [intOf]; omega
   ·have hnil : s.data.toList.drop (p + j) = [] := List.drop_eq_nil_of_le (by rw [z1G]; omega)
    have HN := Lib.hid hnil
    clear hnil
    go_wp2
    go_ret3
    exact ⟨by rw [HF.out _ (HR.out.symm.trans (by rw [HN.out, z7B]))]; rfl, rfl⟩
  ·have hnil : 5 - j = 0 := by omega
   have HN := Lib.hid hnil
   clear hnil
   go_wp2
   go_ret3
   exact ⟨by rw [HF.out _ (HR.out.symm.trans (by rw [HN.out, z7A]))]; rfl, rfl⟩
theorem z9O {s : ByteArray} {p : Nat} (w : World) (hs : (s.size : Int) ≤ 1000000000) (hp : p ≤ s.size) (h : z0G s.data.toList p = none) :
 Calls Tryz.prog 98 #[.string s, .int .i64 (p : Int)] w fun e w' => e = .returned (.tuple #[.int .i64 0, .int .i64 0, .bool false]) ∧ w = w' := by
 have := z5i s p w hs hp
 rw [h] at this; exact this
theorem z3J {s : ByteArray} {p n q : Nat} (w : World) (hs : (s.size : Int) ≤ 1000000000) (hp : p ≤ s.size) (h : z0G s.data.toList p = some (n, q)) :
 Calls Tryz.prog 98 #[.string s, .int .i64 (p : Int)] w fun e w' => e = .returned (.tuple #[.int .i64 (n : Int), .int .i64 (q : Int), .bool true]) ∧ w = w' := by
 have := z5i s p w hs hp
 rw [h] at this; exact this
def zhI : Option (Bs × Nat) → Value
 | none => .tuple #[.string (bs []), .int .i64 0, .bool false]
 | some (l, q) => .tuple #[.string (bs l), .int .i64 (q : Int), .bool true]
theorem z9P (s : ByteArray) (p : Nat) (w : World) (hs : (s.size : Int) ≤ 1000000000) (hp : p ≤ s.size) :
 Calls Tryz.prog 97 #[.string s, .int .i64 (p : Int)] w fun e w' => e = .returned (zhI (z0o s.data.toList p)) ∧ w = w' := by
 rcases hr : z0G s.data.toList p with _ | ⟨n, q⟩
 ·have hfin : z0o s.data.toList p = none := by rw [z0o, hr]
  have HR := Lib.hid hr
  have HF := Lib.hid hfin
  clear hr hfin
  go_enter Tryz.func97, Tryz.ntmps97
  go_wp2_with (go_at_call 98; refine (z9O _ hs hp HR.out).mono ?_; rintro e w1 ⟨rfl, rfl⟩)
  go_ret3
  exact ⟨by rw [HF.out]; rfl, rfl⟩
 ·obtain ⟨hpq, hq, _hq5, hn⟩ := z1a hr
  rw [z1G] at hq
  have HR := Lib.hid hr
  clear hr
  by_cases h1 : (n : Int) ≤ 20000
  ·by_cases h2 : (n : Int) ≤ (s.size : Int) - (q : Int)
   ·have hfin : z0o s.data.toList p = some ((s.data.toList.drop q).take n, q + n) := by
     rw [z0o, HR.out]; simp only [z1G]; rw [if_pos ⟨by omega, by omega⟩]
    have HF := Lib.hid hfin
    clear hfin
    go_enter Tryz.func97, Tryz.ntmps97
    go_wp2_with (go_at_call 98; refine (z3J _ hs hp HR.out).mono ?_; rintro e w1 ⟨rfl, rfl⟩)
    go_ret3
    refine ⟨?_, rfl⟩
    rw [HF.out]
    have e1 : s.extract q (q + n) = bs ((s.data.toList.drop q).take n) := z5P (by rw [z2V, z1Z, Nat.add_sub_cancel_left])
    show Ending.returned (.tuple #[.string (s.extract q (q + n)), .int .i64 ((q : Int) + (n : Int)), .bool true]) = Ending.returned (.tuple #[.string (bs ((s.data.toList.drop q).take n)), .int .i64 ((q + n : Nat) : Int), .bool true])
    rw [e1, Int.natCast_add]
   ·have hfin : z0o s.data.toList p = none := by
     rw [z0o, HR.out]; simp only [z1G]; rw [if_neg (by omega)]
    have HF := Lib.hid hfin
    clear hfin
    go_enter Tryz.func97, Tryz.ntmps97
    go_wp2_with (go_at_call 98; refine (z3J _ hs hp HR.out).mono ?_; rintro e w1 ⟨rfl, rfl⟩)
    go_ret3
    exact ⟨by rw [HF.out]; rfl, rfl⟩
  ·have hfin : z0o s.data.toList p = none := by
    rw [z0o, HR.out]; simp only [z1G]; rw [if_neg (by omega)]
   have HF := Lib.hid hfin
   clear hfin
   go_enter Tryz.func97, Tryz.ntmps97
   go_wp2_with (go_at_call 98; refine (z3J _ hs hp HR.out).mono ?_; rintro e w1 ⟨rfl, rfl⟩)
   go_ret3
   exact ⟨by rw [HF.out]; rfl, rfl⟩
end Go.Proofs.YtgmbkbggnlponaaGreatDoor
namespace Go.Proofs.YtgmbkbggnlponaaGreatDoor
set_option maxRecDepth 100000
set_option maxHeartbeats 800000
set_option linter.unusedVariables false
set_option linter.unusedSimpArgs false
set_option linter.unusedSectionVars false
open Go.RowKit Pl
theorem zhJ (n lo hi : Int) (w : World) (h : lo ≤ n) (h2 : n ≤ hi) :
 Calls Tryz.prog 30 #[.int .i64 n, .int .i64 lo, .int .i64 hi] w fun e w' => e = .returned (.bool true) ∧ w = w' := by
 go_enter Tryz.func30, Tryz.ntmps30
 go_wp2
 go_ret
 exact ⟨rfl, rfl⟩
theorem z8K (n : Nat) (w : World) (hn : (n : Int) ≤ 2000000000) :
 Calls Tryz.prog 92 #[.int .i64 (n : Int)] w fun e w' => e = .returned (.string (bs (z0g n))) ∧ Below w.heap.size w w' := by
 go_enter Tryz.func92, Tryz.ntmps92
 go_wp2
 go_loopw [0, 3] (fun m v wr => ∃ (k : Nat) (xs : Bs), m = .int .i64 (k : Int) ∧ k ≤ n ∧ xs ++ z0g k = z0g n ∧ Byt wr w.heap.size v xs ∧ Below w.heap.size w wr) (fun m _ _ => (intOf m).toNat)
 case atStart => exact ⟨n, [], rfl, Nat.le_refl _, rfl, Byt.empty _, (Below.refl _ _).alloc (Nat.le_refl _) _⟩
 case round =>
  obtain ⟨k, xs, rfl, hk, hx, hown, hb⟩ := hrel
  have hl : xs.length ≤ 4 := by have h1 := z2O hn; have h2 := zaS k; have h3 := congrArg List.length hx; simp at h3; omega
  have HX := Lib.hid hx
  clear hx
  by_cases hlt : k ≤ 127
  ·go_wp2_with (at_builtin; go_must (refine z5z rfl _ _ rfl wr w.heap.size _ xs [UInt8.ofNat k] hown _ (bv1 (by omega)) rfl 1 1 rfl rfl (by simp; omega) hb.size ?_; intro v1 w1 hown1 hb1; have hcv := hown1.string))
   go_ret
   refine ⟨?_, hb.trans hb1⟩
   rw [← HX.out, z1m hlt]; rfl
  ·go_wp2_with (at_builtin; go_must (refine z5z rfl _ _ rfl wr w.heap.size _ xs [UInt8.ofNat (128 + k % 128)] hown _ (bv1' (by omega) (by omega)) rfl 1 1 rfl rfl (by simp; omega) hb.size ?_; intro v1 w1 hown1 hb1))
   go_roundw
   case rel => exact ⟨k / 128, xs ++ [UInt8.ofNat (128 + k % 128)], by go_num, by omega, by rw [← HX.out, z2N hlt]; simp, hown1, hb.trans hb1⟩
   case measure => simp [intOf]; omega
theorem z4k (s : ByteArray) (p : Nat) (w : World) (hs : (s.size : Int) ≤ 1000000000) (hp : p ≤ s.size) :
 Calls Tryz.prog 103 #[.string s, .int .i64 (p : Int)] w fun e w' => e = .returned (zhH (z0G s.data.toList p)) ∧ Below w.heap.size w w' := by
 have hp0 : 0 ≤ (p : Int) := by omega
 have hp1 : (p : Int) ≤ s.size := by omega
 have hfin : ∀ o, rvGo 5 0 0 (s.data.toList.drop p) = o → z0G s.data.toList p = o.map fun x => (x.1, p + x.2) := fun o h => by rw [z0G, h]
 have HF := Lib.hid hfin
 clear hfin
 go_enter Tryz.func103, Tryz.ntmps103
 go_wp2_with (go_at_call 30; refine (zhJ _ _ _ _ hp0 hp1).mono ?_; rintro e w1 ⟨rfl, rfl⟩)
 go_loop [7, 8, 9] (fun n z i => ∃ j m : Nat, i = .int .i64 ((p + j : Nat) : Int) ∧ n = .int .i64 (m : Int) ∧ z = .int .i64 ((128 ^ j : Nat) : Int) ∧ j ≤ 5 ∧ p + j ≤ s.size ∧ Digs ((s.data.toList.drop p).take j) j m ∧ rvGo (5 - j) j m (s.data.toList.drop (p + j)) = rvGo 5 0 0 (s.data.toList.drop p)) (fun _ _ i => p + 5 - (intOf i).toNat)
 case atStart => exact ⟨0, 0, rfl, rfl, rfl, by omega, by omega, zfH _, rfl⟩
 case round =>
  obtain ⟨j, m, rfl, rfl, rfl, hj, hpj, hdg, hrv⟩ := hrel
  have hm := hdg.lt
  have HR := Lib.hid hrv
  clear hrv
  by_cases h5 : j < 5
  ·by_cases hin : p + j < s.size
   ·have hnb := zgP s
    have hb1 := nb_le s (p + j)
    obtain ⟨b, hbn, hdr⟩ := ze0 s (p + j) hin
    obtain ⟨hw, hz⟩ := zcV m (nb s (p + j)) j h5 hm
    have hf5 : 5 - j = (5 - (j + 1)) + 1 := by omega
    have HB := Lib.hid hbn
    have HD := Lib.hid hdr
    have H5 := Lib.hid hf5
    have HO := Lib.hid hdg
    clear hbn hdr hf5 hdg
    obtain ⟨m', hm'⟩ : ∃ m' : Nat, m + nb s (p + j) % 128 * 2 ^ (7 * j) = m' := ⟨_, rfl⟩
    obtain ⟨z, hz'⟩ : ∃ z : Nat, 128 ^ j = z := ⟨_, rfl⟩
    obtain ⟨z2, hz2⟩ : ∃ z : Nat, 128 ^ (j + 1) = z := ⟨_, rfl⟩
    rw [hm', hz'] at hw
    rw [hz', hz2] at hz
    have HM := Lib.hid hm'
    have HZ := Lib.hid hz'
    have HZ2 := Lib.hid hz2
    rw [hz'] at hm
    rw [hz']
    clear hm' hz' hz2
    have ei : ((p + j : Nat) : Int) = (p : Int) + (j : Int) := by omega
    rw [ei]
    by_cases hx : ((nb s (p + j) : Nat) : Int) < 128
    ·have hfin : ∀ o, (if (nb s (p + j) = 0 ∧ 0 < j) ∨ 1000000000 < m' then none else some (m', j + 1)) = o → z0G s.data.toList p = o.map fun x => (x.1, p + x.2) := by
      rintro o rfl
      refine HF.out _ ?_
      have hmul : nb s (p + j) % 128 = nb s (p + j) := by omega
      rw [← HR.out, HD.out, H5.out, rvGo, if_pos (by rw [HB.out]; omega), HB.out, ← HM.out, hmul]
     have hl := HO.out.last HD.out (by rw [HB.out]; omega)
     rw [HB.out, HM.out] at hl
     have HX := Lib.hid hfin
     have HL := Lib.hid hl
     clear hfin hl
     by_cases hm1 : (m' : Int) ≤ 1000000000
     ·have hm2 : (m' : Int) ≤ 2000000000 := by omega
      have hd1 : decide ((1000000000 : Int) < (m' : Int)) = false := by simp; omega
      have hex : (s.extract p (p + j + 1)).data.toList = (s.data.toList.drop p).take (j + 1) := by
       rw [z2V]; congr 1; omega
      by_cases hbad : nb s (p + j) = 0 ∧ 0 < j
      ·have hne : ((bs (z0g m')).toList == (s.extract p (p + j + 1)).toList) = false := by
        rw [toList_data, toList_data, z1Z, hex, beq_eq_false_iff_ne]
        intro h; exact (HL.out.1 h) hbad
       clear hex
       have HBad := Lib.hid hbad
       clear hbad
       have k1 : (0 : Int) ≤ (p : Int) + (j : Int) + 1 := by omega
       have k2 : (p : Int) ≤ (p : Int) + (j : Int) + 1 := by omega
       have k3 : (p : Int) + (j : Int) + 1 ≤ (s.size : Int) := by omega
       have k4 : ((p : Int) + (j : Int) + 1).toNat = p + j + 1 := by omega
       have k5 : IntKind.i64.wrap ((p : Int) + (j : Int) + 1) = (p : Int) + (j : Int) + 1 := IntWalk.i64_in _ (by omega)
       go_wp2_with (fail)
       go_region_held3 (fun _ => True) (trivial) (first | (go_at_call 92; refine (z8K m' _ hm2).mono ?_; rintro e w1 ⟨rfl, hbw⟩) | fail)
       clear k4 k5
       go_wp2
       go_ret3
       exact ⟨by rw [HX.out _ (if_pos (.inl HBad.out))]; rfl, (Below.refl _ w).drew.trans hbw⟩
      ·have hne : ((bs (z0g m')).toList == (s.extract p (p + j + 1)).toList) = true := by
        rw [toList_data, toList_data, z1Z, hex, beq_iff_eq]
        exact HL.out.2 hbad
       clear hex
       have HBad := Lib.hid hbad
       clear hbad
       have k1 : (0 : Int) ≤ (p : Int) + (j : Int) + 1 := by omega
       have k2 : (p : Int) ≤ (p : Int) + (j : Int) + 1 := by omega
       have k3 : (p : Int) + (j : Int) + 1 ≤ (s.size : Int) := by omega
       have k4 : ((p : Int) + (j : Int) + 1).toNat = p + j + 1 := by omega
       have k5 : IntKind.i64.wrap ((p : Int) + (j : Int) + 1) = (p : Int) + (j : Int) + 1 := IntWalk.i64_in _ (by omega)
       go_wp2_with (fail)
       go_region_held3 (fun _ => True) (trivial) (first | (go_at_call 92; refine (z8K m' _ hm2).mono ?_; rintro e w1 ⟨rfl, hbw⟩) | fail)
       clear k4 k5
       go_wp2
       go_ret3
       exact ⟨by rw [HX.out _ (if_neg (by have := HBad.out; omega))]; rfl, (Below.refl _ w).drew.trans hbw⟩
     ·have hd1 : decide ((1000000000 : Int) < (m' : Int)) = true := by simp; omega
      have k5 : IntKind.i64.wrap ((p : Int) + (j : Int) + 1) = (p : Int) + (j : Int) + 1 := IntWalk.i64_in _ (by omega)
      go_wp2_with (fail)
      go_quiet (fail)
      clear k5
      go_wp2
      go_ret3
      exact ⟨by rw [HX.out _ (if_pos (by omega))]; rfl, zbg (Below.refl _ _) _⟩
    ·have hG : Digs ((s.data.toList.drop p).take (j + 1)) (j + 1) m' := by
      have := HO.out.snoc HD.out (by rw [HB.out]; omega)
      rw [HB.out, HM.out] at this; exact this
     have hR : rvGo (5 - (j + 1)) (j + 1) m' (s.data.toList.drop (p + (j + 1))) = rvGo 5 0 0 (s.data.toList.drop p) := by
      rw [← HR.out, HD.out, H5.out, z63 _ _ _ _ _ (by rw [HB.out]; omega), HB.out, HM.out, Nat.add_assoc]
     have HG := Lib.hid hG
     have HR' := Lib.hid hR
     clear hG hR
     go_wp2
     go_round
     case rel =>
      exact ⟨j + 1, m', by go_num, congrArg (Value.int .i64) hw, by rw [HZ2.out]; exact congrArg (Value.int .i64) hz, by omega, by omega, HG.out, HR'.out⟩
     case measure => simp [intOf]; omega
   ·have hnil : s.data.toList.drop (p + j) = [] := List.drop_eq_nil_of_le (by rw [z1G]; omega)
    have HN := Lib.hid hnil
    clear hnil
    have ei : ((p + j : Nat) : Int) = (p : Int) + (j : Int) := by omega
    rw [ei]
    go_wp2
    go_ret3
    exact ⟨by rw [HF.out _ (HR.out.symm.trans (by rw [HN.out, z7B]))]; rfl, Below.refl _ _⟩
  ·have hnil : 5 - j = 0 := by omega
   have HN := Lib.hid hnil
   clear hnil
   have ei : ((p + j : Nat) : Int) = (p : Int) + (j : Int) := by omega
   rw [ei]
   go_wp2
   all_goals
    go_ret3
    exact ⟨by rw [HF.out _ (HR.out.symm.trans (by rw [HN.out, z7A]))]; rfl, Below.refl _ _⟩
theorem z8L {s : ByteArray} {p : Nat} (w : World) (hs : (s.size : Int) ≤ 1000000000) (hp : p ≤ s.size) (h : z0G s.data.toList p = none) :
 Calls Tryz.prog 103 #[.string s, .int .i64 (p : Int)] w fun e w' => e = .returned (.tuple #[.int .i64 0, .int .i64 0, .bool false]) ∧ Below w.heap.size w w' := by
 have := z4k s p w hs hp
 rw [h] at this; exact this
theorem z3m {s : ByteArray} {p n q : Nat} (w : World) (hs : (s.size : Int) ≤ 1000000000) (hp : p ≤ s.size) (h : z0G s.data.toList p = some (n, q)) :
 Calls Tryz.prog 103 #[.string s, .int .i64 (p : Int)] w fun e w' => e = .returned (.tuple #[.int .i64 (n : Int), .int .i64 (q : Int), .bool true]) ∧ Below w.heap.size w w' := by
 have := z4k s p w hs hp
 rw [h] at this; exact this
theorem z8M (s : ByteArray) (p : Nat) (w : World) (hs : (s.size : Int) ≤ 1000000000) (hp : p ≤ s.size) :
 Calls Tryz.prog 102 #[.string s, .int .i64 (p : Int)] w fun e w' => e = .returned (zhI (z0o s.data.toList p)) ∧ Below w.heap.size w w' := by
 rcases hr : z0G s.data.toList p with _ | ⟨n, q⟩
 ·have hfin : z0o s.data.toList p = none := by rw [z0o, hr]
  have HR := Lib.hid hr
  have HF := Lib.hid hfin
  clear hr hfin
  go_enter Tryz.func102, Tryz.ntmps102
  go_wp2_with (go_at_call 103; refine (z8L _ hs hp HR.out).mono ?_; rintro e w1 ⟨rfl, hb1⟩)
  go_ret3
  exact ⟨by rw [HF.out]; rfl, hb1⟩
 ·obtain ⟨hpq, hq, _hq5, hn⟩ := z1a hr
  rw [z1G] at hq
  have HR := Lib.hid hr
  clear hr
  by_cases h1 : (n : Int) ≤ 20000
  ·by_cases h2 : (n : Int) ≤ (s.size : Int) - (q : Int)
   ·have hfin : z0o s.data.toList p = some ((s.data.toList.drop q).take n, q + n) := by
     rw [z0o, HR.out]; simp only [z1G]; rw [if_pos ⟨by omega, by omega⟩]
    have HF := Lib.hid hfin
    clear hfin
    go_enter Tryz.func102, Tryz.ntmps102
    go_wp2_with (go_at_call 103; refine (z3m _ hs hp HR.out).mono ?_; rintro e w1 ⟨rfl, hb1⟩)
    go_ret3
    refine ⟨?_, hb1⟩
    rw [HF.out]
    have e1 : s.extract q (q + n) = bs ((s.data.toList.drop q).take n) := z5P (by rw [z2V, z1Z, Nat.add_sub_cancel_left])
    show Ending.returned (.tuple #[.string (s.extract q (q + n)), .int .i64 ((q : Int) + (n : Int)), .bool true]) = Ending.returned (.tuple #[.string (bs ((s.data.toList.drop q).take n)), .int .i64 ((q + n : Nat) : Int), .bool true])
    rw [e1, Int.natCast_add]
   ·have hfin : z0o s.data.toList p = none := by
     rw [z0o, HR.out]; simp only [z1G]; rw [if_neg (by omega)]
    have HF := Lib.hid hfin
    clear hfin
    go_enter Tryz.func102, Tryz.ntmps102
    go_wp2_with (go_at_call 103; refine (z3m _ hs hp HR.out).mono ?_; rintro e w1 ⟨rfl, hb1⟩)
    go_ret3
    exact ⟨by rw [HF.out]; rfl, hb1⟩
  ·have hfin : z0o s.data.toList p = none := by
    rw [z0o, HR.out]; simp only [z1G]; rw [if_neg (by omega)]
   have HF := Lib.hid hfin
   clear hfin
   go_enter Tryz.func102, Tryz.ntmps102
   go_wp2_with (go_at_call 103; refine (z3m _ hs hp HR.out).mono ?_; rintro e w1 ⟨rfl, hb1⟩)
   go_ret3
   exact ⟨by rw [HF.out]; rfl, hb1⟩
end Go.Proofs.YtgmbkbggnlponaaGreatDoor
namespace Go.Proofs.YtgmbkbggnlponaaGreatDoor
set_option maxRecDepth 100000
set_option maxHeartbeats 800000
set_option linter.unusedVariables false
set_option linter.unusedSimpArgs false
set_option linter.unusedSectionVars false
open Go.RowKit Pl
end Go.Proofs.YtgmbkbggnlponaaGreatDoor
namespace Go.Proofs.YtgmbkbggnlponaaGreatDoor
set_option linter.unusedVariables false
set_option linter.unusedSimpArgs false
set_option linter.unusedSectionVars false
open Go.RowKit
end Go.Proofs.YtgmbkbggnlponaaGreatDoor
