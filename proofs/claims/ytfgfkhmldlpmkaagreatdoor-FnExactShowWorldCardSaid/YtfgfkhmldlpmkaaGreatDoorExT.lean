/- The types that the exact laws copy and compare, and their shapes. -/
import Derived.Test.YtfgfkhmldlpmkaaGreatDoorShp
namespace Go.Proofs.YtfgfkhmldlpmkaaGreatDoor
open Go.RowKit Pl
set_option linter.unusedVariables false
set_option linter.unusedSimpArgs false


def exE : List (Nat × Ty) := [
  (232, ⟨2, 32, [.str [], .str []], .struct [(0, 9), (1, 9)], true⟩),
  (207, ⟨3, 40, [.int .i64 0, .str [], .str []], .struct [(0, 3), (1, 9), (2, 9)], true⟩),
  (162, ⟨3, 24, [.int .i64 0, .int .i64 0, .int .i64 0], .struct [(0, 3), (1, 3), (2, 3)], true⟩),
  (188, ⟨3, 40, [.str [], .str [], .int .i64 0], .struct [(0, 9), (1, 9), (2, 3)], true⟩),
  (78, ⟨1, 24, [.val nilV], .struct [(0, 76)], false⟩),
  (167, ⟨4, 48, [.int .i64 0, .int .i64 0, .str [], .str []], .struct [(0, 3), (1, 3), (2, 9), (3, 9)], true⟩),
  (94, ⟨4, 80, [.int .i64 0, .val nilV, .val nilV, .val nilV], .struct [(0, 3), (1, 51), (2, 51), (3, 51)], false⟩),
  (169, ⟨8, 128, [.int .i64 0, .int .i64 0, .str [], .str [], .int .i64 0, .val nilV, .val nilV, .val nilV], .struct [(0, 167), (4, 94)], false⟩),
  (96, ⟨5, 88, [.int .i64 0, .int .i64 0, .val nilV, .val nilV, .val nilV], .struct [(0, 3), (1, 94)], false⟩),
  (172, ⟨16, 256, [.int .i64 0, .int .i64 0, .str [], .str [], .int .i64 0, .val nilV, .val nilV, .val nilV, .int .i64 0, .int .i64 0, .str [], .str [], .int .i64 0, .val nilV, .val nilV, .val nilV], .struct [(0, 169), (8, 169)], false⟩),
  (164, ⟨11, 152, [.int .i64 0, .int .i64 0, .bool false, .val nilV, .int .i64 0, .val nilV, .val nilV, .val nilV, .int .i64 0, .int .i64 0, .int .i64 0], .struct [(0, 3), (1, 3), (2, 4), (3, 78), (4, 3), (5, 160), (6, 27), (7, 161), (8, 162)], false⟩),
  (81, ⟨11, 184, [.int .i64 0, .int .i64 0, .bool false, .val nilV, .val nilV, .val nilV, .val nilV, .int .i64 0, .bool false, .val nilV, .val nilV], .struct [(0, 3), (1, 3), (2, 4), (3, 78), (4, 51), (5, 79), (6, 27), (7, 3), (8, 4), (9, 51), (10, 26)], false⟩),
  (84, ⟨14, 256, [.int .i64 0, .int .i64 0, .bool false, .val nilV, .val nilV, .val nilV, .val nilV, .int .i64 0, .bool false, .val nilV, .val nilV, .val nilV, .val nilV, .val nilV], .struct [(0, 81), (11, 82), (12, 51), (13, 27)], false⟩),
  (88, ⟨6, 112, [.int .i64 0, .bool false, .val nilV, .val nilV, .val nilV, .val nilV], .struct [(0, 3), (1, 4), (2, 78), (3, 51), (4, 79), (5, 86)], false⟩),
  (91, ⟨2, 24, [.int .i64 0, .str []], .struct [(0, 3), (1, 9)], true⟩),
  (98, ⟨7, 104, [.int .i64 0, .int .i64 0, .int .i64 0, .int .i64 0, .val nilV, .val nilV, .val nilV], .struct [(0, 3), (1, 3), (2, 96)], false⟩),
  (29, ⟨6, 144, [.val nilV, .val nilV, .val nilV, .val nilV, .val nilV, .val nilV], .struct [(0, 22), (1, 23), (2, 24), (3, 25), (4, 26), (5, 27)], false⟩),
  (76, tySl 188),
  (51, tySl 9),
  (160, tySl 205),
  (205, tySl 232),
  (27, tySl 3),
  (161, tySl 207),
  (79, tySl 169),
  (26, tySl 4),
  (82, tySl 164),
  (86, tySl 172),
  (22, tySl 84),
  (23, tySl 88),
  (24, tySl 91),
  (25, tySl 98),
  (233, ⟨2, 32, [.str [], .str []], .struct [(0, 9), (1, 9)], true⟩),
  (138, ⟨3, 40, [.int .i64 0, .str [], .str []], .struct [(0, 3), (1, 9), (2, 9)], true⟩),
  (103, ⟨3, 24, [.int .i64 0, .int .i64 0, .int .i64 0], .struct [(0, 3), (1, 3), (2, 3)], true⟩),
  (193, ⟨3, 40, [.str [], .str [], .int .i64 0], .struct [(0, 9), (1, 9), (2, 3)], true⟩),
  (50, ⟨1, 24, [.val nilV], .struct [(0, 48)], false⟩),
  (107, ⟨4, 48, [.int .i64 0, .int .i64 0, .str [], .str []], .struct [(0, 3), (1, 3), (2, 9), (3, 9)], true⟩),
  (108, ⟨4, 80, [.int .i64 0, .val nilV, .val nilV, .val nilV], .struct [(0, 3), (1, 51), (2, 51), (3, 51)], false⟩),
  (110, ⟨8, 128, [.int .i64 0, .int .i64 0, .str [], .str [], .int .i64 0, .val nilV, .val nilV, .val nilV], .struct [(0, 107), (4, 108)], false⟩),
  (121, ⟨5, 88, [.int .i64 0, .int .i64 0, .val nilV, .val nilV, .val nilV], .struct [(0, 3), (1, 108)], false⟩),
  (140, ⟨16, 256, [.int .i64 0, .int .i64 0, .str [], .str [], .int .i64 0, .val nilV, .val nilV, .val nilV, .int .i64 0, .int .i64 0, .str [], .str [], .int .i64 0, .val nilV, .val nilV, .val nilV], .struct [(0, 110), (8, 110)], false⟩),
  (105, ⟨11, 152, [.int .i64 0, .int .i64 0, .bool false, .val nilV, .int .i64 0, .val nilV, .val nilV, .val nilV, .int .i64 0, .int .i64 0, .int .i64 0], .struct [(0, 3), (1, 3), (2, 4), (3, 50), (4, 3), (5, 101), (6, 27), (7, 99), (8, 103)], false⟩),
  (54, ⟨11, 184, [.int .i64 0, .int .i64 0, .bool false, .val nilV, .val nilV, .val nilV, .val nilV, .int .i64 0, .bool false, .val nilV, .val nilV], .struct [(0, 3), (1, 3), (2, 4), (3, 50), (4, 51), (5, 52), (6, 27), (7, 3), (8, 4), (9, 51), (10, 26)], false⟩),
  (57, ⟨14, 256, [.int .i64 0, .int .i64 0, .bool false, .val nilV, .val nilV, .val nilV, .val nilV, .int .i64 0, .bool false, .val nilV, .val nilV, .val nilV, .val nilV, .val nilV], .struct [(0, 54), (11, 55), (12, 51), (13, 27)], false⟩),
  (61, ⟨6, 112, [.int .i64 0, .bool false, .val nilV, .val nilV, .val nilV, .val nilV], .struct [(0, 3), (1, 4), (2, 50), (3, 51), (4, 52), (5, 59)], false⟩),
  (118, ⟨2, 24, [.int .i64 0, .str []], .struct [(0, 3), (1, 9)], true⟩),
  (123, ⟨7, 104, [.int .i64 0, .int .i64 0, .int .i64 0, .int .i64 0, .val nilV, .val nilV, .val nilV], .struct [(0, 3), (1, 3), (2, 121)], false⟩),
  (37, ⟨6, 144, [.val nilV, .val nilV, .val nilV, .val nilV, .val nilV, .val nilV], .struct [(0, 32), (1, 33), (2, 34), (3, 35), (4, 26), (5, 27)], false⟩),
  (48, tySl 193),
  (101, tySl 208),
  (208, tySl 233),
  (99, tySl 138),
  (52, tySl 110),
  (55, tySl 105),
  (59, tySl 140),
  (32, tySl 57),
  (33, tySl 61),
  (34, tySl 118),
  (35, tySl 123),
  (3, tyInt)]
set_option maxRecDepth 100000 in
set_option maxHeartbeats 8000000 in
theorem exE_all : ∀ p ∈ exE, TyOk Tryz.prog p.1 p.2 := by
  simp only [exE, List.forall_mem_cons]
  repeat' (refine And.intro ?_ ?_)
  all_goals first
    | exact (fun _ h => by cases h)
    | exact ⟨⟨_, _, rfl, rfl, rfl, rfl, rfl⟩, ⟨_, rfl, rfl⟩, rfl, rfl, fun h => (Bool.false_ne_true h).elim⟩
    | (refine ⟨⟨_, _, rfl, rfl, rfl, rfl, rfl⟩, ⟨_, rfl, rfl⟩, rfl, rfl, fun _ => ⟨by kernel_rfl, by kernel_rfl, _, rfl, ?_⟩⟩
       repeat (first | exact rfl | (refine And.intro (by decide) (And.intro rfl (And.intro rfl ?_)))))
def ttLE : List (Nat × Ty) := ttL ++ exE
def ttE : TT := lk ttLE
theorem ttE_ok : TtOk Tryz.prog ttE := fun t y h => by
  have hm : (t, y) ∈ ttLE := lk_mem h
  rcases List.mem_append.1 hm with h | h
  · exact tt_all (t, y) h
  · exact exE_all (t, y) h
def sh_Leaf : Shp := .two .str (.two .str .nop)
theorem wd_Leaf : sh_Leaf.wd = 2 := rfl
theorem fits_Leaf {N : Nat} {e : List T} (h : Fits N sh_Leaf e) : ∃ (s0 : Bs) (s1 : Bs), e = [.str s0, .str s1] ∧ s0.length ≤ N ∧ s1.length ≤ N ∧ True := by
  obtain ⟨x0, y0, e0, h0, r0⟩ := h
  obtain ⟨s0, w0, qs0⟩ := h0
  obtain ⟨x1, y1, e1, h1, r1⟩ := r0
  obtain ⟨s1, w1, qs1⟩ := h1
  have rz : y1 = [] := r1
  refine ⟨s0, s1, ?_, qs0, qs1, trivial⟩
  rw [e0, e1, rz, w0, w1]; rfl
theorem mk_Leaf {N : Nat} {s0 : Bs} {s1 : Bs} (qs0 : s0.length ≤ N) (qs1 : s1.length ≤ N) : Fits N sh_Leaf [.str s0, .str s1] := ⟨_, _, rfl, ⟨_, rfl, qs0⟩, ⟨_, _, rfl, ⟨_, rfl, qs1⟩, rfl⟩⟩
def sh_Change : Shp := .two .int (.two .str (.two .str .nop))
theorem wd_Change : sh_Change.wd = 3 := rfl
theorem fits_Change {N : Nat} {e : List T} (h : Fits N sh_Change e) : ∃ (n0 : Int) (s1 : Bs) (s2 : Bs), e = [.int .i64 n0, .str s1, .str s2] ∧ (-9223372036854775808 ≤ n0 ∧ n0 ≤ 9223372036854775807) ∧ s1.length ≤ N ∧ s2.length ≤ N ∧ True := by
  obtain ⟨x0, y0, e0, h0, r0⟩ := h
  obtain ⟨n0, w0, qn0⟩ := h0
  obtain ⟨x1, y1, e1, h1, r1⟩ := r0
  obtain ⟨s1, w1, qs1⟩ := h1
  obtain ⟨x2, y2, e2, h2, r2⟩ := r1
  obtain ⟨s2, w2, qs2⟩ := h2
  have rz : y2 = [] := r2
  refine ⟨n0, s1, s2, ?_, qn0, qs1, qs2, trivial⟩
  rw [e0, e1, e2, rz, w0, w1, w2]; rfl
theorem mk_Change {N : Nat} {n0 : Int} {s1 : Bs} {s2 : Bs} (qn0 : (-9223372036854775808 ≤ n0 ∧ n0 ≤ 9223372036854775807)) (qs1 : s1.length ≤ N) (qs2 : s2.length ≤ N) : Fits N sh_Change [.int .i64 n0, .str s1, .str s2] := ⟨_, _, rfl, ⟨_, rfl, qn0⟩, ⟨_, _, rfl, ⟨_, rfl, qs1⟩, ⟨_, _, rfl, ⟨_, rfl, qs2⟩, rfl⟩⟩⟩
def sh_Ready : Shp := .two .int (.two .int (.two .int .nop))
theorem wd_Ready : sh_Ready.wd = 3 := rfl
theorem fits_Ready {N : Nat} {e : List T} (h : Fits N sh_Ready e) : ∃ (n0 : Int) (n1 : Int) (n2 : Int), e = [.int .i64 n0, .int .i64 n1, .int .i64 n2] ∧ (-9223372036854775808 ≤ n0 ∧ n0 ≤ 9223372036854775807) ∧ (-9223372036854775808 ≤ n1 ∧ n1 ≤ 9223372036854775807) ∧ (-9223372036854775808 ≤ n2 ∧ n2 ≤ 9223372036854775807) ∧ True := by
  obtain ⟨x0, y0, e0, h0, r0⟩ := h
  obtain ⟨n0, w0, qn0⟩ := h0
  obtain ⟨x1, y1, e1, h1, r1⟩ := r0
  obtain ⟨n1, w1, qn1⟩ := h1
  obtain ⟨x2, y2, e2, h2, r2⟩ := r1
  obtain ⟨n2, w2, qn2⟩ := h2
  have rz : y2 = [] := r2
  refine ⟨n0, n1, n2, ?_, qn0, qn1, qn2, trivial⟩
  rw [e0, e1, e2, rz, w0, w1, w2]; rfl
theorem mk_Ready {N : Nat} {n0 : Int} {n1 : Int} {n2 : Int} (qn0 : (-9223372036854775808 ≤ n0 ∧ n0 ≤ 9223372036854775807)) (qn1 : (-9223372036854775808 ≤ n1 ∧ n1 ≤ 9223372036854775807)) (qn2 : (-9223372036854775808 ≤ n2 ∧ n2 ≤ 9223372036854775807)) : Fits N sh_Ready [.int .i64 n0, .int .i64 n1, .int .i64 n2] := ⟨_, _, rfl, ⟨_, rfl, qn0⟩, ⟨_, _, rfl, ⟨_, rfl, qn1⟩, ⟨_, _, rfl, ⟨_, rfl, qn2⟩, rfl⟩⟩⟩
def sh_File : Shp := .two .str (.two .str (.two .int .nop))
theorem wd_File : sh_File.wd = 3 := rfl
theorem fits_File {N : Nat} {e : List T} (h : Fits N sh_File e) : ∃ (s0 : Bs) (s1 : Bs) (n2 : Int), e = [.str s0, .str s1, .int .i64 n2] ∧ s0.length ≤ N ∧ s1.length ≤ N ∧ (-9223372036854775808 ≤ n2 ∧ n2 ≤ 9223372036854775807) ∧ True := by
  obtain ⟨x0, y0, e0, h0, r0⟩ := h
  obtain ⟨s0, w0, qs0⟩ := h0
  obtain ⟨x1, y1, e1, h1, r1⟩ := r0
  obtain ⟨s1, w1, qs1⟩ := h1
  obtain ⟨x2, y2, e2, h2, r2⟩ := r1
  obtain ⟨n2, w2, qn2⟩ := h2
  have rz : y2 = [] := r2
  refine ⟨s0, s1, n2, ?_, qs0, qs1, qn2, trivial⟩
  rw [e0, e1, e2, rz, w0, w1, w2]; rfl
theorem mk_File {N : Nat} {s0 : Bs} {s1 : Bs} {n2 : Int} (qs0 : s0.length ≤ N) (qs1 : s1.length ≤ N) (qn2 : (-9223372036854775808 ≤ n2 ∧ n2 ≤ 9223372036854775807)) : Fits N sh_File [.str s0, .str s1, .int .i64 n2] := ⟨_, _, rfl, ⟨_, rfl, qs0⟩, ⟨_, _, rfl, ⟨_, rfl, qs1⟩, ⟨_, _, rfl, ⟨_, rfl, qn2⟩, rfl⟩⟩⟩
def sh_Disk : Shp := .two (.sl 3 sh_File) .nop
theorem wd_Disk : sh_Disk.wd = 1 := rfl
theorem fits_Disk {N : Nat} {e : List T} (h : Fits N sh_Disk e) : ∃ (z0 : List (List T)), e = [.sl 3 z0] ∧ (z0.length ≤ N ∧ ∀ e ∈ z0, Fits N sh_File e) ∧ True := by
  obtain ⟨x0, y0, e0, h0, r0⟩ := h
  obtain ⟨z0, w0, qz0⟩ := h0
  have rz : y0 = [] := r0
  refine ⟨z0, ?_, qz0, trivial⟩
  rw [e0, rz, w0]; rfl
theorem mk_Disk {N : Nat} {z0 : List (List T)} (qz0 : (z0.length ≤ N ∧ ∀ e ∈ z0, Fits N sh_File e)) : Fits N sh_Disk [.sl 3 z0] := ⟨_, _, rfl, ⟨_, rfl, qz0⟩, rfl⟩
def sh_Head : Shp := .two .int (.two .int (.two .str (.two .str .nop)))
theorem wd_Head : sh_Head.wd = 4 := rfl
theorem fits_Head {N : Nat} {e : List T} (h : Fits N sh_Head e) : ∃ (n0 : Int) (n1 : Int) (s2 : Bs) (s3 : Bs), e = [.int .i64 n0, .int .i64 n1, .str s2, .str s3] ∧ (-9223372036854775808 ≤ n0 ∧ n0 ≤ 9223372036854775807) ∧ (-9223372036854775808 ≤ n1 ∧ n1 ≤ 9223372036854775807) ∧ s2.length ≤ N ∧ s3.length ≤ N ∧ True := by
  obtain ⟨x0, y0, e0, h0, r0⟩ := h
  obtain ⟨n0, w0, qn0⟩ := h0
  obtain ⟨x1, y1, e1, h1, r1⟩ := r0
  obtain ⟨n1, w1, qn1⟩ := h1
  obtain ⟨x2, y2, e2, h2, r2⟩ := r1
  obtain ⟨s2, w2, qs2⟩ := h2
  obtain ⟨x3, y3, e3, h3, r3⟩ := r2
  obtain ⟨s3, w3, qs3⟩ := h3
  have rz : y3 = [] := r3
  refine ⟨n0, n1, s2, s3, ?_, qn0, qn1, qs2, qs3, trivial⟩
  rw [e0, e1, e2, e3, rz, w0, w1, w2, w3]; rfl
theorem mk_Head {N : Nat} {n0 : Int} {n1 : Int} {s2 : Bs} {s3 : Bs} (qn0 : (-9223372036854775808 ≤ n0 ∧ n0 ≤ 9223372036854775807)) (qn1 : (-9223372036854775808 ≤ n1 ∧ n1 ≤ 9223372036854775807)) (qs2 : s2.length ≤ N) (qs3 : s3.length ≤ N) : Fits N sh_Head [.int .i64 n0, .int .i64 n1, .str s2, .str s3] := ⟨_, _, rfl, ⟨_, rfl, qn0⟩, ⟨_, _, rfl, ⟨_, rfl, qn1⟩, ⟨_, _, rfl, ⟨_, rfl, qs2⟩, ⟨_, _, rfl, ⟨_, rfl, qs3⟩, rfl⟩⟩⟩⟩
def sh_Sig : Shp := .two .int (.two (.sl 1 .str) (.two (.sl 1 .str) (.two (.sl 1 .str) .nop)))
theorem wd_Sig : sh_Sig.wd = 4 := rfl
theorem fits_Sig {N : Nat} {e : List T} (h : Fits N sh_Sig e) : ∃ (n0 : Int) (z1 : List (List T)) (z2 : List (List T)) (z3 : List (List T)), e = [.int .i64 n0, .sl 1 z1, .sl 1 z2, .sl 1 z3] ∧ (-9223372036854775808 ≤ n0 ∧ n0 ≤ 9223372036854775807) ∧ (z1.length ≤ N ∧ ∀ e ∈ z1, Fits N .str e) ∧ (z2.length ≤ N ∧ ∀ e ∈ z2, Fits N .str e) ∧ (z3.length ≤ N ∧ ∀ e ∈ z3, Fits N .str e) ∧ True := by
  obtain ⟨x0, y0, e0, h0, r0⟩ := h
  obtain ⟨n0, w0, qn0⟩ := h0
  obtain ⟨x1, y1, e1, h1, r1⟩ := r0
  obtain ⟨z1, w1, qz1⟩ := h1
  obtain ⟨x2, y2, e2, h2, r2⟩ := r1
  obtain ⟨z2, w2, qz2⟩ := h2
  obtain ⟨x3, y3, e3, h3, r3⟩ := r2
  obtain ⟨z3, w3, qz3⟩ := h3
  have rz : y3 = [] := r3
  refine ⟨n0, z1, z2, z3, ?_, qn0, qz1, qz2, qz3, trivial⟩
  rw [e0, e1, e2, e3, rz, w0, w1, w2, w3]; rfl
theorem mk_Sig {N : Nat} {n0 : Int} {z1 : List (List T)} {z2 : List (List T)} {z3 : List (List T)} (qn0 : (-9223372036854775808 ≤ n0 ∧ n0 ≤ 9223372036854775807)) (qz1 : (z1.length ≤ N ∧ ∀ e ∈ z1, Fits N .str e)) (qz2 : (z2.length ≤ N ∧ ∀ e ∈ z2, Fits N .str e)) (qz3 : (z3.length ≤ N ∧ ∀ e ∈ z3, Fits N .str e)) : Fits N sh_Sig [.int .i64 n0, .sl 1 z1, .sl 1 z2, .sl 1 z3] := ⟨_, _, rfl, ⟨_, rfl, qn0⟩, ⟨_, _, rfl, ⟨_, rfl, qz1⟩, ⟨_, _, rfl, ⟨_, rfl, qz2⟩, ⟨_, _, rfl, ⟨_, rfl, qz3⟩, rfl⟩⟩⟩⟩
def sh_Seal : Shp := .two sh_Head (.two sh_Sig .nop)
theorem wd_Seal : sh_Seal.wd = 8 := rfl
theorem fits_Seal {N : Nat} {e : List T} (h : Fits N sh_Seal e) : ∃ (n0 : Int) (n1 : Int) (s2 : Bs) (s3 : Bs) (n4 : Int) (z5 : List (List T)) (z6 : List (List T)) (z7 : List (List T)), e = [.int .i64 n0, .int .i64 n1, .str s2, .str s3, .int .i64 n4, .sl 1 z5, .sl 1 z6, .sl 1 z7] ∧ (-9223372036854775808 ≤ n0 ∧ n0 ≤ 9223372036854775807) ∧ (-9223372036854775808 ≤ n1 ∧ n1 ≤ 9223372036854775807) ∧ s2.length ≤ N ∧ s3.length ≤ N ∧ (-9223372036854775808 ≤ n4 ∧ n4 ≤ 9223372036854775807) ∧ (z5.length ≤ N ∧ ∀ e ∈ z5, Fits N .str e) ∧ (z6.length ≤ N ∧ ∀ e ∈ z6, Fits N .str e) ∧ (z7.length ≤ N ∧ ∀ e ∈ z7, Fits N .str e) ∧ True := by
  obtain ⟨x0, y0, e0, h0, r0⟩ := h
  obtain ⟨n0, n1, s2, s3, w0, qn0, qn1, qs2, qs3, -⟩ := fits_Head h0
  obtain ⟨x1, y1, e1, h1, r1⟩ := r0
  obtain ⟨n4, z5, z6, z7, w1, qn4, qz5, qz6, qz7, -⟩ := fits_Sig h1
  have rz : y1 = [] := r1
  refine ⟨n0, n1, s2, s3, n4, z5, z6, z7, ?_, qn0, qn1, qs2, qs3, qn4, qz5, qz6, qz7, trivial⟩
  rw [e0, e1, rz, w0, w1]; rfl
theorem mk_Seal {N : Nat} {n0 : Int} {n1 : Int} {s2 : Bs} {s3 : Bs} {n4 : Int} {z5 : List (List T)} {z6 : List (List T)} {z7 : List (List T)} (qn0 : (-9223372036854775808 ≤ n0 ∧ n0 ≤ 9223372036854775807)) (qn1 : (-9223372036854775808 ≤ n1 ∧ n1 ≤ 9223372036854775807)) (qs2 : s2.length ≤ N) (qs3 : s3.length ≤ N) (qn4 : (-9223372036854775808 ≤ n4 ∧ n4 ≤ 9223372036854775807)) (qz5 : (z5.length ≤ N ∧ ∀ e ∈ z5, Fits N .str e)) (qz6 : (z6.length ≤ N ∧ ∀ e ∈ z6, Fits N .str e)) (qz7 : (z7.length ≤ N ∧ ∀ e ∈ z7, Fits N .str e)) : Fits N sh_Seal [.int .i64 n0, .int .i64 n1, .str s2, .str s3, .int .i64 n4, .sl 1 z5, .sl 1 z6, .sl 1 z7] := ⟨_, _, rfl, mk_Head qn0 qn1 qs2 qs3, ⟨_, _, rfl, mk_Sig qn4 qz5 qz6 qz7, rfl⟩⟩
def sh_Stamp : Shp := .two .int (.two sh_Sig .nop)
theorem wd_Stamp : sh_Stamp.wd = 5 := rfl
theorem fits_Stamp {N : Nat} {e : List T} (h : Fits N sh_Stamp e) : ∃ (n0 : Int) (n1 : Int) (z2 : List (List T)) (z3 : List (List T)) (z4 : List (List T)), e = [.int .i64 n0, .int .i64 n1, .sl 1 z2, .sl 1 z3, .sl 1 z4] ∧ (-9223372036854775808 ≤ n0 ∧ n0 ≤ 9223372036854775807) ∧ (-9223372036854775808 ≤ n1 ∧ n1 ≤ 9223372036854775807) ∧ (z2.length ≤ N ∧ ∀ e ∈ z2, Fits N .str e) ∧ (z3.length ≤ N ∧ ∀ e ∈ z3, Fits N .str e) ∧ (z4.length ≤ N ∧ ∀ e ∈ z4, Fits N .str e) ∧ True := by
  obtain ⟨x0, y0, e0, h0, r0⟩ := h
  obtain ⟨n0, w0, qn0⟩ := h0
  obtain ⟨x1, y1, e1, h1, r1⟩ := r0
  obtain ⟨n1, z2, z3, z4, w1, qn1, qz2, qz3, qz4, -⟩ := fits_Sig h1
  have rz : y1 = [] := r1
  refine ⟨n0, n1, z2, z3, z4, ?_, qn0, qn1, qz2, qz3, qz4, trivial⟩
  rw [e0, e1, rz, w0, w1]; rfl
theorem mk_Stamp {N : Nat} {n0 : Int} {n1 : Int} {z2 : List (List T)} {z3 : List (List T)} {z4 : List (List T)} (qn0 : (-9223372036854775808 ≤ n0 ∧ n0 ≤ 9223372036854775807)) (qn1 : (-9223372036854775808 ≤ n1 ∧ n1 ≤ 9223372036854775807)) (qz2 : (z2.length ≤ N ∧ ∀ e ∈ z2, Fits N .str e)) (qz3 : (z3.length ≤ N ∧ ∀ e ∈ z3, Fits N .str e)) (qz4 : (z4.length ≤ N ∧ ∀ e ∈ z4, Fits N .str e)) : Fits N sh_Stamp [.int .i64 n0, .int .i64 n1, .sl 1 z2, .sl 1 z3, .sl 1 z4] := ⟨_, _, rfl, ⟨_, rfl, qn0⟩, ⟨_, _, rfl, mk_Sig qn1 qz2 qz3 qz4, rfl⟩⟩
def sh_Pair : Shp := .two sh_Seal (.two sh_Seal .nop)
theorem wd_Pair : sh_Pair.wd = 16 := rfl
theorem fits_Pair {N : Nat} {e : List T} (h : Fits N sh_Pair e) : ∃ (n0 : Int) (n1 : Int) (s2 : Bs) (s3 : Bs) (n4 : Int) (z5 : List (List T)) (z6 : List (List T)) (z7 : List (List T)) (n8 : Int) (n9 : Int) (s10 : Bs) (s11 : Bs) (n12 : Int) (z13 : List (List T)) (z14 : List (List T)) (z15 : List (List T)), e = [.int .i64 n0, .int .i64 n1, .str s2, .str s3, .int .i64 n4, .sl 1 z5, .sl 1 z6, .sl 1 z7, .int .i64 n8, .int .i64 n9, .str s10, .str s11, .int .i64 n12, .sl 1 z13, .sl 1 z14, .sl 1 z15] ∧ (-9223372036854775808 ≤ n0 ∧ n0 ≤ 9223372036854775807) ∧ (-9223372036854775808 ≤ n1 ∧ n1 ≤ 9223372036854775807) ∧ s2.length ≤ N ∧ s3.length ≤ N ∧ (-9223372036854775808 ≤ n4 ∧ n4 ≤ 9223372036854775807) ∧ (z5.length ≤ N ∧ ∀ e ∈ z5, Fits N .str e) ∧ (z6.length ≤ N ∧ ∀ e ∈ z6, Fits N .str e) ∧ (z7.length ≤ N ∧ ∀ e ∈ z7, Fits N .str e) ∧ (-9223372036854775808 ≤ n8 ∧ n8 ≤ 9223372036854775807) ∧ (-9223372036854775808 ≤ n9 ∧ n9 ≤ 9223372036854775807) ∧ s10.length ≤ N ∧ s11.length ≤ N ∧ (-9223372036854775808 ≤ n12 ∧ n12 ≤ 9223372036854775807) ∧ (z13.length ≤ N ∧ ∀ e ∈ z13, Fits N .str e) ∧ (z14.length ≤ N ∧ ∀ e ∈ z14, Fits N .str e) ∧ (z15.length ≤ N ∧ ∀ e ∈ z15, Fits N .str e) ∧ True := by
  obtain ⟨x0, y0, e0, h0, r0⟩ := h
  obtain ⟨n0, n1, s2, s3, n4, z5, z6, z7, w0, qn0, qn1, qs2, qs3, qn4, qz5, qz6, qz7, -⟩ := fits_Seal h0
  obtain ⟨x1, y1, e1, h1, r1⟩ := r0
  obtain ⟨n8, n9, s10, s11, n12, z13, z14, z15, w1, qn8, qn9, qs10, qs11, qn12, qz13, qz14, qz15, -⟩ := fits_Seal h1
  have rz : y1 = [] := r1
  refine ⟨n0, n1, s2, s3, n4, z5, z6, z7, n8, n9, s10, s11, n12, z13, z14, z15, ?_, qn0, qn1, qs2, qs3, qn4, qz5, qz6, qz7, qn8, qn9, qs10, qs11, qn12, qz13, qz14, qz15, trivial⟩
  rw [e0, e1, rz, w0, w1]; rfl
theorem mk_Pair {N : Nat} {n0 : Int} {n1 : Int} {s2 : Bs} {s3 : Bs} {n4 : Int} {z5 : List (List T)} {z6 : List (List T)} {z7 : List (List T)} {n8 : Int} {n9 : Int} {s10 : Bs} {s11 : Bs} {n12 : Int} {z13 : List (List T)} {z14 : List (List T)} {z15 : List (List T)} (qn0 : (-9223372036854775808 ≤ n0 ∧ n0 ≤ 9223372036854775807)) (qn1 : (-9223372036854775808 ≤ n1 ∧ n1 ≤ 9223372036854775807)) (qs2 : s2.length ≤ N) (qs3 : s3.length ≤ N) (qn4 : (-9223372036854775808 ≤ n4 ∧ n4 ≤ 9223372036854775807)) (qz5 : (z5.length ≤ N ∧ ∀ e ∈ z5, Fits N .str e)) (qz6 : (z6.length ≤ N ∧ ∀ e ∈ z6, Fits N .str e)) (qz7 : (z7.length ≤ N ∧ ∀ e ∈ z7, Fits N .str e)) (qn8 : (-9223372036854775808 ≤ n8 ∧ n8 ≤ 9223372036854775807)) (qn9 : (-9223372036854775808 ≤ n9 ∧ n9 ≤ 9223372036854775807)) (qs10 : s10.length ≤ N) (qs11 : s11.length ≤ N) (qn12 : (-9223372036854775808 ≤ n12 ∧ n12 ≤ 9223372036854775807)) (qz13 : (z13.length ≤ N ∧ ∀ e ∈ z13, Fits N .str e)) (qz14 : (z14.length ≤ N ∧ ∀ e ∈ z14, Fits N .str e)) (qz15 : (z15.length ≤ N ∧ ∀ e ∈ z15, Fits N .str e)) : Fits N sh_Pair [.int .i64 n0, .int .i64 n1, .str s2, .str s3, .int .i64 n4, .sl 1 z5, .sl 1 z6, .sl 1 z7, .int .i64 n8, .int .i64 n9, .str s10, .str s11, .int .i64 n12, .sl 1 z13, .sl 1 z14, .sl 1 z15] := ⟨_, _, rfl, mk_Seal qn0 qn1 qs2 qs3 qn4 qz5 qz6 qz7, ⟨_, _, rfl, mk_Seal qn8 qn9 qs10 qs11 qn12 qz13 qz14 qz15, rfl⟩⟩
def sh_Server : Shp := .two .int (.two .int (.two .bool (.two sh_Disk (.two .int (.two (.sl 1 (.sl 2 sh_Leaf)) (.two (.sl 1 .int) (.two (.sl 3 sh_Change) (.two sh_Ready .nop))))))))
theorem wd_Server : sh_Server.wd = 11 := rfl
theorem fits_Server {N : Nat} {e : List T} (h : Fits N sh_Server e) : ∃ (n0 : Int) (n1 : Int) (b2 : Bool) (z3 : List (List T)) (n4 : Int) (z5 : List (List T)) (z6 : List (List T)) (z7 : List (List T)) (n8 : Int) (n9 : Int) (n10 : Int), e = [.int .i64 n0, .int .i64 n1, .bool b2, .sl 3 z3, .int .i64 n4, .sl 1 z5, .sl 1 z6, .sl 3 z7, .int .i64 n8, .int .i64 n9, .int .i64 n10] ∧ (-9223372036854775808 ≤ n0 ∧ n0 ≤ 9223372036854775807) ∧ (-9223372036854775808 ≤ n1 ∧ n1 ≤ 9223372036854775807) ∧ True ∧ (z3.length ≤ N ∧ ∀ e ∈ z3, Fits N sh_File e) ∧ (-9223372036854775808 ≤ n4 ∧ n4 ≤ 9223372036854775807) ∧ (z5.length ≤ N ∧ ∀ e ∈ z5, Fits N (.sl 2 sh_Leaf) e) ∧ (z6.length ≤ N ∧ ∀ e ∈ z6, Fits N .int e) ∧ (z7.length ≤ N ∧ ∀ e ∈ z7, Fits N sh_Change e) ∧ (-9223372036854775808 ≤ n8 ∧ n8 ≤ 9223372036854775807) ∧ (-9223372036854775808 ≤ n9 ∧ n9 ≤ 9223372036854775807) ∧ (-9223372036854775808 ≤ n10 ∧ n10 ≤ 9223372036854775807) ∧ True := by
  obtain ⟨x0, y0, e0, h0, r0⟩ := h
  obtain ⟨n0, w0, qn0⟩ := h0
  obtain ⟨x1, y1, e1, h1, r1⟩ := r0
  obtain ⟨n1, w1, qn1⟩ := h1
  obtain ⟨x2, y2, e2, h2, r2⟩ := r1
  obtain ⟨b2, w2⟩ := h2
  have qb2 := trivial
  obtain ⟨x3, y3, e3, h3, r3⟩ := r2
  obtain ⟨z3, w3, qz3, -⟩ := fits_Disk h3
  obtain ⟨x4, y4, e4, h4, r4⟩ := r3
  obtain ⟨n4, w4, qn4⟩ := h4
  obtain ⟨x5, y5, e5, h5, r5⟩ := r4
  obtain ⟨z5, w5, qz5⟩ := h5
  obtain ⟨x6, y6, e6, h6, r6⟩ := r5
  obtain ⟨z6, w6, qz6⟩ := h6
  obtain ⟨x7, y7, e7, h7, r7⟩ := r6
  obtain ⟨z7, w7, qz7⟩ := h7
  obtain ⟨x8, y8, e8, h8, r8⟩ := r7
  obtain ⟨n8, n9, n10, w8, qn8, qn9, qn10, -⟩ := fits_Ready h8
  have rz : y8 = [] := r8
  refine ⟨n0, n1, b2, z3, n4, z5, z6, z7, n8, n9, n10, ?_, qn0, qn1, qb2, qz3, qn4, qz5, qz6, qz7, qn8, qn9, qn10, trivial⟩
  rw [e0, e1, e2, e3, e4, e5, e6, e7, e8, rz, w0, w1, w2, w3, w4, w5, w6, w7, w8]; rfl
theorem mk_Server {N : Nat} {n0 : Int} {n1 : Int} {b2 : Bool} {z3 : List (List T)} {n4 : Int} {z5 : List (List T)} {z6 : List (List T)} {z7 : List (List T)} {n8 : Int} {n9 : Int} {n10 : Int} (qn0 : (-9223372036854775808 ≤ n0 ∧ n0 ≤ 9223372036854775807)) (qn1 : (-9223372036854775808 ≤ n1 ∧ n1 ≤ 9223372036854775807)) (qb2 : True) (qz3 : (z3.length ≤ N ∧ ∀ e ∈ z3, Fits N sh_File e)) (qn4 : (-9223372036854775808 ≤ n4 ∧ n4 ≤ 9223372036854775807)) (qz5 : (z5.length ≤ N ∧ ∀ e ∈ z5, Fits N (.sl 2 sh_Leaf) e)) (qz6 : (z6.length ≤ N ∧ ∀ e ∈ z6, Fits N .int e)) (qz7 : (z7.length ≤ N ∧ ∀ e ∈ z7, Fits N sh_Change e)) (qn8 : (-9223372036854775808 ≤ n8 ∧ n8 ≤ 9223372036854775807)) (qn9 : (-9223372036854775808 ≤ n9 ∧ n9 ≤ 9223372036854775807)) (qn10 : (-9223372036854775808 ≤ n10 ∧ n10 ≤ 9223372036854775807)) : Fits N sh_Server [.int .i64 n0, .int .i64 n1, .bool b2, .sl 3 z3, .int .i64 n4, .sl 1 z5, .sl 1 z6, .sl 3 z7, .int .i64 n8, .int .i64 n9, .int .i64 n10] := ⟨_, _, rfl, ⟨_, rfl, qn0⟩, ⟨_, _, rfl, ⟨_, rfl, qn1⟩, ⟨_, _, rfl, ⟨_, rfl⟩, ⟨_, _, rfl, mk_Disk qz3, ⟨_, _, rfl, ⟨_, rfl, qn4⟩, ⟨_, _, rfl, ⟨_, rfl, qz5⟩, ⟨_, _, rfl, ⟨_, rfl, qz6⟩, ⟨_, _, rfl, ⟨_, rfl, qz7⟩, ⟨_, _, rfl, mk_Ready qn8 qn9 qn10, rfl⟩⟩⟩⟩⟩⟩⟩⟩⟩
def sh_Coord : Shp := .two .int (.two .int (.two .bool (.two sh_Disk (.two (.sl 1 .str) (.two (.sl 8 sh_Seal) (.two (.sl 1 .int) (.two .int (.two .bool (.two (.sl 1 .str) (.two (.sl 1 .bool) .nop))))))))))
theorem wd_Coord : sh_Coord.wd = 11 := rfl
theorem fits_Coord {N : Nat} {e : List T} (h : Fits N sh_Coord e) : ∃ (n0 : Int) (n1 : Int) (b2 : Bool) (z3 : List (List T)) (z4 : List (List T)) (z5 : List (List T)) (z6 : List (List T)) (n7 : Int) (b8 : Bool) (z9 : List (List T)) (z10 : List (List T)), e = [.int .i64 n0, .int .i64 n1, .bool b2, .sl 3 z3, .sl 1 z4, .sl 8 z5, .sl 1 z6, .int .i64 n7, .bool b8, .sl 1 z9, .sl 1 z10] ∧ (-9223372036854775808 ≤ n0 ∧ n0 ≤ 9223372036854775807) ∧ (-9223372036854775808 ≤ n1 ∧ n1 ≤ 9223372036854775807) ∧ True ∧ (z3.length ≤ N ∧ ∀ e ∈ z3, Fits N sh_File e) ∧ (z4.length ≤ N ∧ ∀ e ∈ z4, Fits N .str e) ∧ (z5.length ≤ N ∧ ∀ e ∈ z5, Fits N sh_Seal e) ∧ (z6.length ≤ N ∧ ∀ e ∈ z6, Fits N .int e) ∧ (-9223372036854775808 ≤ n7 ∧ n7 ≤ 9223372036854775807) ∧ True ∧ (z9.length ≤ N ∧ ∀ e ∈ z9, Fits N .str e) ∧ (z10.length ≤ N ∧ ∀ e ∈ z10, Fits N .bool e) ∧ True := by
  obtain ⟨x0, y0, e0, h0, r0⟩ := h
  obtain ⟨n0, w0, qn0⟩ := h0
  obtain ⟨x1, y1, e1, h1, r1⟩ := r0
  obtain ⟨n1, w1, qn1⟩ := h1
  obtain ⟨x2, y2, e2, h2, r2⟩ := r1
  obtain ⟨b2, w2⟩ := h2
  have qb2 := trivial
  obtain ⟨x3, y3, e3, h3, r3⟩ := r2
  obtain ⟨z3, w3, qz3, -⟩ := fits_Disk h3
  obtain ⟨x4, y4, e4, h4, r4⟩ := r3
  obtain ⟨z4, w4, qz4⟩ := h4
  obtain ⟨x5, y5, e5, h5, r5⟩ := r4
  obtain ⟨z5, w5, qz5⟩ := h5
  obtain ⟨x6, y6, e6, h6, r6⟩ := r5
  obtain ⟨z6, w6, qz6⟩ := h6
  obtain ⟨x7, y7, e7, h7, r7⟩ := r6
  obtain ⟨n7, w7, qn7⟩ := h7
  obtain ⟨x8, y8, e8, h8, r8⟩ := r7
  obtain ⟨b8, w8⟩ := h8
  have qb8 := trivial
  obtain ⟨x9, y9, e9, h9, r9⟩ := r8
  obtain ⟨z9, w9, qz9⟩ := h9
  obtain ⟨x10, y10, e10, h10, r10⟩ := r9
  obtain ⟨z10, w10, qz10⟩ := h10
  have rz : y10 = [] := r10
  refine ⟨n0, n1, b2, z3, z4, z5, z6, n7, b8, z9, z10, ?_, qn0, qn1, qb2, qz3, qz4, qz5, qz6, qn7, qb8, qz9, qz10, trivial⟩
  rw [e0, e1, e2, e3, e4, e5, e6, e7, e8, e9, e10, rz, w0, w1, w2, w3, w4, w5, w6, w7, w8, w9, w10]; rfl
theorem mk_Coord {N : Nat} {n0 : Int} {n1 : Int} {b2 : Bool} {z3 : List (List T)} {z4 : List (List T)} {z5 : List (List T)} {z6 : List (List T)} {n7 : Int} {b8 : Bool} {z9 : List (List T)} {z10 : List (List T)} (qn0 : (-9223372036854775808 ≤ n0 ∧ n0 ≤ 9223372036854775807)) (qn1 : (-9223372036854775808 ≤ n1 ∧ n1 ≤ 9223372036854775807)) (qb2 : True) (qz3 : (z3.length ≤ N ∧ ∀ e ∈ z3, Fits N sh_File e)) (qz4 : (z4.length ≤ N ∧ ∀ e ∈ z4, Fits N .str e)) (qz5 : (z5.length ≤ N ∧ ∀ e ∈ z5, Fits N sh_Seal e)) (qz6 : (z6.length ≤ N ∧ ∀ e ∈ z6, Fits N .int e)) (qn7 : (-9223372036854775808 ≤ n7 ∧ n7 ≤ 9223372036854775807)) (qb8 : True) (qz9 : (z9.length ≤ N ∧ ∀ e ∈ z9, Fits N .str e)) (qz10 : (z10.length ≤ N ∧ ∀ e ∈ z10, Fits N .bool e)) : Fits N sh_Coord [.int .i64 n0, .int .i64 n1, .bool b2, .sl 3 z3, .sl 1 z4, .sl 8 z5, .sl 1 z6, .int .i64 n7, .bool b8, .sl 1 z9, .sl 1 z10] := ⟨_, _, rfl, ⟨_, rfl, qn0⟩, ⟨_, _, rfl, ⟨_, rfl, qn1⟩, ⟨_, _, rfl, ⟨_, rfl⟩, ⟨_, _, rfl, mk_Disk qz3, ⟨_, _, rfl, ⟨_, rfl, qz4⟩, ⟨_, _, rfl, ⟨_, rfl, qz5⟩, ⟨_, _, rfl, ⟨_, rfl, qz6⟩, ⟨_, _, rfl, ⟨_, rfl, qn7⟩, ⟨_, _, rfl, ⟨_, rfl⟩, ⟨_, _, rfl, ⟨_, rfl, qz9⟩, ⟨_, _, rfl, ⟨_, rfl, qz10⟩, rfl⟩⟩⟩⟩⟩⟩⟩⟩⟩⟩⟩
def sh_House : Shp := .two sh_Coord (.two (.sl 11 sh_Server) (.two (.sl 1 .str) (.two (.sl 1 .int) .nop)))
theorem wd_House : sh_House.wd = 14 := rfl
theorem fits_House {N : Nat} {e : List T} (h : Fits N sh_House e) : ∃ (n0 : Int) (n1 : Int) (b2 : Bool) (z3 : List (List T)) (z4 : List (List T)) (z5 : List (List T)) (z6 : List (List T)) (n7 : Int) (b8 : Bool) (z9 : List (List T)) (z10 : List (List T)) (z11 : List (List T)) (z12 : List (List T)) (z13 : List (List T)), e = [.int .i64 n0, .int .i64 n1, .bool b2, .sl 3 z3, .sl 1 z4, .sl 8 z5, .sl 1 z6, .int .i64 n7, .bool b8, .sl 1 z9, .sl 1 z10, .sl 11 z11, .sl 1 z12, .sl 1 z13] ∧ (-9223372036854775808 ≤ n0 ∧ n0 ≤ 9223372036854775807) ∧ (-9223372036854775808 ≤ n1 ∧ n1 ≤ 9223372036854775807) ∧ True ∧ (z3.length ≤ N ∧ ∀ e ∈ z3, Fits N sh_File e) ∧ (z4.length ≤ N ∧ ∀ e ∈ z4, Fits N .str e) ∧ (z5.length ≤ N ∧ ∀ e ∈ z5, Fits N sh_Seal e) ∧ (z6.length ≤ N ∧ ∀ e ∈ z6, Fits N .int e) ∧ (-9223372036854775808 ≤ n7 ∧ n7 ≤ 9223372036854775807) ∧ True ∧ (z9.length ≤ N ∧ ∀ e ∈ z9, Fits N .str e) ∧ (z10.length ≤ N ∧ ∀ e ∈ z10, Fits N .bool e) ∧ (z11.length ≤ N ∧ ∀ e ∈ z11, Fits N sh_Server e) ∧ (z12.length ≤ N ∧ ∀ e ∈ z12, Fits N .str e) ∧ (z13.length ≤ N ∧ ∀ e ∈ z13, Fits N .int e) ∧ True := by
  obtain ⟨x0, y0, e0, h0, r0⟩ := h
  obtain ⟨n0, n1, b2, z3, z4, z5, z6, n7, b8, z9, z10, w0, qn0, qn1, qb2, qz3, qz4, qz5, qz6, qn7, qb8, qz9, qz10, -⟩ := fits_Coord h0
  obtain ⟨x1, y1, e1, h1, r1⟩ := r0
  obtain ⟨z11, w1, qz11⟩ := h1
  obtain ⟨x2, y2, e2, h2, r2⟩ := r1
  obtain ⟨z12, w2, qz12⟩ := h2
  obtain ⟨x3, y3, e3, h3, r3⟩ := r2
  obtain ⟨z13, w3, qz13⟩ := h3
  have rz : y3 = [] := r3
  refine ⟨n0, n1, b2, z3, z4, z5, z6, n7, b8, z9, z10, z11, z12, z13, ?_, qn0, qn1, qb2, qz3, qz4, qz5, qz6, qn7, qb8, qz9, qz10, qz11, qz12, qz13, trivial⟩
  rw [e0, e1, e2, e3, rz, w0, w1, w2, w3]; rfl
theorem mk_House {N : Nat} {n0 : Int} {n1 : Int} {b2 : Bool} {z3 : List (List T)} {z4 : List (List T)} {z5 : List (List T)} {z6 : List (List T)} {n7 : Int} {b8 : Bool} {z9 : List (List T)} {z10 : List (List T)} {z11 : List (List T)} {z12 : List (List T)} {z13 : List (List T)} (qn0 : (-9223372036854775808 ≤ n0 ∧ n0 ≤ 9223372036854775807)) (qn1 : (-9223372036854775808 ≤ n1 ∧ n1 ≤ 9223372036854775807)) (qb2 : True) (qz3 : (z3.length ≤ N ∧ ∀ e ∈ z3, Fits N sh_File e)) (qz4 : (z4.length ≤ N ∧ ∀ e ∈ z4, Fits N .str e)) (qz5 : (z5.length ≤ N ∧ ∀ e ∈ z5, Fits N sh_Seal e)) (qz6 : (z6.length ≤ N ∧ ∀ e ∈ z6, Fits N .int e)) (qn7 : (-9223372036854775808 ≤ n7 ∧ n7 ≤ 9223372036854775807)) (qb8 : True) (qz9 : (z9.length ≤ N ∧ ∀ e ∈ z9, Fits N .str e)) (qz10 : (z10.length ≤ N ∧ ∀ e ∈ z10, Fits N .bool e)) (qz11 : (z11.length ≤ N ∧ ∀ e ∈ z11, Fits N sh_Server e)) (qz12 : (z12.length ≤ N ∧ ∀ e ∈ z12, Fits N .str e)) (qz13 : (z13.length ≤ N ∧ ∀ e ∈ z13, Fits N .int e)) : Fits N sh_House [.int .i64 n0, .int .i64 n1, .bool b2, .sl 3 z3, .sl 1 z4, .sl 8 z5, .sl 1 z6, .int .i64 n7, .bool b8, .sl 1 z9, .sl 1 z10, .sl 11 z11, .sl 1 z12, .sl 1 z13] := ⟨_, _, rfl, mk_Coord qn0 qn1 qb2 qz3 qz4 qz5 qz6 qn7 qb8 qz9 qz10, ⟨_, _, rfl, ⟨_, rfl, qz11⟩, ⟨_, _, rfl, ⟨_, rfl, qz12⟩, ⟨_, _, rfl, ⟨_, rfl, qz13⟩, rfl⟩⟩⟩⟩
def sh_Auditor : Shp := .two .int (.two .bool (.two sh_Disk (.two (.sl 1 .str) (.two (.sl 8 sh_Seal) (.two (.sl 16 sh_Pair) .nop)))))
theorem wd_Auditor : sh_Auditor.wd = 6 := rfl
theorem fits_Auditor {N : Nat} {e : List T} (h : Fits N sh_Auditor e) : ∃ (n0 : Int) (b1 : Bool) (z2 : List (List T)) (z3 : List (List T)) (z4 : List (List T)) (z5 : List (List T)), e = [.int .i64 n0, .bool b1, .sl 3 z2, .sl 1 z3, .sl 8 z4, .sl 16 z5] ∧ (-9223372036854775808 ≤ n0 ∧ n0 ≤ 9223372036854775807) ∧ True ∧ (z2.length ≤ N ∧ ∀ e ∈ z2, Fits N sh_File e) ∧ (z3.length ≤ N ∧ ∀ e ∈ z3, Fits N .str e) ∧ (z4.length ≤ N ∧ ∀ e ∈ z4, Fits N sh_Seal e) ∧ (z5.length ≤ N ∧ ∀ e ∈ z5, Fits N sh_Pair e) ∧ True := by
  obtain ⟨x0, y0, e0, h0, r0⟩ := h
  obtain ⟨n0, w0, qn0⟩ := h0
  obtain ⟨x1, y1, e1, h1, r1⟩ := r0
  obtain ⟨b1, w1⟩ := h1
  have qb1 := trivial
  obtain ⟨x2, y2, e2, h2, r2⟩ := r1
  obtain ⟨z2, w2, qz2, -⟩ := fits_Disk h2
  obtain ⟨x3, y3, e3, h3, r3⟩ := r2
  obtain ⟨z3, w3, qz3⟩ := h3
  obtain ⟨x4, y4, e4, h4, r4⟩ := r3
  obtain ⟨z4, w4, qz4⟩ := h4
  obtain ⟨x5, y5, e5, h5, r5⟩ := r4
  obtain ⟨z5, w5, qz5⟩ := h5
  have rz : y5 = [] := r5
  refine ⟨n0, b1, z2, z3, z4, z5, ?_, qn0, qb1, qz2, qz3, qz4, qz5, trivial⟩
  rw [e0, e1, e2, e3, e4, e5, rz, w0, w1, w2, w3, w4, w5]; rfl
theorem mk_Auditor {N : Nat} {n0 : Int} {b1 : Bool} {z2 : List (List T)} {z3 : List (List T)} {z4 : List (List T)} {z5 : List (List T)} (qn0 : (-9223372036854775808 ≤ n0 ∧ n0 ≤ 9223372036854775807)) (qb1 : True) (qz2 : (z2.length ≤ N ∧ ∀ e ∈ z2, Fits N sh_File e)) (qz3 : (z3.length ≤ N ∧ ∀ e ∈ z3, Fits N .str e)) (qz4 : (z4.length ≤ N ∧ ∀ e ∈ z4, Fits N sh_Seal e)) (qz5 : (z5.length ≤ N ∧ ∀ e ∈ z5, Fits N sh_Pair e)) : Fits N sh_Auditor [.int .i64 n0, .bool b1, .sl 3 z2, .sl 1 z3, .sl 8 z4, .sl 16 z5] := ⟨_, _, rfl, ⟨_, rfl, qn0⟩, ⟨_, _, rfl, ⟨_, rfl⟩, ⟨_, _, rfl, mk_Disk qz2, ⟨_, _, rfl, ⟨_, rfl, qz3⟩, ⟨_, _, rfl, ⟨_, rfl, qz4⟩, ⟨_, _, rfl, ⟨_, rfl, qz5⟩, rfl⟩⟩⟩⟩⟩⟩
def sh_Note : Shp := .two .int (.two .str .nop)
theorem wd_Note : sh_Note.wd = 2 := rfl
theorem fits_Note {N : Nat} {e : List T} (h : Fits N sh_Note e) : ∃ (n0 : Int) (s1 : Bs), e = [.int .i64 n0, .str s1] ∧ (-9223372036854775808 ≤ n0 ∧ n0 ≤ 9223372036854775807) ∧ s1.length ≤ N ∧ True := by
  obtain ⟨x0, y0, e0, h0, r0⟩ := h
  obtain ⟨n0, w0, qn0⟩ := h0
  obtain ⟨x1, y1, e1, h1, r1⟩ := r0
  obtain ⟨s1, w1, qs1⟩ := h1
  have rz : y1 = [] := r1
  refine ⟨n0, s1, ?_, qn0, qs1, trivial⟩
  rw [e0, e1, rz, w0, w1]; rfl
theorem mk_Note {N : Nat} {n0 : Int} {s1 : Bs} (qn0 : (-9223372036854775808 ≤ n0 ∧ n0 ≤ 9223372036854775807)) (qs1 : s1.length ≤ N) : Fits N sh_Note [.int .i64 n0, .str s1] := ⟨_, _, rfl, ⟨_, rfl, qn0⟩, ⟨_, _, rfl, ⟨_, rfl, qs1⟩, rfl⟩⟩
def sh_Given : Shp := .two .int (.two .int (.two sh_Stamp .nop))
theorem wd_Given : sh_Given.wd = 7 := rfl
theorem fits_Given {N : Nat} {e : List T} (h : Fits N sh_Given e) : ∃ (n0 : Int) (n1 : Int) (n2 : Int) (n3 : Int) (z4 : List (List T)) (z5 : List (List T)) (z6 : List (List T)), e = [.int .i64 n0, .int .i64 n1, .int .i64 n2, .int .i64 n3, .sl 1 z4, .sl 1 z5, .sl 1 z6] ∧ (-9223372036854775808 ≤ n0 ∧ n0 ≤ 9223372036854775807) ∧ (-9223372036854775808 ≤ n1 ∧ n1 ≤ 9223372036854775807) ∧ (-9223372036854775808 ≤ n2 ∧ n2 ≤ 9223372036854775807) ∧ (-9223372036854775808 ≤ n3 ∧ n3 ≤ 9223372036854775807) ∧ (z4.length ≤ N ∧ ∀ e ∈ z4, Fits N .str e) ∧ (z5.length ≤ N ∧ ∀ e ∈ z5, Fits N .str e) ∧ (z6.length ≤ N ∧ ∀ e ∈ z6, Fits N .str e) ∧ True := by
  obtain ⟨x0, y0, e0, h0, r0⟩ := h
  obtain ⟨n0, w0, qn0⟩ := h0
  obtain ⟨x1, y1, e1, h1, r1⟩ := r0
  obtain ⟨n1, w1, qn1⟩ := h1
  obtain ⟨x2, y2, e2, h2, r2⟩ := r1
  obtain ⟨n2, n3, z4, z5, z6, w2, qn2, qn3, qz4, qz5, qz6, -⟩ := fits_Stamp h2
  have rz : y2 = [] := r2
  refine ⟨n0, n1, n2, n3, z4, z5, z6, ?_, qn0, qn1, qn2, qn3, qz4, qz5, qz6, trivial⟩
  rw [e0, e1, e2, rz, w0, w1, w2]; rfl
theorem mk_Given {N : Nat} {n0 : Int} {n1 : Int} {n2 : Int} {n3 : Int} {z4 : List (List T)} {z5 : List (List T)} {z6 : List (List T)} (qn0 : (-9223372036854775808 ≤ n0 ∧ n0 ≤ 9223372036854775807)) (qn1 : (-9223372036854775808 ≤ n1 ∧ n1 ≤ 9223372036854775807)) (qn2 : (-9223372036854775808 ≤ n2 ∧ n2 ≤ 9223372036854775807)) (qn3 : (-9223372036854775808 ≤ n3 ∧ n3 ≤ 9223372036854775807)) (qz4 : (z4.length ≤ N ∧ ∀ e ∈ z4, Fits N .str e)) (qz5 : (z5.length ≤ N ∧ ∀ e ∈ z5, Fits N .str e)) (qz6 : (z6.length ≤ N ∧ ∀ e ∈ z6, Fits N .str e)) : Fits N sh_Given [.int .i64 n0, .int .i64 n1, .int .i64 n2, .int .i64 n3, .sl 1 z4, .sl 1 z5, .sl 1 z6] := ⟨_, _, rfl, ⟨_, rfl, qn0⟩, ⟨_, _, rfl, ⟨_, rfl, qn1⟩, ⟨_, _, rfl, mk_Stamp qn2 qn3 qz4 qz5 qz6, rfl⟩⟩⟩
def sh_World : Shp := .two (.sl 14 sh_House) (.two (.sl 6 sh_Auditor) (.two (.sl 2 sh_Note) (.two (.sl 7 sh_Given) (.two (.sl 1 .bool) (.two (.sl 1 .int) .nop)))))
theorem wd_World : sh_World.wd = 6 := rfl
theorem fits_World {N : Nat} {e : List T} (h : Fits N sh_World e) : ∃ (z0 : List (List T)) (z1 : List (List T)) (z2 : List (List T)) (z3 : List (List T)) (z4 : List (List T)) (z5 : List (List T)), e = [.sl 14 z0, .sl 6 z1, .sl 2 z2, .sl 7 z3, .sl 1 z4, .sl 1 z5] ∧ (z0.length ≤ N ∧ ∀ e ∈ z0, Fits N sh_House e) ∧ (z1.length ≤ N ∧ ∀ e ∈ z1, Fits N sh_Auditor e) ∧ (z2.length ≤ N ∧ ∀ e ∈ z2, Fits N sh_Note e) ∧ (z3.length ≤ N ∧ ∀ e ∈ z3, Fits N sh_Given e) ∧ (z4.length ≤ N ∧ ∀ e ∈ z4, Fits N .bool e) ∧ (z5.length ≤ N ∧ ∀ e ∈ z5, Fits N .int e) ∧ True := by
  obtain ⟨x0, y0, e0, h0, r0⟩ := h
  obtain ⟨z0, w0, qz0⟩ := h0
  obtain ⟨x1, y1, e1, h1, r1⟩ := r0
  obtain ⟨z1, w1, qz1⟩ := h1
  obtain ⟨x2, y2, e2, h2, r2⟩ := r1
  obtain ⟨z2, w2, qz2⟩ := h2
  obtain ⟨x3, y3, e3, h3, r3⟩ := r2
  obtain ⟨z3, w3, qz3⟩ := h3
  obtain ⟨x4, y4, e4, h4, r4⟩ := r3
  obtain ⟨z4, w4, qz4⟩ := h4
  obtain ⟨x5, y5, e5, h5, r5⟩ := r4
  obtain ⟨z5, w5, qz5⟩ := h5
  have rz : y5 = [] := r5
  refine ⟨z0, z1, z2, z3, z4, z5, ?_, qz0, qz1, qz2, qz3, qz4, qz5, trivial⟩
  rw [e0, e1, e2, e3, e4, e5, rz, w0, w1, w2, w3, w4, w5]; rfl
theorem mk_World {N : Nat} {z0 : List (List T)} {z1 : List (List T)} {z2 : List (List T)} {z3 : List (List T)} {z4 : List (List T)} {z5 : List (List T)} (qz0 : (z0.length ≤ N ∧ ∀ e ∈ z0, Fits N sh_House e)) (qz1 : (z1.length ≤ N ∧ ∀ e ∈ z1, Fits N sh_Auditor e)) (qz2 : (z2.length ≤ N ∧ ∀ e ∈ z2, Fits N sh_Note e)) (qz3 : (z3.length ≤ N ∧ ∀ e ∈ z3, Fits N sh_Given e)) (qz4 : (z4.length ≤ N ∧ ∀ e ∈ z4, Fits N .bool e)) (qz5 : (z5.length ≤ N ∧ ∀ e ∈ z5, Fits N .int e)) : Fits N sh_World [.sl 14 z0, .sl 6 z1, .sl 2 z2, .sl 7 z3, .sl 1 z4, .sl 1 z5] := ⟨_, _, rfl, ⟨_, rfl, qz0⟩, ⟨_, _, rfl, ⟨_, rfl, qz1⟩, ⟨_, _, rfl, ⟨_, rfl, qz2⟩, ⟨_, _, rfl, ⟨_, rfl, qz3⟩, ⟨_, _, rfl, ⟨_, rfl, qz4⟩, ⟨_, _, rfl, ⟨_, rfl, qz5⟩, rfl⟩⟩⟩⟩⟩⟩
end Go.Proofs.YtfgfkhmldlpmkaaGreatDoor
