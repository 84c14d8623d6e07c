/- What a contract by content says of a call from outside. What a call is told of an argument that holds structs, strings and slices: its content, by its shape. The types that the exact laws copy and compare, and their shapes. -/
import Derived.Test.YtnhcfmmdaihneaaGreatDoorVd
import Derived.Test.YtnhcfmmdaihneaaGreatDoorFa
import Derived.ChangeOld
namespace Go.Proofs.YtnhcfmmdaihneaaGreatDoor
set_option linter.unusedVariables false
set_option linter.unusedSimpArgs false
set_option linter.unusedSectionVars false
open Go.RowKit Pl
def cx0 (w : World) : Cx := { H := idxE [], ow := fun _ => none, w := w, us := fun i => i < 1, iw := fun _ => 0 }
theorem cx0_hr (w : World) (hg : Gl (cx0 w)) : HR (cx0 w) where
 gl := hg
 inj := fun g g' r h _ _ => absurd (by simp [cx0, idxE]) h
 lt := fun g r h => by cases h
 node := fun r e h => by have : idxE [] r = some e := h; simp [idxE] at this
 zero := rfl
 pos := by show 0 < 1; omega
 inn := fun g h => absurd rfl h
theorem zbP {P : Program} {f : FuncId} {ts : List T} (h : CT P f [] ts (.bool true) []) (w : World) (hg : Gl (cx0 w)) {vs : List Value} (ha : Args (cx0 w) ts vs) :
 Calls P f vs.toArray w fun e w' => e = .returned (.bool true) ∧ Below w.heap.size w w' := by
 refine (h.2 (cx0 w) (cx0_hr w hg) rfl rfl vs ha).mono ?_
 rintro e w' ⟨v, X', rfl, rfl, _, _, _, hv, hs⟩
 have hv : v = .bool true := by simpa only [RS, RS1, RS0, RV] using hv
 subst hv
 exact ⟨rfl, ⟨hs.os, hs.tape, hs.output, hs.size, fun k hk => (hs.stab k hk rfl).2⟩⟩
theorem z96 (w : World) (k : IntKind) (n : Int) : RS (cx0 w) (.int k n) (.int k n) := z1v _ _ _
end Go.Proofs.YtnhcfmmdaihneaaGreatDoor
namespace Go.Proofs.YtnhcfmmdaihneaaGreatDoor
set_option linter.unusedVariables false
set_option linter.unusedSimpArgs false
set_option linter.unusedSectionVars false
open Go.RowKit Pl
inductive Shp where
 | int | bool | str | nop
 | sl (k : Nat) (s : Shp)
 | two (a b : Shp)
def Shp.wd : Shp → Nat
 | .nop => 0
 | .two a b => a.wd + b.wd
 | _ => 1
def Fits (N : Nat) : Shp → List T → Prop
 | .int, ts => ∃ n, ts = [.int .i64 n] ∧ -9223372036854775808 ≤ n ∧ n ≤ 9223372036854775807
 | .bool, ts => ∃ b, ts = [.bool b]
 | .str, ts => ∃ l : Bs, ts = [.str l] ∧ l.length ≤ N
 | .nop, ts => ts = []
 | .sl k s, ts => ∃ es, ts = [.sl k es] ∧ es.length ≤ N ∧ ∀ e ∈ es, Fits N s e
 | .two a b, ts => ∃ x y, ts = x ++ y ∧ Fits N a x ∧ Fits N b y
theorem Fits.len {N : Nat} : ∀ {s : Shp} {ts : List T}, Fits N s ts → ts.length = s.wd
 | .int, _, h => by obtain ⟨n, rfl, _⟩ := h; rfl
 | .bool, _, h => by obtain ⟨n, rfl⟩ := h; rfl
 | .str, _, h => by obtain ⟨n, rfl, _⟩ := h; rfl
 | .nop, _, h => by subst h; rfl
 | .sl k s, _, h => by obtain ⟨n, rfl, _⟩ := h; rfl
 | .two a b, _, h => by
   obtain ⟨x, y, rfl, h1, h2⟩ := h
   rw [List.length_append, h1.len, h2.len]; rfl
mutual
inductive TOk (P : Program) : TypeId → Shp → Prop
 | int {t} : P.underlying t = some (.int .i64) → TOk P t .int
 | bool {t} : P.underlying t = some .bool → TOk P t .bool
 | str {t} : P.underlying t = some .string → TOk P t .str
 | sl {t e k s} : P.underlying t = some (.slice e) → P.cellsOf e = k → s.wd = k → 0 < k → TOk P e s → TOk P t (.sl k s)
 | st {t fs s} : P.underlying t = some (.struct fs) → P.cellsOf t = s.wd → FOk P (fs.toList.map fun f => (f.type, f.offset)) 0 s → TOk P t s
inductive FOk (P : Program) : List (TypeId × Nat) → Nat → Shp → Prop
 | nil {o} : FOk P [] o .nop
 | cons {t fs o a b} : P.cellsOf t = a.wd → TOk P t a → FOk P fs (o + a.wd) b → FOk P ((t, o) :: fs) o (.two a b)
end
section
variable {H : Type} {enc : TypeId × Value → H} {P : Program} {w : World}
end
end Go.Proofs.YtnhcfmmdaihneaaGreatDoor
namespace Go.Proofs.YtnhcfmmdaihneaaGreatDoor
set_option linter.unusedVariables false
set_option linter.unusedSimpArgs false
set_option linter.unusedSectionVars false
open Go.RowKit Pl
def exE : List (Nat × Ty) := [
 (151, ⟨3, 40, [.str [], .str [], .int .i64 0], .struct [(0, 9), (1, 9), (2, 3)], true⟩),
 (33, ⟨1, 24, [.val nilV], .struct [(0, 31)], false⟩),
 (170, ⟨4, 48, [.int .i64 0, .int .i64 0, .str [], .str []], .struct [(0, 3), (1, 3), (2, 9), (3, 9)], true⟩),
 (171, ⟨4, 80, [.int .i64 0, .val nilV, .val nilV, .val nilV], .struct [(0, 3), (1, 22), (2, 22), (3, 22)], false⟩),
 (173, ⟨8, 128, [.int .i64 0, .int .i64 0, .str [], .str [], .int .i64 0, .val nilV, .val nilV, .val nilV], .struct [(0, 170), (4, 171)], false⟩),
 (52, ⟨11, 184, [.int .i64 0, .int .i64 0, .bool false, .val nilV, .val nilV, .val nilV, .val nilV, .int .i64 0, .bool false, .val nilV, .val nilV], .struct [(0, 3), (1, 3), (2, 4), (3, 33), (4, 22), (5, 50), (6, 39), (7, 3), (8, 4), (9, 22), (10, 40)], false⟩),
 (31, tySl 151),
 (22, tySl 9),
 (39, tySl 3),
 (50, tySl 173),
 (40, tySl 4),
 (193, ⟨2, 32, [.str [], .str []], .struct [(0, 9), (1, 9)], true⟩),
 (226, ⟨3, 40, [.int .i64 0, .str [], .str []], .struct [(0, 3), (1, 9), (2, 9)], true⟩),
 (118, ⟨3, 24, [.int .i64 0, .int .i64 0, .int .i64 0], .struct [(0, 3), (1, 3), (2, 3)], true⟩),
 (157, ⟨3, 40, [.str [], .str [], .int .i64 0], .struct [(0, 9), (1, 9), (2, 3)], true⟩),
 (37, ⟨1, 24, [.val nilV], .struct [(0, 35)], false⟩),
 (163, ⟨4, 48, [.int .i64 0, .int .i64 0, .str [], .str []], .struct [(0, 3), (1, 3), (2, 9), (3, 9)], true⟩),
 (165, ⟨4, 80, [.int .i64 0, .val nilV, .val nilV, .val nilV], .struct [(0, 3), (1, 22), (2, 22), (3, 22)], false⟩),
 (167, ⟨8, 128, [.int .i64 0, .int .i64 0, .str [], .str [], .int .i64 0, .val nilV, .val nilV, .val nilV], .struct [(0, 163), (4, 165)], false⟩),
 (188, ⟨5, 88, [.int .i64 0, .int .i64 0, .val nilV, .val nilV, .val nilV], .struct [(0, 3), (1, 165)], false⟩),
 (238, ⟨16, 256, [.int .i64 0, .int .i64 0, .str [], .str [], .int .i64 0, .val nilV, .val nilV, .val nilV, .int .i64 0, .int .i64 0, .str [], .str [], .int .i64 0, .val nilV, .val nilV, .val nilV], .struct [(0, 167), (8, 167)], false⟩),
 (120, ⟨11, 152, [.int .i64 0, .int .i64 0, .bool false, .val nilV, .int .i64 0, .val nilV, .val nilV, .val nilV, .int .i64 0, .int .i64 0, .int .i64 0], .struct [(0, 3), (1, 3), (2, 4), (3, 37), (4, 3), (5, 23), (6, 39), (7, 116), (8, 118)], false⟩),
 (42, ⟨11, 184, [.int .i64 0, .int .i64 0, .bool false, .val nilV, .val nilV, .val nilV, .val nilV, .int .i64 0, .bool false, .val nilV, .val nilV], .struct [(0, 3), (1, 3), (2, 4), (3, 37), (4, 22), (5, 38), (6, 39), (7, 3), (8, 4), (9, 22), (10, 40)], false⟩),
 (59, ⟨14, 256, [.int .i64 0, .int .i64 0, .bool false, .val nilV, .val nilV, .val nilV, .val nilV, .int .i64 0, .bool false, .val nilV, .val nilV, .val nilV, .val nilV, .val nilV], .struct [(0, 42), (11, 57), (12, 22), (13, 39)], false⟩),
 (126, ⟨6, 112, [.int .i64 0, .bool false, .val nilV, .val nilV, .val nilV, .val nilV], .struct [(0, 3), (1, 4), (2, 37), (3, 22), (4, 38), (5, 124)], false⟩),
 (185, ⟨2, 24, [.int .i64 0, .str []], .struct [(0, 3), (1, 9)], true⟩),
 (190, ⟨7, 104, [.int .i64 0, .int .i64 0, .int .i64 0, .int .i64 0, .val nilV, .val nilV, .val nilV], .struct [(0, 3), (1, 3), (2, 188)], false⟩),
 (70, ⟨6, 144, [.val nilV, .val nilV, .val nilV, .val nilV, .val nilV, .val nilV], .struct [(0, 65), (1, 66), (2, 67), (3, 68), (4, 40), (5, 39)], false⟩),
 (35, tySl 157),
 (23, tySl 80),
 (80, tySl 193),
 (116, tySl 226),
 (38, tySl 167),
 (213, tySl 163),
 (57, tySl 120),
 (124, tySl 238),
 (65, tySl 59),
 (66, tySl 126),
 (67, tySl 185),
 (68, tySl 190),
 (3, zkz)]
set_option maxRecDepth 100000 in
set_option maxHeartbeats 8000000 in
theorem zkD : ∀ p ∈ exE, TyOk Tryz.prog p.1 p.2 := by
 simp only [exE, List.forall_mem_cons]
 repeat' (refine And.intro ?_ ?_)
 all_goals first
  | exact (fun _ h => by cases h)
  | exact ⟨⟨_, _, rfl, rfl, rfl, rfl, rfl⟩, ⟨_, rfl, rfl⟩, rfl, rfl, fun h => (Bool.false_ne_true h).elim⟩
  | (refine ⟨⟨_, _, rfl, rfl, rfl, rfl, rfl⟩, ⟨_, rfl, rfl⟩, rfl, rfl, fun _ => ⟨by kernel_rfl, by kernel_rfl, _, rfl, z8C ?_⟩⟩
     repeat (first | exact rfl | (refine And.intro (by decide) (And.intro rfl (And.intro rfl ?_)))))
def ttLE : List (Nat × Ty) := ttL ++ exE
def ttE : TT := lk ttLE
theorem z03 : TtOk Tryz.prog ttE := fun t y h => by
 have hm : (t, y) ∈ ttLE := z1M h
 rcases List.mem_append.1 hm with h | h
 ·exact zdg (t, y) h
 ·exact zkD (t, y) h
def z4B : Shp := .two .str (.two .str .nop)
theorem zam {N : Nat} {e : List T} (h : Fits N z4B e) : ∃ (s0 : Bs) (s1 : Bs), e = [.str s0, .str s1] ∧ s0.length ≤ N ∧ s1.length ≤ N ∧ True := by
 obtain ⟨x0, y0, e0, h0, r0⟩ := h
 obtain ⟨s0, w0, qs0⟩ := h0
 obtain ⟨x1, y1, e1, h1, r1⟩ := r0
 obtain ⟨s1, w1, qs1⟩ := h1
 have rz : y1 = [] := r1
 refine ⟨s0, s1, ?_, qs0, qs1, trivial⟩
 rw [e0, e1, rz, w0, w1]; rfl
def z38 : Shp := .two .int (.two .str (.two .str .nop))
theorem z78 {N : Nat} {e : List T} (h : Fits N z38 e) : ∃ (n0 : Int) (s1 : Bs) (s2 : Bs), e = [.int .i64 n0, .str s1, .str s2] ∧ (-9223372036854775808 ≤ n0 ∧ n0 ≤ 9223372036854775807) ∧ s1.length ≤ N ∧ s2.length ≤ N ∧ True := by
 obtain ⟨x0, y0, e0, h0, r0⟩ := h
 obtain ⟨n0, w0, qn0⟩ := h0
 obtain ⟨x1, y1, e1, h1, r1⟩ := r0
 obtain ⟨s1, w1, qs1⟩ := h1
 obtain ⟨x2, y2, e2, h2, r2⟩ := r1
 obtain ⟨s2, w2, qs2⟩ := h2
 have rz : y2 = [] := r2
 refine ⟨n0, s1, s2, ?_, qn0, qs1, qs2, trivial⟩
 rw [e0, e1, e2, rz, w0, w1, w2]; rfl
def z6q : Shp := .two .int (.two .int (.two .int .nop))
theorem z8l {N : Nat} {e : List T} (h : Fits N z6q e) : ∃ (n0 : Int) (n1 : Int) (n2 : Int), e = [.int .i64 n0, .int .i64 n1, .int .i64 n2] ∧ (-9223372036854775808 ≤ n0 ∧ n0 ≤ 9223372036854775807) ∧ (-9223372036854775808 ≤ n1 ∧ n1 ≤ 9223372036854775807) ∧ (-9223372036854775808 ≤ n2 ∧ n2 ≤ 9223372036854775807) ∧ True := by
 obtain ⟨x0, y0, e0, h0, r0⟩ := h
 obtain ⟨n0, w0, qn0⟩ := h0
 obtain ⟨x1, y1, e1, h1, r1⟩ := r0
 obtain ⟨n1, w1, qn1⟩ := h1
 obtain ⟨x2, y2, e2, h2, r2⟩ := r1
 obtain ⟨n2, w2, qn2⟩ := h2
 have rz : y2 = [] := r2
 refine ⟨n0, n1, n2, ?_, qn0, qn1, qn2, trivial⟩
 rw [e0, e1, e2, rz, w0, w1, w2]; rfl
theorem zdv {N : Nat} {n0 : Int} {n1 : Int} {n2 : Int} (qn0 : (-9223372036854775808 ≤ n0 ∧ n0 ≤ 9223372036854775807)) (qn1 : (-9223372036854775808 ≤ n1 ∧ n1 ≤ 9223372036854775807)) (qn2 : (-9223372036854775808 ≤ n2 ∧ n2 ≤ 9223372036854775807)) : Fits N z6q [.int .i64 n0, .int .i64 n1, .int .i64 n2] := ⟨_, _, rfl, ⟨_, rfl, qn0⟩, ⟨_, _, rfl, ⟨_, rfl, qn1⟩, ⟨_, _, rfl, ⟨_, rfl, qn2⟩, rfl⟩⟩⟩
def z0D : Shp := .two .str (.two .str (.two .int .nop))
theorem z1W {N : Nat} {e : List T} (h : Fits N z0D e) : ∃ (s0 : Bs) (s1 : Bs) (n2 : Int), e = [.str s0, .str s1, .int .i64 n2] ∧ s0.length ≤ N ∧ s1.length ≤ N ∧ (-9223372036854775808 ≤ n2 ∧ n2 ≤ 9223372036854775807) ∧ True := by
 obtain ⟨x0, y0, e0, h0, r0⟩ := h
 obtain ⟨s0, w0, qs0⟩ := h0
 obtain ⟨x1, y1, e1, h1, r1⟩ := r0
 obtain ⟨s1, w1, qs1⟩ := h1
 obtain ⟨x2, y2, e2, h2, r2⟩ := r1
 obtain ⟨n2, w2, qn2⟩ := h2
 have rz : y2 = [] := r2
 refine ⟨s0, s1, n2, ?_, qs0, qs1, qn2, trivial⟩
 rw [e0, e1, e2, rz, w0, w1, w2]; rfl
def z1s : Shp := .two (.sl 3 z0D) .nop
theorem z2J {N : Nat} {e : List T} (h : Fits N z1s e) : ∃ (z0 : List (List T)), e = [.sl 3 z0] ∧ (z0.length ≤ N ∧ ∀ e ∈ z0, Fits N z0D e) ∧ True := by
 obtain ⟨x0, y0, e0, h0, r0⟩ := h
 obtain ⟨z0, w0, qz0⟩ := h0
 have rz : y0 = [] := r0
 refine ⟨z0, ?_, qz0, trivial⟩
 rw [e0, rz, w0]; rfl
theorem z5H {N : Nat} {z0 : List (List T)} (qz0 : (z0.length ≤ N ∧ ∀ e ∈ z0, Fits N z0D e)) : Fits N z1s [.sl 3 z0] := ⟨_, _, rfl, ⟨_, rfl, qz0⟩, rfl⟩
def z2K : Shp := .two .int (.two .int (.two .str (.two .str .nop)))
theorem z56 {N : Nat} {e : List T} (h : Fits N z2K e) : ∃ (n0 : Int) (n1 : Int) (s2 : Bs) (s3 : Bs), e = [.int .i64 n0, .int .i64 n1, .str s2, .str s3] ∧ (-9223372036854775808 ≤ n0 ∧ n0 ≤ 9223372036854775807) ∧ (-9223372036854775808 ≤ n1 ∧ n1 ≤ 9223372036854775807) ∧ s2.length ≤ N ∧ s3.length ≤ N ∧ True := by
 obtain ⟨x0, y0, e0, h0, r0⟩ := h
 obtain ⟨n0, w0, qn0⟩ := h0
 obtain ⟨x1, y1, e1, h1, r1⟩ := r0
 obtain ⟨n1, w1, qn1⟩ := h1
 obtain ⟨x2, y2, e2, h2, r2⟩ := r1
 obtain ⟨s2, w2, qs2⟩ := h2
 obtain ⟨x3, y3, e3, h3, r3⟩ := r2
 obtain ⟨s3, w3, qs3⟩ := h3
 have rz : y3 = [] := r3
 refine ⟨n0, n1, s2, s3, ?_, qn0, qn1, qs2, qs3, trivial⟩
 rw [e0, e1, e2, e3, rz, w0, w1, w2, w3]; rfl
theorem z79 {N : Nat} {n0 : Int} {n1 : Int} {s2 : Bs} {s3 : Bs} (qn0 : (-9223372036854775808 ≤ n0 ∧ n0 ≤ 9223372036854775807)) (qn1 : (-9223372036854775808 ≤ n1 ∧ n1 ≤ 9223372036854775807)) (qs2 : s2.length ≤ N) (qs3 : s3.length ≤ N) : Fits N z2K [.int .i64 n0, .int .i64 n1, .str s2, .str s3] := ⟨_, _, rfl, ⟨_, rfl, qn0⟩, ⟨_, _, rfl, ⟨_, rfl, qn1⟩, ⟨_, _, rfl, ⟨_, rfl, qs2⟩, ⟨_, _, rfl, ⟨_, rfl, qs3⟩, rfl⟩⟩⟩⟩
def z3T : Shp := .two .int (.two (.sl 1 .str) (.two (.sl 1 .str) (.two (.sl 1 .str) .nop)))
theorem z6r {N : Nat} {e : List T} (h : Fits N z3T e) : ∃ (n0 : Int) (z1 : List (List T)) (z2 : List (List T)) (z3 : List (List T)), e = [.int .i64 n0, .sl 1 z1, .sl 1 z2, .sl 1 z3] ∧ (-9223372036854775808 ≤ n0 ∧ n0 ≤ 9223372036854775807) ∧ (z1.length ≤ N ∧ ∀ e ∈ z1, Fits N .str e) ∧ (z2.length ≤ N ∧ ∀ e ∈ z2, Fits N .str e) ∧ (z3.length ≤ N ∧ ∀ e ∈ z3, Fits N .str e) ∧ True := by
 obtain ⟨x0, y0, e0, h0, r0⟩ := h
 obtain ⟨n0, w0, qn0⟩ := h0
 obtain ⟨x1, y1, e1, h1, r1⟩ := r0
 obtain ⟨z1, w1, qz1⟩ := h1
 obtain ⟨x2, y2, e2, h2, r2⟩ := r1
 obtain ⟨z2, w2, qz2⟩ := h2
 obtain ⟨x3, y3, e3, h3, r3⟩ := r2
 obtain ⟨z3, w3, qz3⟩ := h3
 have rz : y3 = [] := r3
 refine ⟨n0, z1, z2, z3, ?_, qn0, qz1, qz2, qz3, trivial⟩
 rw [e0, e1, e2, e3, rz, w0, w1, w2, w3]; rfl
theorem zdw {N : Nat} {n0 : Int} {z1 : List (List T)} {z2 : List (List T)} {z3 : List (List T)} (qn0 : (-9223372036854775808 ≤ n0 ∧ n0 ≤ 9223372036854775807)) (qz1 : (z1.length ≤ N ∧ ∀ e ∈ z1, Fits N .str e)) (qz2 : (z2.length ≤ N ∧ ∀ e ∈ z2, Fits N .str e)) (qz3 : (z3.length ≤ N ∧ ∀ e ∈ z3, Fits N .str e)) : Fits N z3T [.int .i64 n0, .sl 1 z1, .sl 1 z2, .sl 1 z3] := ⟨_, _, rfl, ⟨_, rfl, qn0⟩, ⟨_, _, rfl, ⟨_, rfl, qz1⟩, ⟨_, _, rfl, ⟨_, rfl, qz2⟩, ⟨_, _, rfl, ⟨_, rfl, qz3⟩, rfl⟩⟩⟩⟩
def z0K : Shp := .two z2K (.two z3T .nop)
theorem z2k {N : Nat} {e : List T} (h : Fits N z0K e) : ∃ (n0 : Int) (n1 : Int) (s2 : Bs) (s3 : Bs) (n4 : Int) (z5 : List (List T)) (z6 : List (List T)) (z7 : List (List T)), e = [.int .i64 n0, .int .i64 n1, .str s2, .str s3, .int .i64 n4, .sl 1 z5, .sl 1 z6, .sl 1 z7] ∧ (-9223372036854775808 ≤ n0 ∧ n0 ≤ 9223372036854775807) ∧ (-9223372036854775808 ≤ n1 ∧ n1 ≤ 9223372036854775807) ∧ s2.length ≤ N ∧ s3.length ≤ N ∧ (-9223372036854775808 ≤ n4 ∧ n4 ≤ 9223372036854775807) ∧ (z5.length ≤ N ∧ ∀ e ∈ z5, Fits N .str e) ∧ (z6.length ≤ N ∧ ∀ e ∈ z6, Fits N .str e) ∧ (z7.length ≤ N ∧ ∀ e ∈ z7, Fits N .str e) ∧ True := by
 obtain ⟨x0, y0, e0, h0, r0⟩ := h
 obtain ⟨n0, n1, s2, s3, w0, qn0, qn1, qs2, qs3, -⟩ := z56 h0
 obtain ⟨x1, y1, e1, h1, r1⟩ := r0
 obtain ⟨n4, z5, z6, z7, w1, qn4, qz5, qz6, qz7, -⟩ := z6r h1
 have rz : y1 = [] := r1
 refine ⟨n0, n1, s2, s3, n4, z5, z6, z7, ?_, qn0, qn1, qs2, qs3, qn4, qz5, qz6, qz7, trivial⟩
 rw [e0, e1, rz, w0, w1]; rfl
def z2l : Shp := .two .int (.two .int (.two .bool (.two z1s (.two .int (.two (.sl 1 (.sl 2 z4B)) (.two (.sl 1 .int) (.two (.sl 3 z38) (.two z6q .nop))))))))
theorem z7a {N : Nat} {e : List T} (h : Fits N z2l e) : ∃ (n0 : Int) (n1 : Int) (b2 : Bool) (z3 : List (List T)) (n4 : Int) (z5 : List (List T)) (z6 : List (List T)) (z7 : List (List T)) (n8 : Int) (n9 : Int) (n10 : Int), e = [.int .i64 n0, .int .i64 n1, .bool b2, .sl 3 z3, .int .i64 n4, .sl 1 z5, .sl 1 z6, .sl 3 z7, .int .i64 n8, .int .i64 n9, .int .i64 n10] ∧ (-9223372036854775808 ≤ n0 ∧ n0 ≤ 9223372036854775807) ∧ (-9223372036854775808 ≤ n1 ∧ n1 ≤ 9223372036854775807) ∧ True ∧ (z3.length ≤ N ∧ ∀ e ∈ z3, Fits N z0D e) ∧ (-9223372036854775808 ≤ n4 ∧ n4 ≤ 9223372036854775807) ∧ (z5.length ≤ N ∧ ∀ e ∈ z5, Fits N (.sl 2 z4B) e) ∧ (z6.length ≤ N ∧ ∀ e ∈ z6, Fits N .int e) ∧ (z7.length ≤ N ∧ ∀ e ∈ z7, Fits N z38 e) ∧ (-9223372036854775808 ≤ n8 ∧ n8 ≤ 9223372036854775807) ∧ (-9223372036854775808 ≤ n9 ∧ n9 ≤ 9223372036854775807) ∧ (-9223372036854775808 ≤ n10 ∧ n10 ≤ 9223372036854775807) ∧ True := by
 obtain ⟨x0, y0, e0, h0, r0⟩ := h
 obtain ⟨n0, w0, qn0⟩ := h0
 obtain ⟨x1, y1, e1, h1, r1⟩ := r0
 obtain ⟨n1, w1, qn1⟩ := h1
 obtain ⟨x2, y2, e2, h2, r2⟩ := r1
 obtain ⟨b2, w2⟩ := h2
 have qb2 := trivial
 obtain ⟨x3, y3, e3, h3, r3⟩ := r2
 obtain ⟨z3, w3, qz3, -⟩ := z2J h3
 obtain ⟨x4, y4, e4, h4, r4⟩ := r3
 obtain ⟨n4, w4, qn4⟩ := h4
 obtain ⟨x5, y5, e5, h5, r5⟩ := r4
 obtain ⟨z5, w5, qz5⟩ := h5
 obtain ⟨x6, y6, e6, h6, r6⟩ := r5
 obtain ⟨z6, w6, qz6⟩ := h6
 obtain ⟨x7, y7, e7, h7, r7⟩ := r6
 obtain ⟨z7, w7, qz7⟩ := h7
 obtain ⟨x8, y8, e8, h8, r8⟩ := r7
 obtain ⟨n8, n9, n10, w8, qn8, qn9, qn10, -⟩ := z8l h8
 have rz : y8 = [] := r8
 refine ⟨n0, n1, b2, z3, n4, z5, z6, z7, n8, n9, n10, ?_, qn0, qn1, qb2, qz3, qn4, qz5, qz6, qz7, qn8, qn9, qn10, trivial⟩
 rw [e0, e1, e2, e3, e4, e5, e6, e7, e8, rz, w0, w1, w2, w3, w4, w5, w6, w7, w8]; rfl
theorem zgi {N : Nat} {n0 : Int} {n1 : Int} {b2 : Bool} {z3 : List (List T)} {n4 : Int} {z5 : List (List T)} {z6 : List (List T)} {z7 : List (List T)} {n8 : Int} {n9 : Int} {n10 : Int} (qn0 : (-9223372036854775808 ≤ n0 ∧ n0 ≤ 9223372036854775807)) (qn1 : (-9223372036854775808 ≤ n1 ∧ n1 ≤ 9223372036854775807)) (qb2 : True) (qz3 : (z3.length ≤ N ∧ ∀ e ∈ z3, Fits N z0D e)) (qn4 : (-9223372036854775808 ≤ n4 ∧ n4 ≤ 9223372036854775807)) (qz5 : (z5.length ≤ N ∧ ∀ e ∈ z5, Fits N (.sl 2 z4B) e)) (qz6 : (z6.length ≤ N ∧ ∀ e ∈ z6, Fits N .int e)) (qz7 : (z7.length ≤ N ∧ ∀ e ∈ z7, Fits N z38 e)) (qn8 : (-9223372036854775808 ≤ n8 ∧ n8 ≤ 9223372036854775807)) (qn9 : (-9223372036854775808 ≤ n9 ∧ n9 ≤ 9223372036854775807)) (qn10 : (-9223372036854775808 ≤ n10 ∧ n10 ≤ 9223372036854775807)) : Fits N z2l [.int .i64 n0, .int .i64 n1, .bool b2, .sl 3 z3, .int .i64 n4, .sl 1 z5, .sl 1 z6, .sl 3 z7, .int .i64 n8, .int .i64 n9, .int .i64 n10] := ⟨_, _, rfl, ⟨_, rfl, qn0⟩, ⟨_, _, rfl, ⟨_, rfl, qn1⟩, ⟨_, _, rfl, ⟨_, rfl⟩, ⟨_, _, rfl, z5H qz3, ⟨_, _, rfl, ⟨_, rfl, qn4⟩, ⟨_, _, rfl, ⟨_, rfl, qz5⟩, ⟨_, _, rfl, ⟨_, rfl, qz6⟩, ⟨_, _, rfl, ⟨_, rfl, qz7⟩, ⟨_, _, rfl, zdv qn8 qn9 qn10, rfl⟩⟩⟩⟩⟩⟩⟩⟩⟩
def z0Q : Shp := .two .int (.two .int (.two .bool (.two z1s (.two (.sl 1 .str) (.two (.sl 8 z0K) (.two (.sl 1 .int) (.two .int (.two .bool (.two (.sl 1 .str) (.two (.sl 1 .bool) .nop))))))))))
theorem z28 {N : Nat} {e : List T} (h : Fits N z0Q e) : ∃ (n0 : Int) (n1 : Int) (b2 : Bool) (z3 : List (List T)) (z4 : List (List T)) (z5 : List (List T)) (z6 : List (List T)) (n7 : Int) (b8 : Bool) (z9 : List (List T)) (z10 : List (List T)), e = [.int .i64 n0, .int .i64 n1, .bool b2, .sl 3 z3, .sl 1 z4, .sl 8 z5, .sl 1 z6, .int .i64 n7, .bool b8, .sl 1 z9, .sl 1 z10] ∧ (-9223372036854775808 ≤ n0 ∧ n0 ≤ 9223372036854775807) ∧ (-9223372036854775808 ≤ n1 ∧ n1 ≤ 9223372036854775807) ∧ True ∧ (z3.length ≤ N ∧ ∀ e ∈ z3, Fits N z0D e) ∧ (z4.length ≤ N ∧ ∀ e ∈ z4, Fits N .str e) ∧ (z5.length ≤ N ∧ ∀ e ∈ z5, Fits N z0K e) ∧ (z6.length ≤ N ∧ ∀ e ∈ z6, Fits N .int e) ∧ (-9223372036854775808 ≤ n7 ∧ n7 ≤ 9223372036854775807) ∧ True ∧ (z9.length ≤ N ∧ ∀ e ∈ z9, Fits N .str e) ∧ (z10.length ≤ N ∧ ∀ e ∈ z10, Fits N .bool e) ∧ True := by
 obtain ⟨x0, y0, e0, h0, r0⟩ := h
 obtain ⟨n0, w0, qn0⟩ := h0
 obtain ⟨x1, y1, e1, h1, r1⟩ := r0
 obtain ⟨n1, w1, qn1⟩ := h1
 obtain ⟨x2, y2, e2, h2, r2⟩ := r1
 obtain ⟨b2, w2⟩ := h2
 have qb2 := trivial
 obtain ⟨x3, y3, e3, h3, r3⟩ := r2
 obtain ⟨z3, w3, qz3, -⟩ := z2J h3
 obtain ⟨x4, y4, e4, h4, r4⟩ := r3
 obtain ⟨z4, w4, qz4⟩ := h4
 obtain ⟨x5, y5, e5, h5, r5⟩ := r4
 obtain ⟨z5, w5, qz5⟩ := h5
 obtain ⟨x6, y6, e6, h6, r6⟩ := r5
 obtain ⟨z6, w6, qz6⟩ := h6
 obtain ⟨x7, y7, e7, h7, r7⟩ := r6
 obtain ⟨n7, w7, qn7⟩ := h7
 obtain ⟨x8, y8, e8, h8, r8⟩ := r7
 obtain ⟨b8, w8⟩ := h8
 have qb8 := trivial
 obtain ⟨x9, y9, e9, h9, r9⟩ := r8
 obtain ⟨z9, w9, qz9⟩ := h9
 obtain ⟨x10, y10, e10, h10, r10⟩ := r9
 obtain ⟨z10, w10, qz10⟩ := h10
 have rz : y10 = [] := r10
 refine ⟨n0, n1, b2, z3, z4, z5, z6, n7, b8, z9, z10, ?_, qn0, qn1, qb2, qz3, qz4, qz5, qz6, qn7, qb8, qz9, qz10, trivial⟩
 rw [e0, e1, e2, e3, e4, e5, e6, e7, e8, e9, e10, rz, w0, w1, w2, w3, w4, w5, w6, w7, w8, w9, w10]; rfl
theorem z97 {N : Nat} {n0 : Int} {n1 : Int} {b2 : Bool} {z3 : List (List T)} {z4 : List (List T)} {z5 : List (List T)} {z6 : List (List T)} {n7 : Int} {b8 : Bool} {z9 : List (List T)} {z10 : List (List T)} (qn0 : (-9223372036854775808 ≤ n0 ∧ n0 ≤ 9223372036854775807)) (qn1 : (-9223372036854775808 ≤ n1 ∧ n1 ≤ 9223372036854775807)) (qb2 : True) (qz3 : (z3.length ≤ N ∧ ∀ e ∈ z3, Fits N z0D e)) (qz4 : (z4.length ≤ N ∧ ∀ e ∈ z4, Fits N .str e)) (qz5 : (z5.length ≤ N ∧ ∀ e ∈ z5, Fits N z0K e)) (qz6 : (z6.length ≤ N ∧ ∀ e ∈ z6, Fits N .int e)) (qn7 : (-9223372036854775808 ≤ n7 ∧ n7 ≤ 9223372036854775807)) (qb8 : True) (qz9 : (z9.length ≤ N ∧ ∀ e ∈ z9, Fits N .str e)) (qz10 : (z10.length ≤ N ∧ ∀ e ∈ z10, Fits N .bool e)) : Fits N z0Q [.int .i64 n0, .int .i64 n1, .bool b2, .sl 3 z3, .sl 1 z4, .sl 8 z5, .sl 1 z6, .int .i64 n7, .bool b8, .sl 1 z9, .sl 1 z10] := ⟨_, _, rfl, ⟨_, rfl, qn0⟩, ⟨_, _, rfl, ⟨_, rfl, qn1⟩, ⟨_, _, rfl, ⟨_, rfl⟩, ⟨_, _, rfl, z5H qz3, ⟨_, _, rfl, ⟨_, rfl, qz4⟩, ⟨_, _, rfl, ⟨_, rfl, qz5⟩, ⟨_, _, rfl, ⟨_, rfl, qz6⟩, ⟨_, _, rfl, ⟨_, rfl, qn7⟩, ⟨_, _, rfl, ⟨_, rfl⟩, ⟨_, _, rfl, ⟨_, rfl, qz9⟩, ⟨_, _, rfl, ⟨_, rfl, qz10⟩, rfl⟩⟩⟩⟩⟩⟩⟩⟩⟩⟩⟩
def z57 : Shp := .two z0Q (.two (.sl 11 z2l) (.two (.sl 1 .str) (.two (.sl 1 .int) .nop)))
theorem zex {N : Nat} {e : List T} (h : Fits N z57 e) : ∃ (n0 : Int) (n1 : Int) (b2 : Bool) (z3 : List (List T)) (z4 : List (List T)) (z5 : List (List T)) (z6 : List (List T)) (n7 : Int) (b8 : Bool) (z9 : List (List T)) (z10 : List (List T)) (z11 : List (List T)) (z12 : List (List T)) (z13 : List (List T)), e = [.int .i64 n0, .int .i64 n1, .bool b2, .sl 3 z3, .sl 1 z4, .sl 8 z5, .sl 1 z6, .int .i64 n7, .bool b8, .sl 1 z9, .sl 1 z10, .sl 11 z11, .sl 1 z12, .sl 1 z13] ∧ (-9223372036854775808 ≤ n0 ∧ n0 ≤ 9223372036854775807) ∧ (-9223372036854775808 ≤ n1 ∧ n1 ≤ 9223372036854775807) ∧ True ∧ (z3.length ≤ N ∧ ∀ e ∈ z3, Fits N z0D e) ∧ (z4.length ≤ N ∧ ∀ e ∈ z4, Fits N .str e) ∧ (z5.length ≤ N ∧ ∀ e ∈ z5, Fits N z0K e) ∧ (z6.length ≤ N ∧ ∀ e ∈ z6, Fits N .int e) ∧ (-9223372036854775808 ≤ n7 ∧ n7 ≤ 9223372036854775807) ∧ True ∧ (z9.length ≤ N ∧ ∀ e ∈ z9, Fits N .str e) ∧ (z10.length ≤ N ∧ ∀ e ∈ z10, Fits N .bool e) ∧ (z11.length ≤ N ∧ ∀ e ∈ z11, Fits N z2l e) ∧ (z12.length ≤ N ∧ ∀ e ∈ z12, Fits N .str e) ∧ (z13.length ≤ N ∧ ∀ e ∈ z13, Fits N .int e) ∧ True := by
 obtain ⟨x0, y0, e0, h0, r0⟩ := h
 obtain ⟨n0, n1, b2, z3, z4, z5, z6, n7, b8, z9, z10, w0, qn0, qn1, qb2, qz3, qz4, qz5, qz6, qn7, qb8, qz9, qz10, -⟩ := z28 h0
 obtain ⟨x1, y1, e1, h1, r1⟩ := r0
 obtain ⟨z11, w1, qz11⟩ := h1
 obtain ⟨x2, y2, e2, h2, r2⟩ := r1
 obtain ⟨z12, w2, qz12⟩ := h2
 obtain ⟨x3, y3, e3, h3, r3⟩ := r2
 obtain ⟨z13, w3, qz13⟩ := h3
 have rz : y3 = [] := r3
 refine ⟨n0, n1, b2, z3, z4, z5, z6, n7, b8, z9, z10, z11, z12, z13, ?_, qn0, qn1, qb2, qz3, qz4, qz5, qz6, qn7, qb8, qz9, qz10, qz11, qz12, qz13, trivial⟩
 rw [e0, e1, e2, e3, rz, w0, w1, w2, w3]; rfl
theorem zdx {N : Nat} {n0 : Int} {n1 : Int} {b2 : Bool} {z3 : List (List T)} {z4 : List (List T)} {z5 : List (List T)} {z6 : List (List T)} {n7 : Int} {b8 : Bool} {z9 : List (List T)} {z10 : List (List T)} {z11 : List (List T)} {z12 : List (List T)} {z13 : List (List T)} (qn0 : (-9223372036854775808 ≤ n0 ∧ n0 ≤ 9223372036854775807)) (qn1 : (-9223372036854775808 ≤ n1 ∧ n1 ≤ 9223372036854775807)) (qb2 : True) (qz3 : (z3.length ≤ N ∧ ∀ e ∈ z3, Fits N z0D e)) (qz4 : (z4.length ≤ N ∧ ∀ e ∈ z4, Fits N .str e)) (qz5 : (z5.length ≤ N ∧ ∀ e ∈ z5, Fits N z0K e)) (qz6 : (z6.length ≤ N ∧ ∀ e ∈ z6, Fits N .int e)) (qn7 : (-9223372036854775808 ≤ n7 ∧ n7 ≤ 9223372036854775807)) (qb8 : True) (qz9 : (z9.length ≤ N ∧ ∀ e ∈ z9, Fits N .str e)) (qz10 : (z10.length ≤ N ∧ ∀ e ∈ z10, Fits N .bool e)) (qz11 : (z11.length ≤ N ∧ ∀ e ∈ z11, Fits N z2l e)) (qz12 : (z12.length ≤ N ∧ ∀ e ∈ z12, Fits N .str e)) (qz13 : (z13.length ≤ N ∧ ∀ e ∈ z13, Fits N .int e)) : Fits N z57 [.int .i64 n0, .int .i64 n1, .bool b2, .sl 3 z3, .sl 1 z4, .sl 8 z5, .sl 1 z6, .int .i64 n7, .bool b8, .sl 1 z9, .sl 1 z10, .sl 11 z11, .sl 1 z12, .sl 1 z13] := ⟨_, _, rfl, z97 qn0 qn1 qb2 qz3 qz4 qz5 qz6 qn7 qb8 qz9 qz10, ⟨_, _, rfl, ⟨_, rfl, qz11⟩, ⟨_, _, rfl, ⟨_, rfl, qz12⟩, ⟨_, _, rfl, ⟨_, rfl, qz13⟩, rfl⟩⟩⟩⟩
end Go.Proofs.YtnhcfmmdaihneaaGreatDoor
