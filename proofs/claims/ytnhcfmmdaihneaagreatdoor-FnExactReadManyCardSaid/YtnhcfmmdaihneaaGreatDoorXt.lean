/- What a contract by content says of a call from outside. What a call is told of an argument that holds structs, strings and slices: its content, by its shape. The types that the exact laws copy and compare, and their shapes. -/
import Derived.Test.YtnhcfmmdaihneaaGreatDoorVd
import Derived.Test.YtnhcfmmdaihneaaGreatDoorFa
import Derived.ChangeOld
namespace Go.Proofs.YtnhcfmmdaihneaaGreatDoor
set_option linter.unusedVariables false
set_option linter.unusedSimpArgs false
set_option linter.unusedSectionVars false
open Go.RowKit Pl
def cx0 (w : World) : Cx := { H := idxE [], ow := fun _ => none, w := w, us := fun i => i < 1, iw := fun _ => 0 }
theorem zcU (w : World) (hg : Gl (cx0 w)) : HR (cx0 w) where
 gl := hg
 inj := fun g g' r h _ _ => absurd (by simp [cx0, idxE]) h
 lt := fun g r h => by cases h
 node := fun r e h => by have : idxE [] r = some e := h; simp [idxE] at this
 zero := rfl
 pos := by show 0 < 1; omega
 inn := fun g h => absurd rfl h
theorem zdH {P : Program} {f : FuncId} {ts : List T} (h : CT P f [] ts (.bool true) []) (w : World) (hg : Gl (cx0 w)) {vs : List Value} (ha : Args (cx0 w) ts vs) :
 Calls P f vs.toArray w fun e w' => e = .returned (.bool true) ∧ Below w.heap.size w w' := by
 refine (h.2 (cx0 w) (zcU w hg) rfl rfl vs ha).mono ?_
 rintro e w' ⟨v, X', rfl, rfl, _, _, _, hv, hs⟩
 have hv : v = .bool true := by simpa only [RS, RS1, RS0, RV] using hv
 subst hv
 exact ⟨rfl, ⟨hs.os, hs.tape, hs.output, hs.size, fun k hk => (hs.stab k hk rfl).2⟩⟩
theorem z9U (w : World) (s : ByteArray) : RS (cx0 w) (.str s.data.toList) (.string s) := by
 have := z2p (cx0 w) s.data.toList
 rwa [z5B] at this
theorem zdI (w : World) (k : IntKind) (n : Int) : RS (cx0 w) (.int k n) (.int k n) := z13 _ _ _
end Go.Proofs.YtnhcfmmdaihneaaGreatDoor
namespace Go.Proofs.YtnhcfmmdaihneaaGreatDoor
set_option linter.unusedVariables false
set_option linter.unusedSimpArgs false
set_option linter.unusedSectionVars false
open Go.RowKit Pl
inductive Shp where
 | int | bool | str | nop
 | sl (k : Nat) (s : Shp)
 | two (a b : Shp)
def Shp.wd : Shp → Nat
 | .nop => 0
 | .two a b => a.wd + b.wd
 | _ => 1
def Fits (N : Nat) : Shp → List T → Prop
 | .int, ts => ∃ n, ts = [.int .i64 n] ∧ -9223372036854775808 ≤ n ∧ n ≤ 9223372036854775807
 | .bool, ts => ∃ b, ts = [.bool b]
 | .str, ts => ∃ l : Bs, ts = [.str l] ∧ l.length ≤ N
 | .nop, ts => ts = []
 | .sl k s, ts => ∃ es, ts = [.sl k es] ∧ es.length ≤ N ∧ ∀ e ∈ es, Fits N s e
 | .two a b, ts => ∃ x y, ts = x ++ y ∧ Fits N a x ∧ Fits N b y
theorem Fits.len {N : Nat} : ∀ {s : Shp} {ts : List T}, Fits N s ts → ts.length = s.wd
 | .int, _, h => by obtain ⟨n, rfl, _⟩ := h; rfl
 | .bool, _, h => by obtain ⟨n, rfl⟩ := h; rfl
 | .str, _, h => by obtain ⟨n, rfl, _⟩ := h; rfl
 | .nop, _, h => by subst h; rfl
 | .sl k s, _, h => by obtain ⟨n, rfl, _⟩ := h; rfl
 | .two a b, _, h => by
   obtain ⟨x, y, rfl, h1, h2⟩ := h
   rw [List.length_append, h1.len, h2.len]; rfl
mutual
inductive TOk (P : Program) : TypeId → Shp → Prop
 | int {t} : P.underlying t = some (.int .i64) → TOk P t .int
 | bool {t} : P.underlying t = some .bool → TOk P t .bool
 | str {t} : P.underlying t = some .string → TOk P t .str
 | sl {t e k s} : P.underlying t = some (.slice e) → P.cellsOf e = k → s.wd = k → 0 < k → TOk P e s → TOk P t (.sl k s)
 | st {t fs s} : P.underlying t = some (.struct fs) → P.cellsOf t = s.wd → FOk P (fs.toList.map fun f => (f.type, f.offset)) 0 s → TOk P t s
inductive FOk (P : Program) : List (TypeId × Nat) → Nat → Shp → Prop
 | nil {o} : FOk P [] o .nop
 | cons {t fs o a b} : P.cellsOf t = a.wd → TOk P t a → FOk P fs (o + a.wd) b → FOk P ((t, o) :: fs) o (.two a b)
end
section
variable {H : Type} {enc : TypeId × Value → H} {P : Program} {w : World}
end
end Go.Proofs.YtnhcfmmdaihneaaGreatDoor
namespace Go.Proofs.YtnhcfmmdaihneaaGreatDoor
set_option linter.unusedVariables false
set_option linter.unusedSimpArgs false
set_option linter.unusedSectionVars false
open Go.RowKit Pl
def exE : List (Nat × Ty) := [
 (151, ⟨3, 40, [.str [], .str [], .int .i64 0], .struct [(0, 9), (1, 9), (2, 3)], true⟩),
 (33, ⟨1, 24, [.val nilV], .struct [(0, 31)], false⟩),
 (170, ⟨4, 48, [.int .i64 0, .int .i64 0, .str [], .str []], .struct [(0, 3), (1, 3), (2, 9), (3, 9)], true⟩),
 (171, ⟨4, 80, [.int .i64 0, .val nilV, .val nilV, .val nilV], .struct [(0, 3), (1, 22), (2, 22), (3, 22)], false⟩),
 (173, ⟨8, 128, [.int .i64 0, .int .i64 0, .str [], .str [], .int .i64 0, .val nilV, .val nilV, .val nilV], .struct [(0, 170), (4, 171)], false⟩),
 (52, ⟨11, 184, [.int .i64 0, .int .i64 0, .bool false, .val nilV, .val nilV, .val nilV, .val nilV, .int .i64 0, .bool false, .val nilV, .val nilV], .struct [(0, 3), (1, 3), (2, 4), (3, 33), (4, 22), (5, 50), (6, 39), (7, 3), (8, 4), (9, 22), (10, 40)], false⟩),
 (31, tySl 151),
 (22, tySl 9),
 (39, tySl 3),
 (50, tySl 173),
 (40, tySl 4),
 (193, ⟨2, 32, [.str [], .str []], .struct [(0, 9), (1, 9)], true⟩),
 (226, ⟨3, 40, [.int .i64 0, .str [], .str []], .struct [(0, 3), (1, 9), (2, 9)], true⟩),
 (118, ⟨3, 24, [.int .i64 0, .int .i64 0, .int .i64 0], .struct [(0, 3), (1, 3), (2, 3)], true⟩),
 (157, ⟨3, 40, [.str [], .str [], .int .i64 0], .struct [(0, 9), (1, 9), (2, 3)], true⟩),
 (37, ⟨1, 24, [.val nilV], .struct [(0, 35)], false⟩),
 (163, ⟨4, 48, [.int .i64 0, .int .i64 0, .str [], .str []], .struct [(0, 3), (1, 3), (2, 9), (3, 9)], true⟩),
 (165, ⟨4, 80, [.int .i64 0, .val nilV, .val nilV, .val nilV], .struct [(0, 3), (1, 22), (2, 22), (3, 22)], false⟩),
 (167, ⟨8, 128, [.int .i64 0, .int .i64 0, .str [], .str [], .int .i64 0, .val nilV, .val nilV, .val nilV], .struct [(0, 163), (4, 165)], false⟩),
 (188, ⟨5, 88, [.int .i64 0, .int .i64 0, .val nilV, .val nilV, .val nilV], .struct [(0, 3), (1, 165)], false⟩),
 (238, ⟨16, 256, [.int .i64 0, .int .i64 0, .str [], .str [], .int .i64 0, .val nilV, .val nilV, .val nilV, .int .i64 0, .int .i64 0, .str [], .str [], .int .i64 0, .val nilV, .val nilV, .val nilV], .struct [(0, 167), (8, 167)], false⟩),
 (120, ⟨11, 152, [.int .i64 0, .int .i64 0, .bool false, .val nilV, .int .i64 0, .val nilV, .val nilV, .val nilV, .int .i64 0, .int .i64 0, .int .i64 0], .struct [(0, 3), (1, 3), (2, 4), (3, 37), (4, 3), (5, 23), (6, 39), (7, 116), (8, 118)], false⟩),
 (42, ⟨11, 184, [.int .i64 0, .int .i64 0, .bool false, .val nilV, .val nilV, .val nilV, .val nilV, .int .i64 0, .bool false, .val nilV, .val nilV], .struct [(0, 3), (1, 3), (2, 4), (3, 37), (4, 22), (5, 38), (6, 39), (7, 3), (8, 4), (9, 22), (10, 40)], false⟩),
 (59, ⟨14, 256, [.int .i64 0, .int .i64 0, .bool false, .val nilV, .val nilV, .val nilV, .val nilV, .int .i64 0, .bool false, .val nilV, .val nilV, .val nilV, .val nilV, .val nilV], .struct [(0, 42), (11, 57), (12, 22), (13, 39)], false⟩),
 (126, ⟨6, 112, [.int .i64 0, .bool false, .val nilV, .val nilV, .val nilV, .val nilV], .struct [(0, 3), (1, 4), (2, 37), (3, 22), (4, 38), (5, 124)], false⟩),
 (185, ⟨2, 24, [.int .i64 0, .str []], .struct [(0, 3), (1, 9)], true⟩),
 (190, ⟨7, 104, [.int .i64 0, .int .i64 0, .int .i64 0, .int .i64 0, .val nilV, .val nilV, .val nilV], .struct [(0, 3), (1, 3), (2, 188)], false⟩),
 (70, ⟨6, 144, [.val nilV, .val nilV, .val nilV, .val nilV, .val nilV, .val nilV], .struct [(0, 65), (1, 66), (2, 67), (3, 68), (4, 40), (5, 39)], false⟩),
 (35, tySl 157),
 (23, tySl 80),
 (80, tySl 193),
 (116, tySl 226),
 (38, tySl 167),
 (213, tySl 163),
 (57, tySl 120),
 (124, tySl 238),
 (65, tySl 59),
 (66, tySl 126),
 (67, tySl 185),
 (68, tySl 190),
 (3, zdu)]
set_option maxRecDepth 100000 in
set_option maxHeartbeats 8000000 in
theorem zbg : ∀ p ∈ exE, TyOk Tryz.prog p.1 p.2 := by
 simp only [exE, List.forall_mem_cons]
 repeat' (refine And.intro ?_ ?_)
 all_goals first
  | exact (fun _ h => by cases h)
  | exact ⟨⟨_, _, rfl, rfl, rfl, rfl, rfl⟩, ⟨_, rfl, rfl⟩, rfl, rfl, fun h => (Bool.false_ne_true h).elim⟩
  | (refine ⟨⟨_, _, rfl, rfl, rfl, rfl, rfl⟩, ⟨_, rfl, rfl⟩, rfl, rfl, fun _ => ⟨by kernel_rfl, by kernel_rfl, _, rfl, z8r ?_⟩⟩
     repeat (first | exact rfl | (refine And.intro (by decide) (And.intro rfl (And.intro rfl ?_)))))
def ttLE : List (Nat × Ty) := ttL ++ exE
def ttE : TT := lk ttLE
theorem z1j : TtOk Tryz.prog ttE := fun t y h => by
 have hm : (t, y) ∈ ttLE := z18 h
 rcases List.mem_append.1 hm with h | h
 ·exact z90 (t, y) h
 ·exact zbg (t, y) h
def z2x : Shp := .two .str (.two .str .nop)
theorem z7o {N : Nat} {e : List T} (h : Fits N z2x e) : ∃ (s0 : Bs) (s1 : Bs), e = [.str s0, .str s1] ∧ s0.length ≤ N ∧ s1.length ≤ N ∧ True := by
 obtain ⟨x0, y0, e0, h0, r0⟩ := h
 obtain ⟨s0, w0, qs0⟩ := h0
 obtain ⟨x1, y1, e1, h1, r1⟩ := r0
 obtain ⟨s1, w1, qs1⟩ := h1
 have rz : y1 = [] := r1
 refine ⟨s0, s1, ?_, qs0, qs1, trivial⟩
 rw [e0, e1, rz, w0, w1]; rfl
theorem zdL {N : Nat} {s0 : Bs} {s1 : Bs} (qs0 : s0.length ≤ N) (qs1 : s1.length ≤ N) : Fits N z2x [.str s0, .str s1] := ⟨_, _, rfl, ⟨_, rfl, qs0⟩, ⟨_, _, rfl, ⟨_, rfl, qs1⟩, rfl⟩⟩
end Go.Proofs.YtnhcfmmdaihneaaGreatDoor
