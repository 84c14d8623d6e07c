/- What a contract by content says of a call from outside. What a call is told of an argument that holds structs, strings and slices: its content, by its shape. The types that the exact laws copy and compare, and their shapes. -/
import Derived.Test.YtnhcfmmdaihneaaVd
import Derived.Test.YtnhcfmmdaihneaaFa
import Derived.ChangeOld
namespace Go.Proofs.Ytnhcfmmdaihneaa
set_option linter.unusedVariables false
set_option linter.unusedSimpArgs false
set_option linter.unusedSectionVars false
open Go.RowKit Pl
def cx0 (w : World) : Cx := { H := idxE [], ow := fun _ => none, w := w, us := fun i => i < 1, iw := fun _ => 0 }
theorem cx0_hr (w : World) (hg : Gl (cx0 w)) : HR (cx0 w) where
 gl := hg
 inj := fun g g' r h _ _ => absurd (by simp [cx0, idxE]) h
 lt := fun g r h => by cases h
 node := fun r e h => by have : idxE [] r = some e := h; simp [idxE] at this
 zero := rfl
 pos := by show 0 < 1; omega
 inn := fun g h => absurd rfl h
theorem zd2 {P : Program} {f : FuncId} {ts : List T} (h : CT P f [] ts (.bool true) []) (w : World) (hg : Gl (cx0 w)) {vs : List Value} (ha : Args (cx0 w) ts vs) :
 Calls P f vs.toArray w fun e w' => e = .returned (.bool true) ∧ Below w.heap.size w w' := by
 refine (h.2 (cx0 w) (cx0_hr w hg) rfl rfl vs ha).mono ?_
 rintro e w' ⟨v, X', rfl, rfl, _, _, _, hv, hs⟩
 have hv : v = .bool true := by simpa only [RS, RS1, RS0, RV] using hv
 subst hv
 exact ⟨rfl, ⟨hs.os, hs.tape, hs.output, hs.size, fun k hk => (hs.stab k hk rfl).2⟩⟩
theorem z9v (w : World) (s : ByteArray) : RS (cx0 w) (.str s.data.toList) (.string s) := by
 have := z2x (cx0 w) s.data.toList
 rwa [z5w] at this
end Go.Proofs.Ytnhcfmmdaihneaa
namespace Go.Proofs.Ytnhcfmmdaihneaa
set_option linter.unusedVariables false
set_option linter.unusedSimpArgs false
set_option linter.unusedSectionVars false
open Go.RowKit Pl
inductive Shp where
 | int | bool | str | nop
 | sl (k : Nat) (s : Shp)
 | two (a b : Shp)
def Shp.wd : Shp → Nat
 | .nop => 0
 | .two a b => a.wd + b.wd
 | _ => 1
def Fits (N : Nat) : Shp → List T → Prop
 | .int, ts => ∃ n, ts = [.int .i64 n] ∧ -9223372036854775808 ≤ n ∧ n ≤ 9223372036854775807
 | .bool, ts => ∃ b, ts = [.bool b]
 | .str, ts => ∃ l : Bs, ts = [.str l] ∧ l.length ≤ N
 | .nop, ts => ts = []
 | .sl k s, ts => ∃ es, ts = [.sl k es] ∧ es.length ≤ N ∧ ∀ e ∈ es, Fits N s e
 | .two a b, ts => ∃ x y, ts = x ++ y ∧ Fits N a x ∧ Fits N b y
theorem Fits.len {N : Nat} : ∀ {s : Shp} {ts : List T}, Fits N s ts → ts.length = s.wd
 | .int, _, h => by obtain ⟨n, rfl, _⟩ := h; rfl
 | .bool, _, h => by obtain ⟨n, rfl⟩ := h; rfl
 | .str, _, h => by obtain ⟨n, rfl, _⟩ := h; rfl
 | .nop, _, h => by subst h; rfl
 | .sl k s, _, h => by obtain ⟨n, rfl, _⟩ := h; rfl
 | .two a b, _, h => by
   obtain ⟨x, y, rfl, h1, h2⟩ := h
   rw [List.length_append, h1.len, h2.len]; rfl
mutual
inductive TOk (P : Program) : TypeId → Shp → Prop
 | int {t} : P.underlying t = some (.int .i64) → TOk P t .int
 | bool {t} : P.underlying t = some .bool → TOk P t .bool
 | str {t} : P.underlying t = some .string → TOk P t .str
 | sl {t e k s} : P.underlying t = some (.slice e) → P.cellsOf e = k → s.wd = k → 0 < k → TOk P e s → TOk P t (.sl k s)
 | st {t fs s} : P.underlying t = some (.struct fs) → P.cellsOf t = s.wd → FOk P (fs.toList.map fun f => (f.type, f.offset)) 0 s → TOk P t s
inductive FOk (P : Program) : List (TypeId × Nat) → Nat → Shp → Prop
 | nil {o} : FOk P [] o .nop
 | cons {t fs o a b} : P.cellsOf t = a.wd → TOk P t a → FOk P fs (o + a.wd) b → FOk P ((t, o) :: fs) o (.two a b)
end
section
variable {H : Type} {enc : TypeId × Value → H} {P : Program} {w : World}
end
end Go.Proofs.Ytnhcfmmdaihneaa
namespace Go.Proofs.Ytnhcfmmdaihneaa
set_option linter.unusedVariables false
set_option linter.unusedSimpArgs false
set_option linter.unusedSectionVars false
open Go.RowKit Pl
def exE : List (Nat × Ty) := [
 (23, tySl 9),
 (99, ⟨2, 32, [.str [], .str []], .struct [(0, 9), (1, 9)], true⟩),
 (27, ⟨4, 48, [.int .i64 0, .int .i64 0, .str [], .str []], .struct [(0, 3), (1, 3), (2, 9), (3, 9)], true⟩),
 (29, ⟨4, 80, [.int .i64 0, .val nilV, .val nilV, .val nilV], .struct [(0, 3), (1, 23), (2, 23), (3, 23)], false⟩),
 (31, ⟨8, 128, [.int .i64 0, .int .i64 0, .str [], .str [], .int .i64 0, .val nilV, .val nilV, .val nilV], .struct [(0, 27), (4, 29)], false⟩),
 (53, ⟨5, 88, [.int .i64 0, .int .i64 0, .val nilV, .val nilV, .val nilV], .struct [(0, 3), (1, 29)], false⟩),
 (22, tySl 99),
 (3, zcM)]
set_option maxRecDepth 100000 in
set_option maxHeartbeats 8000000 in
theorem zd3 : ∀ p ∈ exE, TyOk Try.prog p.1 p.2 := by
 simp only [exE, List.forall_mem_cons]
 repeat' (refine And.intro ?_ ?_)
 all_goals first
  | exact (fun _ h => by cases h)
  | exact ⟨⟨_, _, rfl, rfl, rfl, rfl, rfl⟩, ⟨_, rfl, rfl⟩, rfl, rfl, fun h => (Bool.false_ne_true h).elim⟩
  | (refine ⟨⟨_, _, rfl, rfl, rfl, rfl, rfl⟩, ⟨_, rfl, rfl⟩, rfl, rfl, fun _ => ⟨by kernel_rfl, by kernel_rfl, _, rfl, z5z ?_⟩⟩
     repeat (first | exact rfl | (refine And.intro (by decide) (And.intro rfl (And.intro rfl ?_)))))
def ttLE : List (Nat × Ty) := ttL ++ exE
def ttE : TT := lk ttLE
theorem z0j : TtOk Try.prog ttE := fun t y h => by
 have hm : (t, y) ∈ ttLE := z1n h
 rcases List.mem_append.1 hm with h | h
 ·exact zap (t, y) h
 ·exact zd3 (t, y) h
def z37 : Shp := .two .str (.two .str .nop)
theorem z77 {N : Nat} {e : List T} (h : Fits N z37 e) : ∃ (s0 : Bs) (s1 : Bs), e = [.str s0, .str s1] ∧ s0.length ≤ N ∧ s1.length ≤ N ∧ True := by
 obtain ⟨x0, y0, e0, h0, r0⟩ := h
 obtain ⟨s0, w0, qs0⟩ := h0
 obtain ⟨x1, y1, e1, h1, r1⟩ := r0
 obtain ⟨s1, w1, qs1⟩ := h1
 have rz : y1 = [] := r1
 refine ⟨s0, s1, ?_, qs0, qs1, trivial⟩
 rw [e0, e1, rz, w0, w1]; rfl
theorem zd4 {N : Nat} {s0 : Bs} {s1 : Bs} (qs0 : s0.length ≤ N) (qs1 : s1.length ≤ N) : Fits N z37 [.str s0, .str s1] := ⟨_, _, rfl, ⟨_, rfl, qs0⟩, ⟨_, _, rfl, ⟨_, rfl, qs1⟩, rfl⟩⟩
def z67 : Shp := .two .int (.two .int (.two .str (.two .str .nop)))
theorem z78 {N : Nat} {e : List T} (h : Fits N z67 e) : ∃ (n0 : Int) (n1 : Int) (s2 : Bs) (s3 : Bs), e = [.int .i64 n0, .int .i64 n1, .str s2, .str s3] ∧ (-9223372036854775808 ≤ n0 ∧ n0 ≤ 9223372036854775807) ∧ (-9223372036854775808 ≤ n1 ∧ n1 ≤ 9223372036854775807) ∧ s2.length ≤ N ∧ s3.length ≤ N ∧ True := by
 obtain ⟨x0, y0, e0, h0, r0⟩ := h
 obtain ⟨n0, w0, qn0⟩ := h0
 obtain ⟨x1, y1, e1, h1, r1⟩ := r0
 obtain ⟨n1, w1, qn1⟩ := h1
 obtain ⟨x2, y2, e2, h2, r2⟩ := r1
 obtain ⟨s2, w2, qs2⟩ := h2
 obtain ⟨x3, y3, e3, h3, r3⟩ := r2
 obtain ⟨s3, w3, qs3⟩ := h3
 have rz : y3 = [] := r3
 refine ⟨n0, n1, s2, s3, ?_, qn0, qn1, qs2, qs3, trivial⟩
 rw [e0, e1, e2, e3, rz, w0, w1, w2, w3]; rfl
theorem zaL {N : Nat} {n0 : Int} {n1 : Int} {s2 : Bs} {s3 : Bs} (qn0 : (-9223372036854775808 ≤ n0 ∧ n0 ≤ 9223372036854775807)) (qn1 : (-9223372036854775808 ≤ n1 ∧ n1 ≤ 9223372036854775807)) (qs2 : s2.length ≤ N) (qs3 : s3.length ≤ N) : Fits N z67 [.int .i64 n0, .int .i64 n1, .str s2, .str s3] := ⟨_, _, rfl, ⟨_, rfl, qn0⟩, ⟨_, _, rfl, ⟨_, rfl, qn1⟩, ⟨_, _, rfl, ⟨_, rfl, qs2⟩, ⟨_, _, rfl, ⟨_, rfl, qs3⟩, rfl⟩⟩⟩⟩
def z79 : Shp := .two .int (.two (.sl 1 .str) (.two (.sl 1 .str) (.two (.sl 1 .str) .nop)))
theorem z68 {N : Nat} {e : List T} (h : Fits N z79 e) : ∃ (n0 : Int) (z1 : List (List T)) (z2 : List (List T)) (z3 : List (List T)), e = [.int .i64 n0, .sl 1 z1, .sl 1 z2, .sl 1 z3] ∧ (-9223372036854775808 ≤ n0 ∧ n0 ≤ 9223372036854775807) ∧ (z1.length ≤ N ∧ ∀ e ∈ z1, Fits N .str e) ∧ (z2.length ≤ N ∧ ∀ e ∈ z2, Fits N .str e) ∧ (z3.length ≤ N ∧ ∀ e ∈ z3, Fits N .str e) ∧ True := by
 obtain ⟨x0, y0, e0, h0, r0⟩ := h
 obtain ⟨n0, w0, qn0⟩ := h0
 obtain ⟨x1, y1, e1, h1, r1⟩ := r0
 obtain ⟨z1, w1, qz1⟩ := h1
 obtain ⟨x2, y2, e2, h2, r2⟩ := r1
 obtain ⟨z2, w2, qz2⟩ := h2
 obtain ⟨x3, y3, e3, h3, r3⟩ := r2
 obtain ⟨z3, w3, qz3⟩ := h3
 have rz : y3 = [] := r3
 refine ⟨n0, z1, z2, z3, ?_, qn0, qz1, qz2, qz3, trivial⟩
 rw [e0, e1, e2, e3, rz, w0, w1, w2, w3]; rfl
theorem z8U {N : Nat} {n0 : Int} {z1 : List (List T)} {z2 : List (List T)} {z3 : List (List T)} (qn0 : (-9223372036854775808 ≤ n0 ∧ n0 ≤ 9223372036854775807)) (qz1 : (z1.length ≤ N ∧ ∀ e ∈ z1, Fits N .str e)) (qz2 : (z2.length ≤ N ∧ ∀ e ∈ z2, Fits N .str e)) (qz3 : (z3.length ≤ N ∧ ∀ e ∈ z3, Fits N .str e)) : Fits N z79 [.int .i64 n0, .sl 1 z1, .sl 1 z2, .sl 1 z3] := ⟨_, _, rfl, ⟨_, rfl, qn0⟩, ⟨_, _, rfl, ⟨_, rfl, qz1⟩, ⟨_, _, rfl, ⟨_, rfl, qz2⟩, ⟨_, _, rfl, ⟨_, rfl, qz3⟩, rfl⟩⟩⟩⟩
def z4I : Shp := .two z67 (.two z79 .nop)
theorem zaM {N : Nat} {e : List T} (h : Fits N z4I e) : ∃ (n0 : Int) (n1 : Int) (s2 : Bs) (s3 : Bs) (n4 : Int) (z5 : List (List T)) (z6 : List (List T)) (z7 : List (List T)), e = [.int .i64 n0, .int .i64 n1, .str s2, .str s3, .int .i64 n4, .sl 1 z5, .sl 1 z6, .sl 1 z7] ∧ (-9223372036854775808 ≤ n0 ∧ n0 ≤ 9223372036854775807) ∧ (-9223372036854775808 ≤ n1 ∧ n1 ≤ 9223372036854775807) ∧ s2.length ≤ N ∧ s3.length ≤ N ∧ (-9223372036854775808 ≤ n4 ∧ n4 ≤ 9223372036854775807) ∧ (z5.length ≤ N ∧ ∀ e ∈ z5, Fits N .str e) ∧ (z6.length ≤ N ∧ ∀ e ∈ z6, Fits N .str e) ∧ (z7.length ≤ N ∧ ∀ e ∈ z7, Fits N .str e) ∧ True := by
 obtain ⟨x0, y0, e0, h0, r0⟩ := h
 obtain ⟨n0, n1, s2, s3, w0, qn0, qn1, qs2, qs3, -⟩ := z78 h0
 obtain ⟨x1, y1, e1, h1, r1⟩ := r0
 obtain ⟨n4, z5, z6, z7, w1, qn4, qz5, qz6, qz7, -⟩ := z68 h1
 have rz : y1 = [] := r1
 refine ⟨n0, n1, s2, s3, n4, z5, z6, z7, ?_, qn0, qn1, qs2, qs3, qn4, qz5, qz6, qz7, trivial⟩
 rw [e0, e1, rz, w0, w1]; rfl
theorem zaN {N : Nat} {n0 : Int} {n1 : Int} {s2 : Bs} {s3 : Bs} {n4 : Int} {z5 : List (List T)} {z6 : List (List T)} {z7 : List (List T)} (qn0 : (-9223372036854775808 ≤ n0 ∧ n0 ≤ 9223372036854775807)) (qn1 : (-9223372036854775808 ≤ n1 ∧ n1 ≤ 9223372036854775807)) (qs2 : s2.length ≤ N) (qs3 : s3.length ≤ N) (qn4 : (-9223372036854775808 ≤ n4 ∧ n4 ≤ 9223372036854775807)) (qz5 : (z5.length ≤ N ∧ ∀ e ∈ z5, Fits N .str e)) (qz6 : (z6.length ≤ N ∧ ∀ e ∈ z6, Fits N .str e)) (qz7 : (z7.length ≤ N ∧ ∀ e ∈ z7, Fits N .str e)) : Fits N z4I [.int .i64 n0, .int .i64 n1, .str s2, .str s3, .int .i64 n4, .sl 1 z5, .sl 1 z6, .sl 1 z7] := ⟨_, _, rfl, zaL qn0 qn1 qs2 qs3, ⟨_, _, rfl, z8U qn4 qz5 qz6 qz7, rfl⟩⟩
def z2N : Shp := .two .int (.two z79 .nop)
theorem z5o {N : Nat} {e : List T} (h : Fits N z2N e) : ∃ (n0 : Int) (n1 : Int) (z2 : List (List T)) (z3 : List (List T)) (z4 : List (List T)), e = [.int .i64 n0, .int .i64 n1, .sl 1 z2, .sl 1 z3, .sl 1 z4] ∧ (-9223372036854775808 ≤ n0 ∧ n0 ≤ 9223372036854775807) ∧ (-9223372036854775808 ≤ n1 ∧ n1 ≤ 9223372036854775807) ∧ (z2.length ≤ N ∧ ∀ e ∈ z2, Fits N .str e) ∧ (z3.length ≤ N ∧ ∀ e ∈ z3, Fits N .str e) ∧ (z4.length ≤ N ∧ ∀ e ∈ z4, Fits N .str e) ∧ True := by
 obtain ⟨x0, y0, e0, h0, r0⟩ := h
 obtain ⟨n0, w0, qn0⟩ := h0
 obtain ⟨x1, y1, e1, h1, r1⟩ := r0
 obtain ⟨n1, z2, z3, z4, w1, qn1, qz2, qz3, qz4, -⟩ := z68 h1
 have rz : y1 = [] := r1
 refine ⟨n0, n1, z2, z3, z4, ?_, qn0, qn1, qz2, qz3, qz4, trivial⟩
 rw [e0, e1, rz, w0, w1]; rfl
theorem zbH {N : Nat} {n0 : Int} {n1 : Int} {z2 : List (List T)} {z3 : List (List T)} {z4 : List (List T)} (qn0 : (-9223372036854775808 ≤ n0 ∧ n0 ≤ 9223372036854775807)) (qn1 : (-9223372036854775808 ≤ n1 ∧ n1 ≤ 9223372036854775807)) (qz2 : (z2.length ≤ N ∧ ∀ e ∈ z2, Fits N .str e)) (qz3 : (z3.length ≤ N ∧ ∀ e ∈ z3, Fits N .str e)) (qz4 : (z4.length ≤ N ∧ ∀ e ∈ z4, Fits N .str e)) : Fits N z2N [.int .i64 n0, .int .i64 n1, .sl 1 z2, .sl 1 z3, .sl 1 z4] := ⟨_, _, rfl, ⟨_, rfl, qn0⟩, ⟨_, _, rfl, z8U qn1 qz2 qz3 qz4, rfl⟩⟩
end Go.Proofs.Ytnhcfmmdaihneaa
