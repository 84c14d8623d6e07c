/- What the program reads of any drawn script is what the reference reads of it. Condition: the variables that the row lists hold what the program's text lays in them. -/
import Derived.Test.YtfgkjgfigjpkoaaDoorRci
import Derived.Test.YtfgkjgfigjpkoaaDoorRcs
import Derived.Test.YtfgkjgfigjpkoaaDoorDrx
import Derived.Test.YtfgkjgfigjpkoaaDoorShell
import Derived.Test.YtfgkjgfigjpkoaaDoorRows
import Derived.Test.YtfgkjgfigjpkoaaDoorCards
import Derived.Test.YtfgkjgfigjpkoaaDoorTie
import Derived.ProofKit
import Derived.OpenShut
import Derived.OpenVars
import Derived.ShutString
import Derived.ChangeOld
import Derived.ChangeSlices
import Derived.ChangeVars
import Derived.Below
import Derived.Lib.LaidTab
import Derived.LaidMore
import Derived.Stop.LaidErr
import Derived.MakeChecks
import Derived.SevenTiedAt
import Derived.HandedShaped
import Derived.Shelf.Vars
import Derived.Lay
import Derived.Stop.Joined
namespace Go.Proofs.YtfgkjgfigjpkoaaDoor.fnScriptsTold
set_option maxRecDepth 100000
set_option maxHeartbeats 8000000
set_option linter.unusedVariables false
set_option linter.unusedSimpArgs false
set_option linter.unusedSectionVars false
open Go.ChangeShapes Go.WideShapes Go.ChangeAt Go.RowKit Pl
open Go.ChangeMaps (open_string shut_string)
theorem own : ownKnob Tryd.prog.godebug = none := by kernel_rfl
theorem laidOut : laidOutB Tryd.prog = true := by kernel_rfl
section
attribute [local irreducible] z0t z0u z0C AnsP LeP W
theorem c_drawScr (c s : Bs) (ks : CT Tryd.prog 8 [] [.sl 1 (z0n c)] (.str s) []) : CT Tryd.prog 5 [] [.sl 1 (z0n c)] (.str s) [] := by
 refine z0d z0f 1 rfl Tryd.func5 rfl rfl rfl ?_
 conv => arg 6; whnf
 repeat ((try conv => whnf); first | (with_reducible first | refine z08 (fun Qs hN hE hR => ?_) | refine z06 ?_ | refine z00 (fun Qb kN kE kX kR => ?_) | refine z02 ?_ | refine z03 ?_ | refine z07 ?_ | refine z04 ?_ | refine z05 ?_ | (show W _ _ _ (.cond _ _ _) _ _; refine z01 rfl ?_) | (refine hN _ ?_; try clear hN hE hR Qs) | ((first | refine hE _ _ ?_ | refine hR _ ?_); try clear hN hE hR Qs) | ((first | refine kN _ ?_ | refine kE _ ?_ | refine kX _ _ rfl ?_ | refine kR _ ?_); try clear kN kE kX kR Qb)) | (refine ccA ([]) (ks) ?_) | (refine stpQ ?_))
 (refine z09 (by rfl) ?_ ?_ (by rfl)) <;> (repeat' (first | (exact eqA) | (refine And.intro ?_ ?_) | ((fail_if_success (with_reducible (show _ = _))); (show _ = _))))
theorem readS_nil : (z0W []).2 = 1 := by decide +kernel
def whatT : Bs := [119, 111, 114, 108, 100, 32, 49, 32, 48, 10, 119, 104, 97, 116, 10]
theorem readS_what : (z0W whatT).2 = 2 := by decide +kernel
theorem eqC_evS (e : Evt) : eqC (evC e) (evC e) = true := by simp [evC, eqC]
theorem eqC_akS (a : Int × Bs × Int) : eqC (akC a) (akC a) = true := by simp [akC, eqC]
theorem evE_atS {l : List Evt} {i : Nat} (h : i < l.length) : (evE l)[i]? = some (evC (l.getD i {})) := by rw [evE, List.getElem?_map, List.getD, List.getElem?_eq_getElem h]; rfl
theorem akE_atS {l : List (Int × Bs × Int)} {i : Nat} (h : i < l.length) : (akE l)[i]? = some (akC (l.getD i (0, [], 0))) := by rw [akE, List.getElem?_map, List.getD, List.getElem?_eq_getElem h]; rfl
theorem c_law (c : Bs) : CT Tryd.prog 3 [] [.sl 1 (z0n c)] (.bool true) [] := by
 have kb := c_big c
 by_cases hl : (c.length : Int) ≤ 1048576
 ·obtain ⟨s, hs, ks⟩ := zai c hl
  have kd := c_drawScr c s ks
  have s1 := z4M s
  have s2 := z1R s
  have s3 := z1R []
  have s4 := z1R whatT
  have e3 := readS_nil
  have e4 := readS_what
  have f0 : ¬ (1048576 : Int) < (c.length : Int) := by omega
  have hx := z6N s
  generalize z0W s = R at *
  generalize z0W [] = R3 at *
  generalize z0W whatT = R4 at *
  obtain ⟨x, f⟩ := R
  obtain ⟨x3, f3⟩ := R3
  obtain ⟨x4, f4⟩ := R4
  simp only at s1 s2 s3 s4 e3 e4 hx
  subst e3 e4
  have hev := z0B x.ev
  have hak := z5r x.ak
  have hx1 := hx.1
  have hx2 := hx.2
  clear hx ks
  generalize evE x3.ev = y3 at *
  generalize akE x3.ak = a3 at *
  generalize evE x4.ev = y4 at *
  generalize akE x4.ak = a4 at *
  generalize x.n = n at *
  generalize x.k = k at *
  generalize x.ca = ca at *
  have ff : f = f := rfl
  have fn : n = n := rfl
  have fk : k = k := rfl
  have fc : ca = ca := rfl
  refine z0d z0f 1 rfl Tryd.func3 rfl rfl rfl ?_
  conv => arg 6; whnf
  repeat ((try conv => whnf); first | (with_reducible first | refine z08 (fun Qs hN hE hR => ?_) | refine z06 ?_ | refine z00 (fun Qb kN kE kX kR => ?_) | refine z02 ?_ | refine z03 ?_ | refine z07 ?_ | refine z04 ?_ | refine z05 ?_ | (show W _ _ _ (.cond _ _ _) _ _; refine z01 rfl ?_) | (refine hN _ ?_; try clear hN hE hR Qs) | ((first | refine hE _ _ ?_ | refine hR _ ?_); try clear hN hE hR Qs) | ((first | refine kN _ ?_ | refine kE _ ?_ | refine kX _ _ rfl ?_ | refine kR _ ?_); try clear kN kE kX kR Qb)) | (refine ccA ([]) (kb) ?_) | (refine z0c f0 ?_) | (refine ccA ([]) (kd) ?_) | (refine ccA ([]) (s2) ?_) | (refine ccA ([]) (s1) ?_) | (refine z0j ff ?_) | (refine stpQ ?_))
  clear s1 s2 kb kd ff fn fk fc
  refine z0A 0 ⟨[(4, .ptr 1 0 0), (6, .ptr 4 0 0)], [(1, some (.box [.int .i64 n, .int .i64 k, .ref 2, .bool ca, .ref 3])), (2, some (.row 10 (evE x.ev))), (3, some (.row 3 (akE x.ak))), (4, some (.box [.int .i64 n, .int .i64 k, .ref 5, .bool ca, .ref 6])), (5, some (.row 10 (evE x.ev))), (6, some (.row 3 (akE x.ak)))], 7⟩ Nat (fun i => ⟨[(4, .ptr 1 0 0), (6, .ptr 4 0 0), (8, .int .i64 (i : Int))], [(1, some (.box [.int .i64 n, .int .i64 k, .ref 2, .bool ca, .ref 3])), (2, some (.row 10 (evE x.ev))), (3, some (.row 3 (akE x.ak))), (4, some (.box [.int .i64 n, .int .i64 k, .ref 5, .bool ca, .ref 6])), (5, some (.row 10 (evE x.ev))), (6, some (.row 3 (akE x.ak)))], 7⟩) (fun i => i ≤ x.ev.length) (fun i => x.ev.length - i) 0 (Nat.zero_le _) ?_ ?_ ?_
  ·(refine z0a (by rfl) ?_ ?_) <;> (repeat' (first | (exact eqA) | (refine And.intro ?_ ?_) | ((fail_if_success (with_reducible (show _ = _))); (show _ = _)))) <;> first | rfl | decide
  ·intro i hi
   by_cases hlt : i < x.ev.length
   ·have f1 : (i : Int) < ((evE x.ev).length : Int) := by omega
    have f2 : i < (evE x.ev).length := by omega
    have ge := evE_atS hlt
    have fe := eqC_evS (x.ev.getD i {})
    generalize x.ev.getD i {} = e at *
    have fb : (!eqC (evC e) (evC e)) = false := by rw [fe]; rfl
    repeat ((try conv => whnf); first | (with_reducible first | refine z08 (fun Qs hN hE hR => ?_) | refine z06 ?_ | refine z00 (fun Qb kN kE kX kR => ?_) | refine z02 ?_ | refine z03 ?_ | refine z07 ?_ | refine z04 ?_ | refine z05 ?_ | (show W _ _ _ (.cond _ _ _) _ _; refine z01 rfl ?_) | (refine hN _ ?_; try clear hN hE hR Qs) | ((first | refine hE _ _ ?_ | refine hR _ ?_); try clear hN hE hR Qs) | ((first | refine kN _ ?_ | refine kE _ ?_ | refine kX _ _ rfl ?_ | refine kR _ ?_); try clear kN kE kX kR Qb)) | (refine z0b f1 ?_) | (refine And.intro f2 ?_) | (refine Exists.intro _ (And.intro ge ?_)) | (refine cb_f fb ?_) | (refine stpQ ?_))
    refine ⟨i + 1, by omega, by omega, ?_⟩
    (refine z0a (by rfl) ?_ ?_) <;> (repeat' (first | (exact eqA) | (refine And.intro ?_ ?_) | ((fail_if_success (with_reducible (show _ = _))); (show _ = _)))) <;> rfl
   ·obtain rfl : i = x.ev.length := by omega
    have f1 : ¬ (x.ev.length : Int) < ((evE x.ev).length : Int) := by omega
    repeat ((try conv => whnf); first | (with_reducible first | refine z08 (fun Qs hN hE hR => ?_) | refine z06 ?_ | refine z00 (fun Qb kN kE kX kR => ?_) | refine z02 ?_ | refine z03 ?_ | refine z07 ?_ | refine z04 ?_ | refine z05 ?_ | (show W _ _ _ (.cond _ _ _) _ _; refine z01 rfl ?_) | (refine hN _ ?_; try clear hN hE hR Qs) | ((first | refine hE _ _ ?_ | refine hR _ ?_); try clear hN hE hR Qs) | ((first | refine kN _ ?_ | refine kE _ ?_ | refine kX _ _ rfl ?_ | refine kR _ ?_); try clear kN kE kX kR Qb)) | (refine z0c f1 ?_) | (refine stpQ ?_))
    (refine z0a (by rfl) ?_ ?_) <;> (repeat' (first | (exact eqA) | (refine And.intro ?_ ?_) | ((fail_if_success (with_reducible (show _ = _))); (show _ = _))))
  ·repeat ((try conv => whnf); first | (with_reducible first | refine z08 (fun Qs hN hE hR => ?_) | refine z06 ?_ | refine z00 (fun Qb kN kE kX kR => ?_) | refine z02 ?_ | refine z03 ?_ | refine z07 ?_ | refine z04 ?_ | refine z05 ?_ | (show W _ _ _ (.cond _ _ _) _ _; refine z01 rfl ?_) | (refine hN _ ?_; try clear hN hE hR Qs) | ((first | refine hE _ _ ?_ | refine hR _ ?_); try clear hN hE hR Qs) | ((first | refine kN _ ?_ | refine kE _ ?_ | refine kX _ _ rfl ?_ | refine kR _ ?_); try clear kN kE kX kR Qb)) | (refine stpQ ?_))
   refine z0A 2 ⟨[], [], 1⟩ Nat (fun i => ⟨[(4, .ptr 1 0 0), (6, .ptr 4 0 0), (9, .int .i64 (i : Int))], [(1, some (.box [.int .i64 n, .int .i64 k, .ref 2, .bool ca, .ref 3])), (2, some (.row 10 (evE x.ev))), (3, some (.row 3 (akE x.ak))), (4, some (.box [.int .i64 n, .int .i64 k, .ref 5, .bool ca, .ref 6])), (5, some (.row 10 (evE x.ev))), (6, some (.row 3 (akE x.ak)))], 7⟩) (fun i => i ≤ x.ak.length) (fun i => x.ak.length - i) 0 (Nat.zero_le _) ?_ ?_ ?_
   ·(refine z0a (by rfl) ?_ ?_) <;> (repeat' (first | (exact eqA) | (refine And.intro ?_ ?_) | ((fail_if_success (with_reducible (show _ = _))); (show _ = _)))) <;> first | rfl | decide
   ·intro i hi
    by_cases hlt : i < x.ak.length
    ·have f1 : (i : Int) < ((akE x.ak).length : Int) := by omega
     have f2 : i < (akE x.ak).length := by omega
     have ge := akE_atS hlt
     have fe := eqC_akS (x.ak.getD i (0, [], 0))
     generalize x.ak.getD i (0, [], 0) = e at *
     have fb : (!eqC (akC e) (akC e)) = false := by rw [fe]; rfl
     repeat ((try conv => whnf); first | (with_reducible first | refine z08 (fun Qs hN hE hR => ?_) | refine z06 ?_ | refine z00 (fun Qb kN kE kX kR => ?_) | refine z02 ?_ | refine z03 ?_ | refine z07 ?_ | refine z04 ?_ | refine z05 ?_ | (show W _ _ _ (.cond _ _ _) _ _; refine z01 rfl ?_) | (refine hN _ ?_; try clear hN hE hR Qs) | ((first | refine hE _ _ ?_ | refine hR _ ?_); try clear hN hE hR Qs) | ((first | refine kN _ ?_ | refine kE _ ?_ | refine kX _ _ rfl ?_ | refine kR _ ?_); try clear kN kE kX kR Qb)) | (refine z0b f1 ?_) | (refine And.intro f2 ?_) | (refine Exists.intro _ (And.intro ge ?_)) | (refine cb_f fb ?_) | (refine stpQ ?_))
     refine ⟨i + 1, by omega, by omega, ?_⟩
     (refine z0a (by rfl) ?_ ?_) <;> (repeat' (first | (exact eqA) | (refine And.intro ?_ ?_) | ((fail_if_success (with_reducible (show _ = _))); (show _ = _)))) <;> rfl
    ·obtain rfl : i = x.ak.length := by omega
     have f1 : ¬ (x.ak.length : Int) < ((akE x.ak).length : Int) := by omega
     repeat ((try conv => whnf); first | (with_reducible first | refine z08 (fun Qs hN hE hR => ?_) | refine z06 ?_ | refine z00 (fun Qb kN kE kX kR => ?_) | refine z02 ?_ | refine z03 ?_ | refine z07 ?_ | refine z04 ?_ | refine z05 ?_ | (show W _ _ _ (.cond _ _ _) _ _; refine z01 rfl ?_) | (refine hN _ ?_; try clear hN hE hR Qs) | ((first | refine hE _ _ ?_ | refine hR _ ?_); try clear hN hE hR Qs) | ((first | refine kN _ ?_ | refine kE _ ?_ | refine kX _ _ rfl ?_ | refine kR _ ?_); try clear kN kE kX kR Qb)) | (refine z0c f1 ?_) | (refine stpQ ?_))
     (refine z0a (by rfl) ?_ ?_) <;> (repeat' (first | (exact eqA) | (refine And.intro ?_ ?_) | ((fail_if_success (with_reducible (show _ = _))); (show _ = _))))
   ·have g1 : (1 : Int) = 1 := rfl
    have g2 : (2 : Int) = 2 := rfl
    repeat ((try conv => whnf); first | (with_reducible first | refine z08 (fun Qs hN hE hR => ?_) | refine z06 ?_ | refine z00 (fun Qb kN kE kX kR => ?_) | refine z02 ?_ | refine z03 ?_ | refine z07 ?_ | refine z04 ?_ | refine z05 ?_ | (show W _ _ _ (.cond _ _ _) _ _; refine z01 rfl ?_) | (refine hN _ ?_; try clear hN hE hR Qs) | ((first | refine hE _ _ ?_ | refine hR _ ?_); try clear hN hE hR Qs) | ((first | refine kN _ ?_ | refine kE _ ?_ | refine kX _ _ rfl ?_ | refine kR _ ?_); try clear kN kE kX kR Qb)) | (refine ccA ([]) (s3) ?_) | (refine ccA ([]) (s4) ?_) | (refine stpQ ?_))
    (refine z09 (by rfl) ?_ ?_ (by rfl)) <;> (repeat' (first | (exact eqA) | (refine And.intro ?_ ?_) | ((fail_if_success (with_reducible (show _ = _))); (show _ = _))))
 ·have f0 : (1048576 : Int) < (c.length : Int) := by omega
  refine z0d z0f 1 rfl Tryd.func3 rfl rfl rfl ?_
  conv => arg 6; whnf
  repeat ((try conv => whnf); first | (with_reducible first | refine z08 (fun Qs hN hE hR => ?_) | refine z06 ?_ | refine z00 (fun Qb kN kE kX kR => ?_) | refine z02 ?_ | refine z03 ?_ | refine z07 ?_ | refine z04 ?_ | refine z05 ?_ | (show W _ _ _ (.cond _ _ _) _ _; refine z01 rfl ?_) | (refine hN _ ?_; try clear hN hE hR Qs) | ((first | refine hE _ _ ?_ | refine hR _ ?_); try clear hN hE hR Qs) | ((first | refine kN _ ?_ | refine kE _ ?_ | refine kX _ _ rfl ?_ | refine kR _ ?_); try clear kN kE kX kR Qb)) | (refine ccA ([]) (kb) ?_) | (refine z0b f0 ?_) | (refine stpQ ?_))
  (refine z09 (by rfl) ?_ ?_ (by rfl)) <;> (repeat' (first | (exact eqA) | (refine And.intro ?_ ?_) | ((fail_if_success (with_reducible (show _ = _))); (show _ = _))))
end
theorem walk (a : Option Addr) (len cap : Nat) (zs : List Int) (w : World) (hg : Gl (cx0 w)) (h : zc2 .u8 w a len cap zs) :
 Calls Tryd.prog 3 #[.slice a len cap] w fun e w' => e = .returned (.bool true) ∧ Below w.heap.size w w' := by
 obtain ⟨c, _, hr⟩ := zaj h
 exact zc3 (c_law c) w hg (vs := [.slice a len cap]) ⟨_, [], rfl, hr, rfl⟩
theorem gP : Tryd.prog.globalNamed "internal/strconv.uint64pow10" = some 6 := by kernel_rfl
theorem tP : (Tryd.prog.globals[6]?).map (·.type) = some 130 := by kernel_rfl
theorem uP : Tryd.prog.underlying 130 = some (.array 20 111) := by kernel_rfl
theorem uU : Tryd.prog.underlying 111 = some (.int .u64) := by kernel_rfl
theorem cU : Tryd.prog.cellsOf 111 = 1 := by kernel_rfl
theorem cP : Tryd.prog.cellsOf 130 = 20 := by kernel_rfl
theorem gK : Tryd.prog.globalNamed "loop.example/g00284/impl.moveKinds" = some 0 := by kernel_rfl
theorem tK : (Tryd.prog.globals[0]?).map (·.type) = some 93 := by kernel_rfl
theorem uK : Tryd.prog.underlying 93 = some (.array 11 9) := by kernel_rfl
theorem uS : Tryd.prog.underlying 9 = some .string := by kernel_rfl
theorem cS : Tryd.prog.cellsOf 9 = 1 := by kernel_rfl
theorem cK : Tryd.prog.cellsOf 93 = 11 := by kernel_rfl
theorem gE : Tryd.prog.globalNamed "strconv.ErrSyntax" = some 4 := by kernel_rfl
theorem tE : (Tryd.prog.globals[4]?).map (·.type) = some 79 := by kernel_rfl
theorem cE : Tryd.prog.cellsOf 123 = 1 := by kernel_rfl
theorem star : "*" ++ "errors.errorString" = "*errors.errorString" := by decide
theorem rowE (u : TypeId) (h : Tryd.prog.typeName? 3 u = some "*errors.errorString") : u = 121 :=
 typeName_ptr_named (nm := "errors.errorString") (by rw [star]; kernel_rfl) (by kernel_rfl) (by decide) u (by rw [star]; exact h)
theorem var_heap {W : World} {name : String} {g : Nat} {cs : Array Value} (h : W.var? Tryd.prog name = some cs) (hg : Tryd.prog.globalNamed name = some g) : ∃ t fr, W.heap[g]? = some (.cells cs t fr) := by
 unfold World.var? at h
 rw [hg] at h
 simp only [Option.bind_some] at h
 cases hh : W.heap[g]? with
 | none => rw [hh] at h; cases h
 | some o =>
   rw [hh] at h
   cases o with
   | cells C t fr => exact ⟨t, fr, by rw [Option.some.inj h]⟩
   | _ => cases h
theorem glob_rl (ow : Own) (w : World) : ∀ zs : List Int, RL ow w (zs.map fun z => T.int .u64 z) (zs.map fun z => Value.int .u64 z)
 | [] => by simp [RL]
 | z :: zs => by
   have ih := glob_rl ow w zs
   simp only [List.map_cons, RL] at ih ⊢
   exact ⟨_, _, rfl, by simp [RV], ih⟩
theorem globS_rl (ow : Own) (w : World) : ∀ ws : List Bs, RL ow w (ws.map fun z => T.str z) (ws.map fun z => Value.string (bs z))
 | [] => by simp [RL]
 | z :: zs => by
   have ih := globS_rl ow w zs
   simp only [List.map_cons, RL] at ih ⊢
   exact ⟨_, _, rfl, by simp [RV], ih⟩
theorem cells_of_strs {H : Type} {enc : TypeId × Value → H} {P : Program} {w : World} {base : Nat} {sp : Nat → Bool} {held : Bool} {fuel : Nat} {t e : TypeId} {n : Nat} {cs : List Value} {ws : List Bs} {p : List MemPlace}
 (ht : P.underlying t = some (.array n e)) (he : P.underlying e = some .string) (hce : P.cellsOf e = 1) (hct : P.cellsOf t = n)
 (h : DataW.trod enc P w base sp held fuel t cs = some (.agg (ws.map fun z => .lit (.string z)), p)) : cs = ws.map fun z => Value.string (bs z) := by
 cases fuel with
 | zero => simp [DataW.trod] at h
 | succ fuel =>
   simp only [DataW.trod, ht, hce, hct, Nat.mul_one] at h
   split at h
   ·rename_i hl
    obtain ⟨xs, hm, hx⟩ := Option.map_eq_some_iff.1 h
    have hxs : xs.map (·.1) = ws.map fun z => (DataW.lit (.string z) : DataW H) := by
     have := congrArg Prod.fst hx
     simpa using this
    have hxl : xs.length = n := by simpa using Lib.mapM_length hm
    have hzl : ws.length = n := by
     have := congrArg List.length hxs
     simp at this
     omega
    apply List.ext_getElem?
    intro i
    by_cases hi : i < n
    ·obtain ⟨b, hb, hf⟩ := Lib.mapM_at hm i i (by simp [hi])
     obtain ⟨z, hc, rfl, _⟩ := DataW.trod_string he hf
     have h1 : cs[i]? = some (.string z) := by
      have := congrArg (·[0]?) hc
      simpa [List.getElem?_take, List.getElem?_drop] using this
     have h2 : (xs.map (·.1))[i]? = some (DataW.lit (.string z.data.toList) : DataW H) := by simp [hb]
     rw [hxs] at h2
     simp only [List.getElem?_map, Option.map_eq_some_iff, DataW.lit.injEq, Lit.string.injEq] at h2
     obtain ⟨z', hz', rfl⟩ := h2
     rw [h1, List.getElem?_map, hz']
     rfl
    ·rw [List.getElem?_eq_none (by omega), List.getElem?_eq_none (by simp; omega)]
   ·cases h
theorem eP : (Rows.laid_internal_strconv_uint64pow10 : DataW Unit) = Lib.tabData .u64 powZ := by kernel_rfl
theorem eK : (Rows.laid_loop_example_g00284_impl_moveKinds : DataW Unit) = .agg (mvW.map fun z => .lit (.string z)) := by kernel_rfl
theorem max_of {W : World} (h : W.ShapedOpen Tryd.prog) : ∃ m, W.cell? ⟨1, 0, none⟩ = some (.int .i64 m) :=
 cell_of_shapedOpen_int h (t := 3) (zero := #[.int .i64 0]) (of_decide_eq_true (by kernel_rfl)) (by kernel_rfl) rfl (by kernel_rfl) (by kernel_rfl) Tryd.underlying3
theorem gl_of {W : World} (hL : laidMet Tryd.prog Rows.fnScriptsToldRow.laid W) (hsh : W.ShapedOpen Tryd.prog) : Gl (cx0 W) := by
 have hP0 := laidMet.tail (laidMet.tail hL)
 have hE0 := laidMet.tail (laidMet.tail (laidMet.tail hP0))
 have hK0 := laidMet.tail hE0
 change laidMet _ (("internal/strconv.uint64pow10", Rows.laid_internal_strconv_uint64pow10) :: _) W at hP0
 rw [eP] at hP0
 have hP := Lib.tabIs_of_head gP tP uP uU cU cP hP0
 obtain ⟨tp, fp, hp⟩ := var_heap hP gP
 obtain ⟨ae, se, hve, -, -, -⟩ := laid_sentinel hE0 gE tE Tryd.underlying79 rowE Tryd.underlying121 Tryd.underlying123 rfl rfl Tryd.underlying9 cE cS
 obtain ⟨te, fe, he⟩ := var_heap hve gE
 obtain ⟨ps, ⟨g', t', cs, fuel, p, q, hg', ht', hvar, hd, _, _⟩, _⟩ := hK0
 obtain rfl := Option.some.inj (gK.symm.trans hg')
 obtain rfl := Option.some.inj (tK.symm.trans ht')
 rw [eK] at hd
 have hcs := cells_of_strs uK uS cS cK hd
 obtain ⟨tk, fk, hk⟩ := var_heap hvar gK
 obtain ⟨m, hm⟩ := max_of hsh
 refine ⟨fun g cs hg => ?_, fun g k hg => ?_⟩
 ·unfold glob at hg
  cases h1 : Nat.beq g 0 with
  | true =>
    rw [h1] at hg
    have e := Nat.eq_of_beq_eq_true h1
    subst e
    injection hg with hg; subst hg
    exact ⟨rfl, _, tk, fk, hk, by rw [hcs]; exact globS_rl _ _ _⟩
  | false =>
    rw [h1] at hg
    cases h2 : Nat.beq g 6 with
    | true =>
      rw [h2] at hg
      have e := Nat.eq_of_beq_eq_true h2
      subst e
      injection hg with hg; subst hg
      exact ⟨rfl, _, tp, fp, hp, by simp only []; exact glob_rl _ _ _⟩
    | false => rw [h2] at hg; cases hg
 ·unfold globX at hg
  cases h1 : Nat.beq g 1 with
  | true =>
    rw [h1] at hg
    have e := Nat.eq_of_beq_eq_true h1
    subst e
    injection hg with hg; subst hg
    simp only [World.cell?, Option.isSome_none, Bool.false_eq_true, if_false] at hm
    cases hh : W.heap[1]? with
    | none => rw [hh] at hm; simp at hm
    | some ob =>
      rw [hh] at hm
      cases ob with
      | cells C t fr => exact ⟨rfl, C, t, fr, hh, m, by simpa using hm⟩
      | _ => simp at hm
  | false =>
    rw [h1] at hg
    cases h2 : Nat.beq g 4 with
    | true =>
      rw [h2] at hg
      have e := Nat.eq_of_beq_eq_true h2
      subst e
      injection hg with hg; subst hg
      exact ⟨rfl, _, te, fe, he, _, rfl, .inr ⟨_, _, rfl⟩⟩
    | false => rw [h2] at hg; cases hg
theorem door_met (os : Os) (args : Array Value) : laidMetH Tryd.prog Rows.fnScriptsToldRow.laid ((World.laidAll Tryd.prog os Rows.fnScriptsToldRow.laid).forCall (fun _ _ => 0) ⟨#[], args, []⟩).memory := by
 rw [MakeChecks.laidMetH_plain _ _ _ (by kernel_rfl)]
 exact laidMet_laidAll _ (by kernel_rfl) (by kernel_rfl)
theorem rih {H : Type} {enc : TypeId × Value → H} {a : Assume} {C : Checked} {os : Os} {f : FuncId} {fn : Func} {s : ChangeSpec} {conds : List PathCond} {apart fresh handsOn again : Bool} {X : World → Array Value → Prop}
 (hX : ∀ (w w' : World) (args : Array Value), w.heap = w'.heap → X w args → X w' args)
 (own : ownKnob C.prog.godebug = none) (started : os.Started) (noInit : C.prog.inits.idxOf? f = none) (hfn : C.prog.funcs[f]? = some fn)
 (witness : ∃ (w : World) (tape : Tape) (i : Input), w.os = os ∧ (w.forCall tape i).Shaped C.prog ∧ i.vars = [] ∧ Input.okWide C.prog (w.forCall tape i) .any w.heap.size f i ∧
   ((s.pre enc C.prog fn conds apart (w.forCall tape i).memory i.args ∧ X (w.forCall tape i).memory i.args) ∧ sizedMet enc C.prog fn (OpenSpec.ofChange s) apart (w.forCall tape i).memory i.args) ∧ a.holds C.prog (lone (Frame.enter C.prog f i.args .normal) [] (w.forCall tape i)))
 (contract : ∀ (W : World) (base : Nat) (args : Array Value) (ds gs : List (DataW H)) (before : List MemPlace),
   (∀ (j : Nat) t v, fn.params[j]? = some t → args[j]? = some v → Value.okWide C.prog W .any base t v) →
   DataW.Whole enc C.prog fn.params.toList s.vars apart W args.toList ds gs before → X W args → W.ShapedOpen C.prog →
   Calls C.prog f args W fun e W' => ∃ v, e = .returned v ∧ s.post enc C.prog fn apart fresh handsOn again W args v W') :
 ReturnsInHanded a C os f .any (fun w args => (s.pre enc C.prog fn conds apart w args ∧ X w args) ∧ sizedMet enc C.prog fn (OpenSpec.ofChange s) apart w args) (s.post enc C.prog fn apart fresh handsOn again) := by
 refine returnsInHanded_of_calls own started noInit witness ?_
 intro w tape i _ hsh _ hok hpre _
 obtain ⟨_, _, _, fn', hfn', _, _, _, _, hval⟩ := hok
 obtain rfl : fn' = fn := Option.some.inj (hfn'.symm.trans hfn)
 obtain ⟨⟨⟨ds, gs, before, hw, _⟩, hx⟩, _⟩ := hpre
 refine (contract (w.forCall tape i) w.heap.size i.args ds gs before hval (DataW.Whole.of_heap (w' := w.forCall tape i) (by rfl) hw) (hX _ _ _ (by rfl) hx) hsh).mono fun e W' ⟨v, he, hp⟩ => ?_
 subst he
 exact ChangeSpec.post_blind hp
theorem lifted (os : Os) (started : os.Started) (H : Type) (enc : TypeId × Value → H) :
 ReturnsInHanded {} Tryd.checked os 3 .any (fun w args => (Rows.fnScriptsToldSpec.pre enc Tryd.prog Tryd.f3 [] false w args ∧ laidMetH Tryd.prog Rows.fnScriptsToldRow.laid w) ∧ sizedMet enc Tryd.prog Tryd.f3 (OpenSpec.ofChange Rows.fnScriptsToldSpec) false w args) (Rows.fnScriptsToldSpec.post enc Tryd.prog Tryd.f3 false true false false) := by
 refine rih (C := Tryd.checked) (X := fun w _ => laidMetH Tryd.prog Rows.fnScriptsToldRow.laid w) (fun _ _ _ hh h => h.of_heap hh) own started (by kernel_rfl) Tryd.func3
  (ChangeSpec.witness_shaped (enc := enc) (C := Tryd.checked) (os := os) (X := fun w _ => laidMetH Tryd.prog Rows.fnScriptsToldRow.laid w) false (World.laidAll Tryd.prog os Rows.fnScriptsToldRow.laid) #[.slice none 0 0] 8 (World.laidAll_os _ _ _) (World.shaped_of_ZipB (by kernel_rfl) (by kernel_rfl)) (by kernel_rfl) (by kernel_rfl) (by kernel_rfl) (door_met os _)) ?_
 intro W base args ds gs before hval0 hW hL0 hsh
 have hL1 : laidMet Tryd.prog Rows.fnScriptsToldRow.laid W := by rwa [MakeChecks.laidMetH_plain _ _ _ (by kernel_rfl)] at hL0
 have hgl := gl_of hL1 hsh
 have hval : ∀ (j : Nat) t v, Tryd.f3.params[j]? = some t → args[j]? = some v → Value.okWide Tryd.prog W .any base t v := hval0
 have hW' := hW
 obtain ⟨p, q, hA0, hV, rfl, hfz, hnd⟩ := hW
 have hA : DataW.TrodAll enc Tryd.prog W 0 (fun _ => true) true Tryd.f3.params.toList args.toList ds p := hA0
 rw [Tryd.params3] at hA hval
 obtain ⟨v0, vs0, d0, ds0, p0, q0, hargs, rfl, rfl, h0, r0⟩ := trodAll_cons hA
 obtain ⟨rfl, rfl, rfl⟩ := trodAll_nil r0
 obtain rfl : args = #[v0] := by cases args; simp_all
 have hV0 : DataW.TrodVars enc Tryd.prog W (fun _ => true) Rows.fnScriptsToldSpec.vars gs q := hV
 obtain ⟨gA, tA, csA, fA, dA, pA, rfl, _, _, _, _, _⟩ := trodVars_one hV0
 obtain ⟨a0, len0, cap0, rfl⟩ := okWide_slice Tryd.underlying22 (hval 0 22 v0 rfl rfl)
 have k0 := h0
 have lt0 : ∀ x ∈ p0, x.block < W.heap.size := by obtain ⟨m, hm⟩ := k0; exact DataW.trod_lt m _ _ _ hm
 obtain ⟨z0, w0⟩ : ∃ zs, zc2 .u8 W a0 len0 cap0 zs := by
  obtain ⟨fuel, hf⟩ := h0
  rcases open_ints Tryd.underlying22 Tryd.underlying5 (by kernel_rfl) hf with ⟨hcs, _⟩ | ⟨x, l, c, zs, hcs, hlt, hl, hm, hz, _, hcell, hwz⟩
  ·simp [Value.cells] at hcs
   obtain ⟨rfl, rfl, rfl⟩ := hcs
   exact ⟨[], .inl ⟨rfl, rfl, rfl, rfl⟩⟩
  ·simp [Value.cells] at hcs
   obtain ⟨rfl, rfl, rfl⟩ := hcs
   exact ⟨zs, .inr ⟨_, rfl, hl, hm, by simpa using hz, hcell, hwz⟩⟩
 clear hA0 hval0 hV
 refine (walk a0 len0 cap0 z0 W hgl w0).mono fun e W' ⟨he, bel⟩ => ?_
 subst he
 exact ⟨_, rfl, _, _, _, [], _, q, hW', trodAll_mk1 (shut_bool Tryd.underlying4 _), (trodAll_cons_mk (Below.trod laidOut (by kernel_rfl) (of_decide_eq_true (by kernel_rfl)) k0 bel lt0) trodAll_mk0), Below.trodVars laidOut bel (by kernel_rfl) hV0, bel.frame _, fun h => by cases h⟩
theorem over : Rows.fnScriptsToldRow.holds Tryd.pinned (OpenSpec.ofChange Rows.fnScriptsToldSpec) :=
 OpenClaim.holds_of_wide 3 Tryd.f3 rfl rfl rfl rfl rfl rfl rfl ⟨rfl, rfl, rfl, rfl, rfl⟩ rfl rfl rfl rfl rfl (by kernel_rfl) Tryd.func3 (by kernel_rfl)
  (of_decide_eq_true (by kernel_rfl)) (by unfold Func.isWrapper; first | (rw [if_pos (by decide +kernel)]; kernel_rfl) | (rw [if_neg (by decide +kernel)]; exact ⟨rfl, rfl⟩))
  (fun os started H enc _ => lifted os started H enc)
theorem proved : Rows.FnScriptsToldCardSaid :=
 Claim7.holds_tied_plain_at .later [] [.data, .data, .data, .data, .sentinel, .sentinel, .data, .pinned] true Rows.fnScriptsToldCard.stood.harness true
  over (fun _ h => by cases h) (by kernel_rfl) (fun _ h => by cases h) fnScriptsTold_row_tie rfl ⟨rfl, rfl⟩ (by kernel_rfl) rfl
  (fun f fn hf hfn => by
    obtain rfl : f = 3 := Option.some.inj ((show Tryd.prog.funcNamed "loop.example/g00284/laws.FnScriptsTold" = some 3 by kernel_rfl).symm.trans hf) |>.symm
    obtain rfl : fn = Tryd.f3 := (Option.some.inj (Tryd.func3.symm.trans hfn)).symm
    exact ⟨by kernel_rfl, fun j t ht => by
     rw [Tryd.params3] at ht
     have hm := Array.mem_of_getElem? ht
     have hall : (Tryd.f3.params.all fun u => !Tryd.prog.wantsStandIn u) = true := by kernel_rfl
     rw [Tryd.params3] at hall
     have := Array.all_eq_true_iff_forall_mem.1 hall t hm
     exact (show Tryd.prog.wantsStandIn t = false by simpa using this)⟩)
  (by kernel_rfl)
#print axioms proved
end Go.Proofs.YtfgkjgfigjpkoaaDoor.fnScriptsTold
