/- FnWholesTold Condition: the tables of words hold what the program's text lays in them. -/
import Derived.Test.YtgmbkbggnlponaaGreatDoorVfd
import Derived.Test.YtgmbkbggnlponaaGreatDoorXt
import Derived.Test.YtgmbkbggnlponaaGreatDoorRows
import Derived.Test.YtgmbkbggnlponaaGreatDoorCards
import Derived.Test.YtgmbkbggnlponaaGreatDoorTie
import Derived.ProofKit
import Derived.OpenShut
import Derived.OpenVars
import Derived.ShutString
import Derived.ChangeOld
import Derived.ChangeSlices
import Derived.ChangeVars
import Derived.Below
import Derived.Lib.LaidTab
import Derived.LaidMore
import Derived.Stop.LaidErr
import Derived.MakeChecks
import Derived.SevenTiedAt
namespace Go.Proofs.YtgmbkbggnlponaaGreatDoor.fnWholesTold
set_option linter.unusedVariables false
set_option linter.unusedSimpArgs false
set_option linter.unusedSectionVars false
open Go.ChangeShapes Go.WideShapes Go.ChangeAt Go.RowKit Pl
open Go.ChangeMaps (open_string shut_string)
theorem own : ownKnob Tryz.prog.godebug = none := by kernel_rfl
theorem laidOut : laidOutB Tryz.prog = true := by kernel_rfl
theorem walk (a : Option Addr) (len cap : Nat) (zs : List Int) (w : World) (hg : Gl (cx0 w)) (h : zhL .u8 w a len cap zs) :
 Calls Tryz.prog 3 #[.slice a len cap] w fun e w' => e = .returned (.bool true) ∧ Below w.heap.size w w' := by
 obtain ⟨c, _, hr⟩ := zga h
 exact zhM (zio c) w hg (vs := [.slice a len cap]) ⟨_, [], rfl, hr, rfl⟩
theorem gS : Tryz.prog.globalNamed "loop.example/g00284/impl.startWords" = some 0 := by kernel_rfl
theorem gR : Tryz.prog.globalNamed "loop.example/g00284/impl.roundWords" = some 1 := by kernel_rfl
theorem tS : (Tryz.prog.globals[0]?).map (·.type) = some 157 := by kernel_rfl
theorem tR : (Tryz.prog.globals[1]?).map (·.type) = some 163 := by kernel_rfl
theorem uS : Tryz.prog.underlying 157 = some (.array 8 156) := by kernel_rfl
theorem uR : Tryz.prog.underlying 163 = some (.array 64 156) := by kernel_rfl
theorem uU : Tryz.prog.underlying 156 = some (.int .u32) := by kernel_rfl
theorem cU : Tryz.prog.cellsOf 156 = 1 := by kernel_rfl
theorem cS : Tryz.prog.cellsOf 157 = 8 := by kernel_rfl
theorem cR : Tryz.prog.cellsOf 163 = 64 := by kernel_rfl
theorem tab_heap {W : World} {name : String} {zs : List Int} {g : Nat} (h : Lib.TabIs Tryz.prog W name .u32 zs) (hg : Tryz.prog.globalNamed name = some g) : ∃ C t fr, W.heap[g]? = some (.cells C t fr) ∧ C.toList = zs.map fun z => Value.int .u32 z := by
 unfold Lib.TabIs World.var? at h
 rw [hg] at h
 simp only [Option.bind_some] at h
 cases hh : W.heap[g]? with
 | none => rw [hh] at h; cases h
 | some o =>
   rw [hh] at h
   cases o with
   | cells C t fr => exact ⟨C, t, fr, rfl, by have := Option.some.inj h; rw [this]⟩
   | _ => cases h
theorem glob_rl (ow : Own) (w : World) : ∀ zs : List Int, RL ow w (zaT zs) (zs.map fun z => Value.int .u32 z)
 | [] => by simp [zaT, RL]
 | z :: zs => by
   have ih := glob_rl ow w zs
   simp only [zaT, List.map_cons, RL] at ih ⊢
   exact ⟨_, _, rfl, by simp [RV], ih⟩
theorem gl_of {W : World} (hL : laidMet Tryz.prog [("loop.example/g00284/impl.roundWords", Lib.tabData .u32 z9m), ("loop.example/g00284/impl.startWords", Lib.tabData .u32 ze1)] W) : Gl (cx0 W) := by
 have hR := Lib.tabIs_of_head gR tR uR uU cU cR hL
 have hS := Lib.tabIs_of_head gS tS uS uU cU cS (laidMet.tail hL)
 obtain ⟨CR, tr, fr, hr, er⟩ := tab_heap hR gR
 obtain ⟨CS, ts, fs, hs, es⟩ := tab_heap hS gS
 intro g cs hg
 unfold glob at hg
 cases h1 : Nat.beq g 0 with
 | true =>
   rw [h1] at hg
   have e := Nat.eq_of_beq_eq_true h1
   subst e
   injection hg with hg; subst hg
   exact ⟨rfl, CS, ts, fs, hs, by rw [es]; exact glob_rl _ _ _⟩
 | false =>
   rw [h1] at hg
   cases h2 : Nat.beq g 1 with
   | true =>
     rw [h2] at hg
     have e := Nat.eq_of_beq_eq_true h2
     subst e
     injection hg with hg; subst hg
     exact ⟨rfl, CR, tr, fr, hr, by rw [er]; exact glob_rl _ _ _⟩
   | false => rw [h2] at hg; cases hg
theorem door_met (os : Os) (args : Array Value) : laidMetH Tryz.prog Rows.fnWholesToldRow.laid ((World.doorLaid Tryz.prog 400 os).forCall (fun _ _ => 0) ⟨#[], args, []⟩).memory :=
 laidMetH_of_parts3 (fuel := 8) (laidMet_of_run' 8 (by kernel_rfl) (by kernel_rfl)) (by kernel_rfl) (by kernel_rfl)
set_option maxRecDepth 100000 in
theorem lifted (os : Os) (started : os.Started) (H : Type) (enc : TypeId × Value → H) :
 ReturnsInHanded {} Tryz.checked os 3 .any (fun w args => (Rows.fnWholesToldSpec.pre enc Tryz.prog Tryz.f3 [] false w args ∧ laidMetH Tryz.prog Rows.fnWholesToldRow.laid w) ∧ sizedMet enc Tryz.prog Tryz.f3 (OpenSpec.ofChange Rows.fnWholesToldSpec) false w args) (Rows.fnWholesToldSpec.post enc Tryz.prog Tryz.f3 false true false false) := by
 refine returnsInHanded_of_change_and (C := Tryz.checked) (X := fun w _ => laidMetH Tryz.prog Rows.fnWholesToldRow.laid w) (fun _ _ _ hh h => h.of_heap hh) own started (by kernel_rfl) Tryz.func3
  (ChangeSpec.witness_shaped (enc := enc) (C := Tryz.checked) (os := os) (X := fun w _ => laidMetH Tryz.prog Rows.fnWholesToldRow.laid w) false (World.doorLaid Tryz.prog 400 os) #[.slice none 0 0] 8 rfl (World.shaped_of_RefB (by kernel_rfl) (by kernel_rfl)) (by kernel_rfl) (by kernel_rfl) (by kernel_rfl) (door_met os _)) ?_
 intro W base args ds gs before hval0 hW _ _ hL0 _
 have hL1 : laidMet Tryz.prog Rows.fnWholesToldRow.laid W := by rwa [MakeChecks.laidMetH_plain _ _ _ (by kernel_rfl)] at hL0
 have hgl := gl_of (show laidMet Tryz.prog [("loop.example/g00284/impl.roundWords", Lib.tabData .u32 z9m), ("loop.example/g00284/impl.startWords", Lib.tabData .u32 ze1)] W from hL1)
 have hval : ∀ (j : Nat) t v, Tryz.f3.params[j]? = some t → args[j]? = some v → Value.okWide Tryz.prog W .any base t v := hval0
 have hW' := hW
 obtain ⟨p, q, hA0, hV, rfl, hfz, hnd⟩ := hW
 have hA : DataW.TrodAll enc Tryz.prog W 0 (fun _ => true) true Tryz.f3.params.toList args.toList ds p := hA0
 rw [Tryz.params3] at hA hval
 obtain ⟨v0, vs0, d0, ds0, p0, q0, hargs, rfl, rfl, h0, r0⟩ := trodAll_cons hA
 obtain ⟨rfl, rfl, rfl⟩ := trodAll_nil r0
 obtain rfl : args = #[v0] := by cases args; simp_all
 have hV0 : DataW.TrodVars enc Tryz.prog W (fun _ => true) Rows.fnWholesToldSpec.vars gs q := hV
 obtain ⟨gA, tA, csA, fA, dA, pA, gB, tB, csB, fB, dB, pB, rfl, _, _, _, _, _, _, _, _, _⟩ := trodVars_two hV0
 obtain ⟨a0, len0, cap0, rfl⟩ := okWide_slice Tryz.underlying22 (hval 0 22 v0 rfl rfl)
 have k0 := h0
 have lt0 : ∀ x ∈ p0, x.block < W.heap.size := by obtain ⟨m, hm⟩ := k0; exact DataW.trod_lt m _ _ _ hm
 obtain ⟨z0, w0⟩ : ∃ zs, zhL .u8 W a0 len0 cap0 zs := by
  obtain ⟨fuel, hf⟩ := h0
  rcases open_ints Tryz.underlying22 Tryz.underlying5 (by kernel_rfl) hf with ⟨hcs, _⟩ | ⟨x, l, c, zs, hcs, hlt, hl, hm, hz, _, hcell, hwz⟩
  ·simp [Value.cells] at hcs
   obtain ⟨rfl, rfl, rfl⟩ := hcs
   exact ⟨[], .inl ⟨rfl, rfl, rfl, rfl⟩⟩
  ·simp [Value.cells] at hcs
   obtain ⟨rfl, rfl, rfl⟩ := hcs
   exact ⟨zs, .inr ⟨_, rfl, hl, hm, by simpa using hz, hcell, hwz⟩⟩
 clear hA0 hval0 hV
 refine (walk a0 len0 cap0 z0 W hgl w0).mono fun e W' ⟨he, bel⟩ => ?_
 subst he
 exact ⟨_, rfl, _, _, _, [], _, q, hW', trodAll_mk1 (shut_bool Tryz.underlying4 _), (trodAll_cons_mk (Below.trod laidOut (by kernel_rfl) (of_decide_eq_true (by kernel_rfl)) k0 bel lt0) trodAll_mk0), Below.trodVars laidOut bel (by kernel_rfl) hV0, bel.frame _, fun h => by cases h⟩
end Go.Proofs.YtgmbkbggnlponaaGreatDoor.fnWholesTold
