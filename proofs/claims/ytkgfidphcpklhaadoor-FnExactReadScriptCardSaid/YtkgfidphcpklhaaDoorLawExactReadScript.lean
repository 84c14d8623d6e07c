/- For every text, the program and the reference read the same script out of it, and what the program hands back shares no memory with anything. Condition: the variables that the row lists hold what the program's text lays in them. -/
import Derived.Test.YtkgfidphcpklhaaDoorRci
import Derived.Test.YtkgfidphcpklhaaDoorRcs
import Derived.Test.YtkgfidphcpklhaaDoorEqs
import Derived.Test.YtkgfidphcpklhaaDoorShell
import Derived.Test.YtkgfidphcpklhaaDoorRows
import Derived.Test.YtkgfidphcpklhaaDoorCards
import Derived.Test.YtkgfidphcpklhaaDoorTie
import Derived.ProofKit
import Derived.OpenShut
import Derived.OpenVars
import Derived.ShutString
import Derived.ChangeOld
import Derived.ChangeSlices
import Derived.ChangeVars
import Derived.Below
import Derived.Lib.LaidTab
import Derived.LaidMore
import Derived.Stop.LaidErr
import Derived.MakeChecks
import Derived.SevenTiedAt
import Derived.HandedShaped
import Derived.Shelf.Vars
import Derived.Lay
import Derived.Stop.Joined
namespace Go.Proofs.YtkgfidphcpklhaaDoor.fnExactReadScript
open Go.ChangeShapes Go.WideShapes Go.ChangeAt Go.RowKit Pl
open Go.ChangeMaps (open_string shut_string)
set_option linter.unusedVariables false
set_option linter.unusedSimpArgs false

theorem own : ownKnob Tryd.prog.godebug = none := by kernel_rfl
theorem laidOut : laidOutB Tryd.prog = true := by kernel_rfl
section
attribute [local irreducible] CondB CallP LoopW AnsP LeP W
theorem own4 (x : Sc) : own2 (.bool true) ∧ ∀ e ∈ [Ent.row 10 (evE x.ev), Ent.row 3 (akE x.ak), Ent.row 10 (evE x.ev), Ent.row 3 (akE x.ak)], ownE e := ⟨trivial, fun e he => by
  simp only [List.mem_cons, List.not_mem_nil, or_false] at he
  rcases he with rfl | rfl | rfl | rfl
  · exact own_evS _
  · exact own_akS _
  · exact own_evS _
  · exact own_akS _⟩
theorem own2r (n : Int) (a : List Evt) (b : List (Int × Bs × Int)) : own2 (.int .i64 n) ∧ ∀ e ∈ [Ent.row 10 (evE a), Ent.row 3 (akE b)], ownE e := ⟨trivial, fun e he => by
  simp only [List.mem_cons, List.not_mem_nil, or_false] at he
  rcases he with rfl | rfl
  · exact own_evS _
  · exact own_akS _⟩
set_option maxRecDepth 100000 in
set_option maxHeartbeats 8000000 in
theorem c_law (s : Bs) : CT Tryd.prog 4 [] [.str s] (.bool true) [] := by
  by_cases hl : s.length ≤ 1048576
  · have s1 := c_sReadScript s
    have s2 := c_ReadScript s
    have hx := readS_ok s
    have f0 : ¬ (s.length : Int) > 1048576 := by omega
    generalize readS s = R at *
    obtain ⟨x, f⟩ := R
    simp only at s1 s2 hx
    have c1 := c_eqScript x hx
    have o1 := own4 x
    have c2 := c_markScript x hx 1 (by decide) (by decide)
    have o2 := own2r ((1 + 10 * x.ev.length + 3 * x.ak.length : Nat) : Int) (mkEs 1 x.ev.length) (mkAs (1 + 10 * x.ev.length) x.ak.length)
    have c3 := c_heldScript x x.ev.length x.ak.length 1 (by decide) (by decide) hx.1 hx.2
    have ff : f = f := rfl
    have m0 : ¬ ((1 + 10 * x.ev.length + 3 * x.ak.length : Nat) : Int) < 0 := by omega
    generalize ((1 + 10 * x.ev.length + 3 * x.ak.length : Nat) : Int) = m at *
    have mm : m = m := rfl
    generalize evE (mkEs 1 x.ev.length) = ze at *
    generalize akE (mkAs (1 + 10 * x.ev.length) x.ak.length) = za at *
    generalize evE x.ev = ye at *
    generalize akE x.ak = ya at *
    generalize x.n = n at *
    generalize x.k = k at *
    generalize x.ca = ca at *
    refine ct_intro ttS_ok 1 rfl Tryd.func4 rfl rfl rfl ?_
    conv => arg 6; whnf
    repeat ((try conv => whnf); first | (with_reducible (refine wo_seq (fun Qs hN hE hR => ?_))) | (with_reducible (refine wi_reg ?_)) | (with_reducible (refine wo_block (fun Qb kN kE kX kR => ?_))) | (with_reducible (refine wi_regd ?_)) | (with_reducible (refine wi_skip ?_)) | (with_reducible (refine wi_ret ?_)) | (with_reducible (refine wi_exit ?_)) | (with_reducible (refine wi_loop ?_)) | (with_reducible (show W _ _ _ (.cond _ _ _) _ _); refine wi_cond rfl ?_) | (with_reducible (refine hN _ ?_); (try clear hN hE hR Qs)) | (with_reducible (refine hE _ _ ?_); (try clear hN hE hR Qs)) | (with_reducible (refine hR _ ?_); (try clear hN hE hR Qs)) | (with_reducible (refine kN _ ?_); (try clear kN kE kX kR Qb)) | (with_reducible (refine kE _ ?_); (try clear kN kE kX kR Qb)) | (with_reducible (refine kX _ _ rfl ?_); (try clear kN kE kX kR Qb)) | (with_reducible (refine kR _ ?_); (try clear kN kE kX kR Qb)) | (refine cb_df f0 ?_) | (refine ccA ([]) (s1) ?_) | (refine ccA ([]) (s2) ?_) | (refine ccO [_, _, _, _] c1 o1 ?_) | (refine ccO [_, _] c2 o2 ?_) | (refine ccO [_, _] c3 o2 ?_) | (refine cb_nf ff ?_) | (refine cb_df m0 ?_) | (refine cb_nf mm ?_) | (refine stpQ ?_))
    (refine ans_auto (by rfl) ?_ ?_ (by rfl)) <;> (repeat' (first | (exact eqA) | (refine And.intro ?_ ?_) | ((fail_if_success (with_reducible (show _ = _))); (show _ = _))))
  · have f0 : (s.length : Int) > 1048576 := by omega
    refine ct_intro ttS_ok 1 rfl Tryd.func4 rfl rfl rfl ?_
    conv => arg 6; whnf
    repeat ((try conv => whnf); first | (with_reducible (refine wo_seq (fun Qs hN hE hR => ?_))) | (with_reducible (refine wi_reg ?_)) | (with_reducible (refine wo_block (fun Qb kN kE kX kR => ?_))) | (with_reducible (refine wi_regd ?_)) | (with_reducible (refine wi_skip ?_)) | (with_reducible (refine wi_ret ?_)) | (with_reducible (refine wi_exit ?_)) | (with_reducible (refine wi_loop ?_)) | (with_reducible (show W _ _ _ (.cond _ _ _) _ _); refine wi_cond rfl ?_) | (with_reducible (refine hN _ ?_); (try clear hN hE hR Qs)) | (with_reducible (refine hE _ _ ?_); (try clear hN hE hR Qs)) | (with_reducible (refine hR _ ?_); (try clear hN hE hR Qs)) | (with_reducible (refine kN _ ?_); (try clear kN kE kX kR Qb)) | (with_reducible (refine kE _ ?_); (try clear kN kE kX kR Qb)) | (with_reducible (refine kX _ _ rfl ?_); (try clear kN kE kX kR Qb)) | (with_reducible (refine kR _ ?_); (try clear kN kE kX kR Qb)) | (refine cb_dt f0 ?_) | (refine stpQ ?_))
    (refine ans_auto (by rfl) ?_ ?_ (by rfl)) <;> (repeat' (first | (exact eqA) | (refine And.intro ?_ ?_) | ((fail_if_success (with_reducible (show _ = _))); (show _ = _))))
end
theorem str_rs (X : Cx) (s : ByteArray) : RS X (.str s.data.toList) (.string s) := by
  have h := mk_str X s.data.toList
  rwa [show bs s.data.toList = s from rfl] at h
/-- The walk. -/
theorem walk (s : ByteArray) (w : World) (hg : Gl (cx0 w)) (hs : s.size ≤ maxLen) :
    Calls Tryd.prog 4 #[.string s] w fun e w' => e = .returned (.bool true) ∧ Below w.heap.size w w' :=
  ct_walk (c_law s.data.toList) w hg (vs := [.string s]) ⟨_, _, rfl, str_rs _ s, rfl⟩

/-! ### the row's step -/
theorem gP : Tryd.prog.globalNamed "internal/strconv.uint64pow10" = some 6 := by kernel_rfl
theorem tP : (Tryd.prog.globals[6]?).map (·.type) = some 140 := by kernel_rfl
theorem uP : Tryd.prog.underlying 140 = some (.array 20 121) := by kernel_rfl
theorem uU : Tryd.prog.underlying 121 = some (.int .u64) := by kernel_rfl
theorem cU : Tryd.prog.cellsOf 121 = 1 := by kernel_rfl
theorem cP : Tryd.prog.cellsOf 140 = 20 := by kernel_rfl
theorem gK : Tryd.prog.globalNamed "loop.example/g00284/impl.moveKinds" = some 0 := by kernel_rfl
theorem tK : (Tryd.prog.globals[0]?).map (·.type) = some 103 := by kernel_rfl
theorem uK : Tryd.prog.underlying 103 = some (.array 11 9) := by kernel_rfl
theorem uS : Tryd.prog.underlying 9 = some .string := by kernel_rfl
theorem cS : Tryd.prog.cellsOf 9 = 1 := by kernel_rfl
theorem cK : Tryd.prog.cellsOf 103 = 11 := by kernel_rfl
theorem gE : Tryd.prog.globalNamed "strconv.ErrSyntax" = some 4 := by kernel_rfl
theorem tE : (Tryd.prog.globals[4]?).map (·.type) = some 88 := by kernel_rfl
theorem cE : Tryd.prog.cellsOf 133 = 1 := by kernel_rfl
theorem star : "*" ++ "errors.errorString" = "*errors.errorString" := by decide
theorem rowE (u : TypeId) (h : Tryd.prog.typeName? 3 u = some "*errors.errorString") : u = 131 :=
  typeName_ptr_named (nm := "errors.errorString") (by rw [star]; kernel_rfl) (by kernel_rfl) (by decide) u (by rw [star]; exact h)
theorem var_heap {W : World} {name : String} {g : Nat} {cs : Array Value} (h : W.var? Tryd.prog name = some cs) (hg : Tryd.prog.globalNamed name = some g) : ∃ t fr, W.heap[g]? = some (.cells cs t fr) := by
  unfold World.var? at h
  rw [hg] at h
  simp only [Option.bind_some] at h
  cases hh : W.heap[g]? with
  | none => rw [hh] at h; cases h
  | some o =>
    rw [hh] at h
    cases o with
    | cells C t fr => exact ⟨t, fr, by rw [Option.some.inj h]⟩
    | _ => cases h
theorem glob_rl (ow : Own) (w : World) : ∀ zs : List Int, RL ow w (zs.map fun z => T.int .u64 z) (zs.map fun z => Value.int .u64 z)
  | [] => by simp [RL]
  | z :: zs => by
    have ih := glob_rl ow w zs
    simp only [List.map_cons, RL] at ih ⊢
    exact ⟨_, _, rfl, by simp [RV], ih⟩
theorem globS_rl (ow : Own) (w : World) : ∀ ws : List Bs, RL ow w (ws.map fun z => T.str z) (ws.map fun z => Value.string (bs z))
  | [] => by simp [RL]
  | z :: zs => by
    have ih := globS_rl ow w zs
    simp only [List.map_cons, RL] at ih ⊢
    exact ⟨_, _, rfl, by simp [RV], ih⟩
theorem cells_of_strs {H : Type} {enc : TypeId × Value → H} {P : Program} {w : World} {base : Nat} {sp : Nat → Bool} {held : Bool} {fuel : Nat} {t e : TypeId} {n : Nat} {cs : List Value} {ws : List Bs} {p : List MemPlace}
    (ht : P.underlying t = some (.array n e)) (he : P.underlying e = some .string) (hce : P.cellsOf e = 1) (hct : P.cellsOf t = n)
    (h : DataW.trod enc P w base sp held fuel t cs = some (.agg (ws.map fun z => .lit (.string z)), p)) : cs = ws.map fun z => Value.string (bs z) := by
  cases fuel with
  | zero => simp [DataW.trod] at h
  | succ fuel =>
    simp only [DataW.trod, ht, hce, hct, Nat.mul_one] at h
    split at h
    · rename_i hl
      obtain ⟨xs, hm, hx⟩ := Option.map_eq_some_iff.1 h
      have hxs : xs.map (·.1) = ws.map fun z => (DataW.lit (.string z) : DataW H) := by
        have := congrArg Prod.fst hx
        simpa using this
      have hxl : xs.length = n := by simpa using Lib.mapM_length hm
      have hzl : ws.length = n := by
        have := congrArg List.length hxs
        simp at this
        omega
      apply List.ext_getElem?
      intro i
      by_cases hi : i < n
      · obtain ⟨b, hb, hf⟩ := Lib.mapM_at hm i i (by simp [hi])
        obtain ⟨z, hc, rfl, _⟩ := DataW.trod_string he hf
        have h1 : cs[i]? = some (.string z) := by
          have := congrArg (·[0]?) hc
          simpa [List.getElem?_take, List.getElem?_drop] using this
        have h2 : (xs.map (·.1))[i]? = some (DataW.lit (.string z.data.toList) : DataW H) := by simp [hb]
        rw [hxs] at h2
        simp only [List.getElem?_map, Option.map_eq_some_iff, DataW.lit.injEq, Lit.string.injEq] at h2
        obtain ⟨z', hz', rfl⟩ := h2
        rw [h1, List.getElem?_map, hz']
        rfl
      · rw [List.getElem?_eq_none (by omega), List.getElem?_eq_none (by simp; omega)]
    · cases h
theorem eP : (Rows.laid_internal_strconv_uint64pow10 : DataW Unit) = Lib.tabData .u64 powZ := by kernel_rfl
theorem eK : (Rows.laid_loop_example_g00284_impl_moveKinds : DataW Unit) = .agg (mvW.map fun z => .lit (.string z)) := by kernel_rfl
theorem max_of {W : World} (h : W.ShapedOpen Tryd.prog) : ∃ m, W.cell? ⟨1, 0, none⟩ = some (.int .i64 m) :=
  cell_of_shapedOpen_int h (t := 3) (zero := #[.int .i64 0]) (of_decide_eq_true (by kernel_rfl)) (by kernel_rfl) rfl (by kernel_rfl) (by kernel_rfl) Tryd.underlying3
theorem gl_of {W : World} (hL : laidMet Tryd.prog Rows.fnExactReadScriptRow.laid W) (hsh : W.ShapedOpen Tryd.prog) : Gl (cx0 W) := by
  have hP0 := laidMet.tail (laidMet.tail hL)
  have hE0 := laidMet.tail (laidMet.tail (laidMet.tail hP0))
  have hK0 := laidMet.tail hE0
  change laidMet _ (("internal/strconv.uint64pow10", Rows.laid_internal_strconv_uint64pow10) :: _) W at hP0
  rw [eP] at hP0
  have hP := Lib.tabIs_of_head gP tP uP uU cU cP hP0
  obtain ⟨tp, fp, hp⟩ := var_heap hP gP
  obtain ⟨ae, se, hve, -, -, -⟩ := laid_sentinel hE0 gE tE Tryd.underlying88 rowE Tryd.underlying131 Tryd.underlying133 rfl rfl Tryd.underlying9 cE cS
  obtain ⟨te, fe, he⟩ := var_heap hve gE
  obtain ⟨ps, ⟨g', t', cs, fuel, p, q, hg', ht', hvar, hd, _, _⟩, _⟩ := hK0
  obtain rfl := Option.some.inj (gK.symm.trans hg')
  obtain rfl := Option.some.inj (tK.symm.trans ht')
  rw [eK] at hd
  have hcs := cells_of_strs uK uS cS cK hd
  obtain ⟨tk, fk, hk⟩ := var_heap hvar gK
  obtain ⟨m, hm⟩ := max_of hsh
  refine ⟨fun g cs hg => ?_, fun g k hg => ?_⟩
  · unfold glob at hg
    cases h1 : Nat.beq g 0 with
    | true =>
      rw [h1] at hg
      have e := Nat.eq_of_beq_eq_true h1
      subst e
      injection hg with hg; subst hg
      exact ⟨rfl, _, tk, fk, hk, by rw [hcs]; exact globS_rl _ _ _⟩
    | false =>
      rw [h1] at hg
      cases h2 : Nat.beq g 6 with
      | true =>
        rw [h2] at hg
        have e := Nat.eq_of_beq_eq_true h2
        subst e
        injection hg with hg; subst hg
        exact ⟨rfl, _, tp, fp, hp, by simp only []; exact glob_rl _ _ _⟩
      | false => rw [h2] at hg; cases hg
  · unfold globX at hg
    cases h1 : Nat.beq g 1 with
    | true =>
      rw [h1] at hg
      have e := Nat.eq_of_beq_eq_true h1
      subst e
      injection hg with hg; subst hg
      simp only [World.cell?, Option.isSome_none, Bool.false_eq_true, if_false] at hm
      cases hh : W.heap[1]? with
      | none => rw [hh] at hm; simp at hm
      | some ob =>
        rw [hh] at hm
        cases ob with
        | cells C t fr => exact ⟨rfl, C, t, fr, hh, m, by simpa using hm⟩
        | _ => simp at hm
    | false =>
      rw [h1] at hg
      cases h2 : Nat.beq g 4 with
      | true =>
        rw [h2] at hg
        have e := Nat.eq_of_beq_eq_true h2
        subst e
        injection hg with hg; subst hg
        exact ⟨rfl, _, te, fe, he, _, rfl, .inr ⟨_, _, rfl⟩⟩
      | false => rw [h2] at hg; cases hg
/-- A heap that meets the condition: each listed variable laid. -/
theorem door_met (os : Os) (args : Array Value) : laidMetH Tryd.prog Rows.fnExactReadScriptRow.laid ((World.laidAll Tryd.prog os Rows.fnExactReadScriptRow.laid).forCall (fun _ _ => 0) ⟨#[], args, []⟩).memory := by
  rw [MakeChecks.laidMetH_plain _ _ _ (by kernel_rfl)]
  exact laidMet_laidAll _ (by kernel_rfl) (by kernel_rfl)
theorem rih {H : Type} {enc : TypeId × Value → H} {a : Assume} {C : Checked} {os : Os} {f : FuncId} {fn : Func} {s : ChangeSpec} {conds : List PathCond} {apart fresh handsOn again : Bool} {X : World → Array Value → Prop}
    (hX : ∀ (w w' : World) (args : Array Value), w.heap = w'.heap → X w args → X w' args)
    (own : ownKnob C.prog.godebug = none) (started : os.Started) (noInit : C.prog.inits.idxOf? f = none) (hfn : C.prog.funcs[f]? = some fn)
    (witness : ∃ (w : World) (tape : Tape) (i : Input), w.os = os ∧ (w.forCall tape i).Shaped C.prog ∧ i.vars = [] ∧ Input.okWide C.prog (w.forCall tape i) .any w.heap.size f i ∧
      ((s.pre enc C.prog fn conds apart (w.forCall tape i).memory i.args ∧ X (w.forCall tape i).memory i.args) ∧ sizedMet enc C.prog fn (OpenSpec.ofChange s) apart (w.forCall tape i).memory i.args) ∧ a.holds C.prog (lone (Frame.enter C.prog f i.args .normal) [] (w.forCall tape i)))
    (contract : ∀ (W : World) (base : Nat) (args : Array Value) (ds gs : List (DataW H)) (before : List MemPlace),
      (∀ (j : Nat) t v, fn.params[j]? = some t → args[j]? = some v → Value.okWide C.prog W .any base t v) →
      DataW.Whole enc C.prog fn.params.toList s.vars apart W args.toList ds gs before → X W args → W.ShapedOpen C.prog →
      Calls C.prog f args W fun e W' => ∃ v, e = .returned v ∧ s.post enc C.prog fn apart fresh handsOn again W args v W') :
    ReturnsInHanded a C os f .any (fun w args => (s.pre enc C.prog fn conds apart w args ∧ X w args) ∧ sizedMet enc C.prog fn (OpenSpec.ofChange s) apart w args) (s.post enc C.prog fn apart fresh handsOn again) := by
  refine returnsInHanded_of_calls own started noInit witness ?_
  intro w tape i _ hsh _ hok hpre _
  obtain ⟨_, _, _, fn', hfn', _, _, _, _, hval⟩ := hok
  obtain rfl : fn' = fn := Option.some.inj (hfn'.symm.trans hfn)
  obtain ⟨⟨⟨ds, gs, before, hw, _⟩, hx⟩, _⟩ := hpre
  refine (contract (w.forCall tape i) w.heap.size i.args ds gs before hval (DataW.Whole.of_heap (w' := w.forCall tape i) (by rfl) hw) (hX _ _ _ (by rfl) hx) hsh).mono fun e W' ⟨v, he, hp⟩ => ?_
  subst he
  exact ChangeSpec.post_blind hp
set_option maxRecDepth 100000 in
theorem lifted (os : Os) (started : os.Started) (H : Type) (enc : TypeId × Value → H) :
    ReturnsInHanded {} Tryd.checked os 4 .any (fun w args => (Rows.fnExactReadScriptSpec.pre enc Tryd.prog Tryd.f4 [] false w args ∧ laidMetH Tryd.prog Rows.fnExactReadScriptRow.laid w) ∧ sizedMet enc Tryd.prog Tryd.f4 (OpenSpec.ofChange Rows.fnExactReadScriptSpec) false w args) (Rows.fnExactReadScriptSpec.post enc Tryd.prog Tryd.f4 false true false false) := by
  refine rih (C := Tryd.checked) (X := fun w _ => laidMetH Tryd.prog Rows.fnExactReadScriptRow.laid w) (fun _ _ _ hh h => h.of_heap hh) own started (by kernel_rfl) Tryd.func4
    (ChangeSpec.witness_shaped (enc := enc) (C := Tryd.checked) (os := os) (X := fun w _ => laidMetH Tryd.prog Rows.fnExactReadScriptRow.laid w) false (World.laidAll Tryd.prog os Rows.fnExactReadScriptRow.laid) #[.string ByteArray.empty] 8 (World.laidAll_os _ _ _) (World.shaped_of_ZipB (by kernel_rfl) (by kernel_rfl)) (by kernel_rfl) (by kernel_rfl) (by kernel_rfl) (door_met os _)) ?_
  intro W base args ds gs before hval0 hW hL0 hsh
  have hL1 : laidMet Tryd.prog Rows.fnExactReadScriptRow.laid W := by rwa [MakeChecks.laidMetH_plain _ _ _ (by kernel_rfl)] at hL0
  have hgl := gl_of hL1 hsh
  have hval : ∀ (j : Nat) t v, Tryd.f4.params[j]? = some t → args[j]? = some v → Value.okWide Tryd.prog W .any base t v := hval0
  have hW' := hW
  obtain ⟨p, q, hA0, hV, rfl, hfz, hnd⟩ := hW
  have hA : DataW.TrodAll enc Tryd.prog W 0 (fun _ => true) true Tryd.f4.params.toList args.toList ds p := hA0
  rw [Tryd.params4] at hA hval
  obtain ⟨v0, vs0, d0, ds0, p0, q0, hargs, rfl, rfl, h0, r0⟩ := trodAll_cons hA
  obtain ⟨rfl, rfl, rfl⟩ := trodAll_nil r0
  obtain rfl : args = #[v0] := by cases args; simp_all
  have hV0 : DataW.TrodVars enc Tryd.prog W (fun _ => true) Rows.fnExactReadScriptSpec.vars gs q := hV
  obtain ⟨gA, tA, csA, fA, dA, pA, rfl, _, _, _, _, _⟩ := trodVars_one hV0
  obtain ⟨a0, rfl, rfl, rfl, w0⟩ := open_string Tryd.underlying9 (hval 0 9 v0 rfl rfl) h0
  clear hA0 hval0 hV
  refine (walk a0 W hgl w0).mono fun e W' ⟨he, bel⟩ => ?_
  subst he
  exact ⟨_, rfl, _, _, _, [], _, q, hW', trodAll_mk1 (shut_bool Tryd.underlying4 _), (trodAll_cons_mk (shut_string Tryd.underlying9 w0) trodAll_mk0), Below.trodVars laidOut bel (by kernel_rfl) hV0, bel.frame _, fun h => by cases h⟩

theorem over : Rows.fnExactReadScriptRow.holds Tryd.pinned (OpenSpec.ofChange Rows.fnExactReadScriptSpec) :=
  OpenClaim.holds_of_wide 4 Tryd.f4 rfl rfl rfl rfl rfl rfl rfl ⟨rfl, rfl, rfl, rfl, rfl⟩ rfl rfl rfl rfl rfl (by kernel_rfl) Tryd.func4 (by kernel_rfl)
    (of_decide_eq_true (by kernel_rfl)) (by unfold Func.isWrapper; first | (rw [if_pos (by decide +kernel)]; kernel_rfl) | (rw [if_neg (by decide +kernel)]; exact ⟨rfl, rfl⟩))
    (fun os started H enc _ => lifted os started H enc)

/-- The statement: the row's card, tied to the program's text. -/
theorem proved : Rows.FnExactReadScriptCardSaid :=
  Claim7.holds_tied_plain_at .later [] [.data, .data, .data, .data, .sentinel, .sentinel, .data, .pinned] true Rows.fnExactReadScriptCard.stood.harness true
    over (fun _ h => by cases h) (by kernel_rfl) (fun _ h => by cases h) fnExactReadScript_row_tie rfl ⟨rfl, rfl⟩ (by kernel_rfl) rfl
    (fun f fn hf hfn => by
      obtain rfl : f = 4 := Option.some.inj ((show Tryd.prog.funcNamed "loop.example/g00284/laws.FnExactReadScript" = some 4 by kernel_rfl).symm.trans hf) |>.symm
      obtain rfl : fn = Tryd.f4 := (Option.some.inj (Tryd.func4.symm.trans hfn)).symm
      exact ⟨by kernel_rfl, fun j t ht => by
        rw [Tryd.params4] at ht
        have hm := Array.mem_of_getElem? ht
        have hall : (Tryd.f4.params.all fun u => !Tryd.prog.wantsStandIn u) = true := by kernel_rfl
        rw [Tryd.params4] at hall
        have := Array.all_eq_true_iff_forall_mem.1 hall t hm
        exact (show Tryd.prog.wantsStandIn t = false by simpa using this)⟩)
    (by kernel_rfl)

#print axioms proved
end Go.Proofs.YtkgfidphcpklhaaDoor.fnExactReadScript
