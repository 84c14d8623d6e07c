/- One operation, told by content: sums of numbers and strings, conversions, structs built. -/
import Derived.Test.YtkdajahiaedoiaaV5
namespace Go.Proofs.Ytkdajahiaedoiaa
open Go.RowKit Pl
set_option linter.unusedVariables false
set_option linter.unusedSectionVars false

theorem beq_dec {α : Type} [DecidableEq α] [BEq α] [LawfulBEq α] (a b : α) : (a == b) = decide (a = b) := by rw [Bool.eq_iff_iff]; simp
theorem bs_inj {a b : Bs} : bs a = bs b ↔ a = b := ⟨fun h => by rw [← bs_data a, h, bs_data], fun h => by rw [h]⟩
theorem bs_toList (a : Bs) : (bs a).toList = a := by rw [toList_data, bs_data]
theorem bs_append (a b : Bs) : bs a ++ bs b = bs (a ++ b) := data_ext (by rw [data_append, bs_data, bs_data, bs_data])
theorem bs_extract (s : Bs) (i j : Nat) : (bs s).extract i j = bs ((s.drop i).take (j - i)) := data_ext (by rw [data_extract, bs_data, bs_data])

section
variable {P : Program} {X : Cx} {id : Nat} {K : Kon} (hh : HR X) (hi : Fresh X id)
include hh hi
theorem eff_bin {op : BinOp} {t : TypeId} {x y : T} {v u : Value} {ox oy : Operand} (hx : RS X x v) (hy : RS X y u) (h : binT op x y fun r => K r []) :
    Ran P X id K (do pure (.value (← (do eqGuard op t ox oy v u; binOp op t v u)))) := by
  cases x <;> cases y <;> simp only [binT] at h
  case int.int k a k' b =>
    obtain rfl := rs_int hx
    obtain rfl := rs_int hy
    rw [eqGuard_at_int]
    have fin : ∀ {r : Int}, K (.int k r) [] → (binOp op t (.int k a) (.int k' b)).run P X.w = .ok (.int k r) X.w → Ran P X id K (do pure (.value (← (do pure (); binOp op t (.int k a) (.int k' b))))) := fun hk hr => Ran.value (by simp [hr]) (Out.same hh hi hk (mk_int _ _ _))
    have finb : ∀ {r : Bool}, K (.bool r) [] → (binOp op t (.int k a) (.int k' b)).run P X.w = .ok (.bool r) X.w → Ran P X id K (do pure (.value (← (do pure (); binOp op t (.int k a) (.int k' b))))) := fun hk hr => Ran.value (by simp [hr]) (Out.same hh hi hk (mk_bool _ _))
    cases op <;> simp only at h
    case shl => obtain ⟨h1, h2, r, rfl, hk⟩ := h; exact fin hk (by rw [binOp_shl, shift_shl _ _ _ _ h1 h2]; rfl)
    case shr => obtain ⟨h1, h2, r, rfl, hk⟩ := h; exact fin hk (by rw [binOp_shr, shift_shr _ _ _ _ h1 h2]; rfl)
    case add => obtain ⟨rfl, r, rfl, hk⟩ := h; exact fin hk (by rw [binOp_add]; rfl)
    case sub => obtain ⟨rfl, r, rfl, hk⟩ := h; exact fin hk (by rw [binOp_sub]; rfl)
    case mul => obtain ⟨rfl, r, rfl, hk⟩ := h; exact fin hk (by rw [binOp_mul]; rfl)
    case quo => obtain ⟨rfl, hb, r, rfl, hk⟩ := h; exact fin hk (by rw [binOp_quo, Op.intDiv, if_neg hb]; rfl)
    case rem => obtain ⟨rfl, hb, r, rfl, hk⟩ := h; exact fin hk (by rw [binOp_rem, Op.intDiv, if_neg hb]; rfl)
    case and => obtain ⟨rfl, r, rfl, hk⟩ := h; exact fin hk (by rw [binOp_and, intBits_and]; rfl)
    case or => obtain ⟨rfl, r, rfl, hk⟩ := h; exact fin hk (by rw [binOp_or, intBits_or]; rfl)
    case xor => obtain ⟨rfl, r, rfl, hk⟩ := h; exact fin hk (by rw [binOp_xor, intBits_xor]; rfl)
    case andNot => obtain ⟨rfl, r, rfl, hk⟩ := h; exact fin hk (by rw [binOp_andNot, intBits_andNot]; rfl)
    case eql => obtain ⟨rfl, hk⟩ := h; exact finb hk (by rw [binOp_eql]; simp [beq_dec])
    case neq => obtain ⟨rfl, hk⟩ := h; exact finb hk (by rw [binOp_neq]; simp [bne, beq_dec])
    case lss => obtain ⟨rfl, hk⟩ := h; exact finb hk (by rw [binOp_lss]; rfl)
    case leq => obtain ⟨rfl, hk⟩ := h; exact finb hk (by rw [binOp_leq]; rfl)
    case gtr => obtain ⟨rfl, hk⟩ := h; exact finb hk (by rw [binOp_gtr]; rfl)
    case geq => obtain ⟨rfl, hk⟩ := h; exact finb hk (by rw [binOp_geq]; rfl)
  case str.str a b =>
    obtain rfl := rs_str hx
    obtain rfl := rs_str hy
    rw [eqGuard_at_string]
    have hbin : binOp op t (.string (bs a)) (.string (bs b)) = Op.stringOp op (bs a) (bs b) := by cases op <;> rfl
    rw [hbin]
    have finb : ∀ {r : Bool}, K (.bool r) [] → (Op.stringOp op (bs a) (bs b)).run P X.w = .ok (.bool r) X.w → Ran P X id K (do pure (.value (← (do pure (); Op.stringOp op (bs a) (bs b))))) := fun hk hr => Ran.value (by simp [hr]) (Out.same hh hi hk (mk_bool _ _))
    have hbeq : ((bs a).toList == (bs b).toList) = decide (a = b) := by rw [bs_toList, bs_toList, beq_dec]
    cases op <;> simp only at h
    case add =>
      obtain ⟨hl, hk⟩ := h
      refine Ran.value (v := .string (bs (a ++ b))) (w' := X.w) ?_ (Out.same hh hi hk (mk_str _ _))
      have : ¬ (((bs a).size + (bs b).size : Nat) : Int) > IntKind.i64.max := by rw [IntKind.max_i64, bs_size, bs_size]; omega
      simp only [Op.stringOp, if_neg this]
      rw [← bs_append]; rfl
    case eql => exact finb h (by simp only [Op.stringOp, hbeq]; rfl)
    case neq => exact finb h (by simp only [Op.stringOp, hbeq]; rfl)
    case lss => exact finb h (by simp only [Op.stringOp, bs_toList]; rfl)
    case leq => exact finb h (by simp only [Op.stringOp, hbeq]; simp only [bs_toList]; rfl)
    case gtr => exact finb h (by simp only [Op.stringOp, hbeq]; simp only [bs_toList]; rfl)
    case geq => exact finb h (by simp only [Op.stringOp, bs_toList]; rfl)
    all_goals exact h.elim
  all_goals exact h.elim
theorem zv_rsl : ∀ {zs xs : List T} {us : List Value}, sameK zs xs = true → RSl X xs us → us = xs.map zv
  | [], [], us, _, h => h
  | [], _ :: _, _, h, _ => by simp [sameK] at h
  | z :: zs, [], _, h, _ => by cases z <;> simp [sameK] at h
  | z :: zs, x :: xs, us, h, ⟨u, us', hu, _, h2, h3⟩ => by
    subst hu
    cases z <;> cases x <;> simp only [sameK, Bool.and_eq_true] at h <;> try (cases h; done)
    case int.int k n k' n' => rw [zv_rsl h.2 h3]; have : u = .int k' n' := by simpa [RS0, RV] using h2
                              subst this; rfl
    case bool.bool a b => rw [zv_rsl h h3]; have : u = .bool b := by simpa [RS0, RV] using h2
                          subst this; rfl
    case str.str a b => rw [zv_rsl h h3]; have : u = .string (bs b) := by simpa [RS0, RV] using h2
                        subst this; rfl
omit hh hi in
theorem run_eqFields (w : World) (d : Nat) : ∀ {fs : List Field} {i : Nat} {zs xs ys : List T} {A B : Array Value}, flatF P fs i zs → sameK zs xs = true → sameK zs ys = true → A.toList.drop i = xs.map zv → B.toList.drop i = ys.map zv →
    (Op.eqFields (d + 1) A B fs).run P w = .ok (eqC xs ys) w
  | [], i, zs, xs, ys, A, B, hf, hx, hy, hA, hB => by
    have : zs = [] := hf
    subst this
    cases xs <;> cases ys <;> simp [sameK] at hx hy
    rfl
  | f :: fs, i, [], xs, ys, A, B, hf, hx, hy, hA, hB => hf.elim
  | f :: fs, i, z :: zs, xs, ys, A, B, ⟨hn, ho, hu, hf⟩, hx, hy, hA, hB => by
    cases xs with
    | nil => cases z <;> simp [sameK] at hx
    | cons x xs => cases ys with
      | nil => cases z <;> simp [sameK] at hy
      | cons y ys =>
        have hA1 : A[i]? = some (zv x) := by
          have := congrArg (·[0]?) hA
          simpa using this
        have hB1 : B[i]? = some (zv y) := by
          have := congrArg (·[0]?) hB
          simpa using this
        have hA2 : A.toList.drop (i + 1) = xs.map zv := by rw [← List.drop_drop, hA]; rfl
        have hB2 : B.toList.drop (i + 1) = ys.map zv := by rw [← List.drop_drop, hB]; rfl
        simp only [Op.eqFields, ho]
        rw [if_pos hn]
        cases z <;> cases x <;> simp only [sameK, Bool.and_eq_true] at hx <;> try (cases hx; done)
        all_goals (cases y <;> simp only [sameK, Bool.and_eq_true] at hy <;> try (cases hy; done))
        case int.int.int k n k1 n1 k2 n2 =>
          have e1 : k1 = k2 := (of_decide_eq_true hx.1).symm.trans (of_decide_eq_true hy.1)
          subst e1
          have ih := run_eqFields w d hf hx.2 hy.2 hA2 hB2
          have p : ∀ (C : Array Value) (v : Value), C[i]? = some v → (part f.type C i).run P w = .ok v w := fun C v hC => by simp [part, isAgg, run_underlying hu, hC]
          simp only [Sem.run_bind, p _ _ hA1, p _ _ hB1, Result.andThen_ok, zv, run_equalIn_int _ _ _ _ _ _ _ hu, eqC]
          by_cases h : n1 = n2
          · subst h; simp [ih]
          · simp [h]
        case bool.bool.bool b b1 b2 =>
          have ih := run_eqFields w d hf hx hy hA2 hB2
          have p : ∀ (C : Array Value) (v : Value), C[i]? = some v → (part f.type C i).run P w = .ok v w := fun C v hC => by simp [part, isAgg, run_underlying hu, hC]
          simp only [Sem.run_bind, p _ _ hA1, p _ _ hB1, Result.andThen_ok, zv, run_equalIn_bool' _ _ _ _ _ hu, eqC]
          by_cases h : b1 = b2
          · subst h; simp [ih]
          · simp [h]
        case str.str.str s s1 s2 =>
          have ih := run_eqFields w d hf hx hy hA2 hB2
          have p : ∀ (C : Array Value) (v : Value), C[i]? = some v → (part f.type C i).run P w = .ok v w := fun C v hC => by simp [part, isAgg, run_underlying hu, hC]
          simp only [Sem.run_bind, p _ _ hA1, p _ _ hB1, Result.andThen_ok, zv, run_equalIn_string _ _ _ _ _ hu, eqC, bs_toList]
          by_cases h : s1 = s2
          · subst h; simp [ih]
          · simp [h]
theorem eff_binA {tt : TT} (htt : TtOk P tt) {op : BinOp} {t : TypeId} {xs ys : List T} {v u : Value} {ox oy : Operand} (hx : RS X (.agg xs) v) (hy : RS X (.agg ys) u) (h : eqT tt op t xs ys fun r => K r []) :
    Ran P X id K (do pure (.value (← (do eqGuard op t ox oy v u; binOp op t v u)))) := by
  unfold eqT at h
  split at h <;> try exact h.elim
  rename_i y hty
  obtain ⟨hc, h1, h2, h⟩ := h
  obtain ⟨g1, g2, F, g3, g4⟩ := (htt _ _ hty).cm hc
  obtain ⟨vs, rfl, hl⟩ := hx
  obtain ⟨us, rfl, hr⟩ := hy
  have e1 := zv_rsl hh hi h1 hl
  have e2 := zv_rsl hh hi h2 hr
  have hfo : P.fieldsOf t = F := by simp [Program.fieldsOf, g3]
  have key : (Op.equalIn 10000 t (.agg vs) (.agg us)).run P X.w = .ok (eqC xs ys) X.w := by
    rw [run_equalIn_agg _ _ _ _ _ (by rw [hfo]; exact g3) g2, hfo]
    exact run_eqFields X.w 9998 g4 h1 h2 (by simpa using e1) (by simpa using e2)
  cases op <;> simp only at h <;> try exact h.elim
  · exact Ran.value (v := .bool (eqC xs ys)) (by simp [run_eqGuard_agg _ _ _ _ _ _ _ g1, run_eql_struct, key]) (Out.same hh hi h (mk_bool _ _))
  · exact Ran.value (v := .bool (!eqC xs ys)) (by simp [run_eqGuard_agg _ _ _ _ _ _ _ g1, run_neq_struct, key]) (Out.same hh hi h (mk_bool _ _))
theorem eff_binB {tt : TT} (htt : TtOk P tt) {op : BinOp} {t : TypeId} {a b : Bool} {v u : Value} {ox oy : Operand} (hx : RS X (.bool a) v) (hy : RS X (.bool b) u) (h : eqB tt op t a b fun r => K r []) :
    Ran P X id K (do pure (.value (← (do eqGuard op t ox oy v u; binOp op t v u)))) := by
  obtain rfl := rs_bool hx
  obtain rfl := rs_bool hy
  unfold eqB at h
  split at h <;> try exact h.elim
  rename_i y hty
  split at h <;> try exact h.elim
  rename_i hd
  have hu : P.underlying t = some .bool := by
    obtain ⟨d, h1, h2⟩ := (htt _ _ hty).und
    rw [hd] at h2
    cases d <;> simp [TD.of] at h2
    exact h1
  rw [eqGuard_at_bool]
  have key : (Op.equal t (.bool a) (.bool b)).run P X.w = .ok (decide (a = b)) X.w := by
    have := run_equalIn_bool' (P := P) X.w 9999 t a b hu
    rw [beq_dec] at this; exact this
  cases op <;> simp only at h <;> try exact h.elim
  · exact Ran.value (v := .bool (decide (a = b))) (by simp [binOp, key]) (Out.same hh hi h (mk_bool _ _))
  · exact Ran.value (v := .bool (!decide (a = b))) (by simp [binOp, key]) (Out.same hh hi h (mk_bool _ _))
theorem eff_un {op : UnOp} {x : T} {v : Value} (hx : RS X x v) (h : unT op x fun r => K r []) : Ran P X id K (do pure (.value (← Op.unary op v))) := by
  cases op <;> cases x <;> simp only [unT] at h
  case not.bool b => obtain rfl := rs_bool hx; exact Ran.value (v := .bool !b) rfl (Out.same hh hi h (mk_bool _ _))
  case neg.int k n => obtain rfl := rs_int hx; obtain ⟨r, rfl, h⟩ := h; exact Ran.value (v := .int k _) rfl (Out.same hh hi h (mk_int _ _ _))
  case xor.int k n => obtain rfl := rs_int hx; obtain ⟨r, rfl, h⟩ := h; exact Ran.value (v := .int k _) rfl (Out.same hh hi h (mk_int _ _ _))
  all_goals exact h.elim
theorem eff_move {x : T} {v : Value} (hx : RS X x v) (h : forceT x fun x => K x []) : Ran P X id K (pure (.value v)) :=
  ⟨_, v, X.w, rfl, .inl rfl, Out.same hh hi (forceT_eq (K := fun x => K x []) h) hx⟩
theorem eff_pick {c a b : T} {vc va vb : Value} (hc : RS X c vc) (ha : RS X a va) (hb : RS X b vb) (h : CondT c (forceT a fun a => K a []) (forceT b fun b => K b [])) : Ran P X id K (do pure (.value (if ← asBool vc then va else vb))) := by
  cases c <;> simp only [CondT] at h
  case bool b0 =>
    obtain rfl := rs_bool hc
    cases b0
    · exact ⟨_, vb, X.w, by simp [asBool], .inl rfl, Out.same hh hi (forceT_eq (K := fun x => K x []) (h.2 rfl)) hb⟩
    · exact ⟨_, va, X.w, by simp [asBool], .inl rfl, Out.same hh hi (forceT_eq (K := fun x => K x []) (h.1 rfl)) ha⟩
  all_goals exact h.elim
theorem eff_extract {x : T} {v : Value} {i : Nat} {tt : TT} (hx : RS X x v) (h : Eff tt (.extract (.tmp 0) i) 0 [x] X.H id K) : Ran P X id K (do pure (.value (← Instr.extract v i))) := by
  simp only [Eff] at h
  split at h <;> try exact h.elim
  rename_i cs
  split at h <;> try exact h.elim
  rename_i c hc
  obtain ⟨vs, rfl, hl⟩ : ∃ vs, v = .tuple vs ∧ RSt X cs vs.toList := hx
  have : ∃ u, vs[i]? = some u ∧ RS1 X c u := by
    have key : ∀ (cs : List T) (us : List Value) (i : Nat), RSt X cs us → cs[i]? = some c → ∃ u, us[i]? = some u ∧ RS1 X c u := by
      intro cs
      induction cs with
      | nil => intro us i _ hc; simp at hc
      | cons c0 cs ih =>
        rintro us i ⟨u0, us, rfl, h1, h2⟩ hc
        cases i with
        | zero => simp at hc; subst hc; exact ⟨u0, rfl, h1⟩
        | succ i => simp at hc; simpa using ih us i h2 hc
    simpa using key cs vs.toList i hl hc
  obtain ⟨u, hu, h1⟩ := this
  exact Ran.value (v := u) (w' := X.w) (by simp [Instr.extract, hu]) (Out.same hh hi (forceT_eq (K := fun c => K c []) h) h1.rs)
theorem eff_nilCheck {x : T} {v : Value} {tt : TT} {o : Operand} {ρ : Operand → Value} (hρ : ρ o = v) (hx : RS X x v) (h : Eff tt (.nilCheck o) 0 [x] X.H id K) : ∃ a, v = .pointer (some a) ∧ Out X id K v X.w := by
  simp only [Eff] at h
  split at h <;> try exact h.elim
  · obtain ⟨h1, ⟨a, rfl⟩, h3⟩ := rs_ptr hx
    exact ⟨a, rfl, Out.same hh hi h hx⟩
  · obtain ⟨g, o, C, t, fr, rfl, h3⟩ := rs_rptr hx
    exact ⟨_, rfl, Out.same hh hi h hx⟩
end
end Go.Proofs.Ytkdajahiaedoiaa
