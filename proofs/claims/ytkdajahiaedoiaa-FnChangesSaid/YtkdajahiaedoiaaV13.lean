/- Contracts by content, and what a call does. -/
import Derived.Test.YtkdajahiaedoiaaV12
namespace Go.Proofs.Ytkdajahiaedoiaa
open Go.RowKit Pl
set_option linter.unusedVariables false
set_option linter.unusedSectionVars false

/-! ### every operation that calls nobody -/
theorem eff_sound {P : Program} {tt : TT} (htt : TtOk P tt) {X : Cx} {id : Nat} {K : Kon} (hh : HR X) (hi : Fresh X id) {o : Oper} {a : Act} {args : List T}
    (ha : Args X args ((opnds o.op).map a.eval)) (h : Eff tt o.op o.type args X.H id K) : Ran P X id K (execOp a.eval o) := by
  obtain ⟨dst, op, ty, pos, after, guard⟩ := o
  have l0 : ∀ {f : T → Prop}, args = [] → (opnds op).map a.eval = [] → True := fun _ _ => trivial
  cases op <;> simp only [opnds, List.map_cons, List.map_nil] at ha
  case move x => match args, ha, h with
    | [y], ha, h => exact eff_move hh hi (args1 ha) h
  case assign x => match args, ha, h with
    | [y], ha, h => exact eff_move hh hi (args1 ha) h
  case pick c x y => match args, ha, h with
    | [t, u, v], ha, h => obtain ⟨h1, h2, h3⟩ := args3 ha; exact eff_pick hh hi h1 h2 h3 h
  case alloc e => match args, ha, h with
    | [], ha, h => exact eff_alloc htt hh hi h
  case box e x => match args, ha, h with
    | [y], ha, h => exact eff_box htt hh hi (args1 ha) h
  case build t ps => exact eff_build htt hh hi ha h
  case buildSlice t n ps => exact eff_buildSlice htt hh hi ha h
  case load t x => match args, ha, h with
    | [y], ha, h => exact eff_load htt hh hi (args1 ha) h
  case store t x y => match args, ha, h with
    | [u, v], ha, h => obtain ⟨h1, h2⟩ := args2 ha; exact eff_store htt hh hi h1 h2 h
  case nilCheck x => match args, ha, h with
    | [y], ha, h =>
      obtain ⟨ad, hv, ho⟩ := eff_nilCheck (tt := tt) (o := x) (ρ := a.eval) (v := a.eval x) hh hi rfl (args1 ha) h
      refine ⟨.value (a.eval x), a.eval x, X.w, ?_, .inl rfl, ho⟩
      simp [execOp, hv]
  case binOp op t x y yt => match args, ha, h with
    | [u, v], ha, h =>
      obtain ⟨h1, h2⟩ := args2 ha
      cases u <;> cases v <;> first | exact eff_bin hh hi h1 h2 h | exact eff_binA hh hi htt h1 h2 h | exact eff_binB hh hi htt h1 h2 h
  case unOp op t x => match args, ha, h with
    | [y], ha, h => exact eff_un hh hi (args1 ha) h
  case convert s d x => match args, ha, h with
    | [y], ha, h => exact eff_convert (ox := x) htt hh hi (args1 ha) h
  case makeSlice t l c => match args, ha, h with
    | [u, v], ha, h => obtain ⟨h1, h2⟩ := args2 ha; exact eff_makeSlice (ol := l) (oc := c) htt hh hi h1 h2 h
  case slice t x lo hi' mx =>
    cases lo <;> cases hi' <;> cases mx <;> simp only [Option.toList, List.append_nil, List.nil_append, List.map_cons, List.map_nil, List.singleton_append, List.cons_append] at ha
    case some.none.none l => match args, ha, h with
      | [u, v], ha, h => obtain ⟨h1, h2⟩ := args2 ha; exact eff_slice1 (ox := x) (oa := l) htt hh hi h1 h2 h
    case none.some.none l => match args, ha, h with
      | [u, v], ha, h => obtain ⟨h1, h2⟩ := args2 ha; exact eff_slice2 (ox := x) (oa := l) htt hh hi h1 h2 h
    case some.some.none l m => match args, ha, h with
      | [u, v, t], ha, h => obtain ⟨h1, h2, h3⟩ := args3 ha; exact eff_slice3 (ox := x) (oa := l) (ob := m) htt hh hi h1 h2 h3 h
    all_goals (simp only [Eff] at h)
  case fieldAddr s x f => match args, ha, h with
    | [y], ha, h => exact eff_fieldAddr htt hh hi (args1 ha) h
  case indexAddr t x i => match args, ha, h with
    | [u, v], ha, h => obtain ⟨h1, h2⟩ := args2 ha; exact eff_indexAddr htt hh hi h1 h2 h
  case index t x i => match args, ha, h with
    | [u, v], ha, h => obtain ⟨h1, h2⟩ := args2 ha; exact eff_index htt hh hi h1 h2 h
  case extract x i => match args, ha, h with
    | [y], ha, h => exact eff_extract (tt := tt) hh hi (args1 ha) h
  case call c =>
    cases hc : c.callee with
    | value f => simp only [Eff, hc] at h
    | invoke r m => simp only [Eff, hc] at h
    | builtin b =>
      simp only [hc, List.nil_append] at ha
      cases b <;> try (simp only [Eff, hc] at h; done)
      case append =>
        match hargs : args, ha, h with
        | [x, z], ha, h =>
          obtain ⟨u, us, he, h1, u2, us2, rfl, h2, h3⟩ := ha
          have h3' : us2 = [] := h3
          subst h3'
          obtain ⟨q, w', hr, ho⟩ := eff_append htt hh hi (ty := ty) (consts := c.args.map fun | .const _ => true | _ => false) hc h1 h2 h
          refine ⟨.value q, q, w', ?_, .inl rfl, ho⟩
          have hm : c.args.map a.eval = #[u, u2] := by rw [← Array.toArray_toList (xs := c.args.map a.eval), Array.toList_map, he]
          simp only [execOp, resolve, hc, invoke, Sem.run_bind, Sem.run_pure, Result.andThen_ok, hm]
          exact hr
        | [], ha, h => simp only [Eff, hc] at h
        | [_], ha, h => simp only [Eff, hc] at h
        | _ :: _ :: _ :: _, ha, h => simp only [Eff, hc] at h
      case len =>
        match hargs : args, ha, h with
        | [x], ha, h =>
          obtain ⟨u, us, he, h1, h3⟩ := ha
          have h3' : us = [] := h3
          subst h3'
          obtain ⟨q, hr, ho⟩ := eff_len htt hh hi (ty := ty) (consts := c.args.map fun | .const _ => true | _ => false) hc h1 h
          refine ⟨.value q, q, X.w, ?_, .inl rfl, ho⟩
          have hm : c.args.map a.eval = #[u] := by rw [← Array.toArray_toList (xs := c.args.map a.eval), Array.toList_map, he]
          simp only [execOp, resolve, hc, invoke, Sem.run_bind, Sem.run_pure, Result.andThen_ok, hm]
          exact hr
        | [], ha, h => simp only [Eff, hc] at h
        | _ :: _ :: _, ha, h => simp only [Eff, hc] at h
  all_goals (simp only [Eff] at h)
end Go.Proofs.Ytkdajahiaedoiaa
