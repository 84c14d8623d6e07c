/- Contracts by content, and what a call does. -/
import Derived.Test.YtkdajahiaedoiaaV13
namespace Go.Proofs.Ytkdajahiaedoiaa
open Go.RowKit Pl
set_option linter.unusedVariables false
set_option linter.unusedSectionVars false

def idxE (He : List Ent) (r : Nat) : Option Ent := if r = 0 then none else He[r - 1]?
/-- A contract: called with arguments that read as ts, beside the entries He (numbers 1, 2, ..), the function returns what reads as r, beside He'. -/
def CT (P : Program) (f : FuncId) (He : List Ent) (ts : List T) (r : T) (He' : List Ent) : Prop :=
  (∃ fn, P.funcs[f]? = some fn ∧ (fn.name == "runtime.NumGoroutine") = false ∧ fn.body.isNone = false) ∧
  ∀ X : Cx, HR X → X.H = idxE He → (X.us = fun i => i < He.length + 1) → ∀ vs, Args X ts vs →
    Calls P f vs.toArray X.w fun e w' => ∃ v X', e = .returned v ∧ X'.w = w' ∧ X'.H = idxE He' ∧ (X'.us = fun i => i < He'.length + 1) ∧ HR X' ∧ RS X' r v ∧ Same X X'

def ren0 (ρ : Nat → Nat) : T → T
  | .ref r => .ref (ρ r)
  | .ptr r i j => .ptr (ρ r) i j
  | x => x
def ren1 (ρ : Nat → Nat) : T → T
  | .agg cs => .agg (cs.map (ren0 ρ))
  | x => ren0 ρ x
def ren2 (ρ : Nat → Nat) : T → T
  | .tup cs => .tup (cs.map (ren1 ρ))
  | x => ren1 ρ x
def renE (ρ : Nat → Nat) : Ent → Ent
  | .box cs => .box (cs.map (ren0 ρ))
  | .row k es => .row k es
/-- The caller's number of the callee's r. -/
def rho (σ : List Nat) (id : Nat) (r : Nat) : Nat := bif Nat.ble r σ.length then σ.getD (r - 1) 0 else id + (r - σ.length - 1)
/-- An argument as the caller has it, and as the callee reads it. -/
def AM0 (σ : List Nat) (H : Hp) (x t : T) : Prop := match x with
  | .ref r => match t with
    | .sl k es => H r = some (.row k es) ∧ σ.contains r = false
    | .ref i => i ≠ 0 ∧ σ[i - 1]? = some r
    | _ => False
  | .ptr r a b => match t with
    | .ptr i a' b' => i ≠ 0 ∧ σ[i - 1]? = some r ∧ a' = a ∧ b' = b
    | _ => False
  | .val v => match t with
    | .sl _ es => v = nilV ∧ es = []
    | .val v' => v = v'
    | _ => False
  | .agg _ => False
  | .tup _ => False
  | x => t = x
def AMl (σ : List Nat) (H : Hp) : List T → List T → Prop
  | [], ts => ts = []
  | x :: xs, ts => match ts with
    | t :: ts' => AM0 σ H x t ∧ AMl σ H xs ts'
    | [] => False
def AM1 (σ : List Nat) (H : Hp) (x t : T) : Prop := match x with
  | .agg xs => match t with
    | .agg ts => AMl σ H xs ts
    | _ => False
  | x => AM0 σ H x t
def AM (σ : List Nat) (H : Hp) : List T → List T → Prop
  | [], ts => ts = []
  | x :: xs, ts => match ts with
    | t :: ts' => AM1 σ H x t ∧ AM σ H xs ts'
    | [] => False
def scope0 (m : Nat) : T → Bool
  | .ref r => Nat.blt 0 r && Nat.ble r m
  | .ptr r _ _ => Nat.blt 0 r && Nat.ble r m
  | _ => true
def scope1 (m : Nat) : T → Bool
  | .agg cs => cs.all (scope0 m)
  | x => scope0 m x
def scope2 (m : Nat) : T → Bool
  | .tup cs => cs.all (scope1 m)
  | x => scope1 m x
def scopeE (m : Nat) : Ent → Bool
  | .box cs => cs.all (scope0 m)
  | .row _ _ => true
/-- The entries that the callee may write. -/
def HM (σ : List Nat) (H : Hp) (m : Nat) : List Nat → List Ent → Prop
  | [], He => He = []
  | s :: l, He => match He with
    | e :: He' => H s = some (renE (rho σ 0) e) ∧ (match e with | .box cs => cs.all (scope0 m) = true | .row _ _ => True) ∧ HM σ H m l He'
    | [] => False
/-- Nothing in it is read of another's memory. -/
def own0 : T → Prop
  | .sl _ es => es = []
  | .rptr _ _ => False
  | _ => True
def own1 : T → Prop
  | .agg cs => ∀ c ∈ cs, own0 c
  | x => own0 x
def own2 : T → Prop
  | .tup cs => ∀ c ∈ cs, own1 c
  | x => own1 x
def ownE : Ent → Prop
  | .box cs => ∀ c ∈ cs, own0 c
  | .row _ es => ∀ e ∈ es, ∀ c ∈ e, own0 c
def noRef0 : T → Bool
  | .ref _ => false
  | _ => true
def noRef1 : T → Bool
  | .agg cs => cs.all noRef0
  | x => noRef0 x
def callU (ρ : Nat → Nat) : List Ent → Nat → Upd
  | [], _ => []
  | e :: l, i => (ρ i, some (renE ρ e)) :: callU ρ l (i + 1)
/-- A call. -/
def CallP0 (P : Program) (f : FuncId) (xs : List T) (H : Hp) (id : Nat) (K : List Nat → Kon) : Prop :=
  ∃ σ He ts r He', CT P f He ts r He' ∧ AM σ H xs ts ∧ HM σ H He.length σ He ∧ (σ.Nodup ∧ 0 ∉ σ) ∧ (He.length ≤ He'.length ∧ He'.length ≤ He.length + 16) ∧
    (scope2 He'.length r = true ∧ He'.all (scopeE He'.length) = true) ∧ (xs.all noRef1 = true ∨ (own2 r ∧ ∀ e ∈ He', ownE e)) ∧ K σ (ren2 (rho σ id) r) (callU (rho σ id) He' 1)

theorem HM.get {σ : List Nat} {H : Hp} {m : Nat} : ∀ {l : List Nat} {He : List Ent} {i : Nat} {e : Ent}, HM σ H m l He → He[i]? = some e → ∃ s, l[i]? = some s ∧ H s = some (renE (rho σ 0) e) ∧ (match e with | .box cs => cs.all (scope0 m) = true | .row _ _ => True)
  | [], He, i, e, h, he => by have : He = [] := h; subst this; simp at he
  | s :: l, [], i, e, h, he => h.elim
  | s :: l, e0 :: He, i, e, h, he => by
    obtain ⟨h1, h2, h3⟩ := h
    cases i with
    | zero => simp at he; subst he; exact ⟨s, rfl, h1, h2⟩
    | succ i => simp at he; simpa using HM.get h3 he
theorem HM.len {σ : List Nat} {H : Hp} {m : Nat} : ∀ {l : List Nat} {He : List Ent}, HM σ H m l He → l.length = He.length
  | [], He, h => by have : He = [] := h; subst this; rfl
  | s :: l, [], h => h.elim
  | s :: l, e0 :: He, h => by simp [HM.len h.2.2]
theorem renE_shape (ρ : Nat → Nat) (e : Ent) : (renE ρ e).shape = e.shape := by cases e <;> simp [renE, Ent.shape]
theorem renE_wd (ρ : Nat → Nat) (e : Ent) : (renE ρ e).wd = e.wd := Ent.wd_shape (renE_shape ρ e)

/-- Numbers that are read by value. -/
def byv0 (s : Nat) : T → Prop
  | .ref r => r = s
  | _ => False
def byv1 (s : Nat) : T → Prop
  | .agg cs => ∃ c ∈ cs, byv0 s c
  | x => byv0 s x
open Classical in
/-- What the callee sees: the blocks that are handed over keep an owner; those that are read have none; all others are strangers'. -/
noncomputable def calleeOw (Y : Cx) (σ : List Nat) (by_ : Nat → Prop) : Own := fun g => match Y.ow g with
  | none => none
  | some s => if s ∈ σ then some (σ.idxOf s + 1) else if s ≠ 0 ∧ by_ s then none else some 0
noncomputable def calleeX (Y : Cx) (σ : List Nat) (by_ : Nat → Prop) (He : List Ent) : Cx := { H := idxE He, ow := calleeOw Y σ by_, w := Y.w, us := fun i => i < He.length + 1 }
theorem idxE_some {He : List Ent} {r : Nat} {e : Ent} : idxE He r = some e ↔ r ≠ 0 ∧ He[r - 1]? = some e := by
  unfold idxE
  by_cases h : r = 0 <;> simp [h]
theorem idxE_lt {He : List Ent} {r : Nat} {e : Ent} (h : idxE He r = some e) : 0 < r ∧ r ≤ He.length := by
  obtain ⟨h1, h2⟩ := idxE_some.1 h
  have := (List.getElem?_eq_some_iff.1 h2).1
  omega
section
variable {Y : Cx} {σ : List Nat} {by_ : Nat → Prop} {He : List Ent} (hh : HR Y) (hm : HM σ Y.H He.length σ He) (hnd : σ.Nodup) (h0 : 0 ∉ σ)
include hh hm hnd h0
theorem cow_none {g : Nat} (h : Y.ow g = none) : calleeOw Y σ by_ g = none := by simp [calleeOw, h]
theorem cow_at {g i s : Nat} (hi : i ≠ 0) (hs : σ[i - 1]? = some s) (h : Y.ow g = some s) : calleeOw Y σ by_ g = some i := by
  have hm' : s ∈ σ := List.mem_of_getElem? hs
  have hlt := (List.getElem?_eq_some_iff.1 hs).1
  have hx : σ.idxOf s = i - 1 := by
    have := List.getElem?_eq_some_iff.1 hs
    obtain ⟨h1, h2⟩ := this
    rw [← h2]
    exact hnd.idxOf_getElem _ h1
  simp only [calleeOw, h, hm', if_true, hx]
  congr 1; omega
theorem cow_inv {g i : Nat} (h : calleeOw Y σ by_ g = some i) (hi : i ≠ 0) : ∃ s, Y.ow g = some s ∧ σ[i - 1]? = some s := by
  unfold calleeOw at h
  cases hy : Y.ow g with
  | none => rw [hy] at h; cases h
  | some s =>
    rw [hy] at h
    simp only at h
    split at h
    · rename_i hs
      injection h with h
      refine ⟨s, rfl, ?_⟩
      rw [← h, Nat.add_sub_cancel, List.getElem?_eq_getElem (List.idxOf_lt_length_of_mem hs), List.getElem_idxOf]
    · split at h
      · cases h
      · injection h with h; exact absurd h.symm hi
theorem sig_lt {i s : Nat} (hs : σ[i]? = some s) : ∃ e, He[i]? = some e ∧ Y.H s = some (renE (rho σ 0) e) ∧ Y.us s ∧ s ≠ 0 := by
  have hl := hm.len
  have hi := (List.getElem?_eq_some_iff.1 hs).1
  obtain ⟨s', h1, h2, _⟩ := hm.get (List.getElem?_eq_getElem (show i < He.length by omega))
  rw [hs] at h1; injection h1 with h1; subst h1
  exact ⟨_, List.getElem?_eq_getElem (by omega), h2, (hh.node _ _ h2).1, fun h => h0 (h ▸ List.mem_of_getElem? hs)⟩
theorem cstab : Stab Y.ow Y.w (calleeX Y σ by_ He).ow (calleeX Y σ by_ He).w := fun g _ h => ⟨cow_none hh hm hnd h0 h, rfl⟩
theorem back_ref {i s k n : Nat} {u : Value} (hi : i ≠ 0) (hs : σ[i - 1]? = some s) (h : Hdr Y s k n u) : Hdr (calleeX Y σ by_ He) i k n u := by
  rcases h with h | ⟨g, c, C, t, fr, hv, hg, hr⟩
  · exact .inl h
  · exact .inr ⟨g, c, C, t, fr, hv, cow_at hh hm hnd h0 hi hs hg, hr⟩
theorem rs_ref_back {i s : Nat} {u : Value} (hi : i ≠ 0) (hs : σ[i - 1]? = some s) (h : RS0 Y (.ref s) u) : RS0 (calleeX Y σ by_ He) (.ref i) u := by
  obtain ⟨h1, h2, h3⟩ := h
  have hl := hm.len
  have hil := (List.getElem?_eq_some_iff.1 hs).1
  refine ⟨by show i < He.length + 1; omega, h2, fun k es he => ?_⟩
  obtain ⟨_, he2⟩ := idxE_some.1 he
  obtain ⟨e, h4, h5, _⟩ := sig_lt hh hm hnd h0 hs
  rw [h4] at he2; injection he2 with he2; subst he2
  exact back_ref hh hm hnd h0 hi hs (h3 _ _ h5)
theorem rs_ptr_back {i s a b : Nat} {u : Value} (hi : i ≠ 0) (hs : σ[i - 1]? = some s) (h : RS0 Y (.ptr s a b) u) : RS0 (calleeX Y σ by_ He) (.ptr i a b) u := by
  obtain ⟨h1, h2, h3⟩ := h
  have hl := hm.len
  have hil := (List.getElem?_eq_some_iff.1 hs).1
  refine ⟨by show i < He.length + 1; omega, h2, fun e he => ?_⟩
  obtain ⟨_, he2⟩ := idxE_some.1 he
  obtain ⟨e', h4, h5, _⟩ := sig_lt hh hm hnd h0 hs
  rw [h4] at he2; injection he2 with he2; subst he2
  obtain ⟨g, hg, hv⟩ := h3 _ h5
  rw [renE_wd] at hv
  exact ⟨g, cow_at hh hm hnd h0 hi hs hg, hv⟩
theorem back0 {c : T} {u : Value} (hc : scope0 He.length c = true) (h : RS0 Y (ren0 (rho σ 0) c) u) : RS0 (calleeX Y σ by_ He) c u := by
  have hl := hm.len
  have key : ∀ r, (Nat.blt 0 r && Nat.ble r He.length) = true → r ≠ 0 ∧ σ[r - 1]? = some (rho σ 0 r) := fun r hr => by
    simp only [Bool.and_eq_true] at hr
    have h1 : 0 < r := by have := hr.1; simp [Nat.blt] at this; omega
    have h2 := Nat.le_of_ble_eq_true hr.2
    refine ⟨by omega, ?_⟩
    have hb : Nat.ble r σ.length = true := Nat.ble_eq_true_of_le (by omega)
    simp only [rho, hb, cond_true]
    rw [List.getElem?_eq_getElem (by omega)]
    simp [List.getD, List.getElem?_eq_getElem (show r - 1 < σ.length by omega)]
  cases c
  case ref r => obtain ⟨a, b⟩ := key r hc; exact rs_ref_back hh hm hnd h0 a b h
  case ptr r i j => obtain ⟨a, b⟩ := key r hc; exact rs_ptr_back hh hm hnd h0 a b h
  case rptr c j =>
    obtain ⟨g, o, C, t, fr, hv, hg, hC, hr⟩ := h
    exact ⟨g, o, C, t, fr, hv, cow_none hh hm hnd h0 hg, hC, RL.mono (cstab hh hm hnd h0) hr⟩
  case any => trivial
  all_goals exact RV.mono (cstab hh hm hnd h0) h
theorem calleeHR : HR (calleeX Y σ by_ He) := by
  have hl := hm.len
  refine ⟨fun g g' r hr h1 h2 => ?_, fun g r hg => ?_, fun r e he => ?_, rfl, by show 0 < He.length + 1; omega⟩
  · have hr0 : r ≠ 0 := fun h => by subst h; exact hr rfl
    obtain ⟨s, a, b⟩ := cow_inv hh hm hnd h0 h1 hr0
    obtain ⟨s', a', b'⟩ := cow_inv hh hm hnd h0 h2 hr0
    rw [b] at b'; injection b' with b'; subst b'
    obtain ⟨e, _, h5, _⟩ := sig_lt hh hm hnd h0 b
    exact hh.inj' h5 a a'
  · by_cases hr0 : r = 0
    · subst hr0
      refine ⟨?_, by show 0 < He.length + 1; omega⟩
      change calleeOw Y σ by_ g = some 0 at hg
      cases hy : Y.ow g with
      | none => rw [cow_none hh hm hnd h0 hy] at hg; cases hg
      | some s => exact (hh.lt g s hy).1
    · obtain ⟨s, a, b⟩ := cow_inv hh hm hnd h0 hg hr0
      have := (List.getElem?_eq_some_iff.1 b).1
      exact ⟨(hh.lt g s a).1, by show r < He.length + 1; omega⟩
  · obtain ⟨hr0, he2⟩ := idxE_some.1 he
    have hb := idxE_lt he
    refine ⟨by show r < He.length + 1; omega, ?_⟩
    obtain ⟨s, h1, h2, h3⟩ := hm.get he2
    have hn := (hh.node _ _ h2).2
    cases e with
    | box cs =>
      obtain ⟨g, C, t, fr, hg, hC, hf, hrl⟩ := hn
      refine ⟨g, C, t, fr, cow_at hh hm hnd h0 hr0 h1 hg, hC, hf, ?_⟩
      have key : ∀ (cs : List T) (us : List Value), cs.all (scope0 He.length) = true → RSl Y (cs.map (ren0 (rho σ 0))) us → RSl (calleeX Y σ by_ He) cs us := by
        intro cs
        induction cs with
        | nil => intro us _ h; exact h
        | cons c cs ih =>
          rintro us hc ⟨u, us', hu, q1, q2, q3⟩
          simp only [List.all_cons, Bool.and_eq_true] at hc
          exact ⟨u, us', hu, q1, back0 hh hm hnd h0 hc.1 q2, ih us' hc.2 q3⟩
      exact key cs _ h3 hrl
    | row k es =>
      refine ⟨hn.1, ?_⟩
      rcases hn.2 with q | ⟨g, C, t, fr, hg, hC, hf, hrl⟩
      · exact .inl q
      · exact .inr ⟨g, C, t, fr, cow_at hh hm hnd h0 hr0 h1 hg, hC, hf, RE.mono (cstab hh hm hnd h0) hrl⟩
theorem am0_sound {x t : T} {v : Value} (hx : RS0 Y x v) (hb : ∀ s, byv0 s x → by_ s) (h : AM0 σ Y.H x t) : RS0 (calleeX Y σ by_ He) t v := by
  cases x <;> simp only [AM0] at h
  case ref r =>
    cases t <;> simp only at h
    case sl k es =>
      obtain ⟨h1, h2⟩ := h
      have hr : r ∉ σ := by simpa using h2
      refine (ref_sl hh (cstab hh hm hnd h0) hx h1 (fun g hg => ?_) (fun g _ => rfl)).rs0
      show calleeOw Y σ by_ g = none
      have hb1 : by_ r := hb r rfl
      simp only [calleeOw, hg]
      rw [if_neg hr, if_pos ⟨hh.ne h1, hb1⟩]
    case ref i => exact rs_ref_back hh hm hnd h0 h.1 h.2 hx
  case ptr r a b =>
    cases t <;> simp only at h
    case ptr i a' b' =>
      obtain ⟨h1, h2, rfl, rfl⟩ := h
      exact rs_ptr_back hh hm hnd h0 h1 h2 hx
  case val v0 =>
    have hx' : v = v0 ∧ v0.oneCell' = true := by simpa [RS0, RV] using hx
    cases t <;> simp only at h
    case sl k es =>
      obtain ⟨rfl, rfl⟩ := h
      obtain ⟨rfl, _⟩ := hx'
      exact RV.rs0 (by simp only [RV]; exact ⟨none, 0, rfl, Nat.le_refl _, .inl trivial⟩)
    case val v' => subst h; exact RV.rs0 (by simpa only [RV] using hx')
  case rptr c j =>
    subst h
    obtain ⟨g, o, C, t, fr, hv, hg, hC, hr⟩ := hx
    exact ⟨g, o, C, t, fr, hv, cow_none hh hm hnd h0 hg, hC, RL.mono (cstab hh hm hnd h0) hr⟩
  case any => subst h; trivial
  all_goals (subst h; exact RV.mono (cstab hh hm hnd h0) hx)
theorem am1_sound {x t : T} {v : Value} (hx : RS1 Y x v) (hb : ∀ s, byv1 s x → by_ s) (h : AM1 σ Y.H x t) : RS1 (calleeX Y σ by_ He) t v := by
  have one : ∀ {x t : T} {v : Value}, RS0 Y x v → (∀ s, byv0 s x → by_ s) → AM0 σ Y.H x t → RS1 (calleeX Y σ by_ He) t v := fun hx hb h => by
    have h1 := am0_sound hh hm hnd h0 hx hb h
    rename_i x t v
    cases t <;> first | exact h1 | (simp only [RS0, RV] at h1; done)
  cases x
  case agg cs =>
    cases t <;> simp only [AM1] at h
    case agg ts =>
      obtain ⟨vs, hv, hl⟩ := hx
      refine ⟨vs, hv, ?_⟩
      have hb' : ∀ s, (∃ c ∈ cs, byv0 s c) → by_ s := hb
      clear hb hv
      generalize vs.toList = us at hl
      induction cs generalizing ts us with
      | nil => have : ts = [] := h; subst this; exact hl
      | cons c cs ih =>
        obtain ⟨u, us', hu, q1, q2, q3⟩ := hl
        cases ts with
        | nil => exact h.elim
        | cons t ts =>
          exact ⟨u, us', hu, q1, am0_sound hh hm hnd h0 q2 (fun s hs => hb' s ⟨c, by simp, hs⟩) h.1, ih ts h.2 (fun s ⟨c', hc', hs⟩ => hb' s ⟨c', by simp [hc'], hs⟩) us' q3⟩
  all_goals (simp only [RS1] at hx; simp only [AM1] at h; exact one hx hb h)
theorem am_sound : ∀ {xs ts : List T} {vs : List Value}, Args Y xs vs → (∀ x ∈ xs, ∀ s, byv1 s x → by_ s) → AM σ Y.H xs ts → Args (calleeX Y σ by_ He) ts vs
  | [], ts, vs, ha, _, h => by have : ts = [] := h; subst this; exact ha
  | x :: xs, [], vs, ha, _, h => h.elim
  | x :: xs, t :: ts, vs, ⟨u, us, hu, h1, h2⟩, hb, h => by
    refine ⟨u, us, hu, ?_, am_sound h2 (fun x hx => hb x (by simp [hx])) h.2⟩
    have hx1 : RS1 Y x u := by
      cases x
      case tup cs => exact (by simpa [AM1, AM0] using h.1 : False).elim
      all_goals exact h1
    exact (am1_sound hh hm hnd h0 hx1 (fun s hs => hb x (by simp) s hs) h.1).rs
end
end Go.Proofs.Ytkdajahiaedoiaa
