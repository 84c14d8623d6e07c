/- What a call leaves behind. -/
import Derived.Test.YtkdajahiaedoiaaV14
namespace Go.Proofs.Ytkdajahiaedoiaa
open Go.RowKit Pl
set_option linter.unusedVariables false
set_option linter.unusedSectionVars false

theorem own_rv {ow ow' : Own} {w w' : World} {c : T} {u : Value} (hc : own0 c) (h : RV ow w c u) : RV ow' w' c u := by
  cases c <;> simp only [RV] at h ⊢ <;> try exact h
  case sl k es =>
    have he : es = [] := hc
    subst he
    obtain ⟨A, cc, hv, hl, _⟩ := h
    exact ⟨A, cc, hv, hl, .inl rfl⟩
theorem own_rl {ow ow' : Own} {w w' : World} : ∀ {cs : List T} {us : List Value}, (∀ c ∈ cs, own0 c) → RL ow w cs us → RL ow' w' cs us
  | [], us, _, h => by simpa only [RL] using h
  | c :: cs, us, hc, h => by
    simp only [RL] at h ⊢
    obtain ⟨u, us', hu, h1, h2⟩ := h
    exact ⟨u, us', hu, own_rv (hc c (by simp)) h1, own_rl (fun c h => hc c (by simp [h])) h2⟩
theorem own_re {ow ow' : Own} {w w' : World} {k : Nat} : ∀ {es : List (List T)} {us : List Value}, (∀ e ∈ es, ∀ c ∈ e, own0 c) → RE ow w k es us → RE ow' w' k es us
  | [], us, _, h => by simp only [RE]
  | e :: es, us, hc, h => by
    simp only [RE] at h ⊢
    obtain ⟨vs, rest, hu, hl, h1, h2⟩ := h
    exact ⟨vs, rest, hu, hl, own_rl (hc e (by simp)) h1, own_re (fun e h => hc e (by simp [h])) h2⟩
theorem noRef_byv {xs : List T} (h : xs.all noRef1 = true) : ∀ x ∈ xs, ∀ s, ¬ byv1 s x := by
  intro x hx s hb
  have h1 := List.all_eq_true.1 h x hx
  cases x <;> simp only [byv1, byv0] at hb
  case ref r => simp [noRef1, noRef0] at h1
  case agg cs =>
    obtain ⟨c, hc, hb⟩ := hb
    simp only [noRef1] at h1
    have h2 := List.all_eq_true.1 h1 c hc
    cases c <;> simp only [byv0] at hb
    simp [noRef0] at h2
theorem callU_other {ρ : Nat → Nat} : ∀ {l : List Ent} {a : Nat} {H : Hp} {r : Nat}, (∀ i, i < l.length → ρ (a + i) ≠ r) → updL H (callU ρ l a) r = H r
  | [], a, H, r, _ => rfl
  | e :: l, a, H, r, h => by
    simp only [callU, updL]
    rw [callU_other (fun i hi => by have := h (i + 1) (by simp; omega); rwa [show a + (i + 1) = a + 1 + i by omega] at this), updE_other]
    exact fun hr => h 0 (by simp) (by simpa using hr.symm)
theorem callU_at {ρ : Nat → Nat} : ∀ {l : List Ent} {a i : Nat} {H : Hp} {e : Ent}, (∀ j k, j < l.length → k < l.length → ρ (a + j) = ρ (a + k) → j = k) → l[i]? = some e → updL H (callU ρ l a) (ρ (a + i)) = some (renE ρ e)
  | [], a, i, H, e, _, h => by simp at h
  | e0 :: l, a, i, H, e, hinj, h => by
    simp only [callU, updL]
    cases i with
    | zero =>
      simp at h; subst h
      rw [callU_other, Nat.add_zero, updE_same]
      intro i hi hr
      have := hinj (i + 1) 0 (by simp; omega) (by simp) (by rw [show a + (i + 1) = a + 1 + i by omega]; exact hr)
      omega
    | succ i =>
      simp at h
      have := callU_at (ρ := ρ) (a := a + 1) (i := i) (H := updE H (ρ a) (some (renE ρ e0))) (fun j k hj hk he => by
        have := hinj (j + 1) (k + 1) (by simp; omega) (by simp; omega) (by rw [show a + (j + 1) = a + 1 + j by omega, show a + (k + 1) = a + 1 + k by omega]; exact he)
        omega) h
      rwa [show a + (i + 1) = a + 1 + i by omega]

open Classical in
/-- What the caller has then. -/
noncomputable def backX (Y : Cx) (σ : List Nat) (id : Nat) (ow : Own) (X' : Cx) (He' : List Ent) : Cx :=
  { H := updL Y.H (callU (rho σ id) He' 1)
    ow := fun g => match X'.ow g with
      | none => if ow g = none then Y.ow g else none
      | some i => if i = 0 then (if ow g = some 0 then Y.ow g else some 0) else some (rho σ id i)
    w := X'.w
    us := Y.win id }

theorem call_sound0 {P : Program} {Y : Cx} {id : Nat} {K : Kon} (hh : HR Y) (hi : Fresh Y id) {f : FuncId} {xs : List T} {vs : List Value} (ha : Args Y xs vs) (h : CallP0 P f xs Y.H id fun _ => K) :
    Calls P f vs.toArray Y.w fun e w' => ∃ v, e = .returned v ∧ Out Y id K v w' := by
  obtain ⟨σ, He, ts, r, He', hct, ham, hm, ⟨hnd, h0⟩, ⟨hl1, hl2⟩, ⟨hsc1, hsc2⟩, hown, hk⟩ := h
  have hl := hm.len
  let by_ : Nat → Prop := fun s => ∃ x ∈ xs, byv1 s x
  have hX := calleeHR (by_ := by_) hh hm hnd h0
  have hargs := am_sound (by_ := by_) hh hm hnd h0 ha (fun x hx s hs => ⟨x, hx, hs⟩) ham
  refine (hct.2 (calleeX Y σ by_ He) hX rfl rfl vs hargs).mono ?_
  rintro e w' ⟨v, X', rfl, rfl, hH', hn', hr', hv', hs'⟩
  refine ⟨v, rfl, ?_⟩
  -- the numbers
  have rlo : ∀ i, i ≠ 0 → i ≤ He.length → σ[i - 1]? = some (rho σ id i) := fun i h1 h2 => by
    have hb : Nat.ble i σ.length = true := Nat.ble_eq_true_of_le (by omega)
    simp only [rho, hb, cond_true]
    rw [List.getElem?_eq_getElem (by omega)]
    simp [List.getD, List.getElem?_eq_getElem (show i - 1 < σ.length by omega)]
  have rhi : ∀ i, He.length < i → rho σ id i = id + (i - He.length - 1) := fun i h1 => by
    have hb : Nat.ble i σ.length = false := by
      cases hb : Nat.ble i σ.length with
      | false => rfl
      | true => have := Nat.le_of_ble_eq_true hb; omega
    unfold rho
    rw [hb, cond_false, hl]
  have siglt : ∀ i s, σ[i]? = some s → Y.us s ∧ s ≠ 0 := fun i s hs => by
    obtain ⟨e, _, _, a, b⟩ := sig_lt hh hm hnd h0 hs
    exact ⟨a, b⟩
  have rinj : ∀ i j, i ≠ 0 → j ≠ 0 → i ≤ He'.length → j ≤ He'.length → rho σ id i = rho σ id j → i = j := fun i j h1 h2 hil hjl he => by
    by_cases hi1 : i ≤ He.length <;> by_cases hj1 : j ≤ He.length
    · have a := rlo i h1 hi1
      have b := rlo j h2 hj1
      rw [he] at a
      obtain ⟨p, a⟩ := List.getElem?_eq_some_iff.1 a
      obtain ⟨q, b⟩ := List.getElem?_eq_some_iff.1 b
      have p1 := hnd.idxOf_getElem _ p
      have q1 := hnd.idxOf_getElem _ q
      rw [a.trans b.symm] at p1
      have := p1.symm.trans q1
      omega
    · have a := (siglt _ _ (rlo i h1 hi1)).1
      rw [he, rhi j (by omega)] at a; exact absurd a (hi _ (by omega) (by omega))
    · have a := (siglt _ _ (rlo j h2 hj1)).1
      rw [← he, rhi i (by omega)] at a; exact absurd a (hi _ (by omega) (by omega))
    · rw [rhi i (by omega), rhi j (by omega)] at he; omega
  have rne : ∀ i, i ≠ 0 → i ≤ He'.length → rho σ id i ≠ 0 := fun i h1 hil => by
    by_cases hi1 : i ≤ He.length
    · exact (siglt _ _ (rlo i h1 hi1)).2
    · rw [rhi i (by omega)]; exact fun hz => hi 0 (by omega) (by omega) hh.pos
  have rlt : ∀ i, i ≠ 0 → i ≤ He'.length → Y.win id (rho σ id i) := fun i h1 h2 => by
    by_cases hi1 : i ≤ He.length
    · exact .inl (siglt _ _ (rlo i h1 hi1)).1
    · rw [rhi i (by omega)]; exact .inr ⟨by omega, by omega⟩
  have rold : ∀ i, i ≠ 0 → i ≤ He'.length → Y.us (rho σ id i) → i ≤ He.length := fun i h1 hil h2 => by
    by_cases hi1 : i ≤ He.length
    · exact hi1
    · rw [rhi i (by omega)] at h2; exact absurd h2 (hi _ (by omega) (by omega))
  -- the entries
  let Z := backX Y σ id (calleeOw Y σ by_) X' He'
  have hat : ∀ i e, i ≠ 0 → He'[i - 1]? = some e → Z.H (rho σ id i) = some (renE (rho σ id) e) := fun i e h1 h2 => by
    have := callU_at (ρ := rho σ id) (l := He') (a := 1) (i := i - 1) (H := Y.H) (e := e) (fun j k _ _ he => by have := rinj _ _ (by omega) (by omega) (by omega) (by omega) he; omega) h2
    rwa [show 1 + (i - 1) = i by omega] at this
  have hoth : ∀ r, (∀ i, i ≠ 0 → i ≤ He'.length → rho σ id i ≠ r) → Z.H r = Y.H r := fun r h1 =>
    callU_other (fun i hi => h1 _ (by omega) (by omega))
  have himg : ∀ r, (∃ i, i ≠ 0 ∧ i ≤ He'.length ∧ rho σ id i = r) ∨ (∀ i, i ≠ 0 → i ≤ He'.length → rho σ id i ≠ r) := fun r => by
    by_cases hx : ∃ i, i ≠ 0 ∧ i ≤ He'.length ∧ rho σ id i = r
    · exact .inl hx
    · exact .inr fun i h1 h2 h3 => hx ⟨i, h1, h2, h3⟩
  have hsig : ∀ s, s ∈ σ → ∃ i, i ≠ 0 ∧ i ≤ He.length ∧ σ[i - 1]? = some s ∧ rho σ id i = s := fun s hs => by
    obtain ⟨j, hj⟩ := List.getElem?_of_mem hs
    have hjl := (List.getElem?_eq_some_iff.1 hj).1
    have := rlo (j + 1) (by omega) (by omega)
    rw [Nat.add_sub_cancel, hj] at this
    injection this with this
    exact ⟨j + 1, by omega, by omega, by simpa using hj, this.symm⟩
  -- whose block is whose
  have hwY : ∀ g, g < Y.w.heap.size → (calleeOw Y σ by_ g = none ∨ calleeOw Y σ by_ g = some 0) → X'.ow g = calleeOw Y σ by_ g ∧ X'.w.heap[g]? = Y.w.heap[g]? := fun g hg hc => by
    rcases hc with hc | hc
    · obtain ⟨a, b⟩ := hs'.stab g hg hc
      exact ⟨by rw [a, hc], b⟩
    · obtain ⟨a, b⟩ := hs'.fra g hc
      exact ⟨by rw [a, hc], b⟩
  have hZow : ∀ g, (calleeOw Y σ by_ g = none ∨ calleeOw Y σ by_ g = some 0) → g < Y.w.heap.size → Z.ow g = Y.ow g := fun g hc hg => by
    obtain ⟨a, _⟩ := hwY g hg hc
    show (match X'.ow g with | none => _ | some i => _) = _
    rcases hc with hc | hc
    · rw [a, hc]; simp [hc]
    · rw [a, hc]; simp [hc]
  have hZinv : ∀ g r, Z.ow g = some r → (∃ i, i ≠ 0 ∧ X'.ow g = some i ∧ r = rho σ id i) ∨ r = 0 ∧ X'.ow g = some 0 ∨ (Y.ow g = some r ∧ r ∉ σ) := fun g r hg => by
    change (match X'.ow g with | none => if calleeOw Y σ by_ g = none then Y.ow g else none | some i => if i = 0 then (if calleeOw Y σ by_ g = some 0 then Y.ow g else some 0) else some (rho σ id i)) = some r at hg
    have notσ : Y.ow g = some r → (calleeOw Y σ by_ g = none ∨ calleeOw Y σ by_ g = some 0) → r ∉ σ := fun hy hc hr => by
      obtain ⟨i, h1, h2, h3, _⟩ := hsig r hr
      rw [cow_at hh hm hnd h0 h1 h3 hy] at hc
      rcases hc with hc | hc
      · cases hc
      · injection hc with hc; exact h1 hc
    split at hg
    · split at hg
      · rename_i h1 h2; exact .inr (.inr ⟨hg, notσ hg (.inl h2)⟩)
      · cases hg
    · rename_i i hxi
      split at hg
      · rename_i h1; subst h1
        split at hg
        · rename_i h2; exact .inr (.inr ⟨hg, notσ hg (.inr h2)⟩)
        · injection hg with hg; exact .inr (.inl ⟨hg.symm, hxi⟩)
      · rename_i h1; injection hg with hg; exact .inl ⟨i, h1, hxi, hg.symm⟩
  have hZat : ∀ g i, i ≠ 0 → X'.ow g = some i → Z.ow g = some (rho σ id i) := fun g i h1 h2 => by
    show (match X'.ow g with | none => _ | some i => _) = _
    rw [h2]; simp [h1]
  have hcb : ∀ g s, Y.ow g = some s → s ∉ σ → calleeOw Y σ by_ g = none ∨ calleeOw Y σ by_ g = some 0 := fun g s hy hs => by
    simp only [calleeOw, hy, hs, if_false]
    by_cases hb : s ≠ 0 ∧ by_ s
    · left; rw [if_pos hb]
    · right; rw [if_neg hb]
  have hsame : Same Y Z := by
    refine ⟨fun r hr => .inl hr, hs'.os, hs'.tape, hs'.output, hs'.size, fun g hg hn => ?_, fun r hr e' he' => ?_, fun g hg => ?_, fun r hr hne g hg => ?_⟩
    · have hc : calleeOw Y σ by_ g = none := cow_none hh hm hnd h0 hn
      exact ⟨by rw [hZow g (.inl hc) hg, hn], (hwY g hg (.inl hc)).2⟩
    · rcases himg r with ⟨i, h1, h2, rfl⟩ | h1
      · have hi1 := rold i h1 h2 hr
        have hgi : He'[i - 1]? = some He'[i - 1] := List.getElem?_eq_getElem (by omega)
        rw [hat i _ h1 hgi] at he'
        injection he' with he'; subst he'
        obtain ⟨e, q1, q2⟩ := hs'.ent i (by show i < He.length + 1; omega) _ (by rw [hH']; exact idxE_some.2 ⟨h1, hgi⟩)
        obtain ⟨_, q3⟩ := idxE_some.1 q1
        obtain ⟨e0, q4, q5, _⟩ := sig_lt hh hm hnd h0 (rlo i h1 hi1)
        rw [q3] at q4; injection q4 with q4; subst q4
        exact ⟨_, q5, by rw [renE_shape, renE_shape]; exact q2⟩
      · rw [hoth r h1] at he'; exact ⟨e', he', rfl⟩
    · have hc := hcb g 0 hg h0
      have hgl := (hh.lt g 0 hg).1
      exact ⟨by rw [hZow g hc hgl, hg], (hwY g hgl hc).2⟩
    · have hgl := (hh.lt g r hg).1
      by_cases hrs : r ∈ σ
      · obtain ⟨i, h1, h2, h3, rfl⟩ := hsig r hrs
        have hxi : calleeOw Y σ by_ g = some i := cow_at hh hm hnd h0 h1 h3 hg
        obtain ⟨a, b⟩ := hs'.pin i (by show i < He.length + 1; omega) (by rw [hH', idxE]; simp [h1]; omega) g hxi
        exact ⟨hZat g i h1 a, b⟩
      · have hc := hcb g r hg hrs
        refine ⟨by rw [hZow g hc hgl, hg], fun C t fr hC => ⟨C, ?_, rfl⟩⟩
        show X'.w.heap[g]? = _
        rw [(hwY g hgl hc).2, hC]
  -- what reads there reads here
  have fstab : xs.all noRef1 = true → Stab X'.ow X'.w Z.ow Z.w := fun hno g hg hn => by
    refine ⟨?_, rfl⟩
    show (match X'.ow g with | none => if calleeOw Y σ by_ g = none then Y.ow g else none | some i => _) = none
    rw [hn]
    simp only
    split
    · rename_i hc
      cases hy : Y.ow g with
      | none => rfl
      | some s =>
        exfalso
        unfold calleeOw at hc
        rw [hy] at hc
        simp only at hc
        split at hc
        · cases hc
        · split at hc
          · rename_i hb
            obtain ⟨_, x, hx, hbx⟩ := hb
            exact noRef_byv hno x hx s hbx
          · cases hc
    · rfl
  have fhdr : ∀ i k n u, i ≠ 0 → Hdr X' i k n u → Hdr Z (rho σ id i) k n u := fun i k n u h1 h2 => by
    rcases h2 with h2 | ⟨g, c, C, t, fr, hv, hg, hr⟩
    · exact .inl h2
    · exact .inr ⟨g, c, C, t, fr, hv, hZat g i h1 hg, hr⟩
  have scop : ∀ r, (Nat.blt 0 r && Nat.ble r He'.length) = true → r ≠ 0 ∧ r ≤ He'.length := fun r hr => by
    simp only [Bool.and_eq_true] at hr
    have h1 : 0 < r := by have := hr.1; simp [Nat.blt] at this; omega
    exact ⟨by omega, Nat.le_of_ble_eq_true hr.2⟩
  have f0 : ∀ c u, scope0 He'.length c = true → (xs.all noRef1 = true ∨ own0 c) → RS0 X' c u → RS0 Z (ren0 (rho σ id) c) u := fun c u hc ho h => by
    cases c
    case ref j =>
      obtain ⟨h1, h2⟩ := scop j hc
      obtain ⟨q1, q2, q3⟩ := h
      refine ⟨rlt j h1 h2, q2, fun k es he => ?_⟩
      have hgj : He'[j - 1]? = some He'[j - 1] := List.getElem?_eq_getElem (by omega)
      rw [hat j _ h1 hgj] at he
      injection he with he
      cases hej : He'[j - 1] with
      | box cs => rw [hej] at he; simp [renE] at he
      | row k' es' =>
        rw [hej] at he; simp only [renE] at he; injection he with a b; subst a b
        exact fhdr j _ _ _ h1 (q3 _ _ (by rw [hH']; exact idxE_some.2 ⟨h1, by rw [hgj, hej]⟩))
    case ptr j a b =>
      obtain ⟨h1, h2⟩ := scop j hc
      obtain ⟨q1, q2, q3⟩ := h
      refine ⟨rlt j h1 h2, q2, fun e he => ?_⟩
      have hgj : He'[j - 1]? = some He'[j - 1] := List.getElem?_eq_getElem (by omega)
      rw [hat j _ h1 hgj] at he
      injection he with he; subst he
      obtain ⟨g, hg, hv⟩ := q3 _ (by rw [hH']; exact idxE_some.2 ⟨h1, hgj⟩)
      exact ⟨g, hZat g j h1 hg, by rw [renE_wd]; exact hv⟩
    case rptr cs j =>
      rcases ho with ho | ho
      · obtain ⟨g, o, C, t, fr, hv, hg, hC, hr⟩ := h
        exact ⟨g, o, C, t, fr, hv, (fstab ho g (lt_of_heap hC) hg).1, hC, RL.mono (fstab ho) hr⟩
      · exact ho.elim
    case any => trivial
    all_goals
      rcases ho with ho | ho
      · exact RV.mono (fstab ho) h
      · exact own_rv (ow := X'.ow) (w := X'.w) ho h
  have fl : ∀ cs us, cs.all (scope0 He'.length) = true → (xs.all noRef1 = true ∨ ∀ c ∈ cs, own0 c) → RSl X' cs us → RSl Z (cs.map (ren0 (rho σ id))) us := by
    intro cs
    induction cs with
    | nil => intro us _ _ h; exact h
    | cons c cs ih =>
      rintro us hc ho ⟨u, us', hu, q1, q2, q3⟩
      simp only [List.all_cons, Bool.and_eq_true] at hc
      exact ⟨u, us', hu, q1, f0 c u hc.1 (ho.imp _root_.id fun h => h c (by simp)) q2, ih us' hc.2 (ho.imp _root_.id fun h c hc => h c (by simp [hc])) q3⟩
  have f1 : ∀ c u, scope1 He'.length c = true → (xs.all noRef1 = true ∨ own1 c) → RS1 X' c u → RS1 Z (ren1 (rho σ id) c) u := fun c u hc ho h => by
    cases c
    case agg cs => obtain ⟨us, hu, hl⟩ := h; exact ⟨us, hu, fl cs _ hc ho hl⟩
    case ref j => exact f0 (.ref j) u hc ho h
    case ptr j a b => exact f0 (.ptr j a b) u hc ho h
    case rptr cs j => exact f0 (.rptr cs j) u hc ho h
    case sl k es => exact f0 (.sl k es) u hc ho h
    case any => trivial
    case int k n => exact f0 (.int k n) u hc ho h
    case bool b => exact f0 (.bool b) u hc ho h
    case str s => exact f0 (.str s) u hc ho h
    case val v => exact f0 (.val v) u hc ho h
    case tup cs => exact f0 (.tup cs) u hc ho h
  have ft : ∀ cs us, cs.all (scope1 He'.length) = true → (xs.all noRef1 = true ∨ ∀ c ∈ cs, own1 c) → RSt X' cs us → RSt Z (cs.map (ren1 (rho σ id))) us := by
    intro cs
    induction cs with
    | nil => intro us _ _ h; exact h
    | cons c cs ih =>
      rintro us hc ho ⟨u, us', hu, q2, q3⟩
      simp only [List.all_cons, Bool.and_eq_true] at hc
      exact ⟨u, us', hu, f1 c u hc.1 (ho.imp _root_.id fun h => h c (by simp)) q2, ih us' hc.2 (ho.imp _root_.id fun h c hc => h c (by simp [hc])) q3⟩
  have f2 : RS Z (ren2 (rho σ id) r) v := by
    have ho : xs.all noRef1 = true ∨ own2 r := hown.imp _root_.id fun h => h.1
    cases r with
    | tup cs => obtain ⟨us, hu, hl⟩ := hv'; exact ⟨us, hu, ft cs _ hsc1 ho hl⟩
    | int k n => exact (f1 (.int k n) v hsc1 ho hv').rs
    | bool b => exact (f1 (.bool b) v hsc1 ho hv').rs
    | str s => exact (f1 (.str s) v hsc1 ho hv').rs
    | val x => exact (f1 (.val x) v hsc1 ho hv').rs
    | agg cs => exact (f1 (.agg cs) v hsc1 ho hv').rs
    | sl k es => exact (f1 (.sl k es) v hsc1 ho hv').rs
    | ref j => exact (f1 (.ref j) v hsc1 ho hv').rs
    | ptr j a b => exact (f1 (.ptr j a b) v hsc1 ho hv').rs
    | rptr cs j => exact (f1 (.rptr cs j) v hsc1 ho hv').rs
    | any => trivial
  refine ⟨_, _, Z, hk, rfl, rfl, rfl, hsame, ⟨fun g g' r hr h1 h2 => ?_, fun g r hg => ?_, fun r e he => ?_, ?_, .inl hh.pos⟩, f2⟩
  · have hr0 : r ≠ 0 := fun h => by
      subst h
      rw [hoth 0 (fun i h1 h2 => rne i h1 h2), hh.zero] at hr; exact hr rfl
    have notimg : ∀ r, Y.us r → r ∉ σ → ∀ i, i ≠ 0 → i ≤ He'.length → rho σ id i ≠ r := fun r h1 h2 i h3 h4 h5 => by
      have := rold i h3 h4 (h5 ▸ h1)
      exact h2 (h5 ▸ List.mem_of_getElem? (rlo i h3 this))
    have hlti : ∀ g i, X'.ow g = some i → i ≤ He'.length := fun g i h => by have h2 := (hr'.lt g i h).2; rw [hn'] at h2; exact Nat.le_of_lt_succ h2
    rcases hZinv g r h1 with ⟨i, a1, a2, a3⟩ | ⟨a1, _⟩ | ⟨a1, a2⟩
    · rcases hZinv g' r h2 with ⟨j, b1, b2, b3⟩ | ⟨b1, _⟩ | ⟨b1, b2⟩
      · have := rinj i j a1 b1 (hlti g i a2) (hlti g' j b2) (a3.symm.trans b3)
        subst this
        refine hr'.inj g g' i ?_ a2 b2
        have := hlti g i a2
        rw [hH', idxE]; simp [a1]; omega
      · exact absurd b1 hr0
      · exact absurd a3.symm (notimg r (hh.lt _ _ b1).2 b2 i a1 (hlti g i a2))
    · exact absurd a1 hr0
    · rcases hZinv g' r h2 with ⟨j, b1, b2, b3⟩ | ⟨b1, _⟩ | ⟨b1, b2⟩
      · exact absurd b3.symm (notimg r (hh.lt _ _ a1).2 a2 j b1 (hlti g' j b2))
      · exact absurd b1 hr0
      · rw [hoth r (notimg r (hh.lt _ _ a1).2 a2)] at hr
        exact hh.inj g g' r hr a1 b1
  · rcases hZinv g r hg with ⟨i, a1, a2, a3⟩ | ⟨a1, a2⟩ | ⟨a1, a2⟩
    · obtain ⟨p1, p2⟩ := hr'.lt g i a2
      exact ⟨p1, by rw [a3]; exact rlt i a1 (by rw [hn'] at p2; exact Nat.le_of_lt_succ p2)⟩
    · exact ⟨(hr'.lt g 0 a2).1, .inl (a1 ▸ hh.pos)⟩
    · obtain ⟨p1, p2⟩ := hh.lt g r a1
      exact ⟨Nat.lt_of_lt_of_le p1 hs'.size, .inl p2⟩
  · rcases himg r with ⟨i, h1, h2, rfl⟩ | h1
    · have hgi : He'[i - 1]? = some He'[i - 1] := List.getElem?_eq_getElem (by omega)
      rw [hat i _ h1 hgi] at he
      injection he with he; subst he
      refine ⟨rlt i h1 h2, ?_⟩
      have hnode := (hr'.node i _ (by rw [hH']; exact idxE_some.2 ⟨h1, hgi⟩)).2
      have hmem : He'[i - 1] ∈ He' := List.getElem_mem _
      have hsc := List.all_eq_true.1 hsc2 _ hmem
      have ho : xs.all noRef1 = true ∨ ownE He'[i - 1] := hown.imp _root_.id fun h => h.2 _ hmem
      generalize He'[i - 1] = e at hnode hsc ho
      cases e with
      | box cs =>
        obtain ⟨g, C, t, fr, hg, hC, hf, hrl⟩ := hnode
        exact ⟨g, C, t, fr, hZat g i h1 hg, hC, hf, fl cs _ hsc ho hrl⟩
      | row k es =>
        refine ⟨hnode.1, hnode.2.imp _root_.id ?_⟩
        rintro ⟨g, C, t, fr, hg, hC, hf, hrl⟩
        refine ⟨g, C, t, fr, hZat g i h1 hg, hC, hf, ?_⟩
        rcases ho with ho | ho
        · exact RE.mono (fstab ho) hrl
        · exact own_re ho hrl
    · rw [hoth r h1] at he
      obtain ⟨p1, p2⟩ := hh.node r e he
      refine ⟨.inl p1, p2.mono hsame p1 (by rw [hoth r h1, he]; simp) (fun g hg => ?_)⟩
      have hrs : r ∉ σ := fun hr => by
        obtain ⟨i, q1, q2, _, q3⟩ := hsig r hr
        exact h1 i q1 (by omega) q3
      exact (hwY g (hh.lt g r hg).1 (hcb g r hg hrs)).2
  · rw [hoth 0 (fun i h1 h2 => rne i h1 h2)]; exact hh.zero
/-! ### rows that are given up by a call -/
def frz0 (gs : List Nat) (H : Hp) : T → T
  | .ref r => bif gs.contains r then (match H r with
    | some (.row k es) => .sl k es
    | _ => .ref r) else .ref r
  | x => x
def frz1 (gs : List Nat) (H : Hp) : T → T
  | .agg cs => .agg (cs.map (frz0 gs H))
  | x => frz0 gs H x
/-- A call; the rows gs are given up before it. -/
def CallP (P : Program) (f : FuncId) (xs : List T) (H : Hp) (id : Nat) (K : List Nat → Kon) : Prop :=
  ∃ gs, CallP0 P f (xs.map (frz1 gs H)) (updL H (goneU gs)) id fun σ x u => K σ x (goneU gs ++ u)
theorem frz0_sound {X : Cx} (hh : HR X) (gs : List Nat) {x : T} {v : Value} (hx : RS0 X x v) : RS0 (X.dropL gs) (frz0 gs X.H x) v := by
  cases x
  case ref r =>
    simp only [frz0]
    cases hg : gs.contains r with
    | false => exact hx.mono (same_dropL X gs)
    | true =>
      simp only [cond_true]
      split
      · rename_i k es hH
        have hm : r ∈ gs := by simpa using hg
        exact (ref_sl hh (same_dropL X gs).stab hx hH (fun g h => dropL_ow (hh.ne hH) gs hm h) (fun g _ => by rw [dropL_w])).rs0
      · exact hx.mono (same_dropL X gs)
  all_goals exact hx.mono (same_dropL X gs)
theorem frz1_sound {X : Cx} (hh : HR X) (gs : List Nat) {x : T} {v : Value} (hx : RS X x v) : RS (X.dropL gs) (frz1 gs X.H x) v := by
  cases x
  case agg cs =>
    obtain ⟨vs, hv, hl⟩ := hx
    refine ⟨vs, hv, ?_⟩
    clear hv
    generalize vs.toList = us at hl
    induction cs generalizing us with
    | nil => exact hl
    | cons c cs ih =>
      obtain ⟨u, us', hu, q1, q2, q3⟩ := hl
      exact ⟨u, us', hu, q1, frz0_sound hh gs q2, ih us' q3⟩
  case ref r =>
    have h0 : RS0 X (.ref r) v := hx
    have h1 := frz0_sound hh gs h0
    have hs : frz1 gs X.H (.ref r) = frz0 gs X.H (.ref r) := rfl
    rw [hs]
    have key : ∀ y : T, (∃ k es, y = .sl k es) ∨ (∃ r, y = .ref r) → RS0 (X.dropL gs) y v → RS (X.dropL gs) y v := by
      rintro y (⟨k, es, rfl⟩ | ⟨r, rfl⟩) h
      · exact h
      · exact h
    refine key _ ?_ h1
    simp only [frz0]
    cases gs.contains r with
    | false => exact .inr ⟨r, rfl⟩
    | true =>
      simp only [cond_true]
      split
      · exact .inl ⟨_, _, rfl⟩
      · exact .inr ⟨r, rfl⟩
  all_goals exact hx.mono (same_dropL X gs)
theorem frz_args {X : Cx} (hh : HR X) (gs : List Nat) : ∀ {xs : List T} {vs : List Value}, Args X xs vs → Args (X.dropL gs) (xs.map (frz1 gs X.H)) vs
  | [], vs, h => h
  | x :: xs, vs, ⟨u, us, hu, h1, h2⟩ => ⟨u, us, hu, frz1_sound hh gs h1, frz_args hh gs h2⟩
theorem updL_app : ∀ (u v : Upd) (H : Hp), updL H (u ++ v) = updL (updL H u) v
  | [], v, H => rfl
  | (r, e) :: u, v, H => updL_app u v (updE H r e)
theorem call_sound {P : Program} {Y : Cx} {id : Nat} {K : Kon} (hh : HR Y) (hi : Fresh Y id) {f : FuncId} {xs : List T} {vs : List Value} (ha : Args Y xs vs) (h : CallP P f xs Y.H id fun _ => K) :
    Calls P f vs.toArray Y.w fun e w' => ∃ v, e = .returned v ∧ Out Y id K v w' := by
  obtain ⟨gs, h⟩ := h
  have hc := call_sound0 (K := fun x u => K x (goneU gs ++ u)) (hh.dropL gs) (dropL_fresh gs hi) (frz_args hh gs ha) (by rw [dropL_H]; exact h)
  rw [dropL_w] at hc
  refine hc.mono ?_
  rintro e w' ⟨v, he, x, u, X', hk, hw, hu, hH, hs, hr, hv⟩
  exact ⟨v, he, x, _, X', hk, hw, by rw [hu, dropL_win], by rw [hH, dropL_H, updL_app], (same_dropL Y gs).trans hs, hr, hv⟩
end Go.Proofs.Ytkdajahiaedoiaa
