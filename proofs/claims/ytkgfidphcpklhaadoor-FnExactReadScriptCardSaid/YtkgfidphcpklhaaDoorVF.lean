/- One state tells as much as another, under other numbers. What a text asks of the contents, and what it gives: the whole code but regions that draw. -/
import Derived.Test.YtkgfidphcpklhaaDoorVK
set_option linter.unusedSimpArgs false
namespace Go.Proofs.YtkgfidphcpklhaaDoor
open Go.RowKit Pl
set_option linter.unusedVariables false
set_option linter.unusedSectionVars false

def lk {α : Type} : List (Nat × α) → Nat → Option α
  | [], _ => none
  | (k, v) :: l, t => bif Nat.beq k t then some v else lk l t
def hpH (l : List (Nat × Option Ent)) : Hp := fun r => match lk l r with
  | some e => e
  | none => none
abbrev Sub := List (Nat × Nat)
/-- x tells as much as x' does. -/
def M0 (σ : Sub) (H : Hp) (x x' : T) : Prop := match x' with
  | .any => True
  | .ref r' => match x with
    | .ref r => lk σ r' = some r
    | .val v => v = nilV ∧ lk σ r' = none
    | _ => False
  | .ptr r' i' j' => match x with
    | .ptr r i j => lk σ r' = some r ∧ i = i' ∧ j = j'
    | _ => False
  | .fnp f' r' => match x with
    | .fnp f r => f = f' ∧ lk σ r' = some r
    | _ => False
  | .fnq f' r' s' => match x with
    | .fnq f r s => f = f' ∧ lk σ r' = some r ∧ lk σ s' = some s
    | _ => False
  | .sl k' es' => match x with
    | .sl k es => k = k' ∧ es = es'
    | .ref r => H r = some (.row k' es') ∧ (σ.all fun p => !Nat.beq p.2 r) = true
    | .val v => v = nilV ∧ es' = []
    | _ => False
  | .int k' n' => match x with
    | .int k n => k = k' ∧ n = n'
    | _ => False
  | .bool b' => match x with
    | .bool b => b = b'
    | _ => False
  | .str s' => match x with
    | .str s => s = s'
    | _ => False
  | x' => x = x'
def Ml (σ : Sub) (H : Hp) : List T → List T → Prop
  | [], xs' => xs' = []
  | x :: xs, xs' => match xs' with
    | x' :: ys => M0 σ H x x' ∧ Ml σ H xs ys
    | [] => False
def M1 (σ : Sub) (H : Hp) (x x' : T) : Prop := match x' with
  | .agg cs' => match x with
    | .agg cs => Ml σ H cs cs'
    | _ => False
  | x' => M0 σ H x x'
def Mt (σ : Sub) (H : Hp) : List T → List T → Prop
  | [], xs' => xs' = []
  | x :: xs, xs' => match xs' with
    | x' :: ys => M1 σ H x x' ∧ Mt σ H xs ys
    | [] => False
def M2 (σ : Sub) (H : Hp) (x x' : T) : Prop := match x' with
  | .tup cs' => match x with
    | .tup cs => Mt σ H cs cs'
    | _ => False
  | x' => M1 σ H x x'
/-- The entries of the other state, one by one. -/
def HpM (σ : Sub) (H : Hp) (base n' : Nat) : List (Nat × Option Ent) → Prop
  | [] => True
  | (r', e') :: l => (Nat.blt 0 r' && Nat.blt r' n') = true ∧ (match e' with
    | none => True
    | some e' => match lk σ r' with
      | some r => match e' with
        | .box cs' => match H r with
          | some (.box cs) => Ml σ H cs cs'
          | _ => False
        | .row k' es' => match H r with
          | some (.row k es) => k = k' ∧ es = es'
          | _ => False
      | none => Nat.ble base r' = true ∧ (match e' with
        | .row k es => k ≠ 0 ∧ es = []
        | _ => False)) ∧ HpM σ H base n' l
/-- Numbers go to numbers, one to one; those of the parameters stay. -/
def sgOk (base : Nat) : Sub → Bool
  | [] => true
  | (a, b) :: l => Nat.blt 0 a && Nat.blt 0 b && (bif Nat.blt a base || Nat.blt b base then Nat.beq a b else true) && l.all (fun p => !Nat.beq p.1 a && !Nat.beq p.2 b) && sgOk base l

theorem lk_mem {α : Type} : ∀ {l : List (Nat × α)} {k : Nat} {v : α}, lk l k = some v → (k, v) ∈ l
  | [], k, v, h => by cases h
  | (k0, v0) :: l, k, v, h => by
    simp only [lk] at h
    cases hb : Nat.beq k0 k with
    | true =>
      rw [hb] at h; simp at h; subst h
      have := Nat.eq_of_beq_eq_true hb
      subst this; simp
    | false => rw [hb] at h; simp at h; exact List.mem_cons_of_mem _ (lk_mem h)
theorem sg_lk {base : Nat} : ∀ {σ : Sub} {a b : Nat}, sgOk base σ = true → (a, b) ∈ σ → lk σ a = some b ∧ a ≠ 0 ∧ b ≠ 0 ∧ (a < base ∨ b < base → a = b)
  | [], a, b, _, h => by cases h
  | (a0, b0) :: l, a, b, hs, h => by
    simp only [sgOk, Bool.and_eq_true] at hs
    obtain ⟨⟨⟨⟨h1, h2⟩, h3⟩, h4⟩, h5⟩ := hs
    have c1 : a0 ≠ 0 := by simp [Nat.blt] at h1; omega
    have c2 : b0 ≠ 0 := by simp [Nat.blt] at h2; omega
    cases h with
    | head =>
      refine ⟨by simp [lk], c1, c2, fun hb => ?_⟩
      have : (Nat.blt a0 base || Nat.blt b0 base) = true := by
        rcases hb with hb | hb
        · simp [Nat.blt, Nat.ble_eq_true_of_le (show a0 + 1 ≤ base by omega)]
        · simp [Nat.blt, Nat.ble_eq_true_of_le (show b0 + 1 ≤ base by omega)]
      rw [this] at h3
      exact Nat.eq_of_beq_eq_true h3
    | tail _ hm =>
      obtain ⟨q1, q2⟩ := sg_lk h5 hm
      have := List.all_eq_true.1 h4 _ hm
      simp only [Bool.and_eq_true] at this
      have hne : Nat.beq a0 a = false := by
        have := this.1
        cases hb : Nat.beq a0 a with
        | false => rfl
        | true => have e := Nat.eq_of_beq_eq_true hb; subst e; simp at this
      exact ⟨by simp [lk, hne, q1], q2⟩
theorem sg_inj {base : Nat} : ∀ {σ : Sub} {a a' b : Nat}, sgOk base σ = true → (a, b) ∈ σ → (a', b) ∈ σ → a = a'
  | [], a, a', b, _, h, _ => by cases h
  | (a0, b0) :: l, a, a', b, hs, h, h' => by
    simp only [sgOk, Bool.and_eq_true] at hs
    obtain ⟨⟨_, h4⟩, h5⟩ := hs
    have key : ∀ x, (x, b0) ∈ l → False := fun x hx => by
      have := List.all_eq_true.1 h4 _ hx
      simp at this
    cases h with
    | head => cases h' with
      | head => rfl
      | tail _ hm => exact (key _ hm).elim
    | tail _ hm => cases h' with
      | head => exact (key _ hm).elim
      | tail _ hm' => exact sg_inj h5 hm hm'

open Classical in
/-- The same memory under other numbers. -/
noncomputable def Cx.ren (X : Cx) (σ : Sub) (H' : Hp) (n' : Nat) : Cx :=
  { H := H', ow := fun g => match X.ow g with
      | none => none
      | some r => if r = 0 then some 0 else if h : ∃ a, (a, r) ∈ σ then some h.choose else none
    w := X.w, us := fun i => i < n' }
theorem Ml.len {σ : Sub} {H : Hp} : ∀ {xs ys : List T}, Ml σ H xs ys → xs.length = ys.length
  | [], ys, h => by have : ys = [] := h; subst this; rfl
  | x :: xs, [], h => h.elim
  | x :: xs, y :: ys, h => by simp [Ml.len h.2]
section
variable {X0 X : Cx} {σ : Sub} {hp' : List (Nat × Option Ent)} {n' base : Nat} (hs : Same X0 X) (hh : HR X) (hσ : sgOk base σ = true) (hm : HpM σ X.H base n' hp') (hn : (∀ r, X0.us r → r < base) ∧ base ≤ n') (hd : (σ.all fun p => Nat.blt p.1 n') = true)
include hs hh hσ hm hn hd
theorem ren_ow {g r a : Nat} (ha : (a, r) ∈ σ) (h : X.ow g = some r) : (X.ren σ (hpH hp') n').ow g = some a := by
  have hr := (sg_lk hσ ha).2.2.1
  have hx : ∃ a, (a, r) ∈ σ := ⟨a, ha⟩
  show (match X.ow g with | none => none | some r => _) = _
  rw [h]
  simp only [hr, if_false, dif_pos hx]
  exact congrArg some (sg_inj hσ hx.choose_spec ha)
theorem ren_none {g : Nat} (h : X.ow g = none) : (X.ren σ (hpH hp') n').ow g = none := by
  show (match X.ow g with | none => none | some r => _) = _
  rw [h]
theorem ren_lost {g r : Nat} (h : X.ow g = some r) (hr : r ≠ 0) (hl : ∀ a, (a, r) ∉ σ) : (X.ren σ (hpH hp') n').ow g = none := by
  have hx : ¬ ∃ a, (a, r) ∈ σ := fun ⟨a, ha⟩ => hl a ha
  show (match X.ow g with | none => none | some r => _) = _
  rw [h]
  simp only [hr, if_false, dif_neg hx]
theorem ren_inv {g a : Nat} (h : (X.ren σ (hpH hp') n').ow g = some a) : (a = 0 ∧ X.ow g = some 0) ∨ (a ≠ 0 ∧ ∃ r, (a, r) ∈ σ ∧ X.ow g = some r) := by
  cases hx : X.ow g with
  | none => rw [ren_none hs hh hσ hm hn hd hx] at h; cases h
  | some r =>
    by_cases hr : r = 0
    · subst hr
      change (match X.ow g with | none => none | some r => _) = _ at h
      rw [hx] at h
      simp at h
      exact .inl ⟨h.symm, rfl⟩
    · by_cases he : ∃ a, (a, r) ∈ σ
      · obtain ⟨a', ha'⟩ := he
        rw [ren_ow hs hh hσ hm hn hd ha' hx] at h
        injection h with h; subst h
        exact .inr ⟨(sg_lk hσ ha').2.1, r, ha', rfl⟩
      · rw [ren_lost hs hh hσ hm hn hd hx hr (fun a ha => he ⟨a, ha⟩)] at h; cases h
theorem ren_zero {g : Nat} (h : X.ow g = some 0) : (X.ren σ (hpH hp') n').ow g = some 0 := by
  show (match X.ow g with | none => none | some r => _) = _
  rw [h]; simp
theorem ren_stab : Stab X.ow X.w (X.ren σ (hpH hp') n').ow X.w := fun g _ h => ⟨ren_none hs hh hσ hm hn hd h, rfl⟩
/-- What is known of an entry of the other state. -/
theorem ren_ent {a : Nat} {e' : Ent} (h : hpH hp' a = some e') : a ≠ 0 ∧ a < n' ∧ ((∃ r e, lk σ a = some r ∧ X.H r = some e ∧ e.shape = e'.shape ∧ (match e, e' with | .box cs, .box cs' => Ml σ X.H cs cs' | .row k es, .row k' es' => k = k' ∧ es = es' | _, _ => False)) ∨ (lk σ a = none ∧ base ≤ a ∧ ∃ k, k ≠ 0 ∧ e' = .row k [])) := by
  have key : ∀ {l : List (Nat × Option Ent)}, HpM σ X.H base n' l → (a, some e') ∈ l → a ≠ 0 ∧ a < n' ∧ ((∃ r e, lk σ a = some r ∧ X.H r = some e ∧ e.shape = e'.shape ∧ (match e, e' with | .box cs, .box cs' => Ml σ X.H cs cs' | .row k es, .row k' es' => k = k' ∧ es = es' | _, _ => False)) ∨ (lk σ a = none ∧ base ≤ a ∧ ∃ k, k ≠ 0 ∧ e' = .row k [])) := by
    intro l
    induction l with
    | nil => intro _ h; cases h
    | cons p l ih =>
      obtain ⟨a0, e0⟩ := p
      rintro ⟨h1, h2, h3⟩ hmem
      cases hmem with
      | tail _ hmem => exact ih h3 hmem
      | head =>
        simp only [Bool.and_eq_true] at h1
        refine ⟨by have := h1.1; simp [Nat.blt] at this; omega, by have := h1.2; simp [Nat.blt] at this; omega, ?_⟩
        simp only at h2
        cases hl : lk σ a with
        | some r =>
          left
          rw [hl] at h2
          cases e' with
          | box cs' =>
            simp only at h2
            split at h2
            · rename_i cs hH; exact ⟨r, _, rfl, hH, by simp [Ent.shape, Ml.len h2], h2⟩
            · exact h2.elim
          | row k' es' =>
            simp only at h2
            split at h2
            · rename_i k es hH; obtain ⟨rfl, rfl⟩ := h2; exact ⟨r, _, rfl, hH, rfl, rfl, rfl⟩
            · exact h2.elim
        | none =>
          right
          rw [hl] at h2
          cases e' with
          | box cs' => exact h2.2.elim
          | row k' es' => obtain ⟨q1, q2, rfl⟩ := h2; exact ⟨rfl, Nat.le_of_ble_eq_true q1, k', q2, rfl⟩
  unfold hpH at h
  split at h
  · rename_i e hl; subst h; exact key hm (lk_mem hl)
  · cases h
theorem ren_lt {a r : Nat} (h : lk σ a = some r) : a < n' := by
  have := List.all_eq_true.1 hd _ (lk_mem h)
  simp [Nat.blt] at this; omega
theorem m0_sound {x x' : T} {v : Value} (h : RS0 X x v) (ho : v.oneCell' = true) (hx : M0 σ X.H x x') (hlt : ∀ r', (x' = .ref r' ∨ (∃ i j, x' = .ptr r' i j) ∨ (∃ f, x' = .fnp f r') ∨ ∃ f s, x' = .fnq f r' s ∨ x' = .fnq f s r') → r' < n') : RS0 (X.ren σ (hpH hp') n') x' v := by
  have hst := ren_stab hs hh hσ hm hn hd
  cases x'
  case any => trivial
  case ref a =>
    simp only [M0] at hx
    cases x <;> simp only at hx
    case ref r =>
      obtain ⟨h1, h2, h3⟩ := h
      refine ⟨hlt a (.inl rfl), h2, fun k es he => ?_⟩
      obtain ⟨_, _, hc⟩ := ren_ent hs hh hσ hm hn hd he
      rcases hc with ⟨r', e, q1, q2, q3, q4⟩ | ⟨q1, _⟩
      · rw [hx] at q1; injection q1 with q1; subst q1
        cases e with
        | box cs => exact q4.elim
        | row k0 es0 =>
          obtain ⟨rfl, rfl⟩ := q4
          rcases h3 _ _ q2 with h4 | ⟨g, c, C, t, fr, hv, hg, hr⟩
          · exact .inl h4
          · exact .inr ⟨g, c, C, t, fr, hv, ren_ow hs hh hσ hm hn hd (lk_mem hx) hg, hr⟩
      · rw [hx] at q1; cases q1
    case val v0 =>
      obtain ⟨rfl, hx⟩ := hx
      have hv : v = nilV ∧ nilV.oneCell' = true := by simpa [RS0, RV] using h
      obtain ⟨rfl, _⟩ := hv
      refine ⟨hlt a (.inl rfl), ⟨_, _, _, rfl⟩, fun k es he => ?_⟩
      obtain ⟨_, _, hc⟩ := ren_ent hs hh hσ hm hn hd he
      rcases hc with ⟨r', e, q1, _⟩ | ⟨_, _, k', _, q⟩
      · rw [hx] at q1; cases q1
      · injection q with _ q; subst q; exact .inl ⟨rfl, rfl⟩
  case ptr a i j =>
    simp only [M0] at hx
    cases x <;> simp only at hx
    case ptr r i0 j0 =>
      obtain ⟨hx, rfl, rfl⟩ := hx
      obtain ⟨h1, h2, h3⟩ := h
      refine ⟨hlt a (.inr (.inl ⟨_, _, rfl⟩)), h2, fun e' he => ?_⟩
      obtain ⟨_, _, hc⟩ := ren_ent hs hh hσ hm hn hd he
      rcases hc with ⟨r', e, q1, q2, q3, q4⟩ | ⟨q1, _⟩
      · rw [hx] at q1; injection q1 with q1; subst q1
        obtain ⟨g, hg, hv⟩ := h3 _ q2
        exact ⟨g, ren_ow hs hh hσ hm hn hd (lk_mem hx) hg, by rw [← Ent.wd_shape q3]; exact hv⟩
      · rw [hx] at q1; cases q1
  case sl k' es' =>
    simp only [M0] at hx
    cases x <;> simp only at hx
    case sl k es => obtain ⟨rfl, rfl⟩ := hx; exact RV.mono hst h
    case ref r =>
      obtain ⟨h1, h2⟩ := hx
      have hno : ∀ a, (a, r) ∉ σ := fun a ha => by have := List.all_eq_true.1 h2 _ ha; simp at this
      exact (ref_sl hh hst h h1 (fun g hg => ren_lost hs hh hσ hm hn hd hg (hh.ne h1) hno) (fun g _ => rfl)).rs0
    case val v0 =>
      obtain ⟨rfl, rfl⟩ := hx
      have hv : v = nilV ∧ nilV.oneCell' = true := by simpa [RS0, RV] using h
      obtain ⟨rfl, _⟩ := hv
      exact RV.rs0 (by simp only [RV]; exact ⟨none, 0, rfl, Nat.le_refl _, .inl trivial⟩)
  case int k' n0 =>
    simp only [M0] at hx
    cases x <;> simp only at hx
    case int k n => obtain ⟨rfl, rfl⟩ := hx; exact RV.mono hst h
  case bool b' =>
    simp only [M0] at hx
    cases x <;> simp only at hx
    case bool b => subst hx; exact RV.mono hst h
  case str s' =>
    simp only [M0] at hx
    cases x <;> simp only at hx
    case str s => subst hx; exact RV.mono hst h
  case rptr c j =>
    simp only [M0] at hx
    subst hx
    obtain ⟨g, o, C, t, fr, hv, hg, hC, hr⟩ := h
    exact ⟨g, o, C, t, fr, hv, ren_none hs hh hσ hm hn hd hg, hC, RL.mono hst hr⟩
  case fnp f a =>
    simp only [M0] at hx
    cases x <;> simp only at hx
    case fnp f0 r =>
      obtain ⟨rfl, hx⟩ := hx
      obtain ⟨u, hu, h1, h2, h3⟩ := h
      refine ⟨u, hu, hlt a (.inr (.inr (.inl ⟨_, rfl⟩))), h2, fun e' he => ?_⟩
      obtain ⟨_, _, hc⟩ := ren_ent hs hh hσ hm hn hd he
      rcases hc with ⟨r', e, q1, q2, q3, q4⟩ | ⟨q1, _⟩
      · rw [hx] at q1; injection q1 with q1; subst q1
        obtain ⟨g, hg, hv⟩ := h3 _ q2
        exact ⟨g, ren_ow hs hh hσ hm hn hd (lk_mem hx) hg, by rw [hv, Nat.zero_mul, Nat.zero_mul]⟩
      · rw [hx] at q1; cases q1
  case fnq f a b =>
    simp only [M0] at hx
    cases x <;> simp only at hx
    case fnq f0 r s =>
      obtain ⟨rfl, hx, hy⟩ := hx
      obtain ⟨u, u', hu, ⟨h1, h2, h3⟩, ⟨k1, k2, k3⟩⟩ := h
      refine ⟨u, u', hu, ⟨hlt a (.inr (.inr (.inr ⟨_, _, .inl rfl⟩))), h2, fun e' he => ?_⟩, ⟨hlt b (.inr (.inr (.inr ⟨_, _, .inr rfl⟩))), k2, fun e' he => ?_⟩⟩
      · obtain ⟨_, _, hc⟩ := ren_ent hs hh hσ hm hn hd he
        rcases hc with ⟨r', e, q1, q2, q3, q4⟩ | ⟨q1, _⟩
        · rw [hx] at q1; injection q1 with q1; subst q1
          obtain ⟨g, hg, hv⟩ := h3 _ q2
          exact ⟨g, ren_ow hs hh hσ hm hn hd (lk_mem hx) hg, by rw [hv, Nat.zero_mul, Nat.zero_mul]⟩
        · rw [hx] at q1; cases q1
      · obtain ⟨_, _, hc⟩ := ren_ent hs hh hσ hm hn hd he
        rcases hc with ⟨r', e, q1, q2, q3, q4⟩ | ⟨q1, _⟩
        · rw [hy] at q1; injection q1 with q1; subst q1
          obtain ⟨g, hg, hv⟩ := k3 _ q2
          exact ⟨g, ren_ow hs hh hσ hm hn hd (lk_mem hy) hg, by rw [hv, Nat.zero_mul, Nat.zero_mul]⟩
        · rw [hy] at q1; cases q1
  case val v0 => simp only [M0] at hx; subst hx; exact RV.mono hst h
  case agg cs => simp only [M0] at hx; subst hx; simp [RS0, RV] at h
  case tup cs => simp only [M0] at hx; subst hx; simp [RS0, RV] at h
/-- Numbers below n'. -/
def below0 (n' : Nat) : T → Bool
  | .ref r => Nat.blt r n'
  | .ptr r _ _ => Nat.blt r n'
  | .fnp _ r => Nat.blt r n'
  | .fnq _ r s => Nat.blt r n' && Nat.blt s n'
  | _ => true
def below1 (n' : Nat) : T → Bool
  | .agg cs => cs.all (below0 n')
  | x => below0 n' x
def below2 (n' : Nat) : T → Bool
  | .tup cs => cs.all (below1 n')
  | x => below1 n' x
theorem m0_sound' {x x' : T} {v : Value} (h : RS0 X x v) (ho : v.oneCell' = true) (hx : M0 σ X.H x x') (hb : below0 n' x' = true) : RS0 (X.ren σ (hpH hp') n') x' v :=
  m0_sound hs hh hσ hm hn hd h ho hx (fun r' hr => by
    rcases hr with rfl | ⟨i, j, rfl⟩ | ⟨f, rfl⟩ | ⟨f, s, rfl | rfl⟩ <;> (simp [below0, Nat.blt] at hb; omega))
theorem ml_sound : ∀ {xs ys : List T} {vs : List Value}, RSl X xs vs → Ml σ X.H xs ys → ys.all (below0 n') = true → RSl (X.ren σ (hpH hp') n') ys vs
  | [], ys, vs, h, hx, _ => by have : ys = [] := hx; subst this; exact h
  | x :: xs, [], vs, h, hx, _ => hx.elim
  | x :: xs, y :: ys, vs, ⟨u, us, hu, h1, h2, h3⟩, hx, hb => by
    simp only [List.all_cons, Bool.and_eq_true] at hb
    exact ⟨u, us, hu, h1, m0_sound' hs hh hσ hm hn hd h2 h1 hx.1 hb.1, ml_sound h3 hx.2 hb.2⟩
theorem m1_sound {x x' : T} {v : Value} (h : RS1 X x v) (hx : M1 σ X.H x x') (hb : below1 n' x' = true) : RS1 (X.ren σ (hpH hp') n') x' v := by
  have base : ∀ y, (∀ cs, y ≠ .agg cs) → M0 σ X.H x y → below0 n' y = true → RS0 (X.ren σ (hpH hp') n') y v := fun y hy hm0 hb0 => by
    by_cases hany : y = .any
    · subst hany; trivial
    have hone : RS0 X x v ∧ v.oneCell' = true := by
      cases x <;> simp only [RS1] at h
      case agg cs => cases y <;> simp only [M0] at hm0 <;> first | exact absurd rfl hany | exact absurd rfl (hy _) | (exact hm0.elim) | cases hm0
      case ref r => exact ⟨h, by obtain ⟨_, ⟨A, n, c, rfl⟩, _⟩ := h; rfl⟩
      case ptr r i j => exact ⟨h, by obtain ⟨_, ⟨A, rfl⟩, _⟩ := h; rfl⟩
      case rptr c j => exact ⟨h, by obtain ⟨g, o, C, t, fr, rfl, _⟩ := h; rfl⟩
      case fnp f r => exact ⟨h, by obtain ⟨u, rfl, _⟩ := h; rfl⟩
      case fnq f r s => exact ⟨h, by obtain ⟨u, u', rfl, _⟩ := h; rfl⟩
      case any => cases y <;> simp only [M0] at hm0 <;> first | exact absurd rfl hany | (exact hm0.elim) | cases hm0
      case tup cs => simp [RS0, RV] at h
      all_goals exact ⟨h, RV.one h⟩
    exact m0_sound' hs hh hσ hm hn hd hone.1 hone.2 hm0 hb0
  cases x' with
  | agg cs' =>
    simp only [M1] at hx
    cases x <;> simp only at hx
    case agg cs => obtain ⟨vs, hv, hl⟩ := h; exact ⟨vs, hv, ml_sound hs hh hσ hm hn hd hl hx hb⟩
  | int k n => exact base (.int k n) (fun cs h => by cases h) hx hb
  | bool b => exact base (.bool b) (fun cs h => by cases h) hx hb
  | str s => exact base (.str s) (fun cs h => by cases h) hx hb
  | val u => exact base (.val u) (fun cs h => by cases h) hx hb
  | tup cs => exact base (.tup cs) (fun cs h => by cases h) hx hb
  | sl k es => exact base (.sl k es) (fun cs h => by cases h) hx hb
  | ref r => exact base (.ref r) (fun cs h => by cases h) hx hb
  | ptr r i j => exact base (.ptr r i j) (fun cs h => by cases h) hx hb
  | rptr c j => exact base (.rptr c j) (fun cs h => by cases h) hx hb
  | fnp f r => exact base (.fnp f r) (fun cs h => by cases h) hx hb
  | fnq f r s => exact base (.fnq f r s) (fun cs h => by cases h) hx hb
  | any => trivial
theorem mt_sound : ∀ {xs ys : List T} {vs : List Value}, RSt X xs vs → Mt σ X.H xs ys → ys.all (below1 n') = true → RSt (X.ren σ (hpH hp') n') ys vs
  | [], ys, vs, h, hx, _ => by have : ys = [] := hx; subst this; exact h
  | x :: xs, [], vs, h, hx, _ => hx.elim
  | x :: xs, y :: ys, vs, ⟨u, us, hu, h2, h3⟩, hx, hb => by
    simp only [List.all_cons, Bool.and_eq_true] at hb
    exact ⟨u, us, hu, m1_sound hs hh hσ hm hn hd h2 hx.1 hb.1, mt_sound h3 hx.2 hb.2⟩
theorem m2_sound {x x' : T} {v : Value} (h : RS X x v) (hx : M2 σ X.H x x') (hb : below2 n' x' = true) : RS (X.ren σ (hpH hp') n') x' v := by
  have base : ∀ y, (∀ cs, y ≠ .tup cs) → M1 σ X.H x y → below1 n' y = true → RS (X.ren σ (hpH hp') n') y v := fun y hy hm1 hb1 => by
    by_cases hany : y = .any
    · subst hany; trivial
    have hone : RS1 X x v := by
      cases x <;> first | exact h | skip
      case tup cs => cases y <;> simp only [M1, M0] at hm1 <;> first | exact absurd rfl hany | exact absurd rfl (hy _) | (exact hm1.elim) | cases hm1
    exact (m1_sound hs hh hσ hm hn hd hone hm1 hb1).rs
  cases x' with
  | tup cs' =>
    simp only [M2] at hx
    cases x <;> simp only at hx
    case tup cs => obtain ⟨vs, hv, hl⟩ := h; exact ⟨vs, hv, mt_sound hs hh hσ hm hn hd hl hx hb⟩
  | int k n => exact base (.int k n) (fun cs h => by cases h) hx hb
  | bool b => exact base (.bool b) (fun cs h => by cases h) hx hb
  | str s => exact base (.str s) (fun cs h => by cases h) hx hb
  | val u => exact base (.val u) (fun cs h => by cases h) hx hb
  | agg cs => exact base (.agg cs) (fun cs h => by cases h) hx hb
  | sl k es => exact base (.sl k es) (fun cs h => by cases h) hx hb
  | ref r => exact base (.ref r) (fun cs h => by cases h) hx hb
  | ptr r i j => exact base (.ptr r i j) (fun cs h => by cases h) hx hb
  | rptr c j => exact base (.rptr c j) (fun cs h => by cases h) hx hb
  | fnp f r => exact base (.fnp f r) (fun cs h => by cases h) hx hb
  | fnq f r s => exact base (.fnq f r s) (fun cs h => by cases h) hx hb
  | any => trivial
theorem ren_same : Same X0 (X.ren σ (hpH hp') n') := by
  refine ⟨fun r hr => Nat.lt_of_lt_of_le (hn.1 r hr) hn.2, hs.os, hs.tape, hs.output, hs.size, fun g hg h0 => ?_, fun r hr e' he => ?_, fun g hg => ?_, fun r hr hne g hg => ?_⟩
  · obtain ⟨a, b⟩ := hs.stab g hg h0
    exact ⟨ren_none hs hh hσ hm hn hd a, b⟩
  · obtain ⟨_, _, hc⟩ := ren_ent hs hh hσ hm hn hd he
    rcases hc with ⟨r', e, q1, q2, q3, _⟩ | ⟨_, q, _⟩
    · obtain rfl := (sg_lk hσ (lk_mem q1)).2.2.2 (.inl (hn.1 r hr))
      obtain ⟨e0, p1, p2⟩ := hs.ent r hr e q2
      exact ⟨e0, p1, p2.trans q3⟩
    · exact absurd (hn.1 r hr) (by omega)
  · obtain ⟨a, b⟩ := hs.fra g hg
    exact ⟨ren_zero hs hh hσ hm hn hd a, b⟩
  · cases he : hpH hp' r with
    | none => exact absurd he hne
    | some e' =>
      obtain ⟨_, _, hc⟩ := ren_ent hs hh hσ hm hn hd he
      rcases hc with ⟨r', e, q1, q2, q3, _⟩ | ⟨_, q, _⟩
      · obtain rfl := (sg_lk hσ (lk_mem q1)).2.2.2 (.inl (hn.1 r hr))
        obtain ⟨a, b⟩ := hs.pin r hr (by rw [q2]; simp) g hg
        exact ⟨ren_ow hs hh hσ hm hn hd (lk_mem q1) a, b⟩
      · exact absurd (hn.1 r hr) (by omega)
theorem ren_hr (hpos : 0 < base) (hbx : (hp'.all fun p => match p.2 with | some (.box cs) => cs.all (below0 n') | _ => true) = true) : HR (X.ren σ (hpH hp') n') := by
  refine ⟨fun g g' a ha h1 h2 => ?_, fun g a hg => ?_, fun a e' he => ?_, ?_, Nat.lt_of_lt_of_le hpos hn.2, hh.gl.mono (ren_stab hs hh hσ hm hn hd)⟩
  · rcases ren_inv hs hh hσ hm hn hd h1 with ⟨rfl, q1⟩ | ⟨q0, r, q1, q2⟩
    · cases he : hpH hp' 0 with
      | none => exact absurd he ha
      | some e' => exact absurd rfl (ren_ent hs hh hσ hm hn hd he).1
    · rcases ren_inv hs hh hσ hm hn hd h2 with ⟨rfl, p1⟩ | ⟨p0, r', p1, p2⟩
      · exact absurd rfl q0
      · have e1 := (sg_lk hσ q1).1
        have e2 := (sg_lk hσ p1).1
        rw [e1] at e2; injection e2 with e2; subst e2
        cases he : hpH hp' a with
        | none => exact absurd he ha
        | some e' =>
          obtain ⟨_, _, hc⟩ := ren_ent hs hh hσ hm hn hd he
          rcases hc with ⟨r', e, z1, z2, _⟩ | ⟨z1, _⟩
          · rw [e1] at z1; injection z1 with z1; subst z1; exact hh.inj' z2 q2 p2
          · rw [e1] at z1; cases z1
  · rcases ren_inv hs hh hσ hm hn hd hg with ⟨rfl, q1⟩ | ⟨q0, r, q1, q2⟩
    · exact ⟨(hh.lt _ _ q1).1, Nat.lt_of_lt_of_le hpos hn.2⟩
    · exact ⟨(hh.lt _ _ q2).1, ren_lt hs hh hσ hm hn hd (sg_lk hσ q1).1⟩
  · obtain ⟨h1, h2, hc⟩ := ren_ent hs hh hσ hm hn hd he
    refine ⟨h2, ?_⟩
    rcases hc with ⟨r, e, q1, q2, q3, q4⟩ | ⟨_, _, k, q1, rfl⟩
    · have hno := (hh.node _ _ q2).2
      cases e with
      | box cs => cases e' with
        | row k' es' => exact q4.elim
        | box cs' =>
          obtain ⟨g, C, t, fr, hg, hC, hf, hl⟩ := hno
          refine ⟨g, C, t, fr, ren_ow hs hh hσ hm hn hd (lk_mem q1) hg, hC, hf, ml_sound hs hh hσ hm hn hd hl q4 ?_⟩
          have hmem : (a, some (Ent.box cs')) ∈ hp' := by
            change hpH hp' a = _ at he
            unfold hpH at he
            split at he
            · rename_i e hl; subst he; exact lk_mem hl
            · cases he
          exact List.all_eq_true.1 hbx _ hmem
      | row k es => cases e' with
        | box cs' => exact q4.elim
        | row k' es' =>
          obtain ⟨rfl, rfl⟩ := q4
          exact ⟨hno.1, hno.2.imp _root_.id fun ⟨g, C, t, fr, hg, hC, hf, hl⟩ => ⟨g, C, t, fr, ren_ow hs hh hσ hm hn hd (lk_mem q1) hg, hC, hf, RE.mono (ren_stab hs hh hσ hm hn hd) hl⟩⟩
    · exact ⟨by omega, .inl rfl⟩
  · cases he : hpH hp' 0 with
    | none => exact he
    | some e' => exact absurd rfl (ren_ent hs hh hσ hm hn hd he).1
end
end Go.Proofs.YtkgfidphcpklhaaDoor
namespace Go.Proofs.YtkgfidphcpklhaaDoor
open Go.RowKit Pl
set_option linter.unusedVariables false
set_option linter.unusedSectionVars false

structure St where
  sl : List (Nat × T)
  hp : List (Nat × Option Ent)
  nx : Nat
def St.get (S : St) (t : Nat) : T := match lk S.sl t with
  | some x => x
  | none => .any
def St.H (S : St) : Hp := hpH S.hp
def St.put (S : St) (d : Option Nat) (x : T) : St := match d with
  | some d => { S with sl := (d, x) :: S.sl }
  | none => S
def pushU (l : List (Nat × Option Ent)) : Upd → List (Nat × Option Ent)
  | [] => l
  | p :: u => pushU (p :: l) u
def St.upd (S : St) (u : Upd) : St := { S with hp := pushU S.hp u }
def ofV : Value → T
  | .int k n => .int k n
  | .bool b => .bool b
  | .string s => .str s.data.toList
  | .agg _ => .any
  | .tuple _ => .any
  | v => .val v
def St.ev (S : St) : Operand → T
  | .tmp t => S.get t
  | .const v => ofV v
  | .global g => match glob g with
    | some cs => .rptr cs 0
    | none => .val (.pointer (some ⟨g, 0, none⟩))
  | .func f => .val (.func (.func f) #[] #[])
/-- The state is so: X is the memory, a the slots; X0 is the memory when the call began. -/
structure SR (X0 : Cx) (N : Nat) (S : St) (n : Nat) (X : Cx) (a : Act) : Prop where
  same : Same X0 X
  hr : HR X
  H : X.H = S.H
  lt : ∀ r, X.us r → r < n
  sl : ∀ t, RS X (S.get t) (a.tmps.getD t undef)
  df : a.defers = []
  sz : a.tmps.size = N

theorem pushU_H : ∀ (u : Upd) (l : List (Nat × Option Ent)), hpH (pushU l u) = updL (hpH l) u
  | [], l => rfl
  | (r, e) :: u, l => by
    rw [pushU, pushU_H u, updL]
    congr 1
    funext i
    simp only [hpH, lk, updE]
    cases h : Nat.beq r i with
    | true =>
      have := Nat.eq_of_beq_eq_true h; subst this
      simp
    | false =>
      have : Nat.beq i r = false := by
        cases hb : Nat.beq i r with
        | false => rfl
        | true => have := Nat.eq_of_beq_eq_true hb; subst this; simp at h
      simp [this]
theorem ofV_rs {X : Cx} (v : Value) : RS X (ofV v) v := by
  cases v <;> simp only [ofV]
  case int => exact mk_int _ _ _
  case bool => exact mk_bool _ _
  case string s => have := mk_str X s.data.toList; rwa [data_bs] at this
  case agg => trivial
  case tuple => trivial
  all_goals exact (RV.rs0 (by simp [RV, Value.oneCell'])).rs
theorem ev_rs {X0 X : Cx} {N n : Nat} {S : St} {a : Act} (h : SR X0 N S n X a) (o : Operand) : RS X (S.ev o) (a.eval o) := by
  cases o with
  | tmp t => exact h.sl t
  | const v => exact ofV_rs v
  | global g =>
    simp only [St.ev]
    cases hg : glob g with
    | none => exact (RV.rs0 (by simp [RV, Act.eval, Value.oneCell'])).rs
    | some cs =>
      obtain ⟨a, C, t, fr, b, c⟩ := h.hr.gl.1 g cs hg
      refine RS0.rs (x := .rptr cs 0) ⟨g, 0, C, t, fr, rfl, a, b, ?_⟩
      have := c.len
      rw [List.drop_zero, List.take_of_length_le (by omega)]
      exact c
  | func f => exact (RV.rs0 (by simp [RV, St.ev, Act.eval, Value.oneCell'])).rs
theorem evs_rs {X0 X : Cx} {N n : Nat} {S : St} {a : Act} (h : SR X0 N S n X a) : ∀ (l : List Operand), Args X (l.map S.ev) (l.map a.eval)
  | [] => rfl
  | o :: l => ⟨_, _, rfl, ev_rs h o, evs_rs h l⟩

/-- The next state, worked out. -/
def forceH {α : Type} (l : List α) (K : List α → Prop) : Prop := match l with
  | [] => K []
  | p :: l => K (p :: l)
theorem forceH_eq {α : Type} {l : List α} {K : List α → Prop} (h : forceH l K) : K l := by cases l <;> exact h
def St.step (S : St) (u : Upd) (d : Option Nat) (x : T) (K : St → Prop) : Prop := match S with
  | ⟨sl, hp, nx⟩ => forceH (pushU hp u) fun hp => match d with
    | some d => K ⟨(d, x) :: sl, hp, nx⟩
    | none => K ⟨sl, hp, nx⟩
theorem St.step_eq {S : St} {u : Upd} {d : Option Nat} {x : T} {K : St → Prop} (h : S.step u d x K) : K ((S.upd u).put d x) := by
  obtain ⟨sl, hp, nx⟩ := S
  have h := forceH_eq (K := fun hp => match d with
    | some d => K ⟨(d, x) :: sl, hp, nx⟩
    | none => K ⟨sl, hp, nx⟩) h
  cases d <;> exact h
def forceN (n : Nat) (K : Nat → Prop) : Prop := match n with
  | 0 => K 0
  | m + 1 => K (m + 1)
theorem forceN_eq {n : Nat} {K : Nat → Prop} (h : forceN n K) : K n := by cases n <;> exact h
def St.nxK (S : St) (n : Nat) (K : St → Prop) : Prop := forceN n fun n => match S with
  | ⟨sl, hp, _⟩ => K ⟨sl, hp, n⟩
theorem St.nxK_eq {S : St} {n : Nat} {K : St → Prop} (h : S.nxK n K) : K { S with nx := n } := forceN_eq (K := fun n => K { S with nx := n }) h
/-! ### operations in a row -/
/-- The function that a value is. -/
def fnOf : T → Option FuncId
  | .val v => match v with
    | .func f as bs => match f with
      | .func f => match as.toList, bs.toList with
        | [], [] => some f
        | _, _ => none
      | _ => none
    | _ => none
  | _ => none
theorem fnOf_val {x : T} {f : FuncId} (h : fnOf x = some f) : x = .val (.func (.func f) #[] #[]) := by
  unfold fnOf at h
  split at h <;> try cases h
  rename_i v0
  split at h <;> try cases h
  rename_i fn as bs
  split at h <;> try cases h
  split at h <;> try cases h
  rename_i ha hb
  have e1 : as = #[] := by rw [← Array.toArray_toList (xs := as), ha]
  have e2 : bs = #[] := by rw [← Array.toArray_toList (xs := bs), hb]
  rw [e1, e2]
theorem fnOf_rs {X : Cx} {x : T} {v : Value} {f : FuncId} (h : fnOf x = some f) (hv : RS X x v) : v = .func (.func f) #[] #[] := by
  rw [fnOf_val h] at hv
  have hv : v = .func (.func f) #[] #[] ∧ (Value.func (.func f) #[] #[]).oneCell' = true := by simpa [RS, RS1, RS0, RV] using hv
  exact hv.1
/-- The function that a value is, and what it has captured. -/
def fnCap (x : T) : Option (FuncId × List T) := match x with
  | .fnp f r => some (f, [.ptr r 0 0])
  | .fnq f r s => some (f, [.ptr r 0 0, .ptr s 0 0])
  | x => match fnOf x with
    | some f => some (f, [])
    | none => none
theorem fnCap_rs {X : Cx} {x : T} {v : Value} {f : FuncId} {l : List T} (h : fnCap x = some (f, l)) (hv : RS X x v) : ∃ vs : List Value, v = .func (.func f) #[] vs.toArray ∧ Args X l vs := by
  have old : ∀ {x : T}, RS X x v → (match fnOf x with | some f => some (f, ([] : List T)) | none => none) = some (f, l) → ∃ vs : List Value, v = .func (.func f) #[] vs.toArray ∧ Args X l vs := by
    intro x hv h
    split at h
    · rename_i f' hf
      injection h with h; injection h with h1 h2; subst h1 h2
      exact ⟨[], fnOf_rs hf hv, rfl⟩
    · cases h
  cases x
  case fnp f' r =>
    injection h with h; injection h with h1 h2; subst h1 h2
    obtain ⟨u, hu, hp⟩ := hv
    exact ⟨[u], hu, u, [], rfl, hp, rfl⟩
  case fnq f' r s =>
    injection h with h; injection h with h1 h2; subst h1 h2
    obtain ⟨u, u', hu, hp, hp'⟩ := hv
    exact ⟨[u, u'], hu, u, [u'], rfl, hp, u', [], rfl, hp', rfl⟩
  all_goals exact old hv h
theorem args_append {X : Cx} : ∀ {ts us : List T} {vs ws : List Value}, Args X ts vs → Args X us ws → Args X (ts ++ us) (vs ++ ws)
  | [], us, _, ws, h, h2 => by have : _ = [] := h; subst this; exact h2
  | t :: ts, us, _, ws, ⟨u, vs, hu, h1, h3⟩, h2 => by subst hu; exact ⟨u, vs ++ ws, rfl, h1, args_append h3 h2⟩
def OpP (P : Program) (tt : TT) (o : Oper) (S : St) (id : Nat) (K : Kon) : Prop := match o.op with
  | .call c => match c.callee with
    | .value f => match fnCap (S.ev f) with
      | some (f, l) => CallP P f (c.args.toList.map S.ev ++ l) S.H id fun _ => K
      | none => False
    | _ => Eff tt (.call c) o.type (c.args.toList.map S.ev) S.H id K
  | op => Eff tt op o.type ((opnds op).map S.ev) S.H id K
/-- The operands, worked out. -/
def forceArgs (l : List T) (K : List T → Prop) : Prop := match l with
  | [] => K []
  | x :: l => forceT x fun x => forceArgs l fun l => K (x :: l)
theorem forceArgs_eq : ∀ {l : List T} {K : List T → Prop}, forceArgs l K → K l
  | [], _, h => h
  | x :: l, K, h => forceArgs_eq (K := fun l => K (x :: l)) (forceT_eq (K := fun x => forceArgs l fun l => K (x :: l)) h)
def OpF (P : Program) (tt : TT) (o : Oper) (S : St) (id : Nat) (K : Kon) : Prop := match o.op with
  | .call c => match c.callee with
    | .value f => match fnCap (S.ev f) with
      | some (f, l) => forceArgs (c.args.toList.map S.ev ++ l) fun xs => CallP P f xs S.H id fun _ => K
      | none => False
    | _ => forceArgs (c.args.toList.map S.ev) fun xs => Eff tt (.call c) o.type xs S.H id K
  | op => forceArgs ((opnds op).map S.ev) fun xs => Eff tt op o.type xs S.H id K
theorem opF {P : Program} {tt : TT} {o : Oper} {S : St} {id : Nat} {K : Kon} (h : OpF P tt o S id K) : OpP P tt o S id K := by
  obtain ⟨dst, op, ty, pos, after, guard⟩ := o
  cases op
  case call c =>
    obtain ⟨callee, args, argTypes⟩ := c
    cases callee
    case value f =>
      simp only [OpP]
      simp only [OpF] at h
      split at h
      · rename_i fid l hf
        exact forceArgs_eq (K := fun xs => CallP P fid xs S.H id fun _ => K) h
      · exact h
    all_goals exact forceArgs_eq (K := fun xs => Eff tt _ ty xs S.H id K) h
  all_goals exact forceArgs_eq (K := fun xs => Eff tt _ ty xs S.H id K) h
def GuardP (S : St) (ops : List Oper) (g : Option (Nat × Bool)) (yes : St → Prop) (no : Prop) : Prop := match g with
  | none => yes S
  | some (j, want) => match ops[j]? with
    | some oj => match oj.dst with
      | some d => match S.get d with
        | .bool b => match want with
          | true => CondB b (S.step [] (some d) (.bool true) yes) no
          | false => CondB b no (S.step [] (some d) (.bool false) yes)
        | .tup _ => no
        | _ => False
      | none => False
    | none => False
def WO (P : Program) (tt : TT) (ops : List Oper) (n0 : Nat) : Nat → List Oper → (St → Prop) → St → Prop
  | i, [], K, S => S.nxK (n0 + 16 * i) K
  | i, o :: r, K, S => GuardP S ops o.guard (fun S1 => forceN (n0 + 16 * i) fun id => OpF P tt o S1 id fun x u => S1.step u o.dst x fun S => WO P tt ops n0 (i + 1) r K S) (S.step [] o.dst (.tup []) fun S => WO P tt ops n0 (i + 1) r K S)
def dstOk (N : Nat) (o : Oper) : Bool := match o.dst with
  | some d => Nat.blt d N
  | none => true

section
variable {P : Program} {tt : TT} (htt : TtOk P tt) {X0 : Cx} {N : Nat}
theorem SR.put {X0 : Cx} {N n : Nat} {X : Cx} {S : St} {a : Act} {d : Option Nat} {x : T} {v : Value} (h : SR X0 N S n X a) (hd : ∀ k, d = some k → k < N) (hv : RS X x v) : SR X0 N (S.put d x) n X (a.put d v) := by
  cases d with
  | none => exact h
  | some k =>
    refine ⟨h.same, h.hr, h.H, h.lt, fun t => ?_, h.df, by simp [Act.put, h.sz]⟩
    have hk := hd k rfl
    by_cases ht : k = t
    · subst ht
      have : (a.put (some k) v).tmps.getD k undef = v := by
        simp only [Act.put, Array.getD_eq_getD_getElem?, Array.getElem?_setIfInBounds, if_true, h.sz, if_pos hk]; rfl
      rw [this]
      have : (S.put (some k) x).get k = x := by simp [St.get, St.put, lk]
      rw [this]; exact hv
    · have : (a.put (some k) v).tmps.getD t undef = a.tmps.getD t undef := by
        simp only [Act.put, Array.getD_eq_getD_getElem?, Array.getElem?_setIfInBounds, if_neg ht]
      rw [this]
      have hb : Nat.beq k t = false := by
        cases hb : Nat.beq k t with
        | false => rfl
        | true => exact absurd (Nat.eq_of_beq_eq_true hb) ht
      have : (S.put (some k) x).get t = S.get t := by simp [St.get, St.put, lk, hb]
      rw [this]; exact h.sl t
theorem SR.out {X0 : Cx} {N n id : Nat} {X X' : Cx} {S : St} {a : Act} {d : Option Nat} {x : T} {v : Value} {u : Upd} (h : SR X0 N S n X a) (hd : ∀ k, d = some k → k < N) (hH : X'.H = updL X.H u) (hn : X'.us = X.win id) (hi : n ≤ id) (hs : Same X X') (hr : HR X') (hv : RS X' x v) :
    SR X0 N ((S.upd u).put d x) (id + 16) X' (a.put d v) := by
  refine SR.put (S := S.upd u) ⟨h.same.trans hs, hr, ?_, fun r hr => ?_, fun t => (h.sl t).mono hs, h.df, h.sz⟩ hd hv
  · rw [hH, h.H]
    show _ = hpH (pushU S.hp u)
    rw [pushU_H]; rfl
  · rw [hn] at hr
    rcases hr with hr | hr
    · have := h.lt r hr; omega
    · omega
theorem SR.out2 {X0 : Cx} {N n id : Nat} {X X' : Cx} {S : St} {a : Act} {d : Option Nat} {x : T} {v : Value} {u : Upd} (h : SR X0 N S n X a) (hd : ∀ k, d = some k → k < N) (hH : X'.H = updL X.H u) (hn : X'.us = X.win id) (hi : id + 16 ≤ n) (hs : Same X X') (hr : HR X') (hv : RS X' x v) :
    SR X0 N ((S.upd u).put d x) n X' (a.put d v) := by
  refine SR.put (S := S.upd u) ⟨h.same.trans hs, hr, ?_, fun r hr => ?_, fun t => (h.sl t).mono hs, h.df, h.sz⟩ hd hv
  · rw [hH, h.H]
    show _ = hpH (pushU S.hp u)
    rw [pushU_H]; rfl
  · rw [hn] at hr
    rcases hr with hr | hr
    · exact h.lt r hr
    · omega
theorem SR.cong {X0 : Cx} {N n : Nat} {X : Cx} {S S' : St} {a : Act} (h : SR X0 N S n X a) (h1 : S'.get = S.get) (h2 : S'.H = S.H) : SR X0 N S' n X a :=
  ⟨h.same, h.hr, h.H.trans h2.symm, h.lt, fun t => by rw [h1]; exact h.sl t, h.df, h.sz⟩
theorem yield_of {X0 : Cx} {N n : Nat} {X : Cx} {S : St} {a : Act} (h : SR X0 N S n X a) {ops : Array Oper} {oj : Oper} {j d : Nat} {b : Bool} (hj : ops.toList[j]? = some oj) (hdst : oj.dst = some d) (hb : S.get d = .bool b) : yielded ops a.tmps j = some b := by
  have hv := rs_bool (by have := h.sl d; rwa [hb] at this)
  have hget : a.tmps[d]? = some (.bool b) := by
    rw [Array.getD_eq_getD_getElem?] at hv
    cases hq : a.tmps[d]? with
    | none => rw [hq] at hv; cases hv
    | some u => rw [hq] at hv; simp at hv; rw [hv]
  have hjj : ops[j]? = some oj := by simpa using hj
  simp [yielded, hjj, hdst, hget]
theorem rs_undef {X : Cx} : RS X (.tup []) undef := ⟨#[], rfl, rfl⟩
theorem yield_no {X0 : Cx} {N n : Nat} {X : Cx} {S : St} {a : Act} (h : SR X0 N S n X a) {ops : Array Oper} {oj : Oper} {j d : Nat} {cs : List T} (hj : ops.toList[j]? = some oj) (hdst : oj.dst = some d) (hb : S.get d = .tup cs) : yielded ops a.tmps j = none := by
  have hjj : ops[j]? = some oj := by simpa using hj
  have hs := h.sl d
  rw [hb] at hs
  obtain ⟨vs, hv, _⟩ := hs
  rw [Array.getD_eq_getD_getElem?] at hv
  simp only [yielded, hjj, hdst, Option.bind_some]
  cases hq : a.tmps[d]? with
  | none => rfl
  | some u => rw [hq] at hv; simp at hv; rw [hv]
theorem SR.fresh {X0 : Cx} {N n id : Nat} {X : Cx} {S : St} {a : Act} (h : SR X0 N S n X a) (hi : n ≤ id) : Fresh X id := fun r h1 _ h3 => by have := h.lt r h3; omega
include htt
theorem op_sound {o : Oper} {S : St} {n id : Nat} {X : Cx} {a : Act} {K : Kon} {Q : Exit → Act → World → Prop} (h : SR X0 N S n X a) (hix : Fresh X id) (hw : OpP P tt o S id K) {next : Act → World → Prop}
    (hnext : ∀ x u v X', K x u → X'.H = updL X.H u → X'.us = X.win id → Same X X' → HR X' → RS X' x v → next (a.put o.dst v) X'.w) : o.wp P a X.w next Q := by
  have fin : Ran P X id K (execOp a.eval o) → o.wp P a X.w next Q := fun hr => by
    obtain ⟨nn, v, w', hrun, hnv, x, u, X', hk, rfl, hn, hH, hs, hr', hv⟩ := hr
    unfold Oper.wp
    rw [hrun]
    rcases hnv with rfl | ⟨rfl, rfl⟩
    · exact hnext x u v X' hk hH hn hs hr' hv
    · exact hnext x u undef X' hk hH hn hs hr' hv
  obtain ⟨dst, op, ty, pos, after, guard⟩ := o
  unfold OpP at hw
  split at hw
  · rename_i c hop
    subst hop
    split at hw
    · rename_i f hc
      split at hw
      · rename_i fid l hfid
        obtain ⟨cap, hev, hcap⟩ := fnCap_rs hfid (ev_rs h f)
        rw [h.H.symm] at hw
        have hcall := call_sound h.hr hix (args_append (evs_rs h c.args.toList) hcap) hw
        obtain ⟨gs, σ, He, ts, r, He', ⟨⟨fn, hf, hname, hbody⟩, _⟩, _⟩ := hw
        have hm : (c.args.map a.eval) = (c.args.toList.map a.eval).toArray := by rw [← Array.toArray_toList (xs := c.args.map a.eval), Array.toList_map]
        have hexec : (execOp a.eval ⟨dst, .call c, ty, pos, after, guard⟩).run P X.w = .ok (.enter fid (c.args.toList.map a.eval ++ cap).toArray) X.w := by
          simp only [execOp, resolve, hc, hev, Deferred.ofValue, Sem.run_bind, Sem.run_pure, Result.andThen_ok, invoke, callFunc, run_program, hf, hname, hbody, hm]
          simp
        unfold Oper.wp
        rw [hexec, Oper.upon_enter]
        refine hcall.mono ?_
        rintro e w' ⟨v, rfl, x, u, X', hk, rfl, hn, hH, hs, hr', hv⟩
        exact hnext x u v X' hk hH hn hs hr' hv
      · exact hw.elim
    · rename_i hc
      refine fin (eff_sound htt h.hr hix (args := c.args.toList.map S.ev) ?_ (by rw [h.H]; exact hw))
      have : opnds (.call c) = c.args.toList := by
        simp only [opnds]
        cases hcc : c.callee with
        | value f => exact absurd hcc (hc f)
        | invoke r m => simp
        | builtin b => simp
      rw [this]; exact evs_rs h _
  · rename_i hop
    refine fin (eff_sound htt h.hr hix (args := (opnds op).map S.ev) (evs_rs h _) ?_)
    rw [h.H]
    have : ∀ c, op ≠ .call c := fun c => hop c
    cases op <;> first | exact hw | exact absurd rfl (this _)
theorem guard_sound {o : Oper} {ops : Array Oper} {S : St} {n : Nat} {X : Cx} {a : Act} {yes : St → Prop} {no : Prop} {R : Prop} (h : SR X0 N S n X a) (hg : GuardP S ops.toList o.guard yes no)
    (hy : ∀ S1, SR X0 N S1 n X a → yes S1 → Region.wanted o (yielded ops a.tmps) = true → R) (hn : no → Region.wanted o (yielded ops a.tmps) = false → R) : R := by
  unfold GuardP at hg
  split at hg
  · rename_i hgd
    exact hy S h hg (by simp [Region.wanted, hgd])
  · rename_i j want hgd
    split at hg <;> try exact hg.elim
    rename_i oj hj
    split at hg <;> try exact hg.elim
    rename_i d hdst
    split at hg <;> try exact hg.elim
    case h_2 =>
      rename_i cs hb
      have := yield_no h (ops := ops) hj hdst hb
      exact hn hg (by simp [Region.wanted, hgd, this])
    rename_i b hb
    have hv := rs_bool (by have := h.sl d; rwa [hb] at this)
    have hget : a.tmps[d]? = some (.bool b) := by
      rw [Array.getD_eq_getD_getElem?] at hv
      cases hq : a.tmps[d]? with
      | none => rw [hq] at hv; cases hv
      | some u => rw [hq] at hv; simp at hv; rw [hv]
    have hjj : ops[j]? = some oj := by simpa using hj
    have hyl : yielded ops a.tmps j = some b := by simp [yielded, hjj, hdst, hget]
    have put : ∀ b', b = b' → SR X0 N (S.put (some d) (.bool b')) n X a := fun b' e => by
      subst e
      refine ⟨h.same, h.hr, h.H, h.lt, fun t => ?_, h.df, h.sz⟩
      by_cases ht : d = t
      · subst ht
        have : (S.put (some d) (.bool b)).get d = .bool b := by simp [St.get, St.put, lk]
        rw [this, hv]; exact mk_bool _ _
      · have hb : Nat.beq d t = false := by
          cases hb : Nat.beq d t with
          | false => rfl
          | true => exact absurd (Nat.eq_of_beq_eq_true hb) ht
        have : (S.put (some d) (.bool b)).get t = S.get t := by simp [St.get, St.put, lk, hb]
        rw [this]; exact h.sl t
    split at hg
    · cases b
      · exact hn (hg.2 rfl) (by simp [Region.wanted, hgd, hyl])
      · exact hy _ (put true rfl) (St.step_eq (hg.1 rfl)) (by simp [Region.wanted, hgd, hyl])
    · cases b
      · exact hy _ (put false rfl) (St.step_eq (hg.2 rfl)) (by simp [Region.wanted, hgd, hyl])
      · exact hn (hg.1 rfl) (by simp [Region.wanted, hgd, hyl])
theorem wo_sound {ops : Array Oper} {n0 : Nat} {K : St → Prop} {Q : Exit → Act → World → Prop} (hQ : ∀ S X a, SR X0 N S S.nx X a → K S → Q .normal a X.w) :
    ∀ {l : List Oper} {i : Nat} {S : St} {n : Nat} {X : Cx} {a : Act}, (l.all (dstOk N)) = true → SR X0 N S n X a → n ≤ n0 + 16 * i → WO P tt ops.toList n0 i l K S → wpList P ops Q l a X.w
  | [], i, S, n, X, a, _, h, hn, hw => by
    have hw := St.nxK_eq hw
    exact hQ { S with nx := n0 + 16 * i } X a ⟨h.same, h.hr, h.H, fun r hr => Nat.lt_of_lt_of_le (h.lt r hr) hn, h.sl, h.df, h.sz⟩ hw
  | o :: l, i, S, n, X, a, hd, h, hn, hw => by
    simp only [List.all_cons, Bool.and_eq_true] at hd
    have hdk : ∀ k, o.dst = some k → k < N := fun k hk => by
      have h2 : Nat.blt k N = true := by have h3 := hd.1; unfold dstOk at h3; rw [hk] at h3; exact h3
      exact Nat.le_of_ble_eq_true h2
    simp only [WO] at hw
    simp only [wpList]
    refine guard_sound htt h hw (fun S1 h1 hw1 hwant => ?_) (fun hw1 hwant => ?_)
    · rw [if_pos hwant]
      left
      have hw1 := forceN_eq hw1
      exact op_sound htt h1 (h1.fresh hn) (opF hw1) (fun x u v X' hk hH hnx hs hr hv => wo_sound hQ hd.2 (h1.out hdk hH hnx hn hs hr hv) (by omega) (St.step_eq hk))
    · rw [if_neg (by simp [hwant])]
      exact wo_sound hQ hd.2 (h.put (x := .tup []) hdk rs_undef) (by omega) (St.step_eq hw1)

end
end Go.Proofs.YtkgfidphcpklhaaDoor
