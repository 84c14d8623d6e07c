/- One state tells as much as another: by the states alone. The code. -/
import Derived.Test.YtgmbkbggnlponaaGreatDoorVc
namespace Go.Proofs.YtgmbkbggnlponaaGreatDoor
set_option linter.unusedVariables false
set_option linter.unusedSimpArgs false
set_option linter.unusedSectionVars false
open Go.RowKit Pl
def SlM (σ : Sub) (H : Hp) (S : St) (n' : Nat) : List (Nat × T) → Prop
 | [] => True
 | (t, x') :: l => M2 σ H (S.get t) x' ∧ z9D n' x' = true ∧ SlM σ H S n' l
def bxOk (n' : Nat) : List (Nat × Option Ent) → Bool
 | [] => true
 | (_, e) :: l => (match e with
   | some (.box cs) => cs.all (z4H n')
   | _ => true) && bxOk n' l
def LeS (base : Nat) (σ : Sub) (S S' : St) : Prop :=
 (sgOk base σ && Nat.ble base S'.nx && σ.all (fun p => Nat.blt p.1 S'.nx) && bxOk S'.nx S'.hp) = true ∧ HpM σ S.H base S'.nx S'.hp ∧ SlM σ S.H S S'.nx S'.sl
def LeP (base : Nat) (S S' : St) : Prop := ∃ σ, LeS base σ S S'
theorem SlM.get {σ : Sub} {H : Hp} {S : St} {n' : Nat} : ∀ {l : List (Nat × T)} {t : Nat} {x' : T}, SlM σ H S n' l → lk l t = some x' → M2 σ H (S.get t) x' ∧ z9D n' x' = true
 | [], t, x', _, h => by cases h
 | (t0, x0) :: l, t, x', ⟨h1, h2, h3⟩, h => by
   simp only [lk] at h
   cases hb : Nat.beq t0 t with
   | true =>
     rw [hb] at h; simp at h; subst h
     have := Nat.eq_of_beq_eq_true hb
     subst this; exact ⟨h1, h2⟩
   | false => rw [hb] at h; simp at h; exact h3.get h
theorem z5Z {n' : Nat} : ∀ {l : List (Nat × Option Ent)}, bxOk n' l = true → (l.all fun p => match p.2 with | some (.box cs) => cs.all (z4H n') | _ => true) = true
 | [], _ => rfl
 | (r, e) :: l, h => by
   simp only [bxOk, Bool.and_eq_true] at h
   simp only [List.all_cons, Bool.and_eq_true]
   exact ⟨h.1, z5Z h.2⟩
theorem z2H {X0 X : Cx} {N base n : Nat} {a : Act} {S S' : St} (hb : ∀ r, X0.us r → r < base) (hp : 0 < base) (h : SR X0 N S n X a) (hl : LeP base S S') : ∃ X', SR X0 N S' S'.nx X' a ∧ X'.w = X.w := by
 obtain ⟨σ, h1, h2, h3⟩ := hl
 simp only [Bool.and_eq_true] at h1
 obtain ⟨⟨⟨a1, a2⟩, a3⟩, a4⟩ := h1
 have a2 := Nat.le_of_ble_eq_true a2
 rw [← h.H] at h2 h3
 have hn : (∀ r, X0.us r → r < base) ∧ base ≤ S'.nx := ⟨hb, a2⟩
 refine ⟨X.ren σ S'.H S'.nx, ⟨z8z h.same h.hr a1 h2 hn a3, zeh h.same h.hr a1 h2 hn a3 hp (z5Z a4), rfl, fun r hr => hr, fun t => ?_, h.df, h.sz⟩, rfl⟩
 unfold St.get
 cases hx : lk S'.sl t with
 | none => trivial
 | some x' =>
   obtain ⟨q1, q2⟩ := h3.get hx
   exact z8y h.same h.hr a1 h2 hn a3 (h.sl t) q1 q2
def prs0 : T → T → Sub
 | .ref r, .ref r' => [(r', r)]
 | .ptr r _ _, .ptr r' _ _ => [(r', r)]
 | .fnp _ r, .fnp _ r' => [(r', r)]
 | .fnq _ r s, .fnq _ r' s' => [(r', r), (s', s)]
 | _, _ => []
def prsL (f : T → T → Sub) : List T → List T → Sub
 | x :: xs, y :: ys => f x y ++ prsL f xs ys
 | _, _ => []
def prs1 : T → T → Sub
 | .agg cs, .agg cs' => prsL prs0 cs cs'
 | x, y => prs0 x y
def prs2 : T → T → Sub
 | .tup cs, .tup cs' => prsL prs1 cs cs'
 | x, y => prs1 x y
def prsS (S : St) : List (Nat × T) → Sub
 | [] => []
 | (t, x') :: l => prs2 (S.get t) x' ++ prsS S l
def hasP (a : Nat) : Sub → Bool
 | [] => false
 | (a', _) :: l => bif Nat.beq a' a then true else hasP a l
def clos (H H' : Hp) : Nat → Sub → Sub → Sub
 | 0, _, acc => acc
 | _, [], acc => acc
 | n + 1, (a, b) :: todo, acc => bif hasP a acc then clos H H' n todo acc else match H' a with
   | some (.box cs') => match H b with
     | some (.box cs) => clos H H' n (prsL prs0 cs cs' ++ todo) ((a, b) :: acc)
     | _ => clos H H' n todo ((a, b) :: acc)
   | _ => clos H H' n todo ((a, b) :: acc)
def zhD : Nat → Sub
 | 0 => []
 | 1 => []
 | n + 1 => (n, n) :: zhD n
def zeA (base : Nat) (S S' : St) : Sub := clos S.H S'.H 100 (zhD base ++ prsS S S'.sl) []
def Gh1 (r q i j : Nat) (S S' : St) : Prop := ∃ k es l ks esq e, S.H r = some (.deep k es ((i, j, q) :: l)) ∧ S.H q = some (.deep ks esq []) ∧ es[i]? = some e ∧ S' = ⟨S.sl, (q, none) :: (r, some (.deep k (es.set i (e.set j (.own ks esq))) l)) :: S.hp, S.nx⟩
inductive Gh : St → St → Prop
 | refl (S : St) : Gh S S
 | step (r q i j : Nat) {S S1 S2 : St} : Gh1 r q i j S S1 → Gh S1 S2 → Gh S S2
def LeG (base : Nat) (S S' : St) : Prop := ∃ S1, Gh S S1 ∧ LeP base S1 S'
theorem LeP.g {base : Nat} {S S' : St} (h : LeP base S S') : LeG base S S' := ⟨S, .refl S, h⟩
theorem zeB {X0 X : Cx} {N n : Nat} {a : Act} {S S' : St} {r q i j : Nat} (h : SR X0 N S n X a) (hg : Gh1 r q i j S S') : ∃ X', SR X0 N S' n X' a ∧ X'.w = X.w := by
 obtain ⟨k, es, l, ks, esq, e, hr, hq, he, rfl⟩ := hg
 rw [← h.H] at hr hq
 have hh := h.hr
 have hr0 := hh.ne hr
 have hq0 := hh.ne hq
 have hrq : r ≠ q := fun hx => by subst hx; rw [hr] at hq; injection hq with hq; injection hq with _ _ hq; cases hq
 obtain ⟨hru, hk, hn⟩ := hh.node _ _ hr
 have hqu := (hh.node _ _ hq).1
 rcases hn with ⟨rfl, _⟩ | ⟨g, C, t, fr, bs, hg, hC, hf, hd, ho, hl, hlent⟩
 ·simp at he
 obtain ⟨hjk, u, hu1, hu2⟩ := hlent (i, j, q) (by simp)
 obtain ⟨bq, o1, o2, o3⟩ := zaW hh hu2 hq
 obtain ⟨b1, b2, b3, rfl, f1, f2, f3⟩ := hl.focus he
 have hle : ((C.toList.drop (i * k)).take k).length = k := by rw [List.length_take, List.length_drop]; omega
 have hel : e.length = k := by rw [← f1.len, hle]
 have hjk : j < k := hjk
 obtain ⟨u0, c1, c2, c3, d1, rfl, d3, d4⟩ := f1.focus (List.getElem?_eq_getElem (show j < e.length by omega))
 have hu0 : u0 = u := by
  have := z17 d1
  have hu1 : C.toList[i * k + j]? = some u := hu1
  rw [hu1] at this; injection this with this; exact this.symm
 subst hu0
 let e1 : Ent := .deep k (es.set i (e.set j (.own ks esq))) l
 let X' : Cx := { H := hpH ((q, none) :: (r, some e1) :: S.hp), ow := fun b => if X.ow b = some q then some 0 else X.ow b, w := X.w, us := X.us, iw := fun b => if X.ow b = some q ∨ X.iw b = q then r else X.iw b }
 have hH : ∀ a, X'.H a = if a = q then none else if a = r then some e1 else X.H a := fun a => by
  show hpH ((q, none) :: (r, some e1) :: S.hp) a = _
  unfold hpH
  simp only [lk]
  by_cases h1 : a = q
  ·subst h1; simp
  ·have e1 : Nat.beq q a = false := by
    cases hb : Nat.beq q a with
    | false => rfl
    | true => exact absurd (Nat.eq_of_beq_eq_true hb).symm h1
   rw [e1, if_neg h1]
   simp only [cond_false]
   by_cases h2 : a = r
   ·subst h2; simp
   ·have e2 : Nat.beq r a = false := by
     cases hb : Nat.beq r a with
     | false => rfl
     | true => exact absurd (Nat.eq_of_beq_eq_true hb).symm h2
    rw [e2, if_neg h2, h.H]; rfl
 have howq : ∀ b, X.ow b = some q → X.iw b = 0 := fun b hb => by
  by_cases hz : X.iw b = 0
  ·exact hz
  ·have := (hh.inn b hz).1
   rw [hb] at this; injection this with this; exact absurd this hq0
 have hs : Same X X' := by
  refine ⟨fun _ h => h, rfl, rfl, rfl, Nat.le_refl _, fun b _ hb => ⟨?_, rfl⟩, fun a ha e' he' => ?_, fun b hb hb0 => ⟨⟨?_, ?_⟩, rfl⟩, fun a ha hne b hb => ⟨?_, fun C' t' fr' hC' => ⟨C', hC', rfl⟩⟩⟩
  ·show (if X.ow b = some q then some 0 else X.ow b) = none
   rw [hb]; simp
  ·rw [hH] at he'
   split at he'
   ·cases he'
   ·split at he'
    ·rename_i h2; subst h2; injection he' with he'; subst he'
     exact ⟨_, hr, by simp [Ent.shape, e1]⟩
    ·exact ⟨e', he', rfl⟩
  ·show (if X.ow b = some q then some 0 else X.ow b) = some 0
   rw [hb]; simp
  ·show (if X.ow b = some q ∨ X.iw b = q then r else X.iw b) = 0
   rw [if_neg, hb0]
   rintro (h1 | h1)
   ·rw [hb] at h1; injection h1 with h1; exact hq0 h1.symm
   ·rw [hb0] at h1; exact hq0 h1.symm
  ·rw [hH] at hne
   have haq : a ≠ q := fun h => hne (if_pos h)
   show (if X.ow b = some q then some 0 else X.ow b) = some a
   rw [if_neg (fun h1 => haq (by rw [hb] at h1; injection h1)), hb]
 have hhr : HR X' := by
  refine ⟨fun a b x hx h1 h2 => ?_, fun b a hb => ?_, fun a e' he' => ?_, ?_, hh.pos, hh.gl.mono hs.stab, fun b hb => ?_⟩
  ·rw [hH] at hx
   have key : ∀ c, X'.ow c = some x → X.ow c = some x := fun c hc => by
    change (if X.ow c = some q then some 0 else X.ow c) = some x at hc
    split at hc
    ·injection hc with hc; subst hc
     rw [if_neg (Ne.symm hq0), if_neg (Ne.symm hr0)] at hx
     exact absurd hh.zero hx
    ·exact hc
   refine hh.inj _ _ _ (fun hn => hx ?_) (key _ h1) (key _ h2)
   split
   ·rfl
   ·split
    ·rename_i h3; subst h3; rw [hr] at hn; cases hn
    ·exact hn
  ·change (if X.ow b = some q then some 0 else X.ow b) = some a at hb
   split at hb
   ·rename_i h1; injection hb with hb; subst hb; exact ⟨(hh.lt b q h1).1, hh.pos⟩
   ·exact hh.lt b a hb
  ·rw [hH] at he'
   split at he'
   ·cases he'
   ·rename_i haq
    split at he'
    ·rename_i har; subst har
     injection he' with he'; subst he'
     have hsub : (b1 ++ ((c1 ++ ([] ++ c3)) ++ b3)).Sublist (b1 ++ ((c1 ++ (c2 ++ c3)) ++ b3)) := List.Sublist.append_left (List.Sublist.append_right (List.Sublist.append_left (List.Sublist.append_right (List.nil_sublist _) c3) c1) b3) b1
     have hno : ∀ b ∈ bq, X.iw b ≠ a := fun b hb hx => by
      rcases o3 b hb with o | o
      ·rw [howq b o] at hx; exact hr0 hx.symm
      ·rw [o] at hx; exact haq hx.symm
     have hmem : ∀ b, b ∈ b1 ++ ((c1 ++ (bq ++ c3)) ++ b3) → b ∈ bq ∨ b ∈ b1 ++ ((c1 ++ ([] ++ c3)) ++ b3) := fun b hb => by
      simp only [List.mem_append, List.nil_append] at hb ⊢
      rcases hb with h | (h | h | h) | h
      ·exact Or.inr (Or.inl h)
      ·exact Or.inr (Or.inr (Or.inl (Or.inl h)))
      ·exact Or.inl h
      ·exact Or.inr (Or.inr (Or.inl (Or.inr h)))
      ·exact Or.inr (Or.inr (Or.inr h))
     have hold : ∀ b, b ∈ b1 ++ ((c1 ++ ([] ++ c3)) ++ b3) → X.iw b = a := fun b hb => ho b (hsub.subset hb)
     refine ⟨hru, hk, .inr ⟨g, C, t, fr, b1 ++ ((c1 ++ (bq ++ c3)) ++ b3), ?_, hC, hf, ?_, fun b hb => ?_, ?_, fun p hp => ?_⟩⟩
     ·show (if X.ow g = some q then some 0 else X.ow g) = some a
      rw [if_neg (fun h1 => haq (by rw [hg] at h1; injection h1)), hg]
     ·have hd1 := hd.sublist hsub
      have hd0 := hd1
      simp only [List.nil_append] at hd0 hold
      simp only [List.nodup_append, List.mem_append] at hd0 hold ⊢
      obtain ⟨x1, ⟨⟨y1, y2, y3⟩, x3, x4⟩, x5⟩ := hd0
      refine ⟨x1, ⟨⟨y1, ⟨o2, y2, fun p hp p' hp' hpp => ?_⟩, fun p hp p' hp' hpp => ?_⟩, x3, fun p hp p' hp' hpp => ?_⟩, fun p hp p' hp' hpp => ?_⟩
      ·subst hpp; exact hno p hp (hold p (Or.inr (Or.inl (Or.inr hp'))))
      ·subst hpp
       rcases hp' with hp' | hp'
       ·exact hno p hp' (hold p (Or.inr (Or.inl (Or.inl hp))))
       ·exact y3 p hp p hp' rfl
      ·subst hpp
       rcases hp with hp | hp | hp
       ·exact x4 p (Or.inl hp) p hp' rfl
       ·exact hno p hp (hold p (Or.inr (Or.inr hp')))
       ·exact x4 p (Or.inr hp) p hp' rfl
      ·subst hpp
       rcases hp' with (hp' | hp' | hp') | hp'
       ·exact x5 p hp p (Or.inl (Or.inl hp')) rfl
       ·exact hno p hp' (hold p (Or.inl hp))
       ·exact x5 p hp p (Or.inl (Or.inr hp')) rfl
       ·exact x5 p hp p (Or.inr hp') rfl
     ·show (if X.ow b = some q ∨ X.iw b = q then a else X.iw b) = a
      rcases hmem b hb with h1 | h1
      ·rw [if_pos (o3 b h1)]
      ·have := hold b h1
       split
       ·rfl
       ·exact this
     ·have q1 := d4 (.own ks esq) u0 bq o1
      have q2 := f3 _ _ _ (by rw [List.length_set, hle]) q1
      rw [z4A d1] at q2
      have e3 : C.toList.take (i * k) ++ (C.toList.drop (i * k)).take k ++ C.toList.drop (i * k + k) = C.toList := by
       rw [← List.take_add, List.take_append_drop]
      rw [e3] at q2
      exact q2
     ·obtain ⟨z, u', z1, z2⟩ := hlent p (by simp [hp]); exact ⟨z, u', z1, z2.mono hs⟩
    ·rename_i har
     obtain ⟨p1, p2⟩ := hh.node a e' he'
     refine ⟨p1, p2.mono hs p1 (by rw [hH, if_neg haq, if_neg har, he']; simp) (fun b _ => rfl) (fun b hb => ⟨?_, rfl⟩)⟩
     show (if X.ow b = some q ∨ X.iw b = q then r else X.iw b) = a
     rw [if_neg, hb]
     rintro (h1 | h1)
     ·rw [howq b h1] at hb; exact hh.ne he' hb.symm
     ·rw [hb] at h1; exact haq h1
  ·rw [hH, if_neg (Ne.symm hq0), if_neg (Ne.symm hr0)]; exact hh.zero
  ·change (if X.ow b = some q ∨ X.iw b = q then r else X.iw b) ≠ 0 at hb
   show (if X.ow b = some q then some 0 else X.ow b) = some 0 ∧ _ ∧ X.us (if X.ow b = some q ∨ X.iw b = q then r else X.iw b)
   split at hb
   ·rename_i h1
    rw [if_pos h1]
    rcases h1 with h1 | h1
    ·exact ⟨by rw [if_pos h1], (hh.lt b q h1).1, hru⟩
    ·obtain ⟨x1, x2, _⟩ := hh.inn b (by rw [h1]; exact hq0)
     exact ⟨by rw [x1]; simp, x2, hru⟩
   ·rename_i h1
    rw [if_neg h1]
    obtain ⟨x1, x2, x3⟩ := hh.inn b hb
    exact ⟨by rw [x1]; simp, x2, x3⟩
 exact ⟨X', ⟨h.same.trans hs, hhr, rfl, h.lt, fun t => (h.sl t).mono hs, h.df, h.sz⟩, rfl⟩
theorem zcj {X0 : Cx} {N n : Nat} {a : Act} {S S' : St} (hg : Gh S S') : ∀ {X : Cx}, SR X0 N S n X a → ∃ X', SR X0 N S' n X' a ∧ X'.w = X.w := by
 induction hg with
 | refl S => exact fun h => ⟨_, h, rfl⟩
 | step r q i j h1 _ ih =>
   intro X h
   obtain ⟨X1, h2, e2⟩ := zeB h h1
   obtain ⟨X2, h3, e3⟩ := ih h2
   exact ⟨X2, h3, e3.trans e2⟩
theorem z9K {X0 X : Cx} {N base n : Nat} {a : Act} {S S' : St} (hb : ∀ r, X0.us r → r < base) (hp : 0 < base) (h : SR X0 N S n X a) (hl : LeG base S S') : ∃ X', SR X0 N S' S'.nx X' a ∧ X'.w = X.w := by
 obtain ⟨S1, h1, h2⟩ := hl
 obtain ⟨X1, h3, e3⟩ := zcj h1 h
 obtain ⟨X2, h4, e4⟩ := z2H hb hp h3 h2
 exact ⟨X2, h4, e4.trans e3⟩
inductive Ex where
 | normal | exit (id : Nat) | ret
abbrev Pst := Ex → St → Prop
def z0y (base : Nat) (Wc : Pst → St → Prop) (Q : Pst) (S : St) : Prop :=
 (∃ (σ : Type) (st : σ → St) (inv : σ → Prop) (μ : σ → Nat), (∃ x, inv x ∧ LeP base S (st x)) ∧
   ∀ x, inv x → Wc (fun e S' => match e with
     | .normal => ∃ x', inv x' ∧ μ x' < μ x ∧ LeP base S' (st x')
     | .exit i => Q (.exit i) S'
     | .ret => Q .ret S') (st x)) ∨
 (∃ (σ : Type) (st : σ → St) (inv : σ → Prop) (μ : σ → Nat) (i0 : Nat) (sE : St), (∃ x, inv x ∧ LeP base S (st x)) ∧
   (∀ x, inv x → Wc (fun e S' => match e with
     | .normal => ∃ x', inv x' ∧ μ x' < μ x ∧ LeP base S' (st x')
     | .exit i => i = i0 ∧ LeP base S' sE
     | .ret => False) (st x)) ∧ Q (.exit i0) sE) ∨
 (∃ (σ : Type) (st : σ → St) (inv : σ → Prop) (μ : σ → Nat), (∃ x, inv x ∧ LeP base S (st x)) ∧
   ∀ x, inv x → Wc (fun e S' => match e with
     | .normal => ∃ x', inv x' ∧ μ x' < μ x ∧ LeG base S' (st x')
     | .exit i => Q (.exit i) S'
     | .ret => Q .ret S') (st x)) ∨
 ∃ (σ : Type) (st : σ → St) (inv : σ → Prop) (μ : σ → Nat) (i0 : Nat) (sE : St), (∃ x, inv x ∧ LeP base S (st x)) ∧
   (∀ x, inv x → Wc (fun e S' => match e with
     | .normal => ∃ x', inv x' ∧ μ x' < μ x ∧ LeG base S' (st x')
     | .exit i => i = i0 ∧ LeP base S' sE
     | .ret => False) (st x)) ∧ Q (.exit i0) sE
def W (P : Program) (tt : TT) (base : Nat) : Code → Pst → St → Prop
 | .skip => fun Q S => Q .normal S
 | .region _ ops draw => fun Q S => match S with
   | ⟨sl, hp, nx⟩ => bif draw then WD P tt ops.toList nx (Q .normal) ⟨sl, hp, nx⟩ else WO P tt ops.toList nx 0 ops.toList (Q .normal) ⟨sl, hp, nx⟩
 | .seq x y => fun Q S => W P tt base x (fun e S' => match e with
   | .normal => W P tt base y Q S'
   | .exit i => Q (.exit i) S'
   | .ret => Q .ret S') S
 | .cond c x y => fun Q S => match S.ev c with
   | .bool b => z0t b (W P tt base x Q S) (W P tt base y Q S)
   | _ => False
 | .block id c => fun Q S => W P tt base c (fun e S' => match e with
   | .normal => Q .normal S'
   | .exit i => bif Nat.beq i id then Q .normal S' else Q (.exit i) S'
   | .ret => Q .ret S') S
 | .loop c => fun Q S => z0y base (W P tt base c) Q S
 | .exit i => fun Q S => Q (.exit i) S
 | .ret => fun Q S => Q .ret S
 | _ => fun _ _ => False
def z3I (N : Nat) : Code → Bool
 | .region _ ops _ => ops.toList.all (zd8 N)
 | .seq x y => z3I N x && z3I N y
 | .cond _ x y => z3I N x && z3I N y
 | .block _ c => z3I N c
 | .loop c => z3I N c
 | _ => true
def zeC (X0 : Cx) (N : Nat) (Q : Pst) : Exit → Act → World → Prop
 | .normal, a, w => ∃ S X, SR X0 N S S.nx X a ∧ X.w = w ∧ Q .normal S
 | .exit i, a, w => ∃ S X, SR X0 N S S.nx X a ∧ X.w = w ∧ Q (.exit i) S
 | .ret, a, w => ∃ S X, SR X0 N S S.nx X a ∧ X.w = w ∧ Q .ret S
 | _, _, _ => False
section
variable {P : Program} {tt : TT} (htt : TtOk P tt) {X0 : Cx} {N base : Nat} (hb : ∀ r, X0.us r → r < base) (hp : 0 < base)
include htt hb hp
theorem z2R : ∀ {c : Code} {Q : Pst} {S : St} {X : Cx} {a : Act}, z3I N c = true → SR X0 N S S.nx X a → W P tt base c Q S → c.wp P (zeC X0 N Q) a X.w
 | .skip, Q, S, X, a, _, h, hw => wp_skip ⟨S, X, h, rfl, hw⟩
 | .exit i, Q, S, X, a, _, h, hw => wp_exit ⟨S, X, h, rfl, hw⟩
 | .ret, Q, S, X, a, _, h, hw => wp_ret ⟨S, X, h, rfl, hw⟩
 | .region id ops draw, Q, S, X, a, hc, h, hw => by
   cases draw with
   | true => exact zg6 htt (fun S X a h hk => ⟨S, X, h, rfl, hk⟩) hc h hw
   | false => exact wp_region_list (z8B htt (fun S X a h hk => ⟨S, X, h, rfl, hk⟩) hc h (by simp) hw)
 | .seq x y, Q, S, X, a, hc, h, hw => by
   simp only [z3I, Bool.and_eq_true] at hc
   refine wp_seq (wp_mono (z2R hc.1 h hw) fun e a' w' hq => ?_)
   cases e with
   | normal => obtain ⟨S', X', h', rfl, hw'⟩ := hq; exact z2R hc.2 h' hw'
   | exit i => exact hq
   | ret => exact hq
   | goto l => exact hq.elim
   | panic l => exact hq.elim
   | outgrown => exact hq.elim
 | .cond c x y, Q, S, X, a, hc, h, hw => by
   simp only [z3I, Bool.and_eq_true] at hc
   have he := zhr h c
   unfold W at hw
   split at hw
   ·rename_i b hb'
    rw [hb'] at he
    exact wp_cond_split (z3C he) (fun ht => z2R hc.1 h (hw.1 ht)) (fun hf => z2R hc.2 h (hw.2 hf))
   ·exact hw.elim
 | .block id c, Q, S, X, a, hc, h, hw => by
   refine wp_block (wp_mono (z2R (c := c) hc h hw) fun e a' w' hq => ?_)
   cases e with
   | normal => exact hq
   | exit i =>
     obtain ⟨S', X', h', rfl, hw'⟩ := hq
     simp only [Exit.inBlock]
     by_cases hi : i = id
     ·subst hi
      simp at hw'
      rw [if_pos rfl]; exact ⟨S', X', h', rfl, hw'⟩
     ·rw [if_neg hi]
      have : Nat.beq i id = false := by
       cases hb : Nat.beq i id with
       | false => rfl
       | true => exact absurd (Nat.eq_of_beq_eq_true hb) hi
      simp [this] at hw'
      exact ⟨S', X', h', rfl, hw'⟩
   | ret => exact hq
   | goto l => exact hq.elim
   | panic l => exact hq.elim
   | outgrown => exact hq.elim
 | .loop c, Q, S, X, a, hc, h, hw => by
   rcases hw with hw | hw | hw | hw
   ·obtain ⟨σ, st, inv, μ, ⟨x0, hi0, hl0⟩, hr⟩ := hw
    obtain ⟨X1, h1, hw1⟩ := z2H hb hp h hl0
    rw [← hw1]
    intro b k cs
    have key : ∀ (n : Nat) (x : σ), μ x = n → inv x → ∀ X a, SR X0 N (st x) (st x).nx X a →
     ∃ e a' w', zeC X0 N Q e a' w' ∧ Arrives P (lone (b.at a (.code c :: .inLoop c :: k)) cs X.w) b k cs e a' w' := by
     intro n
     induction n using Nat.strongRecOn with
     | _ n ih =>
       intro x hx hi X a h
       obtain ⟨e, a₁, w₁, hq, harr⟩ := z2R (c := c) hc h (hr x hi) b (.inLoop c :: k) cs
       cases e with
       | normal =>
         obtain ⟨S', X', h', rfl, x', hi', hμ, hl'⟩ := hq
         obtain ⟨X2, h2, hw2⟩ := z2H hb hp h' hl'
         obtain ⟨e₂, a₂, w₂, hq₂, harr₂⟩ := ih (μ x') (hx ▸ hμ) x' rfl hi' X2 a₁ h2
         rw [hw2] at harr₂
         exact ⟨e₂, a₂, w₂, hq₂, .of_steps (Steps.trans harr (.one step_inLoop)) harr₂⟩
       | exit id => exact ⟨.exit id, a₁, w₁, hq, .pass (x := .inLoop c) rfl (fun _ _ => .inl (by simp)) harr⟩
       | ret => exact ⟨.ret, a₁, w₁, hq, .pass (x := .inLoop c) rfl (fun _ _ => .inl (by simp)) harr⟩
       | goto l => exact hq.elim
       | panic l => exact hq.elim
       | outgrown => exact hq.elim
    obtain ⟨e, a', w', hq, harr⟩ := key _ x0 rfl hi0 X1 a h1
    exact ⟨e, a', w', hq, .of_steps (.one step_loop) harr⟩
   ·obtain ⟨σ, st, inv, μ, i0, sE, ⟨x0, hi0, hl0⟩, hr, hQE⟩ := hw
    obtain ⟨X1, h1, hw1⟩ := z2H hb hp h hl0
    rw [← hw1]
    intro b k cs
    have key : ∀ (n : Nat) (x : σ), μ x = n → inv x → ∀ X a, SR X0 N (st x) (st x).nx X a →
     ∃ e a' w', zeC X0 N Q e a' w' ∧ Arrives P (lone (b.at a (.code c :: .inLoop c :: k)) cs X.w) b k cs e a' w' := by
     intro n
     induction n using Nat.strongRecOn with
     | _ n ih =>
       intro x hx hi X a h
       obtain ⟨e, a₁, w₁, hq, harr⟩ := z2R (c := c) hc h (hr x hi) b (.inLoop c :: k) cs
       cases e with
       | normal =>
         obtain ⟨S', X', h', rfl, x', hi', hμ, hl'⟩ := hq
         obtain ⟨X2, h2, hw2⟩ := z2H hb hp h' hl'
         obtain ⟨e₂, a₂, w₂, hq₂, harr₂⟩ := ih (μ x') (hx ▸ hμ) x' rfl hi' X2 a₁ h2
         rw [hw2] at harr₂
         exact ⟨e₂, a₂, w₂, hq₂, .of_steps (Steps.trans harr (.one step_inLoop)) harr₂⟩
       | exit id =>
         obtain ⟨S', X', h', rfl, rfl, hl'⟩ := hq
         obtain ⟨X2, h2, hw2⟩ := z2H hb hp h' hl'
         exact ⟨.exit id, a₁, X'.w, ⟨sE, X2, h2, hw2, hQE⟩, .pass (x := .inLoop c) rfl (fun _ _ => .inl (by simp)) harr⟩
       | ret => obtain ⟨S', X', h', rfl, hf⟩ := hq; exact hf.elim
       | goto l => exact hq.elim
       | panic l => exact hq.elim
       | outgrown => exact hq.elim
    obtain ⟨e, a', w', hq, harr⟩ := key _ x0 rfl hi0 X1 a h1
    exact ⟨e, a', w', hq, .of_steps (.one step_loop) harr⟩
   ·obtain ⟨σ, st, inv, μ, ⟨x0, hi0, hl0⟩, hr⟩ := hw
    obtain ⟨X1, h1, hw1⟩ := z2H hb hp h hl0
    rw [← hw1]
    intro b k cs
    have key : ∀ (n : Nat) (x : σ), μ x = n → inv x → ∀ X a, SR X0 N (st x) (st x).nx X a →
     ∃ e a' w', zeC X0 N Q e a' w' ∧ Arrives P (lone (b.at a (.code c :: .inLoop c :: k)) cs X.w) b k cs e a' w' := by
     intro n
     induction n using Nat.strongRecOn with
     | _ n ih =>
       intro x hx hi X a h
       obtain ⟨e, a₁, w₁, hq, harr⟩ := z2R (c := c) hc h (hr x hi) b (.inLoop c :: k) cs
       cases e with
       | normal =>
         obtain ⟨S', X', h', rfl, x', hi', hμ, hl'⟩ := hq
         obtain ⟨X2, h2, hw2⟩ := z9K hb hp h' hl'
         obtain ⟨e₂, a₂, w₂, hq₂, harr₂⟩ := ih (μ x') (hx ▸ hμ) x' rfl hi' X2 a₁ h2
         rw [hw2] at harr₂
         exact ⟨e₂, a₂, w₂, hq₂, .of_steps (Steps.trans harr (.one step_inLoop)) harr₂⟩
       | exit id => exact ⟨.exit id, a₁, w₁, hq, .pass (x := .inLoop c) rfl (fun _ _ => .inl (by simp)) harr⟩
       | ret => exact ⟨.ret, a₁, w₁, hq, .pass (x := .inLoop c) rfl (fun _ _ => .inl (by simp)) harr⟩
       | goto l => exact hq.elim
       | panic l => exact hq.elim
       | outgrown => exact hq.elim
    obtain ⟨e, a', w', hq, harr⟩ := key _ x0 rfl hi0 X1 a h1
    exact ⟨e, a', w', hq, .of_steps (.one step_loop) harr⟩
   ·obtain ⟨σ, st, inv, μ, i0, sE, ⟨x0, hi0, hl0⟩, hr, hQE⟩ := hw
    obtain ⟨X1, h1, hw1⟩ := z2H hb hp h hl0
    rw [← hw1]
    intro b k cs
    have key : ∀ (n : Nat) (x : σ), μ x = n → inv x → ∀ X a, SR X0 N (st x) (st x).nx X a →
     ∃ e a' w', zeC X0 N Q e a' w' ∧ Arrives P (lone (b.at a (.code c :: .inLoop c :: k)) cs X.w) b k cs e a' w' := by
     intro n
     induction n using Nat.strongRecOn with
     | _ n ih =>
       intro x hx hi X a h
       obtain ⟨e, a₁, w₁, hq, harr⟩ := z2R (c := c) hc h (hr x hi) b (.inLoop c :: k) cs
       cases e with
       | normal =>
         obtain ⟨S', X', h', rfl, x', hi', hμ, hl'⟩ := hq
         obtain ⟨X2, h2, hw2⟩ := z9K hb hp h' hl'
         obtain ⟨e₂, a₂, w₂, hq₂, harr₂⟩ := ih (μ x') (hx ▸ hμ) x' rfl hi' X2 a₁ h2
         rw [hw2] at harr₂
         exact ⟨e₂, a₂, w₂, hq₂, .of_steps (Steps.trans harr (.one step_inLoop)) harr₂⟩
       | exit id =>
         obtain ⟨S', X', h', rfl, rfl, hl'⟩ := hq
         obtain ⟨X2, h2, hw2⟩ := z2H hb hp h' hl'
         exact ⟨.exit id, a₁, X'.w, ⟨sE, X2, h2, hw2, hQE⟩, .pass (x := .inLoop c) rfl (fun _ _ => .inl (by simp)) harr⟩
       | ret => obtain ⟨S', X', h', rfl, hf⟩ := hq; exact hf.elim
       | goto l => exact hq.elim
       | panic l => exact hq.elim
       | outgrown => exact hq.elim
    obtain ⟨e, a', w', hq, harr⟩ := key _ x0 rfl hi0 X1 a h1
    exact ⟨e, a', w', hq, .of_steps (.one step_loop) harr⟩
 | .rangeFunc _ _ _ _, Q, S, X, a, _, h, hw => hw.elim
 | .scope _, Q, S, X, a, _, h, hw => hw.elim
 | .label _, Q, S, X, a, _, h, hw => hw.elim
 | .goto _, Q, S, X, a, _, h, hw => hw.elim
 | .refuse _, Q, S, X, a, _, h, hw => hw.elim
end
def zeD (tt : TT) (S : St) (a : Nat) (t : TypeId) (K : T → Prop) : Prop := match tt t with
 | some y => match S.get a with
   | .ptr r i j => match S.H r with
     | some (.box cs) => i = 0 ∧ z7q y cs j fun c => K c
     | _ => False
   | _ => False
 | none => False
def zh2 (x : T) (K : T → Prop) : Prop := z24 x fun x => match x with
 | .tup _ => False
 | x => K x
def resT (tt : TT) (S : St) : List ResultVar → List T → (T → Prop) → Prop
 | [], acc, K => match acc with
   | [x] => K x
   | _ => K (.tup acc)
 | .tmp t :: l, acc, K => zh2 (S.get t) fun x => resT tt S l (acc ++ [x]) K
 | .cell a t :: l, acc, K => zeD tt S a t fun x => resT tt S l (acc ++ [x]) K
def numE : Nat → List Ent → List (Nat × Option Ent)
 | _, [] => []
 | i, e :: l => (i, live e) :: numE (i + 1) l
def numT : Nat → List T → List (Nat × T)
 | _, [] => []
 | i, e :: l => (i, e) :: numT (i + 1) l
def St.start (He : List Ent) (ts : List T) (base : Nat) : St := ⟨numT 0 ts, numE 1 He, base⟩
def AnsP (base : Nat) (S : St) (x r : T) (He' : List Ent) : Prop :=
 ∃ σ, (sgOk base σ && Nat.ble base (He'.length + 1) && σ.all (fun p => Nat.blt p.1 (He'.length + 1)) && bxOk (He'.length + 1) (numE 1 He')) = true ∧
   HpM σ S.H base (He'.length + 1) (numE 1 He') ∧ M2 σ S.H x r ∧ z9D (He'.length + 1) r = true
end Go.Proofs.YtgmbkbggnlponaaGreatDoor
