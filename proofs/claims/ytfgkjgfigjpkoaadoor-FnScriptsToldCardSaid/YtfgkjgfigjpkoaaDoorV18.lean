/- One state tells as much as another: by the states alone. The code. -/
import Derived.Test.YtfgkjgfigjpkoaaDoorVc
namespace Go.Proofs.YtfgkjgfigjpkoaaDoor
set_option linter.unusedVariables false
set_option linter.unusedSimpArgs false
set_option linter.unusedSectionVars false
open Go.RowKit Pl
def SlM (σ : Sub) (H : Hp) (S : St) (n' : Nat) : List (Nat × T) → Prop
 | [] => True
 | (t, x') :: l => M2 σ H (S.get t) x' ∧ z56 n' x' = true ∧ SlM σ H S n' l
def bxOk (n' : Nat) : List (Nat × Option Ent) → Bool
 | [] => true
 | (_, e) :: l => (match e with
   | some (.box cs) => cs.all (z2k n')
   | _ => true) && bxOk n' l
def LeS (base : Nat) (σ : Sub) (S S' : St) : Prop :=
 (sgOk base σ && Nat.ble base S'.nx && σ.all (fun p => Nat.blt p.1 S'.nx) && bxOk S'.nx S'.hp) = true ∧ HpM σ S.H base S'.nx S'.hp ∧ SlM σ S.H S S'.nx S'.sl
def LeP (base : Nat) (S S' : St) : Prop := ∃ σ, LeS base σ S S'
theorem SlM.get {σ : Sub} {H : Hp} {S : St} {n' : Nat} : ∀ {l : List (Nat × T)} {t : Nat} {x' : T}, SlM σ H S n' l → lk l t = some x' → M2 σ H (S.get t) x' ∧ z56 n' x' = true
 | [], t, x', _, h => by cases h
 | (t0, x0) :: l, t, x', ⟨h1, h2, h3⟩, h => by
   simp only [lk] at h
   cases hb : Nat.beq t0 t with
   | true =>
     rw [hb] at h; simp at h; subst h
     have := Nat.eq_of_beq_eq_true hb
     subst this; exact ⟨h1, h2⟩
   | false => rw [hb] at h; simp at h; exact h3.get h
theorem z4x {n' : Nat} : ∀ {l : List (Nat × Option Ent)}, bxOk n' l = true → (l.all fun p => match p.2 with | some (.box cs) => cs.all (z2k n') | _ => true) = true
 | [], _ => rfl
 | (r, e) :: l, h => by
   simp only [bxOk, Bool.and_eq_true] at h
   simp only [List.all_cons, Bool.and_eq_true]
   exact ⟨h.1, z4x h.2⟩
theorem z2n {X0 X : Cx} {N base n : Nat} {a : Act} {S S' : St} (hb : ∀ r, X0.us r → r < base) (hp : 0 < base) (h : SR X0 N S n X a) (hl : LeP base S S') : ∃ X', SR X0 N S' S'.nx X' a ∧ X'.w = X.w := by
 obtain ⟨σ, h1, h2, h3⟩ := hl
 simp only [Bool.and_eq_true] at h1
 obtain ⟨⟨⟨a1, a2⟩, a3⟩, a4⟩ := h1
 have a2 := Nat.le_of_ble_eq_true a2
 rw [← h.H] at h2 h3
 have hn : (∀ r, X0.us r → r < base) ∧ base ≤ S'.nx := ⟨hb, a2⟩
 refine ⟨X.ren σ S'.H S'.nx, ⟨z6r h.same h.hr a1 h2 hn a3, zaq h.same h.hr a1 h2 hn a3 hp (z4x a4), rfl, fun r hr => hr, fun t => ?_, h.df, h.sz⟩, rfl⟩
 unfold St.get
 cases hx : lk S'.sl t with
 | none => trivial
 | some x' =>
   obtain ⟨q1, q2⟩ := h3.get hx
   exact z6q h.same h.hr a1 h2 hn a3 (h.sl t) q1 q2
def prs0 : T → T → Sub
 | .ref r, .ref r' => [(r', r)]
 | .ptr r _ _, .ptr r' _ _ => [(r', r)]
 | .fnp _ r, .fnp _ r' => [(r', r)]
 | .fnq _ r s, .fnq _ r' s' => [(r', r), (s', s)]
 | _, _ => []
def prsL (f : T → T → Sub) : List T → List T → Sub
 | x :: xs, y :: ys => f x y ++ prsL f xs ys
 | _, _ => []
def prs1 : T → T → Sub
 | .agg cs, .agg cs' => prsL prs0 cs cs'
 | x, y => prs0 x y
def prs2 : T → T → Sub
 | .tup cs, .tup cs' => prsL prs1 cs cs'
 | x, y => prs1 x y
def prsS (S : St) : List (Nat × T) → Sub
 | [] => []
 | (t, x') :: l => prs2 (S.get t) x' ++ prsS S l
def hasP (a : Nat) : Sub → Bool
 | [] => false
 | (a', _) :: l => bif Nat.beq a' a then true else hasP a l
def clos (H H' : Hp) : Nat → Sub → Sub → Sub
 | 0, _, acc => acc
 | _, [], acc => acc
 | n + 1, (a, b) :: todo, acc => bif hasP a acc then clos H H' n todo acc else match H' a with
   | some (.box cs') => match H b with
     | some (.box cs) => clos H H' n (prsL prs0 cs cs' ++ todo) ((a, b) :: acc)
     | _ => clos H H' n todo ((a, b) :: acc)
   | _ => clos H H' n todo ((a, b) :: acc)
def zb9 : Nat → Sub
 | 0 => []
 | 1 => []
 | n + 1 => (n, n) :: zb9 n
def z8l (base : Nat) (S S' : St) : Sub := clos S.H S'.H 100 (zb9 base ++ prsS S S'.sl) []
inductive Ex where
 | normal | exit (id : Nat) | ret
abbrev Pst := Ex → St → Prop
def z0C (base : Nat) (Wc : Pst → St → Prop) (Q : Pst) (S : St) : Prop :=
 (∃ (σ : Type) (st : σ → St) (inv : σ → Prop) (μ : σ → Nat), (∃ x, inv x ∧ LeP base S (st x)) ∧
   ∀ x, inv x → Wc (fun e S' => match e with
     | .normal => ∃ x', inv x' ∧ μ x' < μ x ∧ LeP base S' (st x')
     | .exit i => Q (.exit i) S'
     | .ret => Q .ret S') (st x)) ∨
 ∃ (σ : Type) (st : σ → St) (inv : σ → Prop) (μ : σ → Nat) (i0 : Nat) (sE : St), (∃ x, inv x ∧ LeP base S (st x)) ∧
   (∀ x, inv x → Wc (fun e S' => match e with
     | .normal => ∃ x', inv x' ∧ μ x' < μ x ∧ LeP base S' (st x')
     | .exit i => i = i0 ∧ LeP base S' sE
     | .ret => False) (st x)) ∧ Q (.exit i0) sE
def W (P : Program) (tt : TT) (base : Nat) : Code → Pst → St → Prop
 | .skip => fun Q S => Q .normal S
 | .region _ ops draw => fun Q S => match S with
   | ⟨sl, hp, nx⟩ => bif draw then WD P tt ops.toList nx (Q .normal) ⟨sl, hp, nx⟩ else WO P tt ops.toList nx 0 ops.toList (Q .normal) ⟨sl, hp, nx⟩
 | .seq x y => fun Q S => W P tt base x (fun e S' => match e with
   | .normal => W P tt base y Q S'
   | .exit i => Q (.exit i) S'
   | .ret => Q .ret S') S
 | .cond c x y => fun Q S => match S.ev c with
   | .bool b => z0t b (W P tt base x Q S) (W P tt base y Q S)
   | _ => False
 | .block id c => fun Q S => W P tt base c (fun e S' => match e with
   | .normal => Q .normal S'
   | .exit i => bif Nat.beq i id then Q .normal S' else Q (.exit i) S'
   | .ret => Q .ret S') S
 | .loop c => fun Q S => z0C base (W P tt base c) Q S
 | .exit i => fun Q S => Q (.exit i) S
 | .ret => fun Q S => Q .ret S
 | _ => fun _ _ => False
def z1Y (N : Nat) : Code → Bool
 | .region _ ops _ => ops.toList.all (z7d N)
 | .seq x y => z1Y N x && z1Y N y
 | .cond _ x y => z1Y N x && z1Y N y
 | .block _ c => z1Y N c
 | .loop c => z1Y N c
 | _ => true
def zba (X0 : Cx) (N : Nat) (Q : Pst) : Exit → Act → World → Prop
 | .normal, a, w => ∃ S X, SR X0 N S S.nx X a ∧ X.w = w ∧ Q .normal S
 | .exit i, a, w => ∃ S X, SR X0 N S S.nx X a ∧ X.w = w ∧ Q (.exit i) S
 | .ret, a, w => ∃ S X, SR X0 N S S.nx X a ∧ X.w = w ∧ Q .ret S
 | _, _, _ => False
section
variable {P : Program} {tt : TT} (htt : TtOk P tt) {X0 : Cx} {N base : Nat} (hb : ∀ r, X0.us r → r < base) (hp : 0 < base)
include htt hb hp
theorem z1N : ∀ {c : Code} {Q : Pst} {S : St} {X : Cx} {a : Act}, z1Y N c = true → SR X0 N S S.nx X a → W P tt base c Q S → c.wp P (zba X0 N Q) a X.w
 | .skip, Q, S, X, a, _, h, hw => wp_skip ⟨S, X, h, rfl, hw⟩
 | .exit i, Q, S, X, a, _, h, hw => wp_exit ⟨S, X, h, rfl, hw⟩
 | .ret, Q, S, X, a, _, h, hw => wp_ret ⟨S, X, h, rfl, hw⟩
 | .region id ops draw, Q, S, X, a, hc, h, hw => by
   cases draw with
   | true => exact z9J htt (fun S X a h hk => ⟨S, X, h, rfl, hk⟩) hc h hw
   | false => exact wp_region_list (z4r htt (fun S X a h hk => ⟨S, X, h, rfl, hk⟩) hc h (by simp) hw)
 | .seq x y, Q, S, X, a, hc, h, hw => by
   simp only [z1Y, Bool.and_eq_true] at hc
   refine wp_seq (wp_mono (z1N hc.1 h hw) fun e a' w' hq => ?_)
   cases e with
   | normal => obtain ⟨S', X', h', rfl, hw'⟩ := hq; exact z1N hc.2 h' hw'
   | exit i => exact hq
   | ret => exact hq
   | goto l => exact hq.elim
   | panic l => exact hq.elim
   | outgrown => exact hq.elim
 | .cond c x y, Q, S, X, a, hc, h, hw => by
   simp only [z1Y, Bool.and_eq_true] at hc
   have he := zaX h c
   unfold W at hw
   split at hw
   ·rename_i b hb'
    rw [hb'] at he
    exact wp_cond_split (z1J he) (fun ht => z1N hc.1 h (hw.1 ht)) (fun hf => z1N hc.2 h (hw.2 hf))
   ·exact hw.elim
 | .block id c, Q, S, X, a, hc, h, hw => by
   refine wp_block (wp_mono (z1N (c := c) hc h hw) fun e a' w' hq => ?_)
   cases e with
   | normal => exact hq
   | exit i =>
     obtain ⟨S', X', h', rfl, hw'⟩ := hq
     simp only [Exit.inBlock]
     by_cases hi : i = id
     ·subst hi
      simp at hw'
      rw [if_pos rfl]; exact ⟨S', X', h', rfl, hw'⟩
     ·rw [if_neg hi]
      have : Nat.beq i id = false := by
       cases hb : Nat.beq i id with
       | false => rfl
       | true => exact absurd (Nat.eq_of_beq_eq_true hb) hi
      simp [this] at hw'
      exact ⟨S', X', h', rfl, hw'⟩
   | ret => exact hq
   | goto l => exact hq.elim
   | panic l => exact hq.elim
   | outgrown => exact hq.elim
 | .loop c, Q, S, X, a, hc, h, hw => by
   rcases hw with hw | hw
   ·obtain ⟨σ, st, inv, μ, ⟨x0, hi0, hl0⟩, hr⟩ := hw
    obtain ⟨X1, h1, hw1⟩ := z2n hb hp h hl0
    rw [← hw1]
    intro b k cs
    have key : ∀ (n : Nat) (x : σ), μ x = n → inv x → ∀ X a, SR X0 N (st x) (st x).nx X a →
     ∃ e a' w', zba X0 N Q e a' w' ∧ Arrives P (lone (b.at a (.code c :: .inLoop c :: k)) cs X.w) b k cs e a' w' := by
     intro n
     induction n using Nat.strongRecOn with
     | _ n ih =>
       intro x hx hi X a h
       obtain ⟨e, a₁, w₁, hq, harr⟩ := z1N (c := c) hc h (hr x hi) b (.inLoop c :: k) cs
       cases e with
       | normal =>
         obtain ⟨S', X', h', rfl, x', hi', hμ, hl'⟩ := hq
         obtain ⟨X2, h2, hw2⟩ := z2n hb hp h' hl'
         obtain ⟨e₂, a₂, w₂, hq₂, harr₂⟩ := ih (μ x') (hx ▸ hμ) x' rfl hi' X2 a₁ h2
         rw [hw2] at harr₂
         exact ⟨e₂, a₂, w₂, hq₂, .of_steps (Steps.trans harr (.one step_inLoop)) harr₂⟩
       | exit id => exact ⟨.exit id, a₁, w₁, hq, .pass (x := .inLoop c) rfl (fun _ _ => .inl (by simp)) harr⟩
       | ret => exact ⟨.ret, a₁, w₁, hq, .pass (x := .inLoop c) rfl (fun _ _ => .inl (by simp)) harr⟩
       | goto l => exact hq.elim
       | panic l => exact hq.elim
       | outgrown => exact hq.elim
    obtain ⟨e, a', w', hq, harr⟩ := key _ x0 rfl hi0 X1 a h1
    exact ⟨e, a', w', hq, .of_steps (.one step_loop) harr⟩
   ·obtain ⟨σ, st, inv, μ, i0, sE, ⟨x0, hi0, hl0⟩, hr, hQE⟩ := hw
    obtain ⟨X1, h1, hw1⟩ := z2n hb hp h hl0
    rw [← hw1]
    intro b k cs
    have key : ∀ (n : Nat) (x : σ), μ x = n → inv x → ∀ X a, SR X0 N (st x) (st x).nx X a →
     ∃ e a' w', zba X0 N Q e a' w' ∧ Arrives P (lone (b.at a (.code c :: .inLoop c :: k)) cs X.w) b k cs e a' w' := by
     intro n
     induction n using Nat.strongRecOn with
     | _ n ih =>
       intro x hx hi X a h
       obtain ⟨e, a₁, w₁, hq, harr⟩ := z1N (c := c) hc h (hr x hi) b (.inLoop c :: k) cs
       cases e with
       | normal =>
         obtain ⟨S', X', h', rfl, x', hi', hμ, hl'⟩ := hq
         obtain ⟨X2, h2, hw2⟩ := z2n hb hp h' hl'
         obtain ⟨e₂, a₂, w₂, hq₂, harr₂⟩ := ih (μ x') (hx ▸ hμ) x' rfl hi' X2 a₁ h2
         rw [hw2] at harr₂
         exact ⟨e₂, a₂, w₂, hq₂, .of_steps (Steps.trans harr (.one step_inLoop)) harr₂⟩
       | exit id =>
         obtain ⟨S', X', h', rfl, rfl, hl'⟩ := hq
         obtain ⟨X2, h2, hw2⟩ := z2n hb hp h' hl'
         exact ⟨.exit id, a₁, X'.w, ⟨sE, X2, h2, hw2, hQE⟩, .pass (x := .inLoop c) rfl (fun _ _ => .inl (by simp)) harr⟩
       | ret => obtain ⟨S', X', h', rfl, hf⟩ := hq; exact hf.elim
       | goto l => exact hq.elim
       | panic l => exact hq.elim
       | outgrown => exact hq.elim
    obtain ⟨e, a', w', hq, harr⟩ := key _ x0 rfl hi0 X1 a h1
    exact ⟨e, a', w', hq, .of_steps (.one step_loop) harr⟩
 | .rangeFunc _ _ _ _, Q, S, X, a, _, h, hw => hw.elim
 | .scope _, Q, S, X, a, _, h, hw => hw.elim
 | .label _, Q, S, X, a, _, h, hw => hw.elim
 | .goto _, Q, S, X, a, _, h, hw => hw.elim
 | .refuse _, Q, S, X, a, _, h, hw => hw.elim
end
def z8m (tt : TT) (S : St) (a : Nat) (t : TypeId) (K : T → Prop) : Prop := match tt t with
 | some y => match S.get a with
   | .ptr r i j => match S.H r with
     | some (.box cs) => i = 0 ∧ z3u y cs j fun c => K c
     | _ => False
   | _ => False
 | none => False
def zax (x : T) (K : T → Prop) : Prop := z1b x fun x => match x with
 | .tup _ => False
 | x => K x
def resT (tt : TT) (S : St) : List ResultVar → List T → (T → Prop) → Prop
 | [], acc, K => match acc with
   | [x] => K x
   | _ => K (.tup acc)
 | .tmp t :: l, acc, K => zax (S.get t) fun x => resT tt S l (acc ++ [x]) K
 | .cell a t :: l, acc, K => z8m tt S a t fun x => resT tt S l (acc ++ [x]) K
def numE : Nat → List Ent → List (Nat × Option Ent)
 | _, [] => []
 | i, e :: l => (i, live e) :: numE (i + 1) l
def numT : Nat → List T → List (Nat × T)
 | _, [] => []
 | i, e :: l => (i, e) :: numT (i + 1) l
def St.start (He : List Ent) (ts : List T) (base : Nat) : St := ⟨numT 0 ts, numE 1 He, base⟩
def AnsP (base : Nat) (S : St) (x r : T) (He' : List Ent) : Prop :=
 ∃ σ, (sgOk base σ && Nat.ble base (He'.length + 1) && σ.all (fun p => Nat.blt p.1 (He'.length + 1)) && bxOk (He'.length + 1) (numE 1 He')) = true ∧
   HpM σ S.H base (He'.length + 1) (numE 1 He') ∧ M2 σ S.H x r ∧ z56 (He'.length + 1) r = true
end Go.Proofs.YtfgkjgfigjpkoaaDoor
