/- The moves by which a text's demands are met. -/
import Derived.Test.YtgmbkbggnlponaaGreatDoorV19
namespace Go.Proofs.YtgmbkbggnlponaaGreatDoor
set_option linter.unusedVariables false
set_option linter.unusedSimpArgs false
set_option linter.unusedSectionVars false
open Go.RowKit Pl
def Ng (P : Prop) : Prop := True
theorem ngE {α : Sort _} {a b : α} : Ng (a = b) := trivial
theorem shE {P : Prop} {α : Sort _} {a b : α} (h : a = b) (n : Ng P := by first | ((fail_if_success (with_reducible exact ngE)); (exact trivial)) | fail) (e : (a = b) → P := by exact id) : P := e h
theorem cb_t {b : Bool} {p q : Prop} (h : b = true) (hp : p) : z0t b p q := And.intro (fun _ => hp) (fun e => absurd (h.symm.trans e) (by decide))
theorem cb_f {b : Bool} {p q : Prop} (h : b = false) (hq : q) : z0t b p q := And.intro (fun e => absurd (h.symm.trans e) (by decide)) (fun _ => hq)
theorem cb {b : Bool} {p q : Prop} (hp : b = true → p) (hq : b = false → q) : z0t b p q := ⟨hp, hq⟩
theorem cb_d {c : Prop} [Decidable c] {p q : Prop} (hp : c → p) (hq : ¬ c → q) : z0t (decide c) p q := ⟨fun e => hp (by simpa using e), fun e => hq (by simpa using e)⟩
theorem cb_n {c : Prop} [Decidable c] {p q : Prop} (hp : ¬ c → p) (hq : c → q) : z0t (!decide c) p q := ⟨fun e => hp (by simpa using e), fun e => hq (by simpa using e)⟩
theorem z0i {c : Prop} [Decidable c] {p q : Prop} (h : c) (hp : p) : z0t (decide c) p q := cb_t (by simpa using h) hp
theorem z0k {c : Prop} [Decidable c] {p q : Prop} (h : ¬ c) (hq : q) : z0t (decide c) p q := cb_f (by simpa using h) hq
theorem z30 {c : Prop} [Decidable c] {p q : Prop} (h : ¬ c) (hp : p) : z0t (!decide c) p q := cb_t (by simpa using h) hp
theorem z1C {c : Prop} [Decidable c] {p q : Prop} (h : c) (hq : q) : z0t (!decide c) p q := cb_f (by simpa using h) hq
theorem wrap_i64 {n : Int} (h1 : -9223372036854775808 ≤ n) (h2 : n ≤ 9223372036854775807) : IntKind.i64.wrap n = n := by
 show (if (true && decide (n % 2 ^ 64 ≥ 2 ^ (64 - 1))) = true then n % 2 ^ 64 - 2 ^ 64 else n % 2 ^ 64) = n
 simp only [Bool.true_and, decide_eq_true_eq, show (2 : Int) ^ 64 = 18446744073709551616 from rfl, show (2 : Int) ^ (64 - 1) = 9223372036854775808 from rfl]
 split <;> omega
theorem zhE {a b : Nat} {K : Int → Prop} (h : a + b ≤ 9223372036854775807) (hk : K ((a + b : Nat) : Int)) : ∃ r, r = IntKind.i64.wrap ((a : Int) + (b : Int)) ∧ K r :=
 ⟨_, by rw [wrap_i64 (by omega) (by omega)]; omega, hk⟩
theorem w_sub {a b : Nat} {K : Int → Prop} (h : b ≤ a ∧ a ≤ 9223372036854775807) (hk : K ((a - b : Nat) : Int)) : ∃ r, r = IntKind.i64.wrap ((a : Int) - (b : Int)) ∧ K r :=
 ⟨_, by rw [wrap_i64 (by omega) (by omega)]; omega, hk⟩
theorem w_mul {a b : Nat} {K : Int → Prop} (h : a * b ≤ 9223372036854775807) (hk : K ((a * b : Nat) : Int)) : ∃ r, r = IntKind.i64.wrap ((a : Int) * (b : Int)) ∧ K r := by
 have e : (a : Int) * (b : Int) = ((a * b : Nat) : Int) := (Int.natCast_mul a b).symm
 exact ⟨_, by rw [e, wrap_i64 (by omega) (by omega)], hk⟩
theorem w_addn {a n : Nat} {K : Int → Prop} (h : a + OfNat.ofNat n ≤ 9223372036854775807) (hk : K ((a + OfNat.ofNat n : Nat) : Int)) : ∃ r, r = IntKind.i64.wrap ((a : Int) + (OfNat.ofNat n : Int)) ∧ K r :=
 zhE (b := OfNat.ofNat n) h hk
theorem w_subn {a n : Nat} {K : Int → Prop} (h : OfNat.ofNat n ≤ a ∧ a ≤ 9223372036854775807) (hk : K ((a - OfNat.ofNat n : Nat) : Int)) : ∃ r, r = IntKind.i64.wrap ((a : Int) - (OfNat.ofNat n : Int)) ∧ K r :=
 w_sub (b := OfNat.ofNat n) h hk
theorem w_any {n : Int} {K : Int → Prop} (h : -9223372036854775808 ≤ n ∧ n ≤ 9223372036854775807) (hk : K n) : ∃ r, r = IntKind.i64.wrap n ∧ K r :=
 ⟨_, by rw [wrap_i64 h.1 h.2], hk⟩
theorem i_at {α : Type} {n : Nat} {es : List α} {K : Nat → α → Prop} {e : α} (h : es[n]? = some e) (hk : K n e) : ∃ (i : Nat) (e : α), (n : Int) = i ∧ es[i]? = some e ∧ K i e := ⟨n, e, rfl, h, hk⟩
theorem i_lt {n m : Nat} {K : Nat → Prop} (h : n < m) (hk : K n) : ∃ i : Nat, (n : Int) = i ∧ i < m ∧ K i := ⟨n, rfl, h, hk⟩
theorem i_le {n m : Nat} {K : Nat → Prop} (h : n ≤ m) (hk : K n) : ∃ i : Nat, (n : Int) = i ∧ i ≤ m ∧ K i := ⟨n, rfl, h, hk⟩
theorem i_cut {n m k : Nat} {K : Nat → Nat → Prop} (h : n ≤ m ∧ m ≤ k) (hk : K n m) : ∃ i j : Nat, (n : Int) = i ∧ (m : Int) = j ∧ i ≤ j ∧ j ≤ k ∧ K i j := ⟨n, m, rfl, rfl, h.1, h.2, hk⟩
theorem zbf {H : Hp} : ∀ (xs : List T), xs.map (frz1 [] H) = xs
 | [] => rfl
 | x :: xs => by
   have h0 : ∀ y, frz0 [] H y = y := fun y => by cases y <;> rfl
   have h1 : frz1 [] H x = x := by
    cases x <;> try rfl
    case agg cs =>
     show T.agg (cs.map (frz0 [] H)) = T.agg cs
     congr 1
     rw [List.map_congr_left (fun y _ => h0 y), List.map_id']
   rw [List.map_cons, h1, zbf xs]
theorem z6w {P : Program} {f : FuncId} {xs ts : List T} {H : Hp} {id : Nat} {K : List Nat → Kon} {He He' : List Ent} {r : T} (gs σ : List Nat) (hc : CT P f He ts r He') (h1 : AM σ (updL H (z16 gs)) (xs.map (frz1 gs H)) ts) (h2 : HM σ (updL H (z16 gs)) He.length σ He) (h3 : σ.Nodup ∧ 0 ∉ σ)
 (h4 : (Nat.ble He.length He'.length && Nat.ble He'.length (He.length + 16) && z7N He'.length r && He'.all (z6n He'.length)) = true) (h5 : (xs.map (frz1 gs H)).all z2E = true ∨ (own2 r ∧ ∀ e ∈ He', ownE e))
 (hk : K σ (ren2 (rho σ id) r) (z16 gs ++ z5K (rho σ id) He' 1)) : z0u P f xs H id K := by
 simp only [Bool.and_eq_true] at h4
 exact ⟨gs, σ, He, ts, r, He', hc, h1, h2, h3, ⟨Nat.le_of_ble_eq_true h4.1.1.1, Nat.le_of_ble_eq_true h4.1.1.2⟩, ⟨h4.1.2, h4.2⟩, h5, hk⟩
theorem z29 {P : Program} {f : FuncId} {xs ts : List T} {H : Hp} {id : Nat} {K : List Nat → Kon} {He He' : List Ent} {r : T} (σ : List Nat) (hc : CT P f He ts r He') (h1 : AM σ H xs ts) (h2 : HM σ H He.length σ He) (h3 : σ.Nodup ∧ 0 ∉ σ)
 (h4 : (Nat.ble He.length He'.length && Nat.ble He'.length (He.length + 16) && z7N He'.length r && He'.all (z6n He'.length)) = true) (h5 : xs.all z2E = true ∨ (own2 r ∧ ∀ e ∈ He', ownE e))
 (hk : K σ (ren2 (rho σ id) r) (z5K (rho σ id) He' 1)) : z0u P f xs H id K :=
 z6w [] σ hc (by rw [zbf]; exact h1) h2 h3 h4 (by rw [zbf]; exact h5) hk
def leB (base : Nat) (σ : Sub) (S' : St) : Bool := sgOk base σ && Nat.ble base S'.nx && σ.all (fun p => Nat.blt p.1 S'.nx) && bxOk S'.nx S'.hp
theorem z02 {base : Nat} {S S' : St} (h1 : leB base (zeA base S S') S' = true) (h2 : HpM (zeA base S S') S.H base S'.nx S'.hp) (h3 : SlM (zeA base S S') S.H S S'.nx S'.sl) : LeP base S S' := ⟨_, h1, h2, h3⟩
def zhF (base : Nat) (S : St) (x r : T) (He' : List Ent) : Sub := clos S.H (hpH (numE 1 He')) 100 (zhD base ++ prs2 x r) []
def ansB (base : Nat) (σ : Sub) (He' : List Ent) : Bool := sgOk base σ && Nat.ble base (He'.length + 1) && σ.all (fun p => Nat.blt p.1 (He'.length + 1)) && bxOk (He'.length + 1) (numE 1 He')
theorem z00 {base : Nat} {S : St} {x r : T} {He' : List Ent} (h1 : ansB base (zhF base S x r He') He' = true) (h2 : HpM (zhF base S x r He') S.H base (He'.length + 1) (numE 1 He')) (h3 : M2 (zhF base S x r He') S.H x r)
 (h4 : z9D (He'.length + 1) r = true) : AnsP base S x r He' := ⟨_, h1, h2, h3, h4⟩
theorem z0S {base : Nat} {Wc : Pst → St → Prop} {Q : Pst} {S : St} (σ : Type) (st : σ → St) (inv : σ → Prop) (μ : σ → Nat) (x0 : σ) (h0 : inv x0) (hl : LeP base S (st x0))
 (hr : ∀ x, inv x → Wc (fun e S' => match e with
   | .normal => ∃ x', inv x' ∧ μ x' < μ x ∧ LeP base S' (st x')
   | .exit i => Q (.exit i) S'
   | .ret => Q .ret S') (st x)) : z0y base Wc Q S := .inl ⟨σ, st, inv, μ, ⟨x0, h0, hl⟩, hr⟩
theorem z0h {base : Nat} {Wc : Pst → St → Prop} {Q : Pst} {S : St} (i0 : Nat) (sE : St) (σ : Type) (st : σ → St) (inv : σ → Prop) (μ : σ → Nat) (x0 : σ) (h0 : inv x0) (hl : LeP base S (st x0))
 (hr : ∀ x, inv x → Wc (fun e S' => match e with
   | .normal => ∃ x', inv x' ∧ μ x' < μ x ∧ LeP base S' (st x')
   | .exit i => i = i0 ∧ LeP base S' sE
   | .ret => False) (st x)) (hq : Q (.exit i0) sE) : z0y base Wc Q S := .inr (.inl ⟨σ, st, inv, μ, i0, sE, ⟨x0, h0, hl⟩, hr, hq⟩)
theorem stpQ {P Q : Prop} (k : Q) (h : Q → P := by
 first
  | (exact fun k => And.intro rfl k)
  | (exact w_addn (by omega)) | (exact w_subn (by omega)) | (exact zhE (by omega)) | (exact w_sub (by omega)) | (exact w_any (by omega))
  | (exact fun k => Exists.intro _ (And.intro rfl k))
  | (with_reducible (exact cb_t rfl)) | (with_reducible (exact cb_f rfl))
  | (exact z0i (by omega)) | (exact z0k (by omega)) | (exact z30 (by omega)) | (exact z1C (by omega))
  | (exact cb_t (by assumption)) | (exact cb_f (by assumption))
  | (exact i_lt (by omega)) | (exact i_le (by omega)) | (exact i_cut (by omega))
  | (exact And.intro (by omega)) | (exact fun k => And.intro trivial k) | (exact And.intro (by decide)) | (exact fun k => And.intro (Nat.le_of_ble_eq_true rfl) k)) : P := h k
theorem eqA {P : Prop} (h : P := by first | (exact trivial) | (with_reducible rfl) | (exact (rfl : _ = true)) | (exact (rfl : _ = some _)) | (exact (rfl : _ = none)) | ((show (_ : Int) = _); omega)) : P := h
theorem ccA {P : Program} {f : FuncId} {xs ts : List T} {H : Hp} {id : Nat} {K : List Nat → Kon} {He He' : List Ent} {r : T} (σ : List Nat) (hc : CT P f He ts r He')
 (hk : K σ (ren2 (rho σ id) r) (z5K (rho σ id) He' 1)) (h1 : AM σ H xs ts := by ((repeat' (first | (exact trivial) | (exact rfl) | (refine And.intro ?_ ?_))); first | done | fail)) (h2 : HM σ H He.length σ He := by ((repeat' (first | (exact trivial) | (exact rfl) | (refine And.intro ?_ ?_))); first | done | fail)) (h3 : σ.Nodup ∧ 0 ∉ σ := by decide)
 (h4 : (Nat.ble He.length He'.length && Nat.ble He'.length (He.length + 16) && z7N He'.length r && He'.all (z6n He'.length)) = true := by rfl)
 (h5 : xs.all z2E = true ∨ (own2 r ∧ ∀ e ∈ He', ownE e) := by first | exact .inl rfl | (refine .inr ⟨?_, ?_⟩ <;> simp [own2, own1, own0, ownE])) : z0u P f xs H id K :=
 z29 σ hc h1 h2 h3 h4 h5 hk
theorem ccB {P : Program} {f : FuncId} {xs ts : List T} {H : Hp} {id : Nat} {K : List Nat → Kon} {He He' : List Ent} {r : T} (σ : List Nat) (hc : CT P f He ts r He')
 (hk : K σ (ren2 (rho σ id) r) (z5K (rho σ id) He' 1)) (h1 : AM σ H xs ts := by ((repeat' (first | (exact trivial) | (exact rfl) | (decide) | (refine And.intro ?_ ?_))); first | done | fail)) (h2 : HM σ H He.length σ He := by ((repeat' (first | (exact trivial) | (exact rfl) | (decide) | (refine And.intro ?_ ?_))); first | done | fail)) (h3 : σ.Nodup ∧ 0 ∉ σ := by decide)
 (h4 : (Nat.ble He.length He'.length && Nat.ble He'.length (He.length + 16) && z7N He'.length r && He'.all (z6n He'.length)) = true := by rfl)
 (h5 : xs.all z2E = true ∨ (own2 r ∧ ∀ e ∈ He', ownE e) := by first | exact .inl rfl | (refine .inr ⟨?_, ?_⟩ <;> simp [own2, own1, own0, ownE])) : z0u P f xs H id K :=
 z29 σ hc h1 h2 h3 h4 h5 hk
end Go.Proofs.YtgmbkbggnlponaaGreatDoor
