/- The moves of the code with the way on hidden: what is still to come is an unknown condition, so neither the text's steps nor the kernel look at it. Rows that may be moved: a contract's own row told as such; marks in rows. An answer behind rows that come back: a contract out of a walk at whose end what was lent is given back. -/
import Derived.Test.YtgmbkbggnlponaaGreatDoorVd
namespace Go.Proofs.YtgmbkbggnlponaaGreatDoor
set_option linter.unusedVariables false
set_option linter.unusedSimpArgs false
set_option linter.unusedSectionVars false
open Go.RowKit Pl
section
variable {P : Program} {tt : TT} {base : Nat} {Q : Pst}
theorem z0b {x y : Code} {S : St} (h : ∀ Q1 : Pst, (∀ S', W P tt base y Q S' → Q1 .normal S') → (∀ i S', Q (.exit i) S' → Q1 (.exit i) S') → (∀ S', Q .ret S' → Q1 .ret S') → W P tt base x Q1 S) : W P tt base (.seq x y) Q S :=
 wi_seq (h _ (fun _ h => h) (fun _ _ h => h) (fun _ h => h))
theorem z03 {n : Nat} {c : Code} {S : St} (h : ∀ Q1 : Pst, (∀ S', Q .normal S' → Q1 .normal S') → (∀ S', Q .normal S' → Q1 (.exit n) S') → (∀ i S', Nat.beq i n = false → Q (.exit i) S' → Q1 (.exit i) S') → (∀ S', Q .ret S' → Q1 .ret S') → W P tt base c Q1 S) : W P tt base (.block n c) Q S :=
 zg7 (h _ (fun _ h => h) (fun S' h => by show (bif Nat.beq n n then Q .normal S' else Q (.exit n) S'); rw [Nat.beq_refl]; exact h) (fun i S' e h => by show (bif Nat.beq i n then Q .normal S' else Q (.exit i) S'); rw [e]; exact h) (fun _ h => h))
end
end Go.Proofs.YtgmbkbggnlponaaGreatDoor
namespace Go.Proofs.YtgmbkbggnlponaaGreatDoor
set_option linter.unusedVariables false
set_option linter.unusedSimpArgs false
set_option linter.unusedSectionVars false
open Go.RowKit Pl
theorem zi6 {He : List Ent} {i : Nat} {e : Ent} {r : Nat} : idxE (He.set i e) r = if r = i + 1 ∧ i < He.length then live e else idxE He r := by
 unfold idxE
 by_cases h0 : r = 0
 ·subst h0; rw [if_pos rfl, if_neg (by omega), if_pos rfl]
 ·rw [if_neg h0, if_neg h0, List.getElem?_set]
  by_cases h1 : i = r - 1
  ·rw [if_pos h1]
   by_cases h2 : i < He.length
   ·rw [if_pos h2, if_pos ⟨by omega, h2⟩]
   ·rw [if_neg h2, if_neg (fun h => h2 h.2), List.getElem?_eq_none (by omega)]
  ·rw [if_neg h1, if_neg (fun h => h1 (by omega))]
theorem z7j {P : Program} {f : FuncId} {He He' : List Ent} {ts : List T} {r : T} (i : Nat) {k : Nat} {es : List (List T)} (h : CT P f He ts r He') (hi : He'[i]? = some (.row k es)) (hk : k ≠ 0) (hcl : ∀ e ∈ es, ∀ c ∈ e, cl0 c) : CT P f He ts r (He'.set i (.deep k es [])) := by
 refine ⟨h.1, fun X hh hH hu vs ha => (h.2 X hh hH hu vs ha).mono ?_⟩
 rintro e w' ⟨v, X', rfl, rfl, h1, h2, h3, h4, h5⟩
 have hlt := (List.getElem?_eq_some_iff.1 hi).1
 let X2 : Cx := { X' with H := idxE (He'.set i (.deep k es [])) }
 have hl : live (.deep k es []) = some (.deep k es []) := rfl
 have hH1 : X'.H (i + 1) = some (.row k es) := by
  rw [h1]
  refine z1v.2 ⟨by omega, by rw [Nat.add_sub_cancel]; exact hi, ?_⟩
  cases k with
  | zero => exact absurd rfl hk
  | succ k => rfl
 have hH2 : ∀ a, X2.H a = if a = i + 1 then some (.deep k es []) else X'.H a := fun a => by
  show idxE (He'.set i (.deep k es [])) a = _
  rw [zi6, h1]
  by_cases ha : a = i + 1
  ·rw [if_pos ⟨ha, hlt⟩, if_pos ha]; rfl
  ·rw [if_neg (fun h => ha h.1), if_neg ha]
 have hs : Same X' X2 := ⟨fun _ h => h, rfl, rfl, rfl, Nat.le_refl _, .refl _ _, fun a _ e' he' => by
  rw [hH2] at he'
  split at he'
  ·rename_i ha; subst ha; injection he' with he'; subst he'; exact ⟨_, hH1, rfl⟩
  ·exact ⟨e', he', rfl⟩, fun g h h0 => ⟨⟨h, h0⟩, rfl⟩, fun a _ _ g hg => ⟨hg, fun C t fr hC => ⟨C, hC, rfl⟩⟩⟩
 refine ⟨v, X2, rfl, rfl, rfl, by rw [List.length_set]; exact h2, ⟨fun a b x hx p q => h3.inj a b x (fun hn => hx ?_) p q, h3.lt, fun a e' he' => ?_, ?_, h3.pos, h3.gl, h3.inn⟩, h4.mono hs, h5.trans hs⟩
 ·rw [hH2]
  split
  ·rename_i ha; subst ha; rw [hH1] at hn; cases hn
  ·exact hn
 ·have he2 := he'
  rw [hH2] at he2
  split at he2
  ·rename_i ha; subst ha
   injection he2 with he2; subst he2
   obtain ⟨p, q⟩ := h3.node _ _ hH1
   exact ⟨p, q.1, q.2.imp (fun h => ⟨h, rfl⟩) fun ⟨g, C, t, fr, a1, a2, a3, a4⟩ => ⟨g, C, t, fr, [], a1, a2, a3, List.nodup_nil, fun b hb => (by cases hb), OE.of hcl a4, fun p hp => by cases hp⟩⟩
  ·obtain ⟨p, q⟩ := h3.node a e' he2
   exact ⟨p, q.mono hs p (by rw [he']; simp) (fun b _ => rfl) (fun b hb => ⟨hb, rfl⟩)⟩
 ·rw [hH2, if_neg (by omega)]; exact h3.zero
def zcP (k : Nat) (c : T) : T := match c with
 | .val (.slice none 0 0) => .own k []
 | c => c
theorem zfw (k : Nat) (hk : 0 < k) (c : T) : zcP k c = c ∨ (c = .val nilV ∧ ∃ k', 0 < k' ∧ zcP k c = .own k' []) := by
 unfold zcP
 split
 ·exact .inr ⟨rfl, k, hk, rfl⟩
 ·exact .inl rfl
theorem CvE.nil (k : Nat) (hk : 0 < k) : CvE [[.val nilV]] [[.own k []]] := ⟨fun e he c hc => by
 rw [List.mem_singleton] at he; subst he
 rw [List.mem_singleton] at hc; subst hc; trivial, zcP k, zfw k hk, rfl⟩
section
variable (el : Nat → List T → List T) (sz : List T → Nat)
end
end Go.Proofs.YtgmbkbggnlponaaGreatDoor
namespace Go.Proofs.YtgmbkbggnlponaaGreatDoor
set_option linter.unusedVariables false
set_option linter.unusedSimpArgs false
set_option linter.unusedSectionVars false
open Go.RowKit Pl
def AnsV (tt : TT) (base : Nat) (rs : List ResultVar) (r : T) (He' : List Ent) : Pst := fun e S => match e with
 | .exit _ => False
 | _ => ∃ S1, Gh S S1 ∧ resT tt S1 rs [] fun x => AnsP base S1 x r He'
theorem zfx {P : Program} {tt : TT} (htt : TtOk P tt) {f : FuncId} {He He' : List Ent} {ts : List T} {r : T} {fn : Func} {c : Code} (base : Nat) (hbase : He.length + 1 = base) (hf : P.funcs[f]? = some fn) (hn : (fn.name == "runtime.NumGoroutine") = false)
 (hbody : fn.body = some c) (hsz : (Nat.ble ts.length fn.ntmps && z3I fn.ntmps c) = true)
 (hw : W P tt base c (AnsV tt base fn.results.toList r He') (St.start He ts base)) : CT P f He ts r He' := by
 subst hbase
 refine ⟨⟨fn, hf, hn, by rw [hbody]; rfl⟩, fun X hh hH hu vs ha => ?_⟩
 simp only [Bool.and_eq_true] at hsz
 have hl := z8J ha
 have hle := Nat.le_of_ble_eq_true hsz.1
 have hbase : ∀ r, X.us r → r < He.length + 1 := fun r hr => by rw [hu] at hr; exact hr
 have h0 : SR X fn.ntmps (St.start He ts (He.length + 1)) (St.start He ts (He.length + 1)).nx X { tmps := vs.toArray ++ Array.replicate (fn.ntmps - vs.toArray.size) undef, defers := [] } := by
  refine ⟨.refl X, hh, by rw [hH, z60]; rfl, hbase, fun t => ?_, rfl, by simp; omega⟩
  show RS X ((St.start He ts (He.length + 1)).get t) _
  unfold St.get St.start
  simp only [zbe (Nat.zero_le t), Nat.sub_zero]
  cases hx : ts[t]? with
  | none => trivial
  | some x =>
    obtain ⟨v, hv, hr⟩ := z8I ha hx
    have hlt := (List.getElem?_eq_some_iff.1 hv).1
    have : (vs.toArray ++ Array.replicate (fn.ntmps - vs.toArray.size) undef).getD t undef = v := by
     rw [Array.getD_eq_getD_getElem?, Array.getElem?_append_left (by simpa using hlt)]
     simp [hv]
    rw [this]; exact hr
 refine calls_of_wp hf hbody (wp_mono (z2R htt hbase (by omega) hsz.2 h0 hw) fun e a w hq => ?_)
 have fin : (∃ S X', SR X fn.ntmps S S.nx X' a ∧ X'.w = w ∧ ∃ S1, Gh S S1 ∧ resT tt S1 fn.results.toList [] fun x => AnsP (He.length + 1) S1 x r He') →
  a.defers = [] ∧ ∃ v, (results fn a.tmps).run P w = .ok v w ∧ ∃ v' X', Ending.returned v = .returned v' ∧ X'.w = w ∧ X'.H = idxE He' ∧ (X'.us = fun i => i < He'.length + 1) ∧ HR X' ∧ RS X' r v' ∧ Same X X' := by
  rintro ⟨S, X0, h0', rfl, S1, hg, hres⟩
  obtain ⟨X', h', e'⟩ := zcj hg h0'
  rw [← e']
  obtain ⟨x, v, ⟨σ, h1, h2, h3, h4⟩, hv, hr⟩ := z9N htt h' hres
  refine ⟨h'.df, v, hr, v, ?_⟩
  simp only [Bool.and_eq_true] at h1
  obtain ⟨⟨⟨a1, a2⟩, a3⟩, a4⟩ := h1
  have a2 := Nat.le_of_ble_eq_true a2
  rw [← h'.H] at h2 h3
  have hn : (∀ r, X.us r → r < He.length + 1) ∧ He.length + 1 ≤ He'.length + 1 := ⟨hbase, a2⟩
  exact ⟨X'.ren σ (hpH (numE 1 He')) (He'.length + 1), rfl, rfl, (z60 He').symm, rfl, zeh h'.same h'.hr a1 h2 hn a3 (by omega) (z5Z a4), z8y h'.same h'.hr a1 h2 hn a3 hv h3 h4, z8z h'.same h'.hr a1 h2 hn a3⟩
 cases e with
 | normal => exact fin hq
 | ret => exact fin hq
 | exit i => obtain ⟨S, X', _, _, hf⟩ := hq; exact hf.elim
 | goto l => exact hq.elim
 | panic l => exact hq.elim
 | outgrown => exact hq.elim
theorem zi7 {tt : TT} {base : Nat} {rs : List ResultVar} {r : T} {He' : List Ent} {S : St} (h : AnsW tt base rs r He' .ret S) : AnsV tt base rs r He' .ret S := ⟨S, .refl S, h⟩
theorem zgD {tt : TT} {base : Nat} {rs : List ResultVar} {x : T} {He' : List Ent} {S : St} (r q i j : Nat) {k : Nat} {es : List (List T)} {l : List (Nat × Nat × Nat)} {ks : Nat} {esq : List (List T)} {e : List T} (hr : S.H r = some (.deep k es ((i, j, q) :: l))) (hq : S.H q = some (.deep ks esq [])) (he : es[i]? = some e)
 (h : AnsV tt base rs x He' .ret ⟨S.sl, (q, none) :: (r, some (.deep k (es.set i (e.set j (.own ks esq))) l)) :: S.hp, S.nx⟩) : AnsV tt base rs x He' .ret S := by
 obtain ⟨S1, h1, h2⟩ := h
 exact ⟨S1, .step r q i j ⟨k, es, l, ks, esq, e, hr, hq, he, rfl⟩ h1, h2⟩
end Go.Proofs.YtgmbkbggnlponaaGreatDoor
