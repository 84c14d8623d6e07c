/- A function's contract out of its text. -/
import Derived.Test.YtgmbkbggnlponaaGreatDoorV18
namespace Go.Proofs.YtgmbkbggnlponaaGreatDoor
set_option linter.unusedVariables false
set_option linter.unusedSimpArgs false
set_option linter.unusedSectionVars false
open Go.RowKit Pl
def z7R (tmps : Array Value) : ResultVar → Sem Value
 | .tmp t => pure (tmps.getD t undef)
 | .cell a t => do loadVar t (← asAddr (tmps.getD a undef))
def z4j (tmps : Array Value) : List ResultVar → Sem (List Value)
 | [] => pure []
 | r :: rs => do
   let v ← z7R tmps r
   let vs ← z4j tmps rs
   pure (v :: vs)
theorem z9L {X : Cx} {x : T} {v : Value} {K : T → Prop} (hx : RS X x v) (h : zh2 x K) : K x ∧ RS1 X x v := by
 have h := z1R (K := fun x => match x with | .tup _ => False | x => K x) h
 cases x <;> first | exact h.elim | exact ⟨h, hx⟩
theorem z8H {X : Cx} {x : T} {v : Value} (hx : RS1 X x v) : ∀ {acc : List T} {accv : List Value}, RSt X acc accv → RSt X (acc ++ [x]) (accv ++ [v])
 | [], _, h => by have : _ = [] := h; subst this; exact ⟨v, [], rfl, hx, rfl⟩
 | c :: cs, _, ⟨u, us, hu, h1, h2⟩ => by subst hu; exact ⟨u, _, rfl, h1, z8H hx h2⟩
theorem zeE {X : Cx} : ∀ {acc : List T} {accv : List Value}, RSt X acc accv → accv.length = acc.length
 | [], _, h => by have : _ = [] := h; subst this; rfl
 | c :: cs, _, ⟨u, us, hu, h1, h2⟩ => by subst hu; simp [zeE h2]
section
variable {P : Program} {tt : TT} (htt : TtOk P tt) {X0 X : Cx} {N n : Nat} {S : St} {a : Act} (h : SR X0 N S n X a)
include htt h
theorem z9M {b : Nat} {t : TypeId} {K : T → Prop} (hw : zeD tt S b t K) : ∃ x v, K x ∧ RS1 X x v ∧ (z7R a.tmps (.cell b t)).run P X.w = .ok v X.w := by
 unfold zeD at hw
 split at hw <;> try exact hw.elim
 rename_i y hy
 split at hw <;> try exact hw.elim
 rename_i r i j hget
 split at hw <;> try exact hw.elim
 rename_i cs hH
 obtain ⟨rfl, hw⟩ := hw
 rw [← h.H] at hH
 have hs := h.sl b
 rw [hget] at hs
 obtain ⟨h1, _, h3⟩ := z69 hs
 obtain ⟨g, hg, hv⟩ := h3 _ hH
 obtain ⟨g', C, u, fr, hg', hC, hf, hl⟩ := (h.hr.node _ _ hH).2
 obtain rfl := h.hr.inj' hH hg hg'
 have hty := htt _ _ hy
 rw [Nat.zero_mul, Nat.zero_add] at hv
 unfold z7q at hw
 cases ha : y.d.agg with
 | true =>
   rw [ha] at hw
   obtain ⟨xs, hx, hlen, hk⟩ : ∃ xs, (cs.drop j).take y.sz = xs ∧ xs.length = y.sz ∧ K (.agg xs) := ⟨_, rfl, z2h hw⟩
   have hr := (hl.drop j).take y.sz
   rw [hx] at hr
   have := run_loadCells_list (P := P) X.w ⟨g, j, none⟩ ((C.toList.drop j).take y.sz) (fun m v hm => by rw [z2j]; simp [World.cell?, hC]; simpa using z17 hm)
   rw [hr.len, hlen] at this
   refine ⟨_, .agg ((C.toList.drop j).take y.sz).toArray, hk, ⟨_, rfl, by simpa using hr⟩, ?_⟩
   simp [z7R, hv, asAddr, loadVar, z9p hty, ha, z27 hty, this]
 | false =>
   rw [ha] at hw
   obtain ⟨c, hc, hk⟩ := hw
   obtain ⟨v, hv', ho, hx⟩ := hl.get hc
   refine ⟨c, v, z1R (K := K) hk, hx.rs1 ho, ?_⟩
   have : X.w.cell? ⟨g, j, none⟩ = some v := by simp at hv'; simp [World.cell?, hC, hv']
   simp [z7R, hv, asAddr, loadVar, z9p hty, ha, this]
theorem z5h : ∀ {rs : List ResultVar} {acc : List T} {accv : List Value} {K : T → Prop}, RSt X acc accv → resT tt S rs acc K →
 ∃ xs vs, (z4j a.tmps rs).run P X.w = .ok vs X.w ∧ vs.length = rs.length ∧ RSt X (acc ++ xs) (accv ++ vs) ∧ (match acc ++ xs with | [x] => K x | l => K (.tup l))
 | [], acc, accv, K, hacc, hw => by
   refine ⟨[], [], rfl, rfl, by simpa using hacc, ?_⟩
   rw [List.append_nil]
   unfold resT at hw
   split at hw
   ·exact hw
   ·rename_i hn
    split
    ·rename_i x; exact absurd rfl (hn x)
    ·exact hw
 | .tmp t :: rs, acc, accv, K, hacc, hw => by
   simp only [resT] at hw
   obtain ⟨hk, hx1⟩ := z9L (h.sl t) hw
   obtain ⟨xs, vs, r1, r2, r3, r4⟩ := z5h (z8H hx1 hacc) hk
   refine ⟨S.get t :: xs, a.tmps.getD t undef :: vs, ?_, by simp [r2], by simpa using r3, by simpa using r4⟩
   simp only [z4j, z7R, Sem.run_bind, Sem.run_pure, Result.andThen_ok, r1]
 | .cell b t :: rs, acc, accv, K, hacc, hw => by
   simp only [resT] at hw
   obtain ⟨x, v, hk, hv, hr⟩ := z9M htt h hw
   obtain ⟨xs, vs, r1, r2, r3, r4⟩ := z5h (z8H hv hacc) hk
   refine ⟨x :: xs, v :: vs, ?_, by simp [r2], by simpa using r3, by simpa using r4⟩
   simp only [z4j, Sem.run_bind, Sem.run_pure, hr, Result.andThen_ok, r1]
theorem z9N {fn : Func} {K : T → Prop} (hw : resT tt S fn.results.toList [] K) : ∃ x v, K x ∧ RS X x v ∧ (results fn a.tmps).run P X.w = .ok v X.w := by
 obtain ⟨xs, vs, r1, r2, r3, r4⟩ := z5h htt h (acc := []) (accv := []) rfl hw
 simp only [List.nil_append] at r3 r4
 have hm : (fn.results.mapM (fun
  | ResultVar.tmp t => (pure (a.tmps.getD t undef) : Sem Value)
  | ResultVar.cell b t => do loadVar t (← asAddr (a.tmps.getD b undef)))).run P X.w = .ok vs.toArray X.w := by
  have hl : ∀ (l : List ResultVar), (l.mapM (fun
   | ResultVar.tmp t => (pure (a.tmps.getD t undef) : Sem Value)
   | ResultVar.cell b t => do loadVar t (← asAddr (a.tmps.getD b undef)))) = z4j a.tmps l := by
   intro l
   induction l with
   | nil => simp [z4j]
   | cons r l ih =>
     rw [List.mapM_cons, ih]
     cases r <;> simp [z4j, z7R]
  rw [← Array.toArray_toList (xs := fn.results), List.mapM_toArray, hl, Sem.run_map, r1]
  rfl
 have hlen : vs.length = xs.length := zeE r3
 have hres : (results fn a.tmps).run P X.w = .ok (if hl : vs.toArray.size = 1 then vs.toArray[0] else .tuple vs.toArray) X.w := by
  unfold results
  rw [Sem.run_bind]
  exact congrArg (fun r : Result (Array Value) => r.andThen fun a w' => Sem.run P (pure (if h : a.size = 1 then a[0] else Value.tuple a)) w') hm
 cases xs with
 | nil =>
   simp at hlen; subst hlen
   exact ⟨.tup [], _, r4, ⟨_, rfl, r3⟩, hres⟩
 | cons x l => cases l with
   | nil =>
     obtain ⟨u, us, rfl, q1, q2⟩ := r3
     have : us = [] := q2
     subst this
     exact ⟨x, _, r4, q1.rs, hres⟩
   | cons y l =>
     rw [dif_neg (by simp at hlen ⊢; omega)] at hres
     exact ⟨_, _, r4, ⟨_, rfl, r3⟩, hres⟩
end
theorem zeF : ∀ {He : List Ent} {i r : Nat}, lk (numE i He) r = if r < i then none else (He[r - i]?).map live
 | [], i, r => by simp [numE, lk]
 | e :: l, i, r => by
   simp only [numE, lk]
   by_cases h : i = r
   ·subst h
    have : Nat.beq i i = true := Nat.beq_refl i
    simp
   ·have hb : Nat.beq i r = false := by
     cases hb : Nat.beq i r with
     | false => rfl
     | true => exact absurd (Nat.eq_of_beq_eq_true hb) h
    rw [hb, cond_false, zeF]
    by_cases h2 : r < i
    ·rw [if_pos h2, if_pos (by omega)]
    ·rw [if_neg h2, if_neg (by omega), show r - i = (r - (i + 1)) + 1 by omega, List.getElem?_cons_succ]
theorem z60 (He : List Ent) : idxE He = hpH (numE 1 He) := by
 funext r
 unfold idxE hpH
 rw [zeF]
 by_cases h : r = 0
 ·subst h; simp
 ·rw [if_neg h, if_neg (by omega)]
  cases He[r - 1]? <;> rfl
theorem zbe : ∀ {ts : List T} {i r : Nat}, i ≤ r → lk (numT i ts) r = ts[r - i]?
 | [], i, r, _ => by simp [numT, lk]
 | e :: l, i, r, hi => by
   simp only [numT, lk]
   by_cases h : i = r
   ·subst h; simp
   ·have hb : Nat.beq i r = false := by
     cases hb : Nat.beq i r with
     | false => rfl
     | true => exact absurd (Nat.eq_of_beq_eq_true hb) h
    rw [hb, cond_false, zbe (by omega), show r - i = (r - (i + 1)) + 1 by omega, List.getElem?_cons_succ]
theorem z8I {X : Cx} : ∀ {ts : List T} {vs : List Value} {i : Nat} {x : T}, Args X ts vs → ts[i]? = some x → ∃ v, vs[i]? = some v ∧ RS X x v
 | [], _, i, x, _, h => by simp at h
 | t :: ts, _, i, x, ⟨u, us, hu, h1, h2⟩, h => by
   subst hu
   cases i with
   | zero => simp at h; subst h; exact ⟨u, rfl, h1⟩
   | succ i => simp at h; simpa using z8I h2 h
theorem z8J {X : Cx} : ∀ {ts : List T} {vs : List Value}, Args X ts vs → vs.length = ts.length
 | [], _, h => by have : _ = [] := h; subst this; rfl
 | t :: ts, _, ⟨u, us, hu, h1, h2⟩ => by subst hu; simp [z8J h2]
def AnsW (tt : TT) (base : Nat) (rs : List ResultVar) (r : T) (He' : List Ent) : Pst := fun e S => match e with
 | .exit _ => False
 | _ => resT tt S rs [] fun x => AnsP base S x r He'
theorem z01 {P : Program} {tt : TT} (htt : TtOk P tt) {f : FuncId} {He He' : List Ent} {ts : List T} {r : T} {fn : Func} {c : Code} (base : Nat) (hbase : He.length + 1 = base) (hf : P.funcs[f]? = some fn) (hn : (fn.name == "runtime.NumGoroutine") = false)
 (hbody : fn.body = some c) (hsz : (Nat.ble ts.length fn.ntmps && z3I fn.ntmps c) = true)
 (hw : W P tt base c (AnsW tt base fn.results.toList r He') (St.start He ts base)) : CT P f He ts r He' := by
 subst hbase
 refine ⟨⟨fn, hf, hn, by rw [hbody]; rfl⟩, fun X hh hH hu vs ha => ?_⟩
 simp only [Bool.and_eq_true] at hsz
 have hl := z8J ha
 have hle := Nat.le_of_ble_eq_true hsz.1
 have hbase : ∀ r, X.us r → r < He.length + 1 := fun r hr => by rw [hu] at hr; exact hr
 have h0 : SR X fn.ntmps (St.start He ts (He.length + 1)) (St.start He ts (He.length + 1)).nx X { tmps := vs.toArray ++ Array.replicate (fn.ntmps - vs.toArray.size) undef, defers := [] } := by
  refine ⟨.refl X, hh, by rw [hH, z60]; rfl, hbase, fun t => ?_, rfl, by simp; omega⟩
  show RS X ((St.start He ts (He.length + 1)).get t) _
  unfold St.get St.start
  simp only [zbe (Nat.zero_le t), Nat.sub_zero]
  cases hx : ts[t]? with
  | none => trivial
  | some x =>
    obtain ⟨v, hv, hr⟩ := z8I ha hx
    have hlt := (List.getElem?_eq_some_iff.1 hv).1
    have : (vs.toArray ++ Array.replicate (fn.ntmps - vs.toArray.size) undef).getD t undef = v := by
     rw [Array.getD_eq_getD_getElem?, Array.getElem?_append_left (by simpa using hlt)]
     simp [hv]
    rw [this]; exact hr
 refine calls_of_wp hf hbody (wp_mono (z2R htt hbase (by omega) hsz.2 h0 hw) fun e a w hq => ?_)
 have fin : (∃ S X', SR X fn.ntmps S S.nx X' a ∧ X'.w = w ∧ resT tt S fn.results.toList [] fun x => AnsP (He.length + 1) S x r He') →
  a.defers = [] ∧ ∃ v, (results fn a.tmps).run P w = .ok v w ∧ ∃ v' X', Ending.returned v = .returned v' ∧ X'.w = w ∧ X'.H = idxE He' ∧ (X'.us = fun i => i < He'.length + 1) ∧ HR X' ∧ RS X' r v' ∧ Same X X' := by
  rintro ⟨S, X', h', rfl, hres⟩
  obtain ⟨x, v, ⟨σ, h1, h2, h3, h4⟩, hv, hr⟩ := z9N htt h' hres
  refine ⟨h'.df, v, hr, v, ?_⟩
  simp only [Bool.and_eq_true] at h1
  obtain ⟨⟨⟨a1, a2⟩, a3⟩, a4⟩ := h1
  have a2 := Nat.le_of_ble_eq_true a2
  rw [← h'.H] at h2 h3
  have hn : (∀ r, X.us r → r < He.length + 1) ∧ He.length + 1 ≤ He'.length + 1 := ⟨hbase, a2⟩
  exact ⟨X'.ren σ (hpH (numE 1 He')) (He'.length + 1), rfl, rfl, (z60 He').symm, rfl, zeh h'.same h'.hr a1 h2 hn a3 (by omega) (z5Z a4), z8y h'.same h'.hr a1 h2 hn a3 hv h3 h4, z8z h'.same h'.hr a1 h2 hn a3⟩
 cases e with
 | normal => exact fin hq
 | ret => exact fin hq
 | exit i => obtain ⟨S, X', _, _, hf⟩ := hq; exact hf.elim
 | goto l => exact hq.elim
 | panic l => exact hq.elim
 | outgrown => exact hq.elim
end Go.Proofs.YtgmbkbggnlponaaGreatDoor
