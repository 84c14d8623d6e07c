/- What a text asks of the contents, and what it gives: the whole code but regions that draw. -/
import Derived.Test.YtkdajahiaedoiaaV16
namespace Go.Proofs.Ytkdajahiaedoiaa
open Go.RowKit Pl
set_option linter.unusedVariables false
set_option linter.unusedSectionVars false

structure St where
  sl : List (Nat × T)
  hp : List (Nat × Option Ent)
  nx : Nat
def St.get (S : St) (t : Nat) : T := match lk S.sl t with
  | some x => x
  | none => .any
def St.H (S : St) : Hp := hpH S.hp
def St.put (S : St) (d : Option Nat) (x : T) : St := match d with
  | some d => { S with sl := (d, x) :: S.sl }
  | none => S
def pushU (l : List (Nat × Option Ent)) : Upd → List (Nat × Option Ent)
  | [] => l
  | p :: u => pushU (p :: l) u
def St.upd (S : St) (u : Upd) : St := { S with hp := pushU S.hp u }
def ofV : Value → T
  | .int k n => .int k n
  | .bool b => .bool b
  | .string s => .str s.data.toList
  | .agg _ => .any
  | .tuple _ => .any
  | v => .val v
def St.ev (S : St) : Operand → T
  | .tmp t => S.get t
  | .const v => ofV v
  | .global g => .val (.pointer (some ⟨g, 0, none⟩))
  | .func f => .val (.func (.func f) #[] #[])
/-- The state is so: X is the memory, a the slots; X0 is the memory when the call began. -/
structure SR (X0 : Cx) (N : Nat) (S : St) (n : Nat) (X : Cx) (a : Act) : Prop where
  same : Same X0 X
  hr : HR X
  H : X.H = S.H
  lt : ∀ r, X.us r → r < n
  sl : ∀ t, RS X (S.get t) (a.tmps.getD t undef)
  df : a.defers = []
  sz : a.tmps.size = N

theorem pushU_H : ∀ (u : Upd) (l : List (Nat × Option Ent)), hpH (pushU l u) = updL (hpH l) u
  | [], l => rfl
  | (r, e) :: u, l => by
    rw [pushU, pushU_H u, updL]
    congr 1
    funext i
    simp only [hpH, lk, updE]
    cases h : Nat.beq r i with
    | true =>
      have := Nat.eq_of_beq_eq_true h; subst this
      simp
    | false =>
      have : Nat.beq i r = false := by
        cases hb : Nat.beq i r with
        | false => rfl
        | true => have := Nat.eq_of_beq_eq_true hb; subst this; simp at h
      simp [this]
theorem ofV_rs {X : Cx} (v : Value) : RS X (ofV v) v := by
  cases v <;> simp only [ofV]
  case int => exact mk_int _ _ _
  case bool => exact mk_bool _ _
  case string s => have := mk_str X s.data.toList; rwa [data_bs] at this
  case agg => trivial
  case tuple => trivial
  all_goals exact (RV.rs0 (by simp [RV, Value.oneCell'])).rs
theorem ev_rs {X0 X : Cx} {N n : Nat} {S : St} {a : Act} (h : SR X0 N S n X a) (o : Operand) : RS X (S.ev o) (a.eval o) := by
  cases o with
  | tmp t => exact h.sl t
  | const v => exact ofV_rs v
  | global g => exact (RV.rs0 (by simp [RV, St.ev, Act.eval, Value.oneCell'])).rs
  | func f => exact (RV.rs0 (by simp [RV, St.ev, Act.eval, Value.oneCell'])).rs
theorem evs_rs {X0 X : Cx} {N n : Nat} {S : St} {a : Act} (h : SR X0 N S n X a) : ∀ (l : List Operand), Args X (l.map S.ev) (l.map a.eval)
  | [] => rfl
  | o :: l => ⟨_, _, rfl, ev_rs h o, evs_rs h l⟩

/-- The next state, worked out. -/
def forceH {α : Type} (l : List α) (K : List α → Prop) : Prop := match l with
  | [] => K []
  | p :: l => K (p :: l)
theorem forceH_eq {α : Type} {l : List α} {K : List α → Prop} (h : forceH l K) : K l := by cases l <;> exact h
def St.step (S : St) (u : Upd) (d : Option Nat) (x : T) (K : St → Prop) : Prop := match S with
  | ⟨sl, hp, nx⟩ => forceH (pushU hp u) fun hp => match d with
    | some d => K ⟨(d, x) :: sl, hp, nx⟩
    | none => K ⟨sl, hp, nx⟩
theorem St.step_eq {S : St} {u : Upd} {d : Option Nat} {x : T} {K : St → Prop} (h : S.step u d x K) : K ((S.upd u).put d x) := by
  obtain ⟨sl, hp, nx⟩ := S
  have h := forceH_eq (K := fun hp => match d with
    | some d => K ⟨(d, x) :: sl, hp, nx⟩
    | none => K ⟨sl, hp, nx⟩) h
  cases d <;> exact h
def forceN (n : Nat) (K : Nat → Prop) : Prop := match n with
  | 0 => K 0
  | m + 1 => K (m + 1)
theorem forceN_eq {n : Nat} {K : Nat → Prop} (h : forceN n K) : K n := by cases n <;> exact h
def St.nxK (S : St) (n : Nat) (K : St → Prop) : Prop := forceN n fun n => match S with
  | ⟨sl, hp, _⟩ => K ⟨sl, hp, n⟩
theorem St.nxK_eq {S : St} {n : Nat} {K : St → Prop} (h : S.nxK n K) : K { S with nx := n } := forceN_eq (K := fun n => K { S with nx := n }) h
/-! ### operations in a row -/
def OpP (P : Program) (tt : TT) (o : Oper) (S : St) (id : Nat) (K : Kon) : Prop := match o.op with
  | .call c => match c.callee with
    | .value f => match f with
      | .func f => CallP P f (c.args.toList.map S.ev) S.H id fun _ => K
      | _ => False
    | _ => Eff tt (.call c) o.type (c.args.toList.map S.ev) S.H id K
  | op => Eff tt op o.type ((opnds op).map S.ev) S.H id K
def GuardP (S : St) (ops : List Oper) (g : Option (Nat × Bool)) (yes : St → Prop) (no : Prop) : Prop := match g with
  | none => yes S
  | some (j, want) => match ops[j]? with
    | some oj => match oj.dst with
      | some d => match S.get d with
        | .bool b => match want with
          | true => CondB b (S.step [] (some d) (.bool true) yes) no
          | false => CondB b no (S.step [] (some d) (.bool false) yes)
        | .tup _ => no
        | _ => False
      | none => False
    | none => False
def WO (P : Program) (tt : TT) (ops : List Oper) (n0 : Nat) : Nat → List Oper → (St → Prop) → St → Prop
  | i, [], K, S => S.nxK (n0 + 16 * i) K
  | i, o :: r, K, S => GuardP S ops o.guard (fun S1 => forceN (n0 + 16 * i) fun id => OpP P tt o S1 id fun x u => S1.step u o.dst x fun S => WO P tt ops n0 (i + 1) r K S) (S.step [] o.dst (.tup []) fun S => WO P tt ops n0 (i + 1) r K S)
def dstOk (N : Nat) (o : Oper) : Bool := match o.dst with
  | some d => Nat.blt d N
  | none => true

section
variable {P : Program} {tt : TT} (htt : TtOk P tt) {X0 : Cx} {N : Nat}
theorem SR.put {X0 : Cx} {N n : Nat} {X : Cx} {S : St} {a : Act} {d : Option Nat} {x : T} {v : Value} (h : SR X0 N S n X a) (hd : ∀ k, d = some k → k < N) (hv : RS X x v) : SR X0 N (S.put d x) n X (a.put d v) := by
  cases d with
  | none => exact h
  | some k =>
    refine ⟨h.same, h.hr, h.H, h.lt, fun t => ?_, h.df, by simp [Act.put, h.sz]⟩
    have hk := hd k rfl
    by_cases ht : k = t
    · subst ht
      have : (a.put (some k) v).tmps.getD k undef = v := by
        simp only [Act.put, Array.getD_eq_getD_getElem?, Array.getElem?_setIfInBounds, if_true, h.sz, if_pos hk]; rfl
      rw [this]
      have : (S.put (some k) x).get k = x := by simp [St.get, St.put, lk]
      rw [this]; exact hv
    · have : (a.put (some k) v).tmps.getD t undef = a.tmps.getD t undef := by
        simp only [Act.put, Array.getD_eq_getD_getElem?, Array.getElem?_setIfInBounds, if_neg ht]
      rw [this]
      have hb : Nat.beq k t = false := by
        cases hb : Nat.beq k t with
        | false => rfl
        | true => exact absurd (Nat.eq_of_beq_eq_true hb) ht
      have : (S.put (some k) x).get t = S.get t := by simp [St.get, St.put, lk, hb]
      rw [this]; exact h.sl t
theorem SR.out {X0 : Cx} {N n id : Nat} {X X' : Cx} {S : St} {a : Act} {d : Option Nat} {x : T} {v : Value} {u : Upd} (h : SR X0 N S n X a) (hd : ∀ k, d = some k → k < N) (hH : X'.H = updL X.H u) (hn : X'.us = X.win id) (hi : n ≤ id) (hs : Same X X') (hr : HR X') (hv : RS X' x v) :
    SR X0 N ((S.upd u).put d x) (id + 16) X' (a.put d v) := by
  refine SR.put (S := S.upd u) ⟨h.same.trans hs, hr, ?_, fun r hr => ?_, fun t => (h.sl t).mono hs, h.df, h.sz⟩ hd hv
  · rw [hH, h.H]
    show _ = hpH (pushU S.hp u)
    rw [pushU_H]; rfl
  · rw [hn] at hr
    rcases hr with hr | hr
    · have := h.lt r hr; omega
    · omega
theorem SR.out2 {X0 : Cx} {N n id : Nat} {X X' : Cx} {S : St} {a : Act} {d : Option Nat} {x : T} {v : Value} {u : Upd} (h : SR X0 N S n X a) (hd : ∀ k, d = some k → k < N) (hH : X'.H = updL X.H u) (hn : X'.us = X.win id) (hi : id + 16 ≤ n) (hs : Same X X') (hr : HR X') (hv : RS X' x v) :
    SR X0 N ((S.upd u).put d x) n X' (a.put d v) := by
  refine SR.put (S := S.upd u) ⟨h.same.trans hs, hr, ?_, fun r hr => ?_, fun t => (h.sl t).mono hs, h.df, h.sz⟩ hd hv
  · rw [hH, h.H]
    show _ = hpH (pushU S.hp u)
    rw [pushU_H]; rfl
  · rw [hn] at hr
    rcases hr with hr | hr
    · exact h.lt r hr
    · omega
theorem SR.cong {X0 : Cx} {N n : Nat} {X : Cx} {S S' : St} {a : Act} (h : SR X0 N S n X a) (h1 : S'.get = S.get) (h2 : S'.H = S.H) : SR X0 N S' n X a :=
  ⟨h.same, h.hr, h.H.trans h2.symm, h.lt, fun t => by rw [h1]; exact h.sl t, h.df, h.sz⟩
theorem yield_of {X0 : Cx} {N n : Nat} {X : Cx} {S : St} {a : Act} (h : SR X0 N S n X a) {ops : Array Oper} {oj : Oper} {j d : Nat} {b : Bool} (hj : ops.toList[j]? = some oj) (hdst : oj.dst = some d) (hb : S.get d = .bool b) : yielded ops a.tmps j = some b := by
  have hv := rs_bool (by have := h.sl d; rwa [hb] at this)
  have hget : a.tmps[d]? = some (.bool b) := by
    rw [Array.getD_eq_getD_getElem?] at hv
    cases hq : a.tmps[d]? with
    | none => rw [hq] at hv; cases hv
    | some u => rw [hq] at hv; simp at hv; rw [hv]
  have hjj : ops[j]? = some oj := by simpa using hj
  simp [yielded, hjj, hdst, hget]
theorem rs_undef {X : Cx} : RS X (.tup []) undef := ⟨#[], rfl, rfl⟩
theorem yield_no {X0 : Cx} {N n : Nat} {X : Cx} {S : St} {a : Act} (h : SR X0 N S n X a) {ops : Array Oper} {oj : Oper} {j d : Nat} {cs : List T} (hj : ops.toList[j]? = some oj) (hdst : oj.dst = some d) (hb : S.get d = .tup cs) : yielded ops a.tmps j = none := by
  have hjj : ops[j]? = some oj := by simpa using hj
  have hs := h.sl d
  rw [hb] at hs
  obtain ⟨vs, hv, _⟩ := hs
  rw [Array.getD_eq_getD_getElem?] at hv
  simp only [yielded, hjj, hdst, Option.bind_some]
  cases hq : a.tmps[d]? with
  | none => rfl
  | some u => rw [hq] at hv; simp at hv; rw [hv]
theorem SR.fresh {X0 : Cx} {N n id : Nat} {X : Cx} {S : St} {a : Act} (h : SR X0 N S n X a) (hi : n ≤ id) : Fresh X id := fun r h1 _ h3 => by have := h.lt r h3; omega
include htt
theorem op_sound {o : Oper} {S : St} {n id : Nat} {X : Cx} {a : Act} {K : Kon} {Q : Exit → Act → World → Prop} (h : SR X0 N S n X a) (hix : Fresh X id) (hw : OpP P tt o S id K) {next : Act → World → Prop}
    (hnext : ∀ x u v X', K x u → X'.H = updL X.H u → X'.us = X.win id → Same X X' → HR X' → RS X' x v → next (a.put o.dst v) X'.w) : o.wp P a X.w next Q := by
  have fin : Ran P X id K (execOp a.eval o) → o.wp P a X.w next Q := fun hr => by
    obtain ⟨nn, v, w', hrun, hnv, x, u, X', hk, rfl, hn, hH, hs, hr', hv⟩ := hr
    unfold Oper.wp
    rw [hrun]
    rcases hnv with rfl | ⟨rfl, rfl⟩
    · exact hnext x u v X' hk hH hn hs hr' hv
    · exact hnext x u undef X' hk hH hn hs hr' hv
  obtain ⟨dst, op, ty, pos, after, guard⟩ := o
  unfold OpP at hw
  split at hw
  · rename_i c hop
    subst hop
    split at hw
    · rename_i f hc
      split at hw
      · rename_i fid
        rw [h.H.symm] at hw
        have hcall := call_sound h.hr hix (evs_rs h c.args.toList) hw
        obtain ⟨gs, σ, He, ts, r, He', ⟨⟨fn, hf, hname, hbody⟩, _⟩, _⟩ := hw
        have hm : (c.args.map a.eval) = (c.args.toList.map a.eval).toArray := by rw [← Array.toArray_toList (xs := c.args.map a.eval), Array.toList_map]
        have hexec : (execOp a.eval ⟨dst, .call c, ty, pos, after, guard⟩).run P X.w = .ok (.enter fid (c.args.toList.map a.eval).toArray) X.w := by
          simp only [execOp, resolve, hc, Act.eval, Deferred.ofValue, Sem.run_bind, Sem.run_pure, Result.andThen_ok, invoke, callFunc, run_program, hf, hname, hbody, hm]
          simp
        unfold Oper.wp
        rw [hexec, Oper.upon_enter]
        refine hcall.mono ?_
        rintro e w' ⟨v, rfl, x, u, X', hk, rfl, hn, hH, hs, hr', hv⟩
        exact hnext x u v X' hk hH hn hs hr' hv
      · exact hw.elim
    · rename_i hc
      refine fin (eff_sound htt h.hr hix (args := c.args.toList.map S.ev) ?_ (by rw [h.H]; exact hw))
      have : opnds (.call c) = c.args.toList := by
        simp only [opnds]
        cases hcc : c.callee with
        | value f => exact absurd hcc (hc f)
        | invoke r m => simp
        | builtin b => simp
      rw [this]; exact evs_rs h _
  · rename_i hop
    refine fin (eff_sound htt h.hr hix (args := (opnds op).map S.ev) (evs_rs h _) ?_)
    rw [h.H]
    have : ∀ c, op ≠ .call c := fun c => hop c
    cases op <;> first | exact hw | exact absurd rfl (this _)
theorem guard_sound {o : Oper} {ops : Array Oper} {S : St} {n : Nat} {X : Cx} {a : Act} {yes : St → Prop} {no : Prop} {R : Prop} (h : SR X0 N S n X a) (hg : GuardP S ops.toList o.guard yes no)
    (hy : ∀ S1, SR X0 N S1 n X a → yes S1 → Region.wanted o (yielded ops a.tmps) = true → R) (hn : no → Region.wanted o (yielded ops a.tmps) = false → R) : R := by
  unfold GuardP at hg
  split at hg
  · rename_i hgd
    exact hy S h hg (by simp [Region.wanted, hgd])
  · rename_i j want hgd
    split at hg <;> try exact hg.elim
    rename_i oj hj
    split at hg <;> try exact hg.elim
    rename_i d hdst
    split at hg <;> try exact hg.elim
    case h_2 =>
      rename_i cs hb
      have := yield_no h (ops := ops) hj hdst hb
      exact hn hg (by simp [Region.wanted, hgd, this])
    rename_i b hb
    have hv := rs_bool (by have := h.sl d; rwa [hb] at this)
    have hget : a.tmps[d]? = some (.bool b) := by
      rw [Array.getD_eq_getD_getElem?] at hv
      cases hq : a.tmps[d]? with
      | none => rw [hq] at hv; cases hv
      | some u => rw [hq] at hv; simp at hv; rw [hv]
    have hjj : ops[j]? = some oj := by simpa using hj
    have hyl : yielded ops a.tmps j = some b := by simp [yielded, hjj, hdst, hget]
    have put : ∀ b', b = b' → SR X0 N (S.put (some d) (.bool b')) n X a := fun b' e => by
      subst e
      refine ⟨h.same, h.hr, h.H, h.lt, fun t => ?_, h.df, h.sz⟩
      by_cases ht : d = t
      · subst ht
        have : (S.put (some d) (.bool b)).get d = .bool b := by simp [St.get, St.put, lk]
        rw [this, hv]; exact mk_bool _ _
      · have hb : Nat.beq d t = false := by
          cases hb : Nat.beq d t with
          | false => rfl
          | true => exact absurd (Nat.eq_of_beq_eq_true hb) ht
        have : (S.put (some d) (.bool b)).get t = S.get t := by simp [St.get, St.put, lk, hb]
        rw [this]; exact h.sl t
    split at hg
    · cases b
      · exact hn (hg.2 rfl) (by simp [Region.wanted, hgd, hyl])
      · exact hy _ (put true rfl) (St.step_eq (hg.1 rfl)) (by simp [Region.wanted, hgd, hyl])
    · cases b
      · exact hy _ (put false rfl) (St.step_eq (hg.2 rfl)) (by simp [Region.wanted, hgd, hyl])
      · exact hn (hg.1 rfl) (by simp [Region.wanted, hgd, hyl])
theorem wo_sound {ops : Array Oper} {n0 : Nat} {K : St → Prop} {Q : Exit → Act → World → Prop} (hQ : ∀ S X a, SR X0 N S S.nx X a → K S → Q .normal a X.w) :
    ∀ {l : List Oper} {i : Nat} {S : St} {n : Nat} {X : Cx} {a : Act}, (l.all (dstOk N)) = true → SR X0 N S n X a → n ≤ n0 + 16 * i → WO P tt ops.toList n0 i l K S → wpList P ops Q l a X.w
  | [], i, S, n, X, a, _, h, hn, hw => by
    have hw := St.nxK_eq hw
    exact hQ { S with nx := n0 + 16 * i } X a ⟨h.same, h.hr, h.H, fun r hr => Nat.lt_of_lt_of_le (h.lt r hr) hn, h.sl, h.df, h.sz⟩ hw
  | o :: l, i, S, n, X, a, hd, h, hn, hw => by
    simp only [List.all_cons, Bool.and_eq_true] at hd
    have hdk : ∀ k, o.dst = some k → k < N := fun k hk => by
      have h2 : Nat.blt k N = true := by have h3 := hd.1; unfold dstOk at h3; rw [hk] at h3; exact h3
      exact Nat.le_of_ble_eq_true h2
    simp only [WO] at hw
    simp only [wpList]
    refine guard_sound htt h hw (fun S1 h1 hw1 hwant => ?_) (fun hw1 hwant => ?_)
    · rw [if_pos hwant]
      left
      have hw1 := forceN_eq hw1
      exact op_sound htt h1 (h1.fresh hn) hw1 (fun x u v X' hk hH hnx hs hr hv => wo_sound hQ hd.2 (h1.out hdk hH hnx hn hs hr hv) (by omega) (St.step_eq hk))
    · rw [if_neg (by simp [hwant])]
      exact wo_sound hQ hd.2 (h.put (x := .tup []) hdk rs_undef) (by omega) (St.step_eq hw1)

end
end Go.Proofs.Ytkdajahiaedoiaa
