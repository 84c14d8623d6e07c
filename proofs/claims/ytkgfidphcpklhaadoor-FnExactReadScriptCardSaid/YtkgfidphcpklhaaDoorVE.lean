/- Regions that draw their order: the order of the text serves, if what two operations share is ordered. -/
import Derived.Test.YtkgfidphcpklhaaDoorVD
import Derived.Orders
set_option linter.unusedSimpArgs false
namespace Go.Proofs.YtkgfidphcpklhaaDoor
open Go.RowKit Pl
set_option linter.unusedVariables false
set_option linter.unusedSectionVars false

/-! ### what comes before what -/
def upOne (tab : List Nat) (l : List Edge) : Nat := match l with
  | [] => 0
  | e :: l => (bif Region.binds .any e then 2 ^ e.on ||| tab.getD e.on 0 else 0) ||| upOne tab l
def upTab : List Oper → List Nat → List Nat
  | [], tab => tab
  | o :: l, tab => upTab l (tab ++ [upOne tab o.after.toList])
def disj (a b : List Nat) : Bool := a.all fun x => b.all fun y => !Nat.beq x y
def pw {α : Type} (f : α → α → Bool) : List α → Bool
  | [] => true
  | x :: l => l.all (f x) && pw f l
def looksO (ops : List Oper) (o : Oper) : List Nat := tmpsO o ++ (match o.guard with
  | some (j, _) => match ops[j]? with
    | some oj => oj.dst.toList
    | none => []
  | none => [])
def enumO : Nat → List Oper → List (Nat × Oper)
  | _, [] => []
  | i, o :: l => (i, o) :: enumO (i + 1) l
/-- The slots: an earlier x and a later y. -/
def slOk (ops : List Oper) (tab : List Nat) (x y : Nat × Oper) : Bool :=
  (tab.getD y.1 0).testBit x.1 || (disj x.2.dst.toList (looksO ops y.2 ++ y.2.dst.toList) && disj y.2.dst.toList (looksO ops x.2))
def edOk (x : Nat × Oper) : Bool := x.2.after.toList.all fun e => !Region.binds .any e || Nat.blt e.on x.1
def stOk (ops : List Oper) (tab : List Nat) : Bool := (enumO 0 ops).all edOk && pw (slOk ops tab) (enumO 0 ops)
abbrev Tr := Nat × List Nat × List Nat
/-- The numbers: a later y and an earlier x. -/
def nuOk (tab : List Nat) (y x : Tr) : Bool := (tab.getD y.1 0).testBit x.1 || (disj x.2.2 (y.2.1 ++ y.2.2) && disj y.2.2 x.2.1)

theorem disj_spec {a b : List Nat} (h : disj a b = true) {x : Nat} (h1 : x ∈ a) (h2 : x ∈ b) : False := by
  have := List.all_eq_true.1 (List.all_eq_true.1 h x h1) x h2
  simp at this
theorem pw_spec {α : Type} {f : α → α → Bool} : ∀ {l : List α}, pw f l = true → ∀ {i j : Nat} {a b : α}, i < j → l[i]? = some a → l[j]? = some b → f a b = true
  | [], _, i, j, a, b, _, h, _ => by simp at h
  | x :: l, h, i, j, a, b, hij, ha, hb => by
    simp only [pw, Bool.and_eq_true] at h
    cases j with
    | zero => omega
    | succ j =>
      simp at hb
      cases i with
      | zero => simp at ha; subst ha; exact List.all_eq_true.1 h.1 b (List.mem_of_getElem? hb)
      | succ i => simp at ha; exact pw_spec h.2 (by omega) ha hb
theorem enumO_get : ∀ {l : List Oper} {i j : Nat}, (enumO i l)[j]? = (l[j]?).map fun o => (i + j, o)
  | [], i, j => by simp [enumO]
  | o :: l, i, j => by
    cases j with
    | zero => simp [enumO]
    | succ j => simp [enumO, enumO_get]; congr; funext o; congr 1; omega
/-- Whatever is in the set drags in what comes before it. -/
def Clo (ops : List Oper) (X : Nat → Bool) : Prop := ∀ k o, ops[k]? = some o → X k = true → ∀ e ∈ o.after.toList, Region.binds .any e = true → X e.on = true
def UpOk (ops : List Oper) (k m : Nat) : Prop := ∀ X : Nat → Bool, Clo ops X → ∀ o, ops[k]? = some o → (∀ e ∈ o.after.toList, Region.binds .any e = true → X e.on = true) → ∀ j, m.testBit j = true → X j = true
theorem upOne_ok {ops : List Oper} {tab : List Nat} (ht : ∀ i, i < tab.length → UpOk ops i (tab.getD i 0)) (hlen : tab.length ≤ ops.length) {X : Nat → Bool} (hX : Clo ops X) : ∀ {l : List Edge}, (∀ e ∈ l, Region.binds .any e = true → X e.on = true) → ∀ j, (upOne tab l).testBit j = true → X j = true
  | [], _, j, h => by simp [upOne] at h
  | e :: l, he, j, h => by
    simp only [upOne, Nat.testBit_or, Bool.or_eq_true] at h
    rcases h with h | h
    · cases hb : Region.binds .any e with
      | false => rw [hb] at h; simp at h
      | true =>
        rw [hb, cond_true, Nat.testBit_or, Bool.or_eq_true] at h
        have hon := he e (by simp) hb
        rcases h with h | h
        · rw [Nat.testBit_two_pow] at h
          have : e.on = j := by simpa using h
          rw [← this]; exact hon
        · by_cases hl : e.on < tab.length
          · have hl2 : e.on < ops.length := by omega
            have hg : ops[e.on]? = some ops[e.on] := List.getElem?_eq_getElem hl2
            exact ht _ hl X hX _ hg (hX _ _ hg hon) j h
          · have : tab.getD e.on 0 = 0 := by simp [List.getD, List.getElem?_eq_none (by omega : tab.length ≤ e.on)]
            rw [this] at h; simp at h
    · exact upOne_ok ht hlen hX (fun e he' => he e (by simp [he'])) j h
theorem upTab_ok {ops : List Oper} : ∀ {l : List Oper} {tab : List Nat}, (∀ j, l[j]? = ops[tab.length + j]?) → tab.length + l.length = ops.length → (∀ i, i < tab.length → UpOk ops i (tab.getD i 0)) → ∀ i, i < ops.length → UpOk ops i ((upTab l tab).getD i 0)
  | [], tab, _, hlen, ht, i, hi => ht i (by simp at hlen; omega)
  | o :: l, tab, hl, hlen, ht, i, hi => by
    simp only [upTab]
    simp only [List.length_cons] at hlen
    refine upTab_ok (l := l) (tab := tab ++ [upOne tab o.after.toList]) (fun j => ?_) (by simp; omega) (fun i hi => ?_) i hi
    · have := hl (j + 1)
      simp only [List.getElem?_cons_succ] at this
      rw [this]; congr 1; simp; omega
    · simp only [List.length_append, List.length_singleton] at hi
      by_cases h : i < tab.length
      · have : (tab ++ [upOne tab o.after.toList]).getD i 0 = tab.getD i 0 := by simp [List.getD, List.getElem?_append_left h]
        rw [this]; exact ht i h
      · have hi2 : i = tab.length := by omega
        subst hi2
        have : (tab ++ [upOne tab o.after.toList]).getD tab.length 0 = upOne tab o.after.toList := by simp [List.getD]
        rw [this]
        intro X hX o' ho' he
        have h0 := hl 0
        simp only [List.getElem?_cons_zero, Nat.add_zero] at h0
        rw [ho'] at h0; injection h0 with h0; subst h0
        exact upOne_ok ht (by omega) hX he

/-! ### the record of a run in the text's order -/
structure Rc where
  o : Oper
  want : Bool
  x : T
  u : Upd
  rd : List Nat
section
variable {V : Type} (ap : Rc → (Nat → V) → Nat → V) (wr : Rc → Nat → Prop) (h1 : ∀ rc g t, ¬ wr rc t → ap rc g t = g t) (h2 : ∀ rc g g' t, wr rc t → ap rc g t = ap rc g' t)
def fld : List Rc → Nat → (Nat → Bool) → (Nat → V) → Nat → V
  | [], _, _, g => g
  | rc :: l, i, X, g => fld l (i + 1) X (bif X i then ap rc g else g)
include h1 h2
theorem fld_agr : ∀ {l : List Rc} {i : Nat} {X Y : Nat → Bool} {g g' : Nat → V} {t : Nat}, g t = g' t → (∀ j rc, l[j]? = some rc → wr rc t → X (i + j) = Y (i + j)) → fld ap l i X g t = fld ap l i Y g' t
  | [], i, X, Y, g, g', t, hg, _ => hg
  | rc :: l, i, X, Y, g, g', t, hg, h => by
    simp only [fld]
    refine fld_agr ?_ (fun j rc' hj hw => by have := h (j + 1) rc' (by simpa using hj) hw; rwa [show i + (j + 1) = i + 1 + j by omega] at this)
    by_cases hw : wr rc t
    · have hxy := h 0 rc (by simp) hw
      rw [Nat.add_zero] at hxy
      rw [hxy]
      cases Y i with
      | true => exact h2 _ _ _ _ hw
      | false => exact hg
    · cases X i <;> cases Y i <;> simp [h1 _ _ _ hw, hg]
theorem fld_succ : ∀ {l : List Rc} {i j : Nat} {g : Nat → V} {rc : Rc} {t : Nat}, l[j]? = some rc → fld ap l i (fun k => decide (k < i + j + 1)) g t = ap rc (fld ap l i (fun k => decide (k < i + j)) g) t
  | [], i, j, g, rc, t, h => by simp at h
  | rc0 :: l, i, j, g, rc, t, h => by
    cases j with
    | zero =>
      simp at h; subst h
      simp only [fld, Nat.add_zero, show i < i + 1 by omega, decide_true, cond_true, Nat.lt_irrefl, decide_false, cond_false]
      have e1 : fld ap l (i + 1) (fun k => decide (k < i + 1)) (ap rc0 g) t = ap rc0 g t := by
        have : ∀ (l : List Rc) (i' : Nat) (g : Nat → V), i + 1 ≤ i' → fld ap l i' (fun k => decide (k < i + 1)) g = g := by
          intro l
          induction l with
          | nil => intros; rfl
          | cons c l ih => intro i' g hi'; simp only [fld, show ¬ i' < i + 1 by omega, decide_false, cond_false]; exact ih _ _ (by omega)
        rw [this l _ _ (Nat.le_refl _)]
      have e2 : fld ap l (i + 1) (fun k => decide (k < i)) g = g := by
        have : ∀ (l : List Rc) (i' : Nat) (g : Nat → V), i ≤ i' → fld ap l i' (fun k => decide (k < i)) g = g := by
          intro l
          induction l with
          | nil => intros; rfl
          | cons c l ih => intro i' g hi'; simp only [fld, show ¬ i' < i by omega, decide_false, cond_false]; exact ih _ _ (by omega)
        exact this l _ _ (by omega)
      rw [e1, e2]
    | succ j =>
      simp at h
      simp only [fld, show i < i + (j + 1) + 1 by omega, show i < i + (j + 1) by omega, decide_true, cond_true]
      have := fld_succ (l := l) (i := i + 1) (j := j) (g := ap rc0 g) (t := t) h
      rwa [show i + 1 + j + 1 = i + (j + 1) + 1 by omega, show i + 1 + j = i + (j + 1) by omega] at this
omit h1 h2 in
theorem fld_take : ∀ {l : List Rc} {i j : Nat} {g : Nat → V}, fld ap l i (fun k => decide (k < i + j)) g = (l.take j).foldl (fun g rc => ap rc g) g
  | [], i, j, g => by simp [fld]
  | rc :: l, i, j, g => by
    cases j with
    | zero =>
      have : ∀ (l : List Rc) (i' : Nat) (g : Nat → V), i ≤ i' → fld ap l i' (fun k => decide (k < i + 0)) g = g := by
        intro l
        induction l with
        | nil => intros; rfl
        | cons c l ih => intro i' g hi'; simp only [fld, show ¬ i' < i + 0 by omega, decide_false, cond_false]; exact ih _ _ (by omega)
      simp only [List.take_zero, List.foldl_nil]; exact this _ _ _ (Nat.le_refl _)
    | succ j =>
      simp only [fld, show i < i + (j + 1) by omega, decide_true, cond_true, List.take_succ_cons, List.foldl_cons]
      have := fld_take (l := l) (i := i + 1) (j := j) (g := ap rc g)
      rwa [show i + 1 + j = i + (j + 1) by omega] at this
end
def apG (rc : Rc) (g : Nat → T) : Nat → T := fun t => if rc.o.dst = some t then rc.x else g t
def apH (rc : Rc) (H : Hp) : Hp := updL H rc.u
def keys (u : Upd) : List Nat := u.map (·.1)
theorem apG_1 (rc : Rc) (g : Nat → T) (t : Nat) (h : ¬ rc.o.dst = some t) : apG rc g t = g t := by simp [apG, h]
theorem apG_2 (rc : Rc) (g g' : Nat → T) (t : Nat) (h : rc.o.dst = some t) : apG rc g t = apG rc g' t := by simp [apG, h]
theorem updL_not : ∀ {u : Upd} {H : Hp} {r : Nat}, r ∉ keys u → updL H u r = H r
  | [], H, r, _ => rfl
  | (a, e) :: u, H, r, h => by
    simp only [keys, List.map_cons, List.mem_cons, not_or] at h
    simp only [updL]
    rw [updL_not h.2, updE_other _ _ h.1]
theorem updL_in : ∀ {u : Upd} {H H' : Hp} {r : Nat}, (r ∈ keys u ∨ H r = H' r) → updL H u r = updL H' u r
  | [], H, H', r, h => by simpa [keys, updL] using h
  | (a, e) :: u, H, H', r, h => by
    simp only [updL]
    refine updL_in ?_
    by_cases ha : r = a
    · subst ha; right; rw [updE_same, updE_same]
    · rw [updE_other _ _ ha, updE_other _ _ ha]
      simp only [keys, List.map_cons, List.mem_cons, ha, false_or] at h
      exact h
theorem apH_1 (rc : Rc) (H : Hp) (r : Nat) (h : ¬ r ∈ keys rc.u) : apH rc H r = H r := updL_not h
theorem apH_2 (rc : Rc) (H H' : Hp) (r : Nat) (h : r ∈ keys rc.u) : apH rc H r = apH rc H' r := updL_in (.inl h)

/-! ### the run in the text's order, and what it shows -/
def addTr (i : Nat) (rd wr : List Nat) (tr : List Tr) (K : List Tr → Prop) : Prop := forceSp rd fun rd => forceSp wr fun wr => match rd, wr with
  | [], [] => K tr
  | rd, wr => K ((i, rd, wr) :: tr)
theorem addTr_eq {i : Nat} {rd wr : List Nat} {tr : List Tr} {K : List Tr → Prop} (h : addTr i rd wr tr K) : K (bif !(rd.isEmpty && wr.isEmpty) then (i, rd, wr) :: tr else tr) := by
  have h := forceSp_eq (forceSp_eq h)
  cases rd <;> cases wr <;> exact h
def Rc.on (rc : Rc) : Bool := rc.want && !(rc.rd.isEmpty && (keys rc.u).isEmpty)
def WDr (P : Program) (tt : TT) (ops : List Oper) (n0 : Nat) : Nat → List Oper → List Tr → (List Tr → St → Prop) → St → Prop
  | i, [], tr, K, S => S.nxK (n0 + 16 * i) (K tr)
  | i, o :: r, tr, K, S => GuardP S ops o.guard (fun S1 => forceN (n0 + 16 * i) fun id => OpDF P tt o S1 id fun x u rd => S1.step u o.dst x fun S => addTr i rd (keys u) tr fun tr => WDr P tt ops n0 (i + 1) r tr K S)
      (S.step [] o.dst (.tup []) fun S => WDr P tt ops n0 (i + 1) r tr K S)
def gd (ops : List Oper) (g : Nat → T) (o : Oper) (want : Bool) : Prop := match o.guard with
  | none => want = true
  | some (j, w) => ∃ oj d, ops[j]? = some oj ∧ oj.dst = some d ∧ ((∃ b, g d = .bool b ∧ want = (b == w)) ∨ (∃ cs, g d = .tup cs ∧ want = false))
def TRun (P : Program) (tt : TT) (ops : List Oper) (n0 : Nat) : Nat → List Oper → (Nat → T) → Hp → List Rc → Prop
  | _, [], _, _, R => R = []
  | i, o :: l, g, H, R => ∃ rc R', R = rc :: R' ∧ rc.o = o ∧ gd ops g o rc.want ∧
      (rc.want = true → ∀ S' : St, (∀ t ∈ tmpsO o, S'.get t = g t) → Agr H S'.H rc.rd → OpP P tt o S' (n0 + 16 * i) fun x u => x = rc.x ∧ u = rc.u) ∧ (rc.want = false → rc.x = .tup [] ∧ rc.u = []) ∧
      TRun P tt ops n0 (i + 1) l (apG rc g) (apH rc H) R'
def trOf : Nat → List Rc → List Tr → List Tr
  | _, [], tr => tr
  | i, rc :: R, tr => trOf (i + 1) R (bif rc.on then (i, rc.rd, keys rc.u) :: tr else tr)
theorem put_get (S : St) (u : Upd) (d : Option Nat) (x : T) : ((S.upd u).put d x).get = fun t => if d = some t then x else S.get t := by
  funext t
  cases d with
  | none => simp [St.put, St.upd, St.get]
  | some d =>
    by_cases h : d = t
    · subst h; simp [St.put, St.get, lk]
    · have hb : Nat.beq d t = false := by
        cases hb : Nat.beq d t with
        | false => rfl
        | true => exact absurd (Nat.eq_of_beq_eq_true hb) h
      simp [St.put, St.upd, St.get, lk, hb, h]
theorem put_H (S : St) (u : Upd) (d : Option Nat) (x : T) : ((S.upd u).put d x).H = updL S.H u := by
  have : ((S.upd u).put d x).H = hpH (pushU S.hp u) := by cases d <;> rfl
  rw [this, pushU_H]; rfl
theorem guard_cases {ops : List Oper} {S : St} {o : Oper} {yes : St → Prop} {no : Prop} (h : GuardP S ops o.guard yes no) :
    (gd ops S.get o true ∧ ∃ S1 : St, S1.get = S.get ∧ S1.H = S.H ∧ yes S1) ∨ (gd ops S.get o false ∧ no) := by
  unfold GuardP at h
  unfold gd
  split at h
  · rename_i hg; rw [hg]; exact .inl ⟨rfl, S, rfl, rfl, h⟩
  · rename_i j want hg
    rw [hg]
    split at h <;> try exact h.elim
    rename_i oj hj
    split at h <;> try exact h.elim
    rename_i d hd
    split at h <;> try exact h.elim
    case h_2 =>
      rename_i cs hb
      exact .inr ⟨⟨oj, d, hj, hd, .inr ⟨cs, hb, rfl⟩⟩, h⟩
    rename_i b hb
    have key : ((S.upd []).put (some d) (.bool b)).get = S.get := by
      rw [put_get]; funext t
      by_cases ht : d = t
      · subst ht; simp [hb]
      · simp [ht]
    have keyH : ((S.upd []).put (some d) (.bool b)).H = S.H := by rw [put_H]; rfl
    split at h
    · cases b with
      | true => exact .inl ⟨⟨oj, d, hj, hd, .inl ⟨true, hb, rfl⟩⟩, _, key, keyH, St.step_eq (h.1 rfl)⟩
      | false => exact .inr ⟨⟨oj, d, hj, hd, .inl ⟨false, hb, rfl⟩⟩, h.2 rfl⟩
    · cases b with
      | true => exact .inr ⟨⟨oj, d, hj, hd, .inl ⟨true, hb, rfl⟩⟩, h.1 rfl⟩
      | false => exact .inl ⟨⟨oj, d, hj, hd, .inl ⟨false, hb, rfl⟩⟩, _, key, keyH, St.step_eq (h.2 rfl)⟩
theorem wdr_run {P : Program} {tt : TT} {ops : List Oper} {n0 : Nat} {K : List Tr → St → Prop} : ∀ {l : List Oper} {i : Nat} {tr : List Tr} {S : St}, WDr P tt ops n0 i l tr K S →
    ∃ R S', TRun P tt ops n0 i l S.get S.H R ∧ R.length = l.length ∧ K (trOf i R tr) S' ∧ S'.get = R.foldl (fun g rc => apG rc g) S.get ∧ S'.H = R.foldl (fun H rc => apH rc H) S.H ∧ S'.nx = n0 + 16 * (i + l.length)
  | [], i, tr, S, h => ⟨[], { S with nx := n0 + 16 * i }, rfl, rfl, St.nxK_eq h, rfl, rfl, rfl⟩
  | o :: l, i, tr, S, h => by
    simp only [WDr] at h
    rcases guard_cases h with ⟨hg, S1, e1, e2, h⟩ | ⟨hg, h⟩
    · have h := forceN_eq h
      obtain ⟨x, u, rd, hk, hdet⟩ := opD_det (opDF h)
      have hk := addTr_eq (St.step_eq hk)
      obtain ⟨R, S', q1, q2, q3, q4, q5, q6⟩ := wdr_run hk
      rw [put_get, e1] at q1 q4
      rw [put_H, e2] at q1 q5
      refine ⟨⟨o, true, x, u, rd⟩ :: R, S', ⟨_, _, rfl, rfl, hg, fun _ S2 hs ha => hdet S2 (fun t ht => by rw [e1]; exact hs t ht) (by rw [e2]; exact ha), fun e => (by cases e), q1⟩, by simp [q2], q3, q4, q5, ?_⟩
      rw [q6]; simp; omega
    · obtain ⟨R, S', q1, q2, q3, q4, q5, q6⟩ := wdr_run (St.step_eq h)
      rw [put_get] at q1 q4
      rw [put_H] at q1 q5
      refine ⟨⟨o, false, .tup [], [], []⟩ :: R, S', ⟨_, _, rfl, rfl, hg, fun e => (by cases e), fun _ => ⟨rfl, rfl⟩, q1⟩, by simp [q2], q3, q4, q5, ?_⟩
      rw [q6]; simp; omega
theorem trun_get {P : Program} {tt : TT} {ops : List Oper} {n0 : Nat} : ∀ {l : List Oper} {i j : Nat} {g : Nat → T} {H : Hp} {R : List Rc} {rc : Rc}, TRun P tt ops n0 i l g H R → R[j]? = some rc →
    l[j]? = some rc.o ∧ gd ops ((R.take j).foldl (fun g rc => apG rc g) g) rc.o rc.want ∧
      (rc.want = true → ∀ S' : St, (∀ t ∈ tmpsO rc.o, S'.get t = (R.take j).foldl (fun g rc => apG rc g) g t) → Agr ((R.take j).foldl (fun H rc => apH rc H) H) S'.H rc.rd → OpP P tt rc.o S' (n0 + 16 * (i + j)) fun x u => x = rc.x ∧ u = rc.u) ∧ (rc.want = false → rc.x = .tup [] ∧ rc.u = [])
  | [], i, j, g, H, R, rc, h, hj => by have : R = [] := h; subst this; simp at hj
  | o :: l, i, j, g, H, R, rc, h, hj => by
    obtain ⟨rc0, R', rfl, h1, h2, h3, h4, h5⟩ := h
    cases j with
    | zero => simp at hj; subst hj; subst h1; exact ⟨rfl, h2, h3, h4⟩
    | succ j =>
      simp at hj
      have := trun_get h5 hj
      simp only [List.getElem?_cons_succ, List.take_succ_cons, List.foldl_cons]
      rwa [show i + (j + 1) = i + 1 + j by omega]
theorem trOf_keep : ∀ {R : List Rc} {i : Nat} {tr : List Tr}, ∃ p, trOf i R tr = p ++ tr
  | [], i, tr => ⟨[], rfl⟩
  | rc :: R, i, tr => by
    obtain ⟨p, hp⟩ := trOf_keep (R := R) (i := i + 1) (tr := bif rc.on then (i, rc.rd, keys rc.u) :: tr else tr)
    cases hw : rc.on with
    | false => rw [hw] at hp; exact ⟨p, by simp only [trOf, hw, cond_false]; exact hp⟩
    | true => rw [hw] at hp; exact ⟨p ++ [(i, rc.rd, keys rc.u)], by simp only [trOf, hw, cond_true]; rw [cond_true] at hp; rw [hp]; simp⟩
theorem pw_app {α : Type} {f : α → α → Bool} : ∀ {p q : List α}, pw f (p ++ q) = true → pw f q = true ∧ ∀ a ∈ p, ∀ b ∈ q, f a b = true
  | [], q, h => ⟨h, fun a ha => by cases ha⟩
  | x :: p, q, h => by
    simp only [List.cons_append, pw, Bool.and_eq_true] at h
    obtain ⟨h1, h2⟩ := pw_app h.2
    refine ⟨h1, fun a ha b hb => ?_⟩
    cases ha with
    | head => exact List.all_eq_true.1 h.1 b (List.mem_append_right _ hb)
    | tail _ hm => exact h2 a hm b hb
theorem trOf_mem : ∀ {R : List Rc} {i j : Nat} {tr : List Tr} {rc : Rc}, R[j]? = some rc → rc.on = true → (i + j, rc.rd, keys rc.u) ∈ trOf i R tr
  | [], i, j, tr, rc, h, _ => by simp at h
  | rc0 :: R, i, j, tr, rc, h, hw => by
    cases j with
    | zero =>
      simp at h; subst h
      obtain ⟨p, hp⟩ := trOf_keep (R := R) (i := i + 1) (tr := (i, rc0.rd, keys rc0.u) :: tr)
      simp [trOf, hw, hp]
    | succ j =>
      simp at h
      simp only [trOf]
      have := trOf_mem (i := i + 1) (tr := bif rc0.on then (i, rc0.rd, keys rc0.u) :: tr else tr) h hw
      rwa [show i + (j + 1) = i + 1 + j by omega]
theorem trOf_pw {f : Tr → Tr → Bool} : ∀ {R : List Rc} {i a b : Nat} {tr : List Tr} {x y : Rc}, pw f (trOf i R tr) = true → a < b → R[a]? = some x → R[b]? = some y → x.on = true → y.on = true → f (i + b, y.rd, keys y.u) (i + a, x.rd, keys x.u) = true
  | [], i, a, b, tr, x, y, _, _, h, _, _, _ => by simp at h
  | rc :: R, i, a, b, tr, x, y, h, hab, hx, hy, wx, wy => by
    cases b with
    | zero => omega
    | succ b =>
      simp at hy
      cases a with
      | succ a =>
        simp at hx
        simp only [trOf] at h
        have := trOf_pw h (by omega) hx hy wx wy
        rwa [show i + (b + 1) = i + 1 + b by omega, show i + (a + 1) = i + 1 + a by omega]
      | zero =>
        simp at hx; subst hx
        simp only [trOf, wx, cond_true] at h
        have hm : (i + 1 + b, y.rd, keys y.u) ∈ trOf (i + 1) R [] := trOf_mem hy wy
        have hsp : ∀ {R : List Rc} {i : Nat} {tr : List Tr}, trOf i R tr = trOf i R [] ++ tr := by
          intro R
          induction R with
          | nil => intros; rfl
          | cons c R ih =>
            intro i tr
            cases hw : c.on with
            | false => simp only [trOf, hw, cond_false]; exact ih
            | true => simp only [trOf, hw, cond_true]; rw [ih, ih (tr := [(i, c.rd, keys c.u)])]; simp
        rw [hsp] at h
        have := (pw_app h).2 _ hm _ (List.mem_cons_self ..)
        rwa [show i + (b + 1) = i + 1 + b by omega, Nat.add_zero]

section
variable {V : Type} (ap : Rc → (Nat → V) → Nat → V) (wr : Rc → Nat → Prop) (h1 : ∀ rc g t, ¬ wr rc t → ap rc g t = g t) (h2 : ∀ rc g g' t, wr rc t → ap rc g t = ap rc g' t)
include h1 h2
theorem fld_step {R : List Rc} {k : Nat} {rck : Rc} {X X' : Nat → Bool} {g : Nat → V} (hk : R[k]? = some rck) (hX' : ∀ i, X' i = if i = k then true else X i)
    (hc : ∀ i rc t, R[i]? = some rc → wr rc t → wr rck t → i ≠ k → X i = decide (i < k)) : fld ap R 0 X' g = ap rck (fld ap R 0 X g) := by
  funext t
  by_cases hw : wr rck t
  · have e1 : fld ap R 0 X' g t = fld ap R 0 (fun i => decide (i < 0 + k + 1)) g t := fld_agr ap wr h1 h2 rfl fun i rc hi hwi => by
      rw [Nat.zero_add, hX']
      by_cases hik : i = k
      · subst hik; simp
      · rw [if_neg hik, hc i rc t hi hwi hw hik]
        simp only [Nat.zero_add]
        congr 1
        exact propext ⟨fun h => by omega, fun h => by omega⟩
    rw [e1, fld_succ ap wr h1 h2 hk]
    exact h2 _ _ _ _ hw
  · rw [h1 _ _ _ hw]
    refine fld_agr ap wr h1 h2 rfl fun i rc hi hwi => ?_
    rw [Nat.zero_add, hX', if_neg]
    intro hik; subst hik
    rw [hk] at hi; injection hi with hi; subst hi; exact hw hwi
end
theorem cnt_set {p p' : Nat → Bool} {k : Nat} (h0 : p k = true) (h1 : p' k = false) (h2 : ∀ i, i ≠ k → p' i = p i) : ∀ {l : List Nat}, l.Nodup → k ∈ l → l.countP p = l.countP p' + 1
  | [], _, h => by cases h
  | x :: l, hn, hm => by
    obtain ⟨hx, hn⟩ := List.nodup_cons.1 hn
    by_cases hxk : x = k
    · subst hxk
      have : l.countP p = l.countP p' := by
        refine List.countP_congr fun i hi => ?_
        rw [h2 i (fun e => hx (e ▸ hi))]
      simp [List.countP_cons, h0, h1, this]
    · have hm' : k ∈ l := by
        cases hm with
        | head => exact absurd rfl hxk
        | tail _ h => exact h
      have := cnt_set h0 h1 h2 hn hm'
      simp only [List.countP_cons, h2 x hxk, this]
      omega
section
variable {P : Program} {tt : TT} (htt : TtOk P tt) {X0 : Cx} {N n0 : Nat} {ops : Array Oper} {tab : List Nat} {g0 : Nat → T} {H0 : Hp} {R : List Rc}
  (htab : tab = upTab ops.toList []) (hst : stOk ops.toList tab = true) (hd : ops.toList.all (dstOk N) = true)
  (hR : TRun P tt ops.toList n0 0 ops.toList g0 H0 R) (hlen : R.length = ops.toList.length) (hpw : pw (nuOk tab) (trOf 0 R []) = true)
include hst hR
theorem rc_op {k : Nat} {rc : Rc} (hk : R[k]? = some rc) : ops.toList[k]? = some rc.o ∧ ops[k]? = some rc.o := by
  have := (trun_get hR hk).1
  exact ⟨this, by simpa using this⟩
theorem ed_lt {k : Nat} {rc : Rc} (hk : R[k]? = some rc) : ∀ e ∈ rc.o.after.toList, Region.binds .any e = true → e.on < k := fun e he hb => by
  have hst' := hst
  simp only [stOk, Bool.and_eq_true] at hst
  have hm : (k, rc.o) ∈ enumO 0 ops.toList := List.mem_of_getElem? (i := k) (by rw [enumO_get, (rc_op hst' hR hk).1]; simp)
  have := List.all_eq_true.1 (List.all_eq_true.1 hst.1 _ hm) e he
  rw [hb] at this
  have h2 : Nat.blt e.on k = true := by simpa using this
  exact Nat.le_of_ble_eq_true h2
/-- Two operations that share a slot that one of them writes are ordered. -/
theorem sl_ord {i k : Nat} {ri rk : Rc} (hi : R[i]? = some ri) (hk : R[k]? = some rk) (hik : i ≠ k) {t : Nat} (hw : ri.o.dst = some t) (hc : t ∈ looksO ops.toList rk.o ∨ rk.o.dst = some t) :
    (i < k → (tab.getD k 0).testBit i = true) ∧ (k < i → (tab.getD i 0).testBit k = true) := by
  have hst' := hst
  simp only [stOk, Bool.and_eq_true] at hst
  have hei : (enumO 0 ops.toList)[i]? = some (i, ri.o) := by rw [enumO_get, (rc_op hst' hR hi).1]; simp
  have hek : (enumO 0 ops.toList)[k]? = some (k, rk.o) := by rw [enumO_get, (rc_op hst' hR hk).1]; simp
  have hti : t ∈ ri.o.dst.toList := by simp [hw]
  refine ⟨fun h => ?_, fun h => ?_⟩
  · have := pw_spec hst.2 h hei hek
    simp only [slOk, Bool.or_eq_true, Bool.and_eq_true] at this
    rcases this with q | ⟨q, _⟩
    · exact q
    · exact (disj_spec q hti (by
        rcases hc with hc | hc
        · exact List.mem_append_left _ hc
        · exact List.mem_append_right _ (by simp [hc]))).elim
  · have := pw_spec hst.2 h hek hei
    simp only [slOk, Bool.or_eq_true, Bool.and_eq_true] at this
    rcases this with q | ⟨q1, q2⟩
    · exact q
    · rcases hc with hc | hc
      · exact (disj_spec q2 hti hc).elim
      · exact (disj_spec q1 (x := t) (by simp [hc]) (List.mem_append_right _ hti)).elim
include hpw
theorem nu_ord {i k : Nat} {ri rk : Rc} (hi : R[i]? = some ri) (hk : R[k]? = some rk) (hik : i ≠ k) (hkw : rk.want = true) {r : Nat} (hw : r ∈ keys ri.u) (hc : r ∈ rk.rd ∨ r ∈ keys rk.u) :
    (i < k → (tab.getD k 0).testBit i = true) ∧ (k < i → (tab.getD i 0).testBit k = true) := by
  have hiw : ri.want = true := by
    cases hq : ri.want with
    | true => rfl
    | false => rw [((trun_get hR hi).2.2.2 hq).2] at hw; cases hw
  have hio : ri.on = true := by
    have : (keys ri.u).isEmpty = false := by cases hq : keys ri.u with
      | nil => rw [hq] at hw; cases hw
      | cons a l => rfl
    simp [Rc.on, hiw, this]
  have hko : rk.on = true := by
    rcases hc with hc | hc
    · have : rk.rd.isEmpty = false := by cases hq : rk.rd with
        | nil => rw [hq] at hc; cases hc
        | cons a l => rfl
      simp [Rc.on, hkw, this]
    · have : (keys rk.u).isEmpty = false := by cases hq : keys rk.u with
        | nil => rw [hq] at hc; cases hc
        | cons a l => rfl
      simp [Rc.on, hkw, this]
  refine ⟨fun h => ?_, fun h => ?_⟩
  · have := trOf_pw hpw h hi hk hio hko
    simp only [nuOk, Bool.or_eq_true, Bool.and_eq_true, Nat.zero_add] at this
    rcases this with q | ⟨q, _⟩
    · exact q
    · exact (disj_spec q hw (by
        rcases hc with hc | hc
        · exact List.mem_append_left _ hc
        · exact List.mem_append_right _ hc)).elim
  · have := trOf_pw hpw h hk hi hko hio
    simp only [nuOk, Bool.or_eq_true, Bool.and_eq_true, Nat.zero_add] at this
    rcases this with q | ⟨q1, q2⟩
    · exact q
    · rcases hc with hc | hc
      · exact (disj_spec q2 hw hc).elim
      · exact (disj_spec q1 hc (List.mem_append_right _ hw)).elim
include htab hlen
theorem done_iff {X : Nat → Bool} (hX : Clo ops.toList X) {i k : Nat} {ri rk : Rc} (hi : R[i]? = some ri) (hk : R[k]? = some rk) (hik : i ≠ k) (hXk : X k = false) (hpre : ∀ e ∈ rk.o.after.toList, Region.binds .any e = true → X e.on = true)
    (ho : (i < k → (tab.getD k 0).testBit i = true) ∧ (k < i → (tab.getD i 0).testBit k = true)) : X i = decide (i < k) := by
  have hup : ∀ j, j < ops.toList.length → UpOk ops.toList j (tab.getD j 0) := by
    rw [htab]; exact upTab_ok (fun j => by simp) (by simp) (fun j hj => by simp at hj)
  have hkl := (List.getElem?_eq_some_iff.1 (rc_op hst hR hk).1).1
  have hil := (List.getElem?_eq_some_iff.1 (rc_op hst hR hi).1).1
  by_cases h : i < k
  · rw [hup k hkl X hX _ (rc_op hst hR hk).1 hpre i (ho.1 h)]; simp [h]
  · have hki : k < i := by omega
    cases hxi : X i with
    | false => simp [h]
    | true =>
      have := hup i hil X hX _ (rc_op hst hR hi).1 (hX i _ (rc_op hst hR hi).1 hxi) k (ho.2 hki)
      rw [hXk] at this; cases this
include htt hd
theorem any_order {K : St → Prop} {Q : Exit → Act → World → Prop} {Sf : St} (hQ : ∀ X a, SR X0 N Sf Sf.nx X a → Q .normal a X.w) (hf1 : Sf.get = R.foldl (fun g rc => apG rc g) g0) (hf2 : Sf.H = R.foldl (fun H rc => apH rc H) H0) (hf3 : Sf.nx = n0 + 16 * ops.toList.length) :
    ∀ (fuel : Nat) (listed : Array Bool) (S' : St) (X : Cx) (a : Act), listed.size = ops.size → Clo ops.toList (fun i => listed.getD i false) → (List.range ops.size).countP (fun i => !listed.getD i false) = fuel →
      SR X0 N S' (n0 + 16 * ops.toList.length) X a → S'.get = fld apG R 0 (fun i => listed.getD i false) g0 → S'.H = fld apH R 0 (fun i => listed.getD i false) H0 →
      (∀ r, X.us r → r < n0 ∨ ∃ i, i < ops.size ∧ listed.getD i false = true ∧ n0 + 16 * i ≤ r ∧ r < n0 + 16 * i + 16) → wpAny P .any ops Q fuel listed a X.w := by
  have hsz : ops.size = ops.toList.length := by simp
  have fin : ∀ (listed : Array Bool) (S' : St) (X : Cx) (a : Act), (∀ i, i < ops.size → listed.getD i false = true) → SR X0 N S' (n0 + 16 * ops.toList.length) X a → S'.get = fld apG R 0 (fun i => listed.getD i false) g0 →
      S'.H = fld apH R 0 (fun i => listed.getD i false) H0 → Q .normal a X.w := fun listed S' X a hall h hg hH => by
    have hlt : ∀ i rc, R[i]? = some rc → listed.getD i false = decide (i < 0 + R.length) := fun i rc hi => by
      have := (List.getElem?_eq_some_iff.1 hi).1
      rw [hall i (by omega)]; simp [this]
    refine hQ X a (by
      rw [hf3]
      refine h.cong ?_ ?_
      · rw [hf1, hg]
        have e1 : fld apG R 0 (fun i => listed.getD i false) g0 = fld apG R 0 (fun i => decide (i < 0 + R.length)) g0 := funext fun t => fld_agr apG (fun rc t => rc.o.dst = some t) apG_1 apG_2 rfl fun j rc hj _ => by rw [Nat.zero_add]; exact hlt j rc hj
        rw [e1, fld_take, List.take_length]
      · rw [hf2, hH]
        have e1 : fld apH R 0 (fun i => listed.getD i false) H0 = fld apH R 0 (fun i => decide (i < 0 + R.length)) H0 := funext fun t => fld_agr apH (fun rc t => t ∈ keys rc.u) apH_1 apH_2 rfl fun j rc hj _ => by rw [Nat.zero_add]; exact hlt j rc hj
        rw [e1, fld_take, List.take_length])
  have getD2 : ∀ (listed : Array Bool) (i : Nat), i < listed.size → listed.getD i true = listed.getD i false := fun listed i hi => by simp [Array.getD, hi]
  intro fuel
  induction fuel with
  | zero =>
    intro listed S' X a hls hclo hcnt h hg hH hus
    have hall : ∀ i, i < ops.size → listed.getD i false = true := fun i hi => by
      have := List.countP_eq_zero.1 hcnt i (by simpa using hi)
      simpa using this
    refine ⟨?_, fin listed S' X a hall h hg hH⟩
    unfold Region.ready
    rw [List.filter_eq_nil_iff]
    intro i hi
    have hi' : i < ops.size := by simpa using hi
    rw [getD2 _ _ (by omega), hall i hi']; simp
  | succ fuel ih =>
    intro listed S' X a hls hclo hcnt h hg hH hus
    refine ⟨fun hnil => ?_, fun k hk => ?_⟩
    · refine fin listed S' X a (fun i => ?_) h hg hH
      induction i using Nat.strongRecOn with
      | _ i ihi =>
        intro hi
        cases hx : listed.getD i false with
        | true => rfl
        | false =>
          have hil : i < R.length := by omega
          have hri : R[i]? = some R[i] := List.getElem?_eq_getElem hil
          have hmem : i ∈ Region.ready .any ops listed := by
            unfold Region.ready
            rw [List.mem_filter]
            refine ⟨by simpa using hi, ?_⟩
            rw [getD2 _ _ (by omega), hx, (rc_op hst hR hri).2]
            simp only [Bool.not_false, Option.map_some, Option.getD_some, Bool.true_and]
            rw [← Array.all_toList, List.all_eq_true]
            intro e he
            cases hb : Region.binds .any e with
            | false => rfl
            | true => have hl := ed_lt hst hR hri e he hb; simp [ihi e.on hl (by omega)]
          rw [hnil] at hmem; cases hmem
    · have hk' := hk
      unfold Region.ready at hk'
      rw [List.mem_filter] at hk'
      obtain ⟨hkr, hkb⟩ := hk'
      have hkl : k < ops.size := by simpa using hkr
      have hrk : R[k]? = some R[k] := List.getElem?_eq_getElem (by omega)
      generalize R[k] = rk at hrk
      obtain ⟨hop1, hop⟩ := rc_op hst hR hrk
      simp only [Bool.and_eq_true, getD2 listed k (by omega), hop, Option.map_some, Option.getD_some] at hkb
      obtain ⟨hkx, hkpre⟩ := hkb
      have hkx : listed.getD k false = false := by simpa using hkx
      have hpre : ∀ e ∈ rk.o.after.toList, Region.binds .any e = true → listed.getD e.on false = true := fun e he hb => by
        rw [← Array.all_toList, List.all_eq_true] at hkpre
        have := hkpre e he
        rw [hb] at this
        simpa using this
      obtain ⟨_, hgd, hwant, hnot⟩ := trun_get hR hrk
      rw [Nat.zero_add] at hwant
      -- the same slots, the same numbers
      have agS : ∀ t, (t ∈ looksO ops.toList rk.o) → S'.get t = (R.take k).foldl (fun g rc => apG rc g) g0 t := fun t ht => by
        rw [hg, ← fld_take (i := 0)]
        refine fld_agr apG (fun rc t => rc.o.dst = some t) apG_1 apG_2 rfl fun i ri hri hw => ?_
        simp only [Nat.zero_add]
        by_cases hik : i = k
        · subst hik; simp [hkx]
        · exact done_iff htab hst hR hlen hpw hclo hri hrk hik hkx hpre (sl_ord hst hR hri hrk hik hw (.inl ht))
      have agH : rk.want = true → Agr ((R.take k).foldl (fun H rc => apH rc H) H0) S'.H rk.rd := fun hwk r hr => by
        rw [hH, ← fld_take (i := 0)]
        refine fld_agr apH (fun rc t => t ∈ keys rc.u) apH_1 apH_2 rfl fun i ri hri hw => ?_
        simp only [Nat.zero_add]
        by_cases hik : i = k
        · subst hik; simp [hkx]
        · exact done_iff htab hst hR hlen hpw hclo hri hrk hik hkx hpre (nu_ord hst hR hpw hri hrk hik hwk hw (.inl hr))
      have hwan : Region.wanted rk.o (yielded ops a.tmps) = rk.want := by
        unfold gd at hgd
        unfold Region.wanted
        split at hgd
        · rename_i hg0; rw [hg0, hgd]
        · rename_i j w hg0
          obtain ⟨oj, d, q1, q2, q3⟩ := hgd
          have hag := agS d (by simp only [looksO, hg0, q1, q2]; simp)
          rw [hg0]
          rcases q3 with ⟨b, q3, q4⟩ | ⟨cs, q3, q4⟩
          · rw [q3] at hag
            rw [q4]
            simp only [yield_of h q1 q2 hag]
            cases b <;> cases w <;> rfl
          · rw [q3] at hag
            rw [q4]
            simp only [yield_no h q1 q2 hag]
            cases w <;> rfl
      -- afterwards
      have hX' : ∀ i, (listed.setIfInBounds k true).getD i false = if i = k then true else listed.getD i false := fun i => by
        simp only [Array.getD_eq_getD_getElem?, Array.getElem?_setIfInBounds]
        by_cases hik : k = i
        · subst hik; simp [show k < listed.size by omega]
        · rw [if_neg hik, if_neg (Ne.symm hik)]
      have hclo' : Clo ops.toList (fun i => (listed.setIfInBounds k true).getD i false) := fun i o ho hx e he hb => by
        simp only [hX'] at hx ⊢
        by_cases hek : e.on = k
        · simp [hek]
        · rw [if_neg hek]
          by_cases hik : i = k
          · subst hik
            rw [hop1] at ho; injection ho with ho; subst ho
            exact hpre e he hb
          · rw [if_neg hik] at hx; exact hclo i o ho hx e he hb
      have hcnt' : (List.range ops.size).countP (fun i => !(listed.setIfInBounds k true).getD i false) = fuel := by
        have := cnt_set (p := fun i => !listed.getD i false) (p' := fun i => !(listed.setIfInBounds k true).getD i false) (k := k) (by simp [hkx]) (by simp [hX']) (fun i hi => by simp [hX', hi]) (l := List.range ops.size) List.nodup_range (by simpa using hkl)
        omega
      have hG' : fld apG R 0 (fun i => (listed.setIfInBounds k true).getD i false) g0 = apG rk S'.get := by
        rw [hg]
        exact fld_step apG (fun rc t => rc.o.dst = some t) apG_1 apG_2 hrk hX' fun i ri t hri hw hwk hik => done_iff htab hst hR hlen hpw hclo hri hrk hik hkx hpre (sl_ord hst hR hri hrk hik hw (.inr hwk))
      have hH' : fld apH R 0 (fun i => (listed.setIfInBounds k true).getD i false) H0 = apH rk S'.H := by
        rw [hH]
        cases hwk : rk.want with
        | true => exact fld_step apH (fun rc t => t ∈ keys rc.u) apH_1 apH_2 hrk hX' fun i ri t hri hw hwk2 hik => done_iff htab hst hR hlen hpw hclo hri hrk hik hkx hpre (nu_ord hst hR hpw hri hrk hik hwk hw (.inr hwk2))
        | false => exact fld_step apH (fun rc t => t ∈ keys rc.u) apH_1 apH_2 hrk hX' fun i ri t hri hw hwk2 hik => by rw [(hnot hwk).2] at hwk2; cases hwk2
      have hdk : ∀ j, rk.o.dst = some j → j < N := fun j hj => by
        have h2 := List.all_eq_true.1 hd _ (List.mem_of_getElem? hop1)
        unfold dstOk at h2; rw [hj] at h2
        exact Nat.le_of_ble_eq_true h2
      have hus' : ∀ (us' : Nat → Prop), (∀ r, us' r → X.us r ∨ (n0 + 16 * k ≤ r ∧ r < n0 + 16 * k + 16)) → ∀ r, us' r → r < n0 ∨ ∃ i, i < ops.size ∧ (listed.setIfInBounds k true).getD i false = true ∧ n0 + 16 * i ≤ r ∧ r < n0 + 16 * i + 16 := fun us' hu r hr => by
        rcases hu r hr with q | q
        · rcases hus r q with q | ⟨i, q1, q2, q3⟩
          · exact .inl q
          · refine .inr ⟨i, q1, ?_, q3⟩
            rw [hX']; split
            · rfl
            · exact q2
        · exact .inr ⟨k, hkl, by rw [hX']; simp, q⟩
      have hfresh : Fresh X (n0 + 16 * k) := fun r q1 q2 q3 => by
        rcases hus r q3 with q | ⟨i, q4, q5, q6⟩
        · omega
        · have : i = k := by omega
          subst this; rw [hkx] at q5; cases q5
      unfold wpOp
      simp only [hop, hwan]
      cases hwk : rk.want with
      | true =>
        simp only [if_true]
        left
        have hop2 := hwant hwk S' (fun t ht => agS t (List.mem_append_left _ ht)) (agH hwk)
        refine op_sound htt h hfresh hop2 fun x u v X' hxu hXH hXu hXs hXr hXv => ?_
        obtain ⟨rfl, rfl⟩ := hxu
        refine ih _ ((S'.upd rk.u).put rk.o.dst rk.x) X' _ (by simpa using hls) hclo' hcnt' (h.out2 hdk hXH hXu (by omega) hXs hXr hXv) ?_ ?_ (hus' _ fun r hr => by rw [hXu] at hr; exact hr)
        · rw [put_get, hG']; rfl
        · rw [put_H, hH']; rfl
      | false =>
        simp only [if_false, Bool.false_eq_true]
        obtain ⟨e1, e2⟩ := hnot hwk
        refine ih _ ((S'.upd []).put rk.o.dst (.tup [])) X _ (by simpa using hls) hclo' hcnt' (h.put (S := S'.upd []) hdk rs_undef) ?_ ?_ (hus' _ fun r hr => .inl hr)
        · rw [put_get, hG', ← e1]; rfl
        · rw [put_H, hH', ← e2]; rfl
end
/-- A region that draws. -/
def WD (P : Program) (tt : TT) (ops : List Oper) (n0 : Nat) (K : St → Prop) (S : St) : Prop :=
  P.follows .mixedOrders = true ∧ stOk ops (upTab ops []) = true ∧ WDr P tt ops n0 0 ops [] (fun tr S' => pw (nuOk (upTab ops [])) tr = true ∧ K S') S
theorem wd_sound {P : Program} {tt : TT} (htt : TtOk P tt) {X0 : Cx} {N id : Nat} {ops : Array Oper} {K : St → Prop} {Q : Exit → Act → World → Prop} (hQ : ∀ S X a, SR X0 N S S.nx X a → K S → Q .normal a X.w) {S : St} {n0 : Nat} {X : Cx} {a : Act}
    (hd : ops.toList.all (dstOk N) = true) (h : SR X0 N S n0 X a) (hw : WD P tt ops.toList n0 K S) : (Code.region id ops true).wp P Q a X.w := by
  obtain ⟨hm, hst, hw⟩ := hw
  obtain ⟨R, Sf, h1, h2, ⟨h3, h4⟩, h5, h6, h7⟩ := wdr_run hw
  refine wp_region_any hm ?_
  have hsm := same_nx X (fun _ h => h) { X.w with drawn := X.w.drawn + 1 } rfl rfl rfl rfl
  have hr := h.hr.nx (fun _ h => h) { X.w with drawn := X.w.drawn + 1 } rfl rfl rfl rfl
  have hrep : ∀ i, (Array.replicate ops.size false).getD i false = false := fun i => by
    rw [Array.getD_eq_getD_getElem?, Array.getElem?_replicate]; split <;> rfl
  have fld0 : ∀ {V : Type} (ap : Rc → (Nat → V) → Nat → V) (l : List Rc) (i : Nat) (g : Nat → V), fld ap l i (fun i => (Array.replicate ops.size false).getD i false) g = g := by
    intro V ap l
    induction l with
    | nil => intros; rfl
    | cons c l ih => intro i g; show fld ap l (i + 1) _ (bif (Array.replicate ops.size false).getD i false then ap c g else g) = g; rw [hrep i]; exact ih _ _
  refine any_order (K := K) htt rfl hst hd h1 h2 h3 (fun X a hs => hQ Sf X a hs h4) h5 h6 (by simpa using h7) ops.size _ S { X with w := { X.w with drawn := X.w.drawn + 1 } } a (by simp)
    (fun k o _ hx => absurd ((hrep k).symm.trans hx) (by decide)) ?_ ⟨h.same.trans hsm, hr, h.H, fun r hr => by have := h.lt r hr; omega, fun t => (h.sl t).mono hsm, h.df, h.sz⟩ (fld0 ..).symm (fld0 ..).symm (fun r hr => .inl (h.lt r hr))
  have : (List.range ops.size).countP (fun i => !(Array.replicate ops.size false).getD i false) = (List.range ops.size).length := by
    rw [List.countP_eq_length]
    intro i _; rw [hrep]; rfl
  rw [this]; simp
end Go.Proofs.YtkgfidphcpklhaaDoor
