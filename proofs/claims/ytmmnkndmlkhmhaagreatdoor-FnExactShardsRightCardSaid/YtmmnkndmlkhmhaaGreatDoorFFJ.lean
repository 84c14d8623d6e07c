/- A walk of old, that makes memory and writes none of what was there, as a contract by content. Functions by content: numbers, strings and entries are read. Functions by content: fields of a message. Functions by content: entries are read. -/
import Derived.Test.YtmmnkndmlkhmhaaGreatDoorV21
import Derived.Test.YtmmnkndmlkhmhaaGreatDoorFE
import Derived.Test.YtmmnkndmlkhmhaaGreatDoorWa
namespace Go.Proofs.YtmmnkndmlkhmhaaGreatDoor
open Go.RowKit Pl
set_option linter.unusedVariables false
set_option linter.unusedSimpArgs false

def plain0 : T → Bool
  | .int _ _ => true
  | .bool _ => true
  | .str _ => true
  | _ => false
def plain1 : T → Bool
  | .agg cs => cs.all plain0
  | x => plain0 x
def zv1 : T → Value
  | .agg cs => .agg (cs.map zv).toArray
  | x => zv x
theorem plain_l {X : Cx} : ∀ {cs : List T} {us : List Value}, cs.all plain0 = true → RSl X cs us → us = cs.map zv
  | [], us, _, h => h
  | c :: cs, us, hp, ⟨u, us', hu, _, h1, h2⟩ => by
    simp only [List.all_cons, Bool.and_eq_true] at hp
    subst hu
    rw [List.map_cons, plain_l hp.2 h2]
    congr 1
    cases c <;> first | (cases hp.1; done) | (simpa only [RS0, RV, zv] using h1)
theorem plain_args {X : Cx} : ∀ {ts : List T} {vs : List Value}, ts.all plain1 = true → Args X ts vs → vs = ts.map zv1
  | [], vs, _, h => h
  | t :: ts, vs, hp, ⟨u, us, hu, h1, h2⟩ => by
    simp only [List.all_cons, Bool.and_eq_true] at hp
    subst hu
    rw [List.map_cons, plain_args hp.2 h2]
    congr 1
    cases t
    case agg cs =>
      obtain ⟨vs, rfl, hl⟩ := h1
      have := plain_l hp.1 hl
      rw [zv1, ← this]
    all_goals first | (cases hp.1; done) | (simpa only [RS, RS1, RS0, RV, zv1, zv] using h1)
theorem idxE_nil (r : Nat) : idxE [] r = none := by simp [idxE]
theorem old_ct {P : Program} {f : FuncId} {ts : List T} {v : Value} {r : T} (hfn : ∃ fn, P.funcs[f]? = some fn ∧ (fn.name == "runtime.NumGoroutine") = false ∧ fn.body.isNone = false)
    (hp : ts.all plain1 = true) (hr : ∀ X, RS X r v) (h : ∀ w, Calls P f (ts.map zv1).toArray w fun e w' => e = .returned v ∧ Below w.heap.size w w') : CT P f [] ts r [] := by
  refine ⟨hfn, fun X hh hH hu vs ha => ?_⟩
  rw [plain_args hp ha]
  refine (h X.w).mono ?_
  rintro e w' ⟨rfl, hb⟩
  have hgl : Gl { X with w := w' } := Gl.mono (X := X) (X' := { X with w := w' }) (fun g (hg : g < X.w.heap.size) hn => ⟨hn, hb.block g hg⟩) hh.gl
  have hno : ∀ r, X.H r = none := fun r => by rw [hH]; exact idxE_nil r
  refine ⟨v, { X with w := w' }, rfl, rfl, hH, hu, ⟨fun g g' r hr => absurd (hno r) hr, fun g r hg => ?_, fun r e he => ?_, hh.zero, hh.pos, hgl⟩, hr _, ?_⟩
  · obtain ⟨a, b⟩ := hh.lt g r hg
    exact ⟨Nat.lt_of_lt_of_le a hb.size, b⟩
  · have := hno r
    rw [show X.H r = some e from he] at this; cases this
  · refine ⟨fun _ h => h, hb.os, hb.tape, hb.output, hb.size, fun g hg hn => ⟨hn, hb.block g hg⟩, fun r _ e' he => ?_, fun g hg => ⟨hg, hb.block g (hh.lt g 0 hg).1⟩, fun r _ hn => absurd (hno r) hn⟩
    have := hno r
    rw [show X.H r = some e' from he] at this; cases this
end Go.Proofs.YtmmnkndmlkhmhaaGreatDoor
namespace Go.Proofs.YtmmnkndmlkhmhaaGreatDoor
open Go.RowKit Pl
set_option linter.unusedVariables false
set_option linter.unusedSimpArgs false
attribute [local irreducible] CondB CallP LoopW AnsP LeP

def rvT : Option (Nat × Nat) → T
  | none => .tup [.int .i64 0, .int .i64 0, .bool false]
  | some (n, q) => .tup [.int .i64 (n : Int), .int .i64 (q : Int), .bool true]
def rsT : Option (Bs × Nat) → T
  | none => .tup [.str [], .int .i64 0, .bool false]
  | some (l, q) => .tup [.str l, .int .i64 (q : Int), .bool true]
theorem w_shl {a j sh : Nat} {e : Int} {K : Int → Prop} (he : e = (j : Int)) (hs : sh = a * 2 ^ j) (h : sh ≤ 9223372036854775807) (hk : K ((sh : Nat) : Int)) : ∃ r, r = IntKind.i64.wrap ((a : Int) * 2 ^ e.toNat) ∧ K r := by
  subst he
  have e2 : (a : Int) * 2 ^ (j : Int).toNat = ((sh : Nat) : Int) := by subst hs; simp
  exact ⟨_, by rw [e2, wrap_i64 (by omega) (by omega)], hk⟩
theorem le64 {b : Int} (h : b ≤ 64) : b ≤ ((IntKind.i64.bits : Nat) : Int) := h
theorem drop_cons {t : Bs} {p : Nat} (h : p < t.length) : t.drop p = t.getD p 0 :: t.drop (p + 1) := by
  rw [List.drop_eq_getElem_cons h]; simp [List.getD, List.getElem?_eq_getElem h]
theorem pow128 {k : Nat} (h : k ≤ 5) : 128 ^ k ≤ 34359738368 := by
  rcases (show k = 0 ∨ k = 1 ∨ k = 2 ∨ k = 3 ∨ k = 4 ∨ k = 5 by omega) with rfl | rfl | rfl | rfl | rfl | rfl <;> decide
theorem rv_rs (o : Option (Nat × Nat)) (X : Cx) : RS X (rvT o) (rvVal o) := by
  cases o with
  | none => exact ⟨_, rfl, _, _, rfl, mk_int X _ _, _, _, rfl, mk_int X _ _, _, _, rfl, mk_bool X _, rfl⟩
  | some x => exact ⟨_, rfl, _, _, rfl, mk_int X _ _, _, _, rfl, mk_int X _ _, _, _, rfl, mk_bool X _, rfl⟩
theorem rs_rs (o : Option (Bs × Nat)) (X : Cx) : RS X (rsT o) (rsVal o) := by
  cases o with
  | none => exact ⟨_, rfl, _, _, rfl, mk_str X _, _, _, rfl, mk_int X _ _, _, _, rfl, mk_bool X _, rfl⟩
  | some x => exact ⟨_, rfl, _, _, rfl, mk_str X _, _, _, rfl, mk_int X _ _, _, _, rfl, mk_bool X _, rfl⟩
theorem c_ReadVar (t : Bs) (p : Nat) (ht : (t.length : Int) ≤ 1000000000) (hp : p ≤ t.length) : CT Tryz.prog 178 [] [.str t, .int .i64 (p : Int)] (rvT (readVar t p)) [] :=
  old_ct ⟨_, Tryz.func178, rfl, rfl⟩ rfl (rv_rs _) fun w => by
    have h := readVar_in (bs t) p w (by rw [bs_size]; exact ht) (by rw [bs_size]; exact hp)
    rw [bs_data] at h
    refine h.mono ?_
    rintro e w1 ⟨rfl, rfl⟩
    exact ⟨rfl, Below.refl _ _⟩
theorem c_ReadShort (t : Bs) (p : Nat) (ht : (t.length : Int) ≤ 1000000000) (hp : p ≤ t.length) : CT Tryz.prog 179 [] [.str t, .int .i64 (p : Int)] (rsT (readShort t p)) [] :=
  old_ct ⟨_, Tryz.func179, rfl, rfl⟩ rfl (rs_rs _) fun w => by
    have h := readShort_in (bs t) p w (by rw [bs_size]; exact ht) (by rw [bs_size]; exact hp)
    rw [bs_data] at h
    refine h.mono ?_
    rintro e w1 ⟨rfl, rfl⟩
    exact ⟨rfl, Below.refl _ _⟩
end Go.Proofs.YtmmnkndmlkhmhaaGreatDoor
namespace Go.Proofs.YtmmnkndmlkhmhaaGreatDoor
open Go.RowKit Pl
set_option linter.unusedVariables false
set_option linter.unusedSimpArgs false
attribute [local irreducible] CondB CallP LoopW AnsP LeP

def fldB (t : Bs) (p : Nat) (b : Bool) : Ent := .box [.str t, .int .i64 (p : Int), .bool b]
set_option maxRecDepth 100000 in
set_option maxHeartbeats 1000000 in
theorem c_num (t : Bs) (p : Nat) (b : Bool) (ht : (t.length : Int) ≤ 1000000000) (hp : p ≤ t.length) : CT Tryz.prog 80 [fldB t p b] [.ptr 1 0 0] (.int .i64 ((numOf t p b).1 : Int)) [fldB t (numOf t p b).2.1 (numOf t p b).2.2] := by
  have c := c_ReadVar t p ht hp
  refine ct_intro tt_ok 2 rfl Tryz.func80 rfl rfl rfl ?_
  unfold numOf
  rcases hv : readVar t p with _ | ⟨n, q⟩
  all_goals
    rw [hv] at c
    repeat ((try conv => whnf); first | (refine ccA ([]) (c) ?_) | (refine stpQ ?_))
    (refine ans_auto (by rfl) ?_ ?_ (by rfl)) <;> (repeat' (first | (exact eqA) | (refine And.intro ?_ ?_) | ((fail_if_success (with_reducible (show _ = _))); (show _ = _)))) <;> rfl
set_option maxRecDepth 100000 in
set_option maxHeartbeats 1000000 in
theorem c_short (t : Bs) (p : Nat) (b : Bool) (ht : (t.length : Int) ≤ 1000000000) (hp : p ≤ t.length) : CT Tryz.prog 81 [fldB t p b] [.ptr 1 0 0] (.str (shortOf t p b).1) [fldB t (shortOf t p b).2.1 (shortOf t p b).2.2] := by
  have c := c_ReadShort t p ht hp
  refine ct_intro tt_ok 2 rfl Tryz.func81 rfl rfl rfl ?_
  unfold shortOf
  rcases hv : readShort t p with _ | ⟨n, q⟩
  all_goals
    rw [hv] at c
    repeat ((try conv => whnf); first | (refine ccA ([]) (c) ?_) | (refine stpQ ?_))
    (refine ans_auto (by rfl) ?_ ?_ (by rfl)) <;> (repeat' (first | (exact eqA) | (refine And.intro ?_ ?_) | ((fail_if_success (with_reducible (show _ = _))); (show _ = _)))) <;> rfl
set_option maxRecDepth 100000 in
set_option maxHeartbeats 1000000 in
theorem c_done (t : Bs) (p : Nat) (b : Bool) : CT Tryz.prog 84 [fldB t p b] [.ptr 1 0 0] (.bool (doneB b p t.length)) [fldB t p b] := by
  refine ct_intro tt_ok 2 rfl Tryz.func84 rfl rfl rfl ?_
  cases b
  · repeat ((try conv => whnf); first | (refine stpQ ?_))
    (refine ans_auto (by rfl) ?_ ?_ (by rfl)) <;> (repeat' (first | (exact eqA) | (refine And.intro ?_ ?_) | ((fail_if_success (with_reducible (show _ = _))); (show _ = _))))
    show decide ((p : Int) = (t.length : Int)) = (p == t.length)
    by_cases hd : p = t.length
    · rw [hd]; simp
    · have h2 : ¬ ((p : Int) = (t.length : Int)) := by omega
      rw [decide_eq_false h2]; exact (beq_false_of_ne hd).symm
  · repeat ((try conv => whnf); first | (refine stpQ ?_))
    (refine ans_auto (by rfl) ?_ ?_ (by rfl)) <;> (repeat' (first | (exact eqA) | (refine And.intro ?_ ?_) | ((fail_if_success (with_reducible (show _ = _))); (show _ = _))))
    rfl
end Go.Proofs.YtmmnkndmlkhmhaaGreatDoor
namespace Go.Proofs.YtmmnkndmlkhmhaaGreatDoor
open Go.RowKit Pl
set_option linter.unusedVariables false
set_option linter.unusedSimpArgs false
attribute [local irreducible] CondB CallP LoopW AnsP LeP

theorem lfAt_app {l : List Lf} {x : Lf} {i : Nat} : lfAt (l ++ [x]) i = if i = l.length then x else lfAt l i := by
  unfold lfAt
  by_cases h : i = l.length
  · subst h; simp
  · rw [if_neg h]
    rcases Nat.lt_or_ge i l.length with hl | hl
    · simp [List.getD, List.getElem?_append_left hl]
    · simp [List.getD, List.getElem?_eq_none (show l.length ≤ i from hl), List.getElem?_eq_none (show (l ++ [x]).length ≤ i by simp; omega)]
theorem sml_nil : Sml [] := ⟨by simp, fun i => by simp [lfAt]⟩
theorem sml_snoc {l : List Lf} {x : Lf} (h : Sml l) (hl : (l.length : Int) ≤ 999) (h1 : (x.1.length : Int) ≤ 1000000) (h2 : (x.2.length : Int) ≤ 1000000) : Sml (l ++ [x]) := by
  refine ⟨by simp; omega, fun i => ?_⟩
  rw [lfAt_app]
  split
  · exact ⟨h1, h2⟩
  · exact h.2 i
theorem Sml.fit {l : List Lf} (h : Sml l) : Fit l := fun i => by have := h.2 i; omega
set_option maxRecDepth 100000 in
set_option maxHeartbeats 1000000 in
theorem c_leaves (t : Bs) (p : Nat) (b : Bool) (ht : (t.length : Int) ≤ 1000000000) (hp : p ≤ t.length) : CT Tryz.prog 180 [fldB t p b] [.ptr 1 0 0] (.ref 2) [fldB t (leavesI t p b).2.1 (leavesI t p b).2.2, .row 2 (lvE (leavesI t p b).1)] := by
  have c := c_num t p b ht hp
  have hle := numOf_le (t := t) (p := p) (bad := b) hp
  unfold leavesI
  rcases hN : numOf t p b with ⟨n, p1, b1⟩
  rw [hN] at c hle
  simp only at c hle ⊢
  obtain ⟨hp1, hn⟩ := hle
  generalize hR : lvLoop (shortOf t) n p1 (if 24 < n then true else b1) = R
  refine ct_intro tt_ok 2 rfl Tryz.func180 rfl rfl rfl ?_
  by_cases h24 : 24 < n
  all_goals
    repeat ((try conv => whnf); first | (refine ccB ([1]) (c) ?_) | (refine stpQ ?_))
    refine loop_of (Nat × Nat × List Lf × Bool) (fun ⟨k, q, l, bd⟩ => ⟨[(0, .ptr 1 0 0), (3, .int .i64 (n : Int)), (4, .ref 2), (5, .int .i64 (k : Int))], [(1, some (fldB t q bd)), (2, some (.row 2 (lvE l)))], 3⟩) (fun ⟨k, q, l, bd⟩ => k ≤ n ∧ l.length = k ∧ Sml l ∧ LvAt (shortOf t) R (n - k) l q bd ∧ q ≤ t.length ∧ k ≤ 24 ∧ (bd = false → n ≤ 24)) (fun ⟨k, q, l, bd⟩ => n - k) (0, p1, [], if 24 < n then true else b1) ⟨by omega, rfl, sml_nil, by rw [← hR]; exact LvAt.start _ _ _ _, hp1, by omega, fun h => by first | omega | (rw [if_pos h24] at h; cases h)⟩ ?_ ?_
    · (refine le_auto (by rfl) ?_ ?_) <;> (repeat' (first | (exact eqA) | (refine And.intro ?_ ?_) | ((fail_if_success (with_reducible (show _ = _))); (show _ = _))))
      all_goals first
        | rfl
        | decide
        | (rw [if_pos h24]; done)
        | (rw [if_neg h24]; done)
    · rintro ⟨k, q, l, bd⟩ ⟨hk, hl, hs, hat, hq, hk24, hbd⟩
      have hll := lv_len l
      cases bd
      · have hn24 := hbd rfl
        by_cases hx : 24 < n
        · exfalso; omega
        first
        | (exact absurd h24 hx)
        | (
            by_cases hlt : k < n
            · obtain ⟨m, hm⟩ : ∃ m, n - k = m + 1 := ⟨n - k - 1, by omega⟩
              rw [hm] at hat
              have c1 := c_short t q false ht hq
              rcases h1 : shortOf t q false with ⟨a1, q1, b2⟩
              have e1 := shortOf_le (t := t) (p := q) (bad := false) hq
              rw [h1] at c1 e1
              simp only at c1 e1
              have c2 := c_short t q1 b2 ht e1.1
              rcases h2 : shortOf t q1 b2 with ⟨a2, q2, b3⟩
              have e2 := shortOf_le (t := t) (p := q1) (bad := b2) e1.1
              rw [h2] at c2 e2
              simp only at c2 e2
              have hst := hat.step h1 h2
              repeat ((try conv => whnf); first | (refine ccB ([1]) (c1) ?_) | (refine ccB ([1]) (c2) ?_) | (refine And.intro (by simp [lv_len]; omega) ?_) | (refine stpQ ?_))
              refine ⟨(k + 1, q2, l ++ [(a1, a2)], b3), ⟨by omega, by simp [hl], sml_snoc hs (by omega) (by show (a1.length : Int) ≤ 1000000; omega) (by show (a2.length : Int) ≤ 1000000; omega), by rw [show n - (k + 1) = m by omega]; exact hst, e2.1, by omega, fun _ => hn24⟩, (by show n - (k + 1) < n - k; omega), ?_⟩
              (refine le_auto (by rfl) ?_ ?_) <;> (repeat' (first | (exact eqA) | (refine And.intro ?_ ?_) | ((fail_if_success (with_reducible (show _ = _))); (show _ = _))))
              all_goals (simp [lvE]; done)
            · have hkn : n - k = 0 := by omega
              rw [hkn] at hat
              rw [hat.done]
              repeat ((try conv => whnf); first | (refine stpQ ?_))
              ((try conv => whnf); refine c_call ([]) (c_LeavesOk l (by omega) hs.fit) ?_ (by ((repeat' (first | (exact trivial) | (exact rfl) | (refine And.intro ?_ ?_))); first | done | fail)) (by decide) (by rfl) (by first | exact .inl rfl | (refine .inr ⟨?_, ?_⟩ <;> simp [own2, own1, own0, ownE])) ?_)
              · exact ⟨⟨rfl, rfl⟩, rfl⟩
              · repeat ((try conv => whnf); first | (refine stpQ ?_))
                (refine ans_auto (by rfl) ?_ ?_ (by rfl)) <;> (repeat' (first | (exact eqA) | (refine And.intro ?_ ?_) | ((fail_if_success (with_reducible (show _ = _))); (show _ = _))))
                rfl)
      · rw [hat.bad]
        repeat' (first | ((try conv => whnf); first | (refine stpQ ?_)) | ((try conv => whnf); first | (refine cb_d (fun h => ?_) (fun h => ?_)) | (refine cb_n (fun h => ?_) (fun h => ?_)) | (refine cb (fun h => ?_) (fun h => ?_))))
        all_goals
          (refine ans_auto (by rfl) ?_ ?_ (by rfl)) <;> (repeat' (first | (exact eqA) | (refine And.intro ?_ ?_) | ((fail_if_success (with_reducible (show _ = _))); (show _ = _))))
set_option maxRecDepth 100000 in
set_option maxHeartbeats 1000000 in
theorem c_ReadLeaves (t : Bs) (ht : (t.length : Int) ≤ 1000000000) : CT Tryz.prog 82 [] [.str t] (.tup [.ref 1, .bool (readLvI t).isSome]) [.row 2 (lvE ((readLvI t).getD []))] := by
  have c1 := c_leaves t 0 false ht (by omega)
  have c2 := c_done t (leavesI t 0 false).2.1 (leavesI t 0 false).2.2
  unfold readLvI
  simp only
  generalize leavesI t 0 false = R at c1 c2 ⊢
  obtain ⟨l, q, bd⟩ := R
  simp only at c1 c2 ⊢
  refine ct_intro tt_ok 1 rfl Tryz.func82 rfl rfl rfl ?_
  repeat ((try conv => whnf); first | (refine ccB ([_]) (c1) ?_) | (refine ccB ([_]) (c2) ?_) | (refine stpQ ?_))
  ((try conv => whnf); first | (refine cb_d (fun h => ?_) (fun h => ?_)) | (refine cb_n (fun h => ?_) (fun h => ?_)) | (refine cb (fun h => ?_) (fun h => ?_)))
  · have h : doneB bd q t.length = false := by simpa using h
    rw [h]
    repeat ((try conv => whnf); first | (refine stpQ ?_))
    (refine ans_auto (by rfl) ?_ ?_ (by rfl)) <;> (repeat' (first | (exact eqA) | (refine And.intro ?_ ?_) | ((fail_if_success (with_reducible (show _ = _))); (show _ = _)))) <;> first | rfl | decide
  · have h : doneB bd q t.length = true := by simpa using h
    rw [h]
    repeat ((try conv => whnf); first | (refine stpQ ?_))
    (refine ans_auto (by rfl) ?_ ?_ (by rfl)) <;> (repeat' (first | (exact eqA) | (refine And.intro ?_ ?_) | ((fail_if_success (with_reducible (show _ = _))); (show _ = _)))) <;> first | rfl | decide
end Go.Proofs.YtmmnkndmlkhmhaaGreatDoor
