/- What an operation looks at settles what it gives. -/
import Derived.Test.YtkgfidphcpklhaaDoorVF
set_option linter.unusedSimpArgs false
namespace Go.Proofs.YtkgfidphcpklhaaDoor
open Go.RowKit Pl
set_option linter.unusedVariables false
set_option linter.unusedSectionVars false

def nums0 : T → List Nat
  | .ref r => [r]
  | .ptr r _ _ => [r]
  | .fnp _ r => [r]
  | .fnq _ r s => [r, s]
  | _ => []
def nums1 : T → List Nat
  | .agg cs => cs.flatMap nums0
  | x => nums0 x
def numsL (xs : List T) : List Nat := xs.flatMap nums1
def Agr (H H' : Hp) (l : List Nat) : Prop := ∀ r, r ∈ l → H' r = H r
def Det (E : Hp → Kon → Prop) (H : Hp) (l : List Nat) (K : Kon) : Prop := ∃ x u, K x u ∧ ∀ H', Agr H H' l → E H' fun x' u' => x' = x ∧ u' = u

theorem forceT_det {x : T} {K : T → Prop} (h : forceT x K) : ∃ r, K r ∧ forceT x fun r' => r' = r := by cases x <;> exact ⟨_, h, rfl⟩
theorem loadT_det {y : Ty} {cs : List T} {j : Nat} {K : T → Prop} (h : loadT y cs j K) : ∃ r, K r ∧ loadT y cs j fun r' => r' = r := by
  unfold loadT at h ⊢
  cases ha : y.d.agg with
  | true => rw [ha] at h; exact ⟨_, (forceSp_eq h).2, forceSp_mk ⟨(forceSp_eq h).1, rfl⟩⟩
  | false =>
    rw [ha] at h; obtain ⟨c, a, b⟩ := h
    obtain ⟨r, q1, q2⟩ := forceT_det (K := K) b
    exact ⟨r, q1, c, a, q2⟩
theorem binT_det {op : BinOp} {x y : T} {K : T → Prop} (h : binT op x y K) : ∃ r, K r ∧ binT op x y fun r' => r' = r := by
  cases x <;> cases y <;> simp only [binT] at h
  case int.int k a k' b =>
    cases op <;> simp only [binT] at h ⊢
    case shl => obtain ⟨h1, h2, r, h3, h4⟩ := h; exact ⟨_, h4, h1, h2, r, h3, rfl⟩
    case shr => obtain ⟨h1, h2, r, h3, h4⟩ := h; exact ⟨_, h4, h1, h2, r, h3, rfl⟩
    all_goals first
      | (obtain ⟨h1, r, h3, h4⟩ := h; exact ⟨_, h4, h1, r, h3, rfl⟩)
      | (obtain ⟨h1, h2, r, h3, h4⟩ := h; exact ⟨_, h4, h1, h2, r, h3, rfl⟩)
      | (obtain ⟨h1, h4⟩ := h; exact ⟨_, h4, h1, rfl⟩)
  case str.str a b =>
    cases op <;> simp only [binT] at h ⊢
    case add => exact ⟨_, h.2, h.1, rfl⟩
    all_goals exact ⟨_, h, rfl⟩
theorem eqT_det {tt : TT} {op : BinOp} {t : TypeId} {xs ys : List T} {K : T → Prop} (h : eqT tt op t xs ys K) : ∃ r, K r ∧ eqT tt op t xs ys fun r' => r' = r := by
  unfold eqT at h ⊢
  cases ht : tt t with
  | none => rw [ht] at h; exact h.elim
  | some y =>
    rw [ht] at h
    obtain ⟨h1, h2, h3, h4⟩ := h
    cases op <;> simp only at h4 <;> first | exact h4.elim | exact ⟨_, h4, h1, h2, h3, rfl⟩
theorem eqB_det {tt : TT} {op : BinOp} {t : TypeId} {a b : Bool} {K : T → Prop} (h : eqB tt op t a b K) : ∃ r, K r ∧ eqB tt op t a b fun r' => r' = r := by
  unfold eqB at h ⊢
  cases ht : tt t with
  | none => rw [ht] at h; exact h.elim
  | some y =>
    rw [ht] at h
    simp only at h ⊢
    cases hd : y.d <;> rw [hd] at h <;> simp only at h ⊢ <;> try exact h.elim
    cases op <;> simp only at h ⊢ <;> first | exact h.elim | exact ⟨_, h, rfl⟩
theorem unT_det {op : UnOp} {x : T} {K : T → Prop} (h : unT op x K) : ∃ r, K r ∧ unT op x fun r' => r' = r := by
  cases op <;> cases x <;> simp only [unT] at h ⊢
  case not.bool b => exact ⟨_, h, rfl⟩
  all_goals (obtain ⟨r, h1, h2⟩ := h; exact ⟨_, h2, r, h1, rfl⟩)
theorem frz_agr {H H' : Hp} : ∀ {cs : List T}, Agr H H' (cs.flatMap nums0) → frz H' cs = frz H cs
  | [], _ => rfl
  | c :: cs, h => by
    have ih := frz_agr (cs := cs) (fun r hr => h r (by simp [hr]))
    cases c <;> simp only [frz, ih]
    case ref r => rw [h r (by simp [nums0])]
theorem cellsT_nums {x : T} {cs : List T} (h : cellsT x = some cs) : cs.flatMap nums0 = nums1 x := by
  cases x <;> simp [cellsT] at h <;> subst h <;> simp [nums1, nums0]
theorem fillE_agr {H H' : Hp} {sz : Nat} : ∀ {l : List (Nat × T)} {es : List (List T)} {g : List Nat}, Agr H H' (numsL (l.map (·.2))) → fillE H' sz es g l = fillE H sz es g l
  | [], _, _, _ => rfl
  | (i, x) :: l, es, g, h => by
    simp only [fillE]
    cases hc : cellsT x with
    | none => rfl
    | some xs =>
      simp only [frz_agr (cs := xs) (H := H) (H' := H') (fun r hr => h r (by rw [cellsT_nums hc] at hr; simp [numsL, hr]))]
      cases frz H xs with
      | none => rfl
      | some q =>
        obtain ⟨ys, rs⟩ := q
        simp only
        rw [fillE_agr (fun r hr => h r (by simp [numsL] at hr ⊢; exact .inr hr))]
theorem zip_nums : ∀ {ps : List (Nat × Operand)} {xs : List T} {r : Nat}, r ∈ numsL ((zipParts ps xs).map (·.2)) → r ∈ numsL xs
  | [], _, r, h => by simp [zipParts, numsL] at h
  | _ :: _, [], r, h => by simp [zipParts, numsL] at h
  | (i, _) :: ps, x :: xs, r, h => by
    simp only [zipParts, List.map_cons, numsL, List.flatMap_cons, List.mem_append] at h ⊢
    exact h.imp id zip_nums
theorem newsT_mono {tt : TT} {H : Hp} {ye yu : Ty} {z : T} {K K' : Nat → List (List T) → Prop} (h : newsT tt H ye yu z K) (hk : ∀ k es, K k es → K' k es) : newsT tt H ye yu z K' := by
  cases z <;> simp only [newsT] at h ⊢
  case ref s =>
    cases hH : H s with
    | none => simp only [hH] at h
    | some e => cases e with
      | box cs => simp only [hH] at h
      | row k es => simp only [hH] at h ⊢; exact ⟨h.1, hk _ _ h.2⟩
  case sl k es => exact ⟨h.1, hk _ _ h.2⟩
  case val v => exact ⟨h.1, h.2.1, hk _ _ h.2.2⟩
  case str b => exact ⟨h.1, h.2.1, hk _ _ h.2.2⟩
  case int kk n =>
    obtain ⟨h1, h2, h3, m, h4, h5, h6⟩ := h
    exact ⟨h1, h2, h3, m, h4, h5, hk _ _ h6⟩
theorem newsT_det {tt : TT} {H : Hp} {ye yu : Ty} {z : T} {K : Nat → List (List T) → Prop} (h : newsT tt H ye yu z K) : ∃ k es, K k es ∧ ∀ H', Agr H H' (nums1 z) → newsT tt H' ye yu z fun k' es' => k' = k ∧ es' = es := by
  cases z <;> simp only [newsT] at h
  case ref s =>
    cases hH : H s with
    | none => simp only [hH] at h
    | some e => cases e with
      | box cs => simp only [hH] at h
      | row k es =>
        simp only [hH] at h
        refine ⟨k, es, h.2, fun H' ha => ?_⟩
        simp only [newsT, ha s (by simp [nums1, nums0]), hH]
        exact ⟨h.1, trivial, trivial⟩
  case sl k es => exact ⟨_, _, h.2, fun H' _ => ⟨h.1, rfl, rfl⟩⟩
  case val v => exact ⟨_, _, h.2.2, fun H' _ => ⟨h.1, h.2.1, rfl, rfl⟩⟩
  case str b => exact ⟨_, _, h.2.2, fun H' _ => ⟨h.1, h.2.1, rfl, rfl⟩⟩
  case int kk n =>
    obtain ⟨h1, h2, h3, m, h4, h5, h6⟩ := h
    exact ⟨_, _, h6, fun H' _ => ⟨h1, h2, h3, m, h4, h5, rfl, rfl⟩⟩
theorem appT_det {tt : TT} {H : Hp} {ye yu : Ty} {x z : T} {K : Nat → List (List T) → List Nat → Prop} (h : appT tt H ye yu x z K) :
    ∃ k es g, K k es g ∧ ∀ H', Agr H H' (nums1 x ++ nums1 z) → appT tt H' ye yu x z fun k' es' g' => k' = k ∧ es' = es ∧ g' = g := by
  unfold appT at h
  split at h <;> try exact h.elim
  · obtain ⟨rfl, h⟩ := h
    obtain ⟨k, es, q1, q2⟩ := newsT_det h
    refine ⟨k, es, [], q1, fun H' ha => ⟨rfl, ?_⟩⟩
    have := q2 H' (fun r hr => ha r (by simp [hr]))
    simpa using this
  · rename_i r
    split at h <;> try exact h.elim
    rename_i k0 es0 hH
    obtain ⟨h0, h⟩ := h
    obtain ⟨k, es, ⟨rfl, q1⟩, q2⟩ := newsT_det h
    refine ⟨k0, _, _, q1, fun H' ha => ?_⟩
    simp only [appT, ha r (by simp [nums1, nums0]), hH]
    refine ⟨h0, ?_⟩
    exact newsT_mono (q2 H' (fun r hr => ha r (by simp [hr]))) (fun k es h => ⟨h.1.symm, h.1, by rw [h.2], trivial⟩)
theorem appT_mono {tt : TT} {H : Hp} {ye yu : Ty} {x z : T} {K K' : Nat → List (List T) → List Nat → Prop} (h : appT tt H ye yu x z K) (hk : ∀ k es g, K k es g → K' k es g) : appT tt H ye yu x z K' := by
  cases x <;> simp only [appT] at h ⊢
  case val v => exact ⟨h.1, newsT_mono h.2 fun k es h => hk _ _ _ h⟩
  case ref r =>
    cases hH : H r with
    | none => simp only [hH] at h
    | some e => cases e with
      | box cs => simp only [hH] at h
      | row k es => simp only [hH] at h ⊢; exact ⟨h.1, newsT_mono h.2 fun k es h => ⟨h.1, hk _ _ _ h.2⟩⟩

section
variable {tt : TT} {ty : TypeId} {H : Hp} {id : Nat} {K : Kon}
theorem det_load {t : TypeId} {o : Operand} {x : T} (h : Eff tt (.load t o) ty [x] H id K) : Det (fun H K => Eff tt (.load t o) ty [x] H id K) H (numsL [x]) K := by
  simp only [Eff] at h
  split at h <;> try exact h.elim
  rename_i y hy
  cases x <;> simp only at h
  case ptr r i j =>
    cases hH : H r with
    | none => simp only [hH] at h
    | some e => cases e with
      | box cs =>
        simp only [hH] at h
        obtain ⟨rfl, h⟩ := h
        obtain ⟨c, q1, q2⟩ := loadT_det h
        refine ⟨c, [], q1, fun H' ha => ?_⟩
        simp only [Eff, hy, ha r (by simp [numsL, nums1, nums0]), hH, true_and, and_true]
        exact q2
      | row k es =>
        simp only [hH] at h
        obtain ⟨e, he, h⟩ := h
        obtain ⟨c, q1, q2⟩ := loadT_det h
        refine ⟨c, [], q1, fun H' ha => ?_⟩
        simp only [Eff, hy, ha r (by simp [numsL, nums1, nums0]), hH, and_true]
        exact ⟨e, he, q2⟩
  case rptr c j =>
    obtain ⟨c', q1, q2⟩ := loadT_det h
    refine ⟨c', [], q1, fun H' ha => ?_⟩
    simp only [Eff, hy, and_true]
    exact q2
theorem det_store {t : TypeId} {o o' : Operand} {p x : T} (h : Eff tt (.store t o o') ty [p, x] H id K) : Det (fun H K => Eff tt (.store t o o') ty [p, x] H id K) H (numsL [p, x]) K := by
  simp only [Eff] at h
  split at h <;> try exact h.elim
  rename_i y xs hy hc
  obtain ⟨hl, h⟩ := h
  cases p <;> simp only at h
  case ptr r i j =>
    cases hH : H r with
    | none => simp only [hH] at h
    | some e => cases e with
      | box cs =>
        simp only [hH] at h
        obtain ⟨rfl, hb, h⟩ := h
        refine ⟨_, _, h, fun H' ha => ?_⟩
        simp only [Eff, hy, hc, ha r (by simp [numsL, nums1, nums0]), hH]
        exact ⟨hl, trivial, hb, trivial, trivial⟩
      | row k es =>
        simp only [hH] at h
        obtain ⟨h0, e, he, hb, h⟩ := h
        refine ⟨_, _, h, fun H' ha => ?_⟩
        simp only [Eff, hy, hc, ha r (by simp [numsL, nums1, nums0]), hH]
        exact ⟨hl, h0, e, he, hb, trivial, rfl⟩
theorem det_fieldAddr {st : TypeId} {o : Operand} {f : Nat} {x : T} (h : Eff tt (.fieldAddr st o f) ty [x] H id K) : Det (fun H K => Eff tt (.fieldAddr st o f) ty [x] H id K) H (numsL [x]) K := by
  simp only [Eff] at h
  split at h <;> try exact h.elim
  rename_i y hy
  split at h <;> try exact h.elim
  rename_i fs hd
  split at h <;> try exact h.elim
  rename_i off ft hf
  split at h <;> try exact h.elim
  rename_i yf hyf
  obtain ⟨h0, h⟩ := h
  cases x <;> simp only at h
  all_goals exact ⟨_, _, h, fun H' _ => by simp only [Eff, hy, hd, hf, hyf]; exact ⟨h0, trivial, trivial⟩⟩
theorem det_indexAddr {t : TypeId} {o o' : Operand} {x i : T} (h : Eff tt (.indexAddr t o o') ty [x, i] H id K) : Det (fun H K => Eff tt (.indexAddr t o o') ty [x, i] H id K) H (numsL [x, i]) K := by
  simp only [Eff] at h
  split at h <;> try exact h.elim
  rename_i ik n y hy
  split at h <;> try exact h.elim
  · rename_i e hd
    split at h <;> try exact h.elim
    rename_i ye hye
    cases x <;> simp only at h
    case ref r =>
      cases hH : H r with
      | none => simp only [hH] at h
      | some en => cases en with
        | box cs => simp only [hH] at h
        | row k es =>
          simp only [hH] at h
          obtain ⟨h1, m, h2, h3, h⟩ := h
          refine ⟨_, _, h, fun H' ha => ?_⟩
          simp only [Eff, hy, hd, hye, ha r (by simp [numsL, nums1, nums0]), hH]
          exact ⟨h1, m, h2, h3, rfl, trivial⟩
    case sl k es =>
      obtain ⟨h1, m, e', h2, h3, h⟩ := h
      refine ⟨_, _, h, fun H' ha => ?_⟩
      simp only [Eff, hy, hd, hye]
      exact ⟨h1, m, e', h2, h3, rfl, trivial⟩
  · rename_i len e hd
    split at h <;> try exact h.elim
    rename_i ye hye
    obtain ⟨m, h1, h2, h⟩ := h
    cases x <;> simp only at h
    all_goals exact ⟨_, _, h, fun H' _ => by simp only [Eff, hy, hd, hye]; exact ⟨m, h1, h2, rfl, trivial⟩⟩
theorem det_index {t : TypeId} {o o' : Operand} {x i : T} (h : Eff tt (.index t o o') ty [x, i] H id K) : Det (fun H K => Eff tt (.index t o o') ty [x, i] H id K) H (numsL [x, i]) K := by
  simp only [Eff] at h
  split at h <;> try exact h.elim
  · rename_i ik n s y hy
    split at h <;> try exact h.elim
    rename_i hd
    obtain ⟨m, h1, h2, h⟩ := h
    exact ⟨_, _, h, fun H' _ => by simp only [Eff, hy, hd]; exact ⟨m, h1, h2, rfl, trivial⟩⟩
  · rename_i ik n cs y hy
    split at h <;> try exact h.elim
    rename_i len e hd
    split at h <;> try exact h.elim
    rename_i ye hye
    obtain ⟨h0, h1, m, h2, h3, c, h4, h⟩ := h
    obtain ⟨r, q1, q2⟩ := forceT_det h
    exact ⟨r, [], q1, fun H' _ => by simp only [Eff, hy, hd, hye, and_true]; exact ⟨h0, h1, m, h2, h3, c, h4, q2⟩⟩
theorem det_convert {a b : TypeId} {o : Operand} {x : T} (h : Eff tt (.convert a b o) ty [x] H id K) : Det (fun H K => Eff tt (.convert a b o) ty [x] H id K) H (numsL [x]) K := by
  simp only [Eff] at h
  split at h <;> try exact h.elim
  rename_i ys yd hys hyd
  split at h <;> try exact h.elim
  · rename_i k ik n hd
    obtain ⟨r, h1, h⟩ := h
    exact ⟨_, _, h, fun H' _ => by simp only [Eff, hys, hyd, hd]; exact ⟨r, h1, rfl, trivial⟩⟩
  · rename_i s hd
    exact ⟨_, _, h, fun H' _ => by simp only [Eff, hys, hyd, hd]; exact ⟨trivial, trivial⟩⟩
  · rename_i e s hd
    obtain ⟨h1, h2, h3, h⟩ := h
    exact ⟨_, _, h, fun H' _ => by simp only [Eff, hys, hyd, hd]; exact ⟨h1, h2, h3, trivial, trivial⟩⟩
  · rename_i r hd
    cases hH : H r with
    | none => simp only [hH] at h
    | some e => cases e with
      | box cs => simp only [hH] at h
      | row k es =>
        simp only [hH] at h
        obtain ⟨h1, l, h2, h⟩ := h
        refine ⟨_, _, h, fun H' ha => ?_⟩
        simp only [Eff, hys, hyd, hd, ha r (by simp [numsL, nums1, nums0]), hH]
        exact ⟨h1, l, h2, rfl, trivial⟩
  · rename_i k es hd
    obtain ⟨h1, l, h2, h⟩ := h
    exact ⟨_, _, h, fun H' _ => by simp only [Eff, hys, hyd, hd]; exact ⟨h1, l, h2, rfl, trivial⟩⟩
  · rename_i v hd
    obtain ⟨h1, h2, h⟩ := h
    exact ⟨_, _, h, fun H' _ => by simp only [Eff, hys, hyd, hd]; exact ⟨h1, h2, trivial, trivial⟩⟩
theorem det_build {t : TypeId} {ps : Array (Nat × Operand)} {xs : List T} (h : Eff tt (.build t ps) ty xs H id K) : Det (fun H K => Eff tt (.build t ps) ty xs H id K) H (numsL xs) K := by
  simp only [Eff] at h
  split at h <;> try exact h.elim
  rename_i y hy
  split at h <;> try exact h.elim
  · rename_i fs hd
    obtain ⟨h1, h⟩ := h
    split at h <;> try exact h.elim
    rename_i cells hf
    exact ⟨_, _, h, fun H' _ => by simp only [Eff, hy, hd, hf]; exact ⟨h1, trivial, trivial⟩⟩
  · rename_i e hd
    split at h <;> try exact h.elim
    rename_i ye hye
    split at h <;> try exact h.elim
    rename_i cells hf
    exact ⟨_, _, h, fun H' _ => by simp only [Eff, hy, hd, hye, hf]; exact ⟨trivial, trivial⟩⟩
theorem det_buildSlice {t : TypeId} {n : Nat} {ps : Array (Nat × Operand)} {xs : List T} (h : Eff tt (.buildSlice t n ps) ty xs H id K) : Det (fun H K => Eff tt (.buildSlice t n ps) ty xs H id K) H (numsL xs) K := by
  simp only [Eff] at h
  split at h <;> try exact h.elim
  rename_i y hy
  split at h <;> try exact h.elim
  rename_i e hd
  split at h <;> try exact h.elim
  rename_i ye hye
  obtain ⟨h1, h2, h⟩ := h
  split at h <;> try exact h.elim
  rename_i es gone hf
  refine ⟨_, _, h, fun H' ha => ?_⟩
  simp only [Eff, hy, hd, hye]
  rw [fillE_agr (H := H) (fun r hr => ha r (zip_nums hr)), hf]
  exact ⟨h1, h2, trivial, rfl⟩
theorem det_makeSlice {t : TypeId} {o o' : Operand} {x y : T} (h : Eff tt (.makeSlice t o o') ty [x, y] H id K) : Det (fun H K => Eff tt (.makeSlice t o o') ty [x, y] H id K) H (numsL [x, y]) K := by
  simp only [Eff] at h
  split at h <;> try exact h.elim
  rename_i k n k' n' y hy
  split at h <;> try exact h.elim
  rename_i e hd
  split at h <;> try exact h.elim
  rename_i ye hye
  obtain ⟨h1, h2, m, h3, h4, h5, h⟩ := h
  exact ⟨_, _, h, fun H' _ => by simp only [Eff, hy, hd, hye]; exact ⟨h1, h2, m, h3, h4, h5, trivial, rfl⟩⟩
theorem det_slice1 {t : TypeId} {o oa : Operand} {x a : T} (h : Eff tt (.slice t o (some oa) none none) ty [x, a] H id K) : Det (fun H K => Eff tt (.slice t o (some oa) none none) ty [x, a] H id K) H (numsL [x, a]) K := by
  simp only [Eff] at h
  split at h <;> try exact h.elim
  · rename_i ik n s y hy
    obtain ⟨h0, i, h1, h2, h⟩ := h
    exact ⟨_, _, h, fun H' _ => by simp only [Eff, hy]; exact ⟨h0, i, h1, h2, rfl, trivial⟩⟩
  · rename_i ik n k es y hy
    obtain ⟨h0, i, h1, h2, h⟩ := h
    exact ⟨_, _, h, fun H' _ => by simp only [Eff, hy]; exact ⟨h0, i, h1, h2, rfl, trivial⟩⟩
  · rename_i ik n r y hy
    cases hH : H r with
    | none => simp only [hH] at h
    | some e => cases e with
      | box cs => simp only [hH] at h
      | row k es =>
        simp only [hH] at h
        obtain ⟨h0, i, h1, h2, h⟩ := h
        refine ⟨_, _, h, fun H' ha => ?_⟩
        simp only [Eff, hy, ha r (by simp [numsL, nums1, nums0]), hH]
        exact ⟨h0, i, h1, h2, rfl, trivial⟩
theorem det_slice2 {t : TypeId} {o oa : Operand} {x a : T} (h : Eff tt (.slice t o none (some oa) none) ty [x, a] H id K) : Det (fun H K => Eff tt (.slice t o none (some oa) none) ty [x, a] H id K) H (numsL [x, a]) K := by
  simp only [Eff] at h
  split at h <;> try exact h.elim
  · rename_i ik n s y hy
    obtain ⟨h0, i, h1, h2, h⟩ := h
    exact ⟨_, _, h, fun H' _ => by simp only [Eff, hy]; exact ⟨h0, i, h1, h2, rfl, trivial⟩⟩
  · rename_i ik n k es y hy
    obtain ⟨h0, i, h1, h2, h⟩ := h
    exact ⟨_, _, h, fun H' _ => by simp only [Eff, hy]; exact ⟨h0, i, h1, h2, rfl, trivial⟩⟩
  · rename_i ik n r y hy
    cases hH : H r with
    | none => simp only [hH] at h
    | some e => cases e with
      | box cs => simp only [hH] at h
      | row k es =>
        simp only [hH] at h
        obtain ⟨h0, i, h1, h2, h⟩ := h
        refine ⟨_, _, h, fun H' ha => ?_⟩
        simp only [Eff, hy, ha r (by simp [numsL, nums1, nums0]), hH]
        exact ⟨h0, i, h1, h2, rfl, trivial⟩
theorem det_slice3 {t : TypeId} {o oa ob : Operand} {x a b : T} (h : Eff tt (.slice t o (some oa) (some ob) none) ty [x, a, b] H id K) : Det (fun H K => Eff tt (.slice t o (some oa) (some ob) none) ty [x, a, b] H id K) H (numsL [x, a, b]) K := by
  simp only [Eff] at h
  split at h <;> try exact h.elim
  all_goals
    rename_i hy
    obtain ⟨h0, i, j, h1, h2, h3, h4, h⟩ := h
    exact ⟨_, _, h, fun H' _ => by simp only [Eff, hy]; exact ⟨h0, i, j, h1, h2, h3, h4, rfl, trivial⟩⟩
theorem det_min {c : Go.Call} {x z : T} (hc : c.callee = .builtin .min) (h : Eff tt (.call c) ty [x, z] H id K) : Det (fun H K => Eff tt (.call c) ty [x, z] H id K) H (numsL [x, z]) K := by
  simp only [Eff, hc] at h
  cases x <;> cases z <;> simp only at h
  obtain ⟨r, h1, h⟩ := h
  exact ⟨_, _, h, fun H' _ => by simp only [Eff, hc]; exact ⟨r, h1, rfl, trivial⟩⟩
theorem det_max {c : Go.Call} {x z : T} (hc : c.callee = .builtin .max) (h : Eff tt (.call c) ty [x, z] H id K) : Det (fun H K => Eff tt (.call c) ty [x, z] H id K) H (numsL [x, z]) K := by
  simp only [Eff, hc] at h
  cases x <;> cases z <;> simp only at h
  obtain ⟨r, h1, h⟩ := h
  exact ⟨_, _, h, fun H' _ => by simp only [Eff, hc]; exact ⟨r, h1, rfl, trivial⟩⟩
theorem det_len {c : Go.Call} {x : T} (hc : c.callee = .builtin .len) (h : Eff tt (.call c) ty [x] H id K) : Det (fun H K => Eff tt (.call c) ty [x] H id K) H (numsL [x]) K := by
  simp only [Eff, hc] at h
  split at h <;> try exact h.elim
  rename_i t hts
  split at h <;> try exact h.elim
  rename_i y hy
  cases x <;> simp only at h
  case str s => exact ⟨_, _, h.2, fun H' _ => by simp only [Eff, hc, hts, hy]; exact ⟨h.1, trivial, trivial⟩⟩
  case sl k es =>
    obtain ⟨h0, n, h1, h⟩ := h
    exact ⟨_, _, h, fun H' _ => by simp only [Eff, hc, hts, hy]; exact ⟨h0, n, h1, rfl, trivial⟩⟩
  case ref r =>
    cases hH : H r with
    | none => simp only [hH] at h
    | some e => cases e with
      | box cs => simp only [hH] at h
      | row k es =>
        simp only [hH] at h
        obtain ⟨h0, n, h1, h⟩ := h
        refine ⟨_, _, h, fun H' ha => ?_⟩
        simp only [Eff, hc, hts, hy, ha r (by simp [numsL, nums1, nums0]), hH]
        exact ⟨h0, n, h1, rfl, trivial⟩
  case val v => exact ⟨_, _, h.2.2, fun H' _ => by simp only [Eff, hc, hts, hy]; exact ⟨h.1, h.2.1, trivial, trivial⟩⟩
theorem det_append {c : Go.Call} {x z : T} (hc : c.callee = .builtin .append) (h : Eff tt (.call c) ty [x, z] H id K) : Det (fun H K => Eff tt (.call c) ty [x, z] H id K) H (numsL [x, z]) K := by
  simp only [Eff, hc] at h
  split at h <;> try exact h.elim
  rename_i t u hts
  split at h <;> try exact h.elim
  rename_i y yu hy hyu
  split at h <;> try exact h.elim
  rename_i e hd
  split at h <;> try exact h.elim
  rename_i ye hye
  obtain ⟨k, es, g, ⟨h1, h2, h3, h4, h5⟩, q⟩ := appT_det h
  refine ⟨_, _, h5, fun H' ha => ?_⟩
  simp only [Eff, hc, hts, hy, hyu, hd, hye]
  have := q H' (fun r hr => ha r (by simpa [numsL] using hr))
  exact appT_mono this fun k' es' g' hh => by obtain ⟨rfl, rfl, rfl⟩ := hh; exact ⟨h1, h2, h3, h4, trivial, rfl⟩
theorem eff_det {op : Op} {args : List T} (h : Eff tt op ty args H id K) : Det (fun H K => Eff tt op ty args H id K) H (numsL args) K := by
  have fz : ∀ {x : T}, forceT x (fun x => K x []) → ∃ r, K r [] ∧ forceT x fun r' => r' = r := fun h => forceT_det h
  cases op
  case move o => match args, h with
    | [x], h => obtain ⟨r, q1, q2⟩ := fz h; exact ⟨r, [], q1, fun H' _ => by simp only [Eff, and_true]; exact q2⟩
  case assign o => match args, h with
    | [x], h => obtain ⟨r, q1, q2⟩ := fz h; exact ⟨r, [], q1, fun H' _ => by simp only [Eff, and_true]; exact q2⟩
  case pick o1 o2 o3 => match args, h with
    | [c, a, b], h =>
      cases c <;> simp only [Eff, CondT] at h
      case bool t =>
        cases t with
        | true => obtain ⟨r, q1, q2⟩ := fz (h.1 rfl); exact ⟨r, [], q1, fun H' _ => by simp only [Eff, CondT, and_true]; exact ⟨fun _ => q2, fun e => by cases e⟩⟩
        | false => obtain ⟨r, q1, q2⟩ := fz (h.2 rfl); exact ⟨r, [], q1, fun H' _ => by simp only [Eff, CondT, and_true]; exact ⟨fun e => (by cases e), fun _ => q2⟩⟩
  case alloc e => match args, h with
    | [], h =>
      simp only [Eff] at h
      split at h <;> try exact h.elim
      rename_i y hy
      exact ⟨_, _, h, fun H' _ => by simp only [Eff, hy]; exact ⟨trivial, trivial⟩⟩
  case box e o => match args, h with
    | [x], h =>
      simp only [Eff] at h
      split at h <;> try exact h.elim
      rename_i y cs hy hc
      exact ⟨_, _, h, fun H' _ => by simp only [Eff, hy, hc]; exact ⟨trivial, trivial⟩⟩
  case nilCheck o => match args, h with
    | [x], h =>
      cases x <;> simp only [Eff] at h
      all_goals exact ⟨_, _, h, fun H' _ => by simp only [Eff]; exact ⟨trivial, trivial⟩⟩
  case fieldAddr st o f => match args, h with
    | [x], h => exact det_fieldAddr h
  case indexAddr t o o' => match args, h with
    | [x, i], h => exact det_indexAddr h
  case index t o o' => match args, h with
    | [x, i], h => exact det_index h
  case makeFunc fn a b =>
    simp only [Eff] at h
    split at h <;> try exact h.elim
    · rename_i ha
      obtain ⟨rfl, rfl, h⟩ := h
      exact ⟨_, _, h, fun H' _ => by simp only [Eff, ha]; exact ⟨trivial, trivial, trivial, trivial⟩⟩
    · rename_i ha
      obtain ⟨rfl, rfl, rfl, rfl, h⟩ := h
      exact ⟨_, _, h, fun H' _ => by simp only [Eff, ha]; exact ⟨trivial, trivial, trivial, trivial, trivial, trivial⟩⟩
  case extract o i => match args, h with
    | [x], h =>
      cases x <;> simp only [Eff] at h
      case tup cs =>
        split at h <;> try exact h.elim
        rename_i c hc
        obtain ⟨r, q1, q2⟩ := fz h
        exact ⟨r, [], q1, fun H' _ => by simp only [Eff, hc, and_true]; exact q2⟩
  case load t o => match args, h with
    | [x], h => exact det_load h
  case store t o o' => match args, h with
    | [p, x], h => exact det_store h
  case binOp op t o o' t' => match args, h with
    | [x, y], h =>
      cases x <;> cases y <;> simp only [Eff] at h <;> first
        | (obtain ⟨r, q1, q2⟩ := binT_det (K := fun r => K r []) h; exact ⟨r, [], q1, fun H' _ => by simp only [Eff, and_true]; exact q2⟩)
        | (obtain ⟨r, q1, q2⟩ := eqT_det (K := fun r => K r []) h; exact ⟨r, [], q1, fun H' _ => by simp only [Eff, and_true]; exact q2⟩)
        | (obtain ⟨r, q1, q2⟩ := eqB_det (K := fun r => K r []) h; exact ⟨r, [], q1, fun H' _ => by simp only [Eff, and_true]; exact q2⟩)
  case unOp op t o => match args, h with
    | [x], h => obtain ⟨r, q1, q2⟩ := unT_det (K := fun r => K r []) h; exact ⟨r, [], q1, fun H' _ => by simp only [Eff, and_true]; exact q2⟩
  case convert a b o => match args, h with
    | [x], h => exact det_convert h
  case build t ps => exact det_build h
  case buildSlice t n ps => exact det_buildSlice h
  case makeSlice t o o' => match args, h with
    | [x, y], h => exact det_makeSlice h
  case slice t o lo hi mx => match lo, hi, mx, args, h with
    | some l, none, none, [x, a], h => exact det_slice1 h
    | none, some l, none, [x, a], h => exact det_slice2 h
    | some l, some m, none, [x, a, b], h => exact det_slice3 h
  case call c =>
    cases hc : c.callee with
    | value f => simp only [Eff, hc] at h
    | invoke r m => simp only [Eff, hc] at h
    | builtin b =>
      cases b <;> try (simp only [Eff, hc] at h; done)
      case min => match args, h with
        | [x, z], h => exact det_min hc h
        | [], h => simp only [Eff, hc] at h
        | [_], h => simp only [Eff, hc] at h
        | _ :: _ :: _ :: _, h => simp only [Eff, hc] at h
      case max => match args, h with
        | [x, z], h => exact det_max hc h
        | [], h => simp only [Eff, hc] at h
        | [_], h => simp only [Eff, hc] at h
        | _ :: _ :: _ :: _, h => simp only [Eff, hc] at h
      case len => match args, h with
        | [x], h => exact det_len hc h
        | [], h => simp only [Eff, hc] at h
        | _ :: _ :: _, h => simp only [Eff, hc] at h
      case append => match args, h with
        | [x, z], h => exact det_append hc h
        | [], h => simp only [Eff, hc] at h
        | [_], h => simp only [Eff, hc] at h
        | _ :: _ :: _ :: _, h => simp only [Eff, hc] at h
  all_goals (simp only [Eff] at h)
end

/-! ### calls, and operations in general -/
theorem am0_agr {σ : List Nat} {H H' : Hp} {x t : T} (ha : Agr H H' (nums0 x)) (h : AM0 σ H x t) : AM0 σ H' x t := by
  cases x <;> simp only [AM0] at h ⊢ <;> try exact h
  case ref r =>
    cases t <;> simp only at h ⊢ <;> try exact h
    rw [ha r (by simp [nums0])]; exact h
theorem aml_agr {σ : List Nat} {H H' : Hp} : ∀ {xs ts : List T}, Agr H H' (xs.flatMap nums0) → AMl σ H xs ts → AMl σ H' xs ts
  | [], ts, _, h => h
  | x :: xs, [], _, h => h.elim
  | x :: xs, t :: ts, ha, h => ⟨am0_agr (fun r hr => ha r (by simp [hr])) h.1, aml_agr (fun r hr => ha r (by simp only [List.flatMap_cons, List.mem_append]; exact .inr hr)) h.2⟩
theorem am1_agr {σ : List Nat} {H H' : Hp} {x t : T} (ha : Agr H H' (nums1 x)) (h : AM1 σ H x t) : AM1 σ H' x t := by
  cases x
  case agg xs =>
    cases t <;> simp only [AM1] at h ⊢ <;> try exact h
    exact aml_agr ha h
  all_goals (simp only [AM1] at h ⊢; simp only [nums1] at ha; exact am0_agr ha h)
theorem am_agr {σ : List Nat} {H H' : Hp} : ∀ {xs ts : List T}, Agr H H' (numsL xs) → AM σ H xs ts → AM σ H' xs ts
  | [], ts, _, h => h
  | x :: xs, [], _, h => h.elim
  | x :: xs, t :: ts, ha, h => ⟨am1_agr (fun r hr => ha r (by simp [numsL, hr])) h.1, am_agr (fun r hr => ha r (by simp only [numsL, List.flatMap_cons, List.mem_append]; exact .inr hr)) h.2⟩
theorem hm_agr {σ : List Nat} {H H' : Hp} {m : Nat} : ∀ {l : List Nat} {He : List Ent}, Agr H H' l → HM σ H m l He → HM σ H' m l He
  | [], He, _, h => h
  | s :: l, [], _, h => h.elim
  | s :: l, e :: He, ha, h => ⟨by rw [ha s (by simp)]; exact h.1, h.2.1, hm_agr (fun r hr => ha r (by simp [hr])) h.2.2⟩
theorem callP0_det {P : Program} {f : FuncId} {xs : List T} {H : Hp} {id : Nat} {K : List Nat → Kon} (h : CallP0 P f xs H id K) :
    ∃ σ x u, K σ x u ∧ ∀ H', Agr H H' (numsL xs ++ σ) → CallP0 P f xs H' id fun _ x' u' => x' = x ∧ u' = u := by
  obtain ⟨σ, He, ts, r, He', hct, ham, hm, h1, h2, h3, h4, hk⟩ := h
  exact ⟨σ, _, _, hk, fun H' ha => ⟨σ, He, ts, r, He', hct, am_agr (fun r hr => ha r (by simp [hr])) ham, hm_agr (fun r hr => ha r (by simp [hr])) hm, h1, h2, h3, h4, rfl, rfl⟩⟩
theorem agr_upd {H H' : Hp} {l : List Nat} : ∀ (u : Upd), Agr H H' l → Agr (updL H u) (updL H' u) l
  | [], h => h
  | (r, e) :: u, h => agr_upd u fun i hi => by
    show updE H' r e i = updE H r e i
    unfold updE
    rw [h i hi]
theorem frz0_agr {gs : List Nat} {H H' : Hp} {x : T} (h : Agr H H' (nums0 x)) : frz0 gs H' x = frz0 gs H x := by
  cases x <;> try rfl
  case ref r => simp only [frz0]; rw [h r (by simp [nums0])]
theorem frz1_agr {gs : List Nat} {H H' : Hp} {x : T} (h : Agr H H' (nums1 x)) : frz1 gs H' x = frz1 gs H x := by
  cases x
  case agg cs =>
    simp only [frz1]
    congr 1
    refine List.map_congr_left fun c hc => frz0_agr fun r hr => h r ?_
    exact List.mem_flatMap.2 ⟨c, hc, hr⟩
  case ref r => exact frz0_agr (x := .ref r) h
  all_goals rfl
theorem frzL_agr {gs : List Nat} {H H' : Hp} {xs : List T} (h : Agr H H' (numsL xs)) : xs.map (frz1 gs H') = xs.map (frz1 gs H) :=
  List.map_congr_left fun c hc => frz1_agr fun r hr => h r (List.mem_flatMap.2 ⟨c, hc, hr⟩)
theorem frz0_nums {gs : List Nat} {H : Hp} {x : T} : ∀ r ∈ nums0 (frz0 gs H x), r ∈ nums0 x := by
  cases x <;> try exact fun r h => h
  case ref r =>
    intro i hi
    simp only [frz0] at hi
    cases hg : gs.contains r with
    | false => rw [hg] at hi; exact hi
    | true =>
      rw [hg] at hi
      simp only [cond_true] at hi
      split at hi
      · simp [nums0] at hi
      · exact hi
theorem frz1_nums {gs : List Nat} {H : Hp} {x : T} : ∀ r ∈ nums1 (frz1 gs H x), r ∈ nums1 x := by
  cases x
  case agg cs =>
    intro r hr
    simp only [frz1, nums1, List.mem_flatMap, List.mem_map] at hr
    obtain ⟨c, ⟨c', hc', rfl⟩, hr⟩ := hr
    exact List.mem_flatMap.2 ⟨c', hc', frz0_nums r hr⟩
  case ref r =>
    intro i hi
    have h2 := frz0_nums (gs := gs) (H := H) (x := .ref r) i
    refine h2 ?_
    have e : frz1 gs H (.ref r) = frz0 gs H (.ref r) := rfl
    rw [e] at hi
    revert hi
    cases hz : frz0 gs H (.ref r) <;> intro hi <;> first | exact hi | (simp [nums1, nums0] at hi; done) | skip
    simp only [frz0] at hz
    cases hg : gs.contains r with
    | false => rw [hg] at hz; cases hz
    | true =>
      rw [hg] at hz
      simp only [cond_true] at hz
      split at hz <;> cases hz
  all_goals exact fun r h => h
theorem frzL_nums {gs : List Nat} {H : Hp} {xs : List T} : ∀ r ∈ numsL (xs.map (frz1 gs H)), r ∈ numsL xs := by
  intro r hr
  simp only [numsL, List.mem_flatMap, List.mem_map] at hr
  obtain ⟨c, ⟨c', hc', rfl⟩, hr⟩ := hr
  exact List.mem_flatMap.2 ⟨c', hc', frz1_nums r hr⟩
theorem callP_det {P : Program} {f : FuncId} {xs : List T} {H : Hp} {id : Nat} {K : List Nat → Kon} (h : CallP P f xs H id K) :
    ∃ σ x u, K σ x u ∧ ∀ H', Agr H H' (numsL xs ++ σ) → CallP P f xs H' id fun _ x' u' => x' = x ∧ u' = u := by
  obtain ⟨gs, h⟩ := h
  obtain ⟨σ, x, u, hk, hd⟩ := callP0_det h
  refine ⟨σ, x, _, hk, fun H' ha => ⟨gs, ?_⟩⟩
  rw [frzL_agr (fun r hr => ha r (by simp [hr]))]
  have h2 := hd (updL H' (goneU gs)) (agr_upd _ fun r hr => ha r (by
    rcases List.mem_append.1 hr with hr | hr
    · exact List.mem_append.2 (.inl (frzL_nums r hr))
    · exact List.mem_append.2 (.inr hr)))
  obtain ⟨σ', He, ts, r, He', a1, a2, a3, a4, a5, a6, a7, a8, a9⟩ := h2
  exact ⟨σ', He, ts, r, He', a1, a2, a3, a4, a5, a6, a7, a8, by rw [a9]⟩
abbrev KonR := T → Upd → List Nat → Prop
def OpD (P : Program) (tt : TT) (o : Oper) (S : St) (id : Nat) (K : KonR) : Prop := match o.op with
  | .call c => match c.callee with
    | .value f => match fnCap (S.ev f) with
      | some (f, l) => CallP P f (c.args.toList.map S.ev ++ l) S.H id fun σ x u => K x u (numsL (c.args.toList.map S.ev ++ l) ++ σ)
      | none => False
    | _ => Eff tt (.call c) o.type (c.args.toList.map S.ev) S.H id fun x u => K x u (numsL (c.args.toList.map S.ev))
  | op => Eff tt op o.type ((opnds op).map S.ev) S.H id fun x u => K x u (numsL ((opnds op).map S.ev))
def OpDF (P : Program) (tt : TT) (o : Oper) (S : St) (id : Nat) (K : KonR) : Prop := match o.op with
  | .call c => match c.callee with
    | .value f => match fnCap (S.ev f) with
      | some (f, l) => forceArgs (c.args.toList.map S.ev ++ l) fun xs => CallP P f xs S.H id fun σ x u => K x u (numsL xs ++ σ)
      | none => False
    | _ => forceArgs (c.args.toList.map S.ev) fun xs => Eff tt (.call c) o.type xs S.H id fun x u => K x u (numsL xs)
  | op => forceArgs ((opnds op).map S.ev) fun xs => Eff tt op o.type xs S.H id fun x u => K x u (numsL xs)
theorem opDF {P : Program} {tt : TT} {o : Oper} {S : St} {id : Nat} {K : KonR} (h : OpDF P tt o S id K) : OpD P tt o S id K := by
  obtain ⟨dst, op, ty, pos, after, guard⟩ := o
  cases op
  case call c =>
    obtain ⟨callee, args, argTypes⟩ := c
    cases callee
    case value f =>
      simp only [OpD]
      simp only [OpDF] at h
      split at h
      · rename_i fid l hf
        exact forceArgs_eq (K := fun xs => CallP P fid xs S.H id fun σ x u => K x u (numsL xs ++ σ)) h
      · exact h
    all_goals exact forceArgs_eq (K := fun xs => Eff tt _ ty xs S.H id fun x u => K x u (numsL xs)) h
  all_goals exact forceArgs_eq (K := fun xs => Eff tt _ ty xs S.H id fun x u => K x u (numsL xs)) h
def tmpOf : Operand → Option Nat
  | .tmp t => some t
  | _ => none
def tmpsO (o : Oper) : List Nat := (opnds o.op).filterMap tmpOf
theorem ev_agr {S S' : St} : ∀ {l : List Operand}, (∀ t ∈ l.filterMap tmpOf, S'.get t = S.get t) → l.map S'.ev = l.map S.ev
  | [], _ => rfl
  | o :: l, h => by
    have h2 : l.map S'.ev = l.map S.ev := ev_agr (fun t ht => h t (by
      simp only [List.filterMap_cons]
      cases tmpOf o with
      | none => exact ht
      | some s => exact List.mem_cons_of_mem _ ht))
    rw [List.map_cons, List.map_cons, h2]
    congr 1
    cases o with
    | tmp t => exact h t (by simp [tmpOf])
    | const v => rfl
    | global g => rfl
    | func f => rfl
theorem opD_det {P : Program} {tt : TT} {o : Oper} {S : St} {id : Nat} {K : KonR} (h : OpD P tt o S id K) :
    ∃ x u rd, K x u rd ∧ ∀ S' : St, (∀ t ∈ tmpsO o, S'.get t = S.get t) → Agr S.H S'.H rd → OpP P tt o S' id fun x' u' => x' = x ∧ u' = u := by
  obtain ⟨dst, op, ty, pos, after, guard⟩ := o
  unfold OpD at h
  split at h
  · rename_i c hop
    subst hop
    have hargs : ∀ S' : St, (∀ t ∈ tmpsO ⟨dst, .call c, ty, pos, after, guard⟩, S'.get t = S.get t) → c.args.toList.map S'.ev = c.args.toList.map S.ev := fun S' hs =>
      ev_agr fun t ht => hs t (by
        simp only [tmpsO, opnds, List.filterMap_append, List.mem_append]
        exact .inr ht)
    split at h
    · rename_i f hc
      split at h
      · rename_i fid hfid
        obtain ⟨σ, x, u, q1, q2⟩ := callP_det h
        refine ⟨x, u, _, q1, fun S' hs ha => ?_⟩
        have hf : S'.ev f = S.ev f := by
          have := ev_agr (S := S) (S' := S') (l := [f]) fun t ht => hs t (by
            simp only [tmpsO, opnds, hc, List.filterMap_append, List.mem_append]
            exact .inl ht)
          simpa using this
        simp only [OpP, hc, hargs S' hs, hf, hfid]
        exact q2 _ ha
      · exact h.elim
    · rename_i hc
      obtain ⟨x, u, q1, q2⟩ := eff_det h
      refine ⟨x, u, _, q1, fun S' hs ha => ?_⟩
      have := q2 _ ha
      unfold OpP
      simp only
      rw [hargs S' hs]; exact this
  · rename_i hop
    obtain ⟨x, u, q1, q2⟩ := eff_det h
    refine ⟨x, u, _, q1, fun S' hs ha => ?_⟩
    have := q2 _ ha
    have he : (opnds op).map S'.ev = (opnds op).map S.ev := ev_agr hs
    unfold OpP
    simp only
    rw [he]; exact this
end Go.Proofs.YtkgfidphcpklhaaDoor
