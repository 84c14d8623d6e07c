/- What a call is told of an argument that holds structs, strings and slices: its content, by its shape. -/
import Derived.Test.YtfgfkhmldlpmkaaGreatDoorShell
import Derived.ChangeOld
namespace Go.Proofs.YtfgfkhmldlpmkaaGreatDoor
open Go.RowKit Pl
set_option linter.unusedVariables false
set_option linter.unusedSimpArgs false

/-- What a run of cells holds. -/
inductive Shp where
  | int | bool | str | nop
  | sl (k : Nat) (s : Shp)
  | two (a b : Shp)
def Shp.wd : Shp → Nat
  | .nop => 0
  | .two a b => a.wd + b.wd
  | _ => 1
/-- A content of this shape, nothing in it longer than N. -/
def Fits (N : Nat) : Shp → List T → Prop
  | .int, ts => ∃ n, ts = [.int .i64 n] ∧ -9223372036854775808 ≤ n ∧ n ≤ 9223372036854775807
  | .bool, ts => ∃ b, ts = [.bool b]
  | .str, ts => ∃ l : Bs, ts = [.str l] ∧ l.length ≤ N
  | .nop, ts => ts = []
  | .sl k s, ts => ∃ es, ts = [.sl k es] ∧ es.length ≤ N ∧ ∀ e ∈ es, Fits N s e
  | .two a b, ts => ∃ x y, ts = x ++ y ∧ Fits N a x ∧ Fits N b y
theorem Fits.len {N : Nat} : ∀ {s : Shp} {ts : List T}, Fits N s ts → ts.length = s.wd
  | .int, _, h => by obtain ⟨n, rfl, _⟩ := h; rfl
  | .bool, _, h => by obtain ⟨n, rfl⟩ := h; rfl
  | .str, _, h => by obtain ⟨n, rfl, _⟩ := h; rfl
  | .nop, _, h => by subst h; rfl
  | .sl k s, _, h => by obtain ⟨n, rfl, _⟩ := h; rfl
  | .two a b, _, h => by
    obtain ⟨x, y, rfl, h1, h2⟩ := h
    rw [List.length_append, h1.len, h2.len]; rfl
mutual
/-- A type is of this shape. -/
inductive TOk (P : Program) : TypeId → Shp → Prop
  | int {t} : P.underlying t = some (.int .i64) → TOk P t .int
  | bool {t} : P.underlying t = some .bool → TOk P t .bool
  | str {t} : P.underlying t = some .string → TOk P t .str
  | sl {t e k s} : P.underlying t = some (.slice e) → P.cellsOf e = k → s.wd = k → 0 < k → TOk P e s → TOk P t (.sl k s)
  | st {t fs s} : P.underlying t = some (.struct fs) → P.cellsOf t = s.wd → FOk P (fs.toList.map fun f => (f.type, f.offset)) 0 s → TOk P t s
inductive FOk (P : Program) : List (TypeId × Nat) → Nat → Shp → Prop
  | nil {o} : FOk P [] o .nop
  | cons {t fs o a b} : P.cellsOf t = a.wd → TOk P t a → FOk P fs (o + a.wd) b → FOk P ((t, o) :: fs) o (.two a b)
end
theorem rl_app {ow : Own} {w : World} : ∀ {x y : List T} {us vs : List Value}, RL ow w x us → RL ow w y vs → RL ow w (x ++ y) (us ++ vs)
  | [], y, us, vs, h1, h2 => by simp only [RL] at h1; subst h1; exact h2
  | c :: x, y, us, vs, h1, h2 => by
    simp only [RL] at h1
    obtain ⟨u, us', rfl, h3, h4⟩ := h1
    simp only [List.cons_append, RL]
    exact ⟨u, us' ++ vs, rfl, h3, rl_app h4 h2⟩
theorem re_of {ow : Own} {w : World} {k : Nat} : ∀ {es : List (List T)} {vs : List Value}, (∀ i e, es[i]? = some e → ((vs.drop (i * k)).take k).length = k ∧ RL ow w e ((vs.drop (i * k)).take k)) → RE ow w k es vs
  | [], vs, _ => by simp only [RE]
  | e :: es, vs, h => by
    simp only [RE]
    have h0 := h 0 e rfl
    rw [Nat.zero_mul, List.drop_zero] at h0
    refine ⟨vs.take k, vs.drop k, (List.take_append_drop k vs).symm, h0.1, h0.2, re_of fun i e he => ?_⟩
    have h1 := h (i + 1) e he
    rw [List.drop_drop, show k + i * k = (i + 1) * k by rw [Nat.add_mul, Nat.one_mul, Nat.add_comm]]
    exact h1
theorem bs_self (s : ByteArray) : bs s.data.toList = s := by
  cases s with
  | mk d => cases d; rfl
theorem pick_list {α : Type} {p : Nat → α → Prop} : ∀ n, (∀ i, i < n → ∃ x, p i x) → ∃ l : List α, l.length = n ∧ ∀ i x, l[i]? = some x → p i x
  | 0, _ => ⟨[], rfl, fun i x h => by simp at h⟩
  | n + 1, h => by
    obtain ⟨l, hl, hp⟩ := pick_list n fun i hi => h i (by omega)
    obtain ⟨x, hx⟩ := h n (by omega)
    refine ⟨l ++ [x], by simp [hl], fun i y hy => ?_⟩
    rcases Nat.lt_or_ge i n with hi | hi
    · rw [List.getElem?_append_left (by omega)] at hy
      exact hp i y hy
    · rw [List.getElem?_append_right (by omega), hl] at hy
      cases hd : i - n with
      | zero =>
        rw [hd] at hy
        simp at hy
        obtain rfl : i = n := by omega
        exact hy ▸ hx
      | succ m => rw [hd] at hy; simp at hy
theorem mapM_all {α β : Type} {f : α → Option β} {l : List α} {r : List β} (h : l.mapM f = some r) : ∀ x ∈ l, ∃ y, f x = some y := fun x hx => by
  obtain ⟨i, hi⟩ := List.getElem?_of_mem hx
  have h1 := mapM_some_get h i x hi
  have h2 := mapM_some_length h
  have h3 := (List.getElem?_eq_some_iff.1 hi).1
  exact ⟨r[i], by rw [h1]; exact List.getElem?_eq_getElem (by omega)⟩
section
variable {H : Type} {enc : TypeId × Value → H} {P : Program} {w : World}
theorem fs_fit {n : Nat} (ih : ∀ t s cs x, TOk P t s → DataW.trod enc P w 0 (fun _ => true) true n t cs = some x → ∃ ts, Fits maxLen s ts ∧ RL (fun _ => none) w ts cs) :
    ∀ (fs : List (TypeId × Nat)) (o : Nat) (s : Shp) (cs : List Value), FOk P fs o s → cs.length = o + s.wd → (∀ f ∈ fs, ∃ x, DataW.trod enc P w 0 (fun _ => true) true n f.1 ((cs.drop f.2).take (P.cellsOf f.1)) = some x) →
      ∃ ts, Fits maxLen s ts ∧ RL (fun _ => none) w ts (cs.drop o)
  | [], o, s, cs, h, hl, hf => by
    cases h
    refine ⟨[], rfl, ?_⟩
    rw [List.drop_eq_nil_of_le (by rw [hl]; exact Nat.le_refl _)]
    simp only [RL]
  | f :: fs, o, s, cs, h, hl, hf => by
    cases h with
    | @cons t _ _ a b h1 h2 h3 =>
      obtain ⟨x, hx⟩ := hf (t, o) (by simp)
      obtain ⟨ts1, a1, a2⟩ := ih _ _ _ _ h2 hx
      have hl2 : cs.length = o + (a.wd + b.wd) := hl
      obtain ⟨ts2, b1, b2⟩ := fs_fit ih fs (o + a.wd) b cs h3 (by omega) fun g hg => hf g (List.mem_cons_of_mem _ hg)
      refine ⟨ts1 ++ ts2, ⟨ts1, ts2, rfl, a1, b1⟩, ?_⟩
      have e : cs.drop o = (cs.drop o).take a.wd ++ cs.drop (o + a.wd) := by rw [← List.drop_drop, List.take_append_drop]
      rw [e]
      simp only [h1] at a2
      exact rl_app a2 b2
/-- What is read of a value gives its content. -/
theorem trod_fit : ∀ (n : Nat) (t : TypeId) (s : Shp) (cs : List Value) (x : DataW H × List MemPlace), TOk P t s → DataW.trod enc P w 0 (fun _ => true) true n t cs = some x → ∃ ts, Fits maxLen s ts ∧ RL (fun _ => none) w ts cs := by
  intro n
  induction n with
  | zero => intro t s cs x _ h; simp [DataW.trod] at h
  | succ n ih =>
    intro t s cs x ht h
    rw [DataW.trod_step] at h
    cases ht with
    | int hu =>
      unfold DataW.trodStep at h
      rw [hu] at h
      split at h <;> try (simp_all; done)
      rename_i k k' m he
      injection he with he
      injection he with he
      subst he
      split at h
      · rename_i hc
        obtain ⟨rfl, hw⟩ := hc
        have hb : -9223372036854775808 ≤ m ∧ m ≤ 9223372036854775807 := by simpa [Lit.wf, IntKind.min, IntKind.max, IntKind.signed, IntKind.bits] using hw
        exact ⟨[.int .i64 m], ⟨m, rfl, hb.1, hb.2⟩, by simp [RL, RV]⟩
      · cases h
    | bool hu =>
      unfold DataW.trodStep at h
      rw [hu] at h
      split at h <;> try (simp_all; done)
      rename_i b he
      exact ⟨[.bool b], ⟨b, rfl⟩, by simp [RL, RV]⟩
    | str hu =>
      unfold DataW.trodStep at h
      rw [hu] at h
      split at h <;> try (simp_all; done)
      rename_i s he
      split at h
      · rename_i hs
        exact ⟨[.str s.data.toList], ⟨s.data.toList, rfl, by simpa using hs⟩, by simp [RL, RV, bs_self]⟩
      · cases h
    | @sl _ e k s hu h1 h2 h3 h4 =>
      unfold DataW.trodStep at h
      rw [hu] at h
      split at h <;> try (simp_all; done)
      · exact ⟨[.sl k []], ⟨[], rfl, Nat.zero_le _, fun e he => by cases he⟩, by simp [RL, RV]⟩
      · rename_i e' a len cap he
        injection he with he
        injection he with he
        subst he
        simp only at h
        split at h
        · rename_i hc
          obtain ⟨_, hlc, hcm⟩ := hc
          simp only [Option.map_eq_some_iff, Option.bind_eq_some_iff] at h
          obtain ⟨elems, hel, _⟩ := h
          rw [h1] at hel
          have hall := mapM_all hel
          obtain ⟨es, hes, hp⟩ := pick_list (p := fun i ts => Fits maxLen s ts ∧ ∃ us, w.cells? 0 (a.add (i * k)) k = some us ∧ RL (fun _ => none) w ts us) len fun i hi => by
            obtain ⟨y, hy⟩ := hall i (List.mem_range.2 hi)
            obtain ⟨us, hu1, hu2⟩ := Option.bind_eq_some_iff.1 hy
            obtain ⟨ts, ha, hb⟩ := ih _ _ _ _ h4 hu2
            exact ⟨ts, ha, us, hu1, hb⟩
          refine ⟨[.sl k es], ⟨es, rfl, by omega, fun x hx => ?_⟩, ?_⟩
          · obtain ⟨i, hi⟩ := List.getElem?_of_mem hx
            exact (hp i x hi).1
          · simp only [RL]
            refine ⟨_, [], rfl, ?_, rfl⟩
            simp only [RV]
            refine ⟨some a, cap, by rw [hes], by omega, ?_⟩
            cases hes0 : es with
            | nil => exact .inl rfl
            | cons e0 es0 =>
              right
              rw [← hes0]
              have h0 : es[0]? = some e0 := by rw [hes0]; rfl
              obtain ⟨_, us, hu1, _⟩ := hp 0 e0 h0
              rw [Nat.zero_mul] at hu1
              obtain ⟨_, hul, huc⟩ := World.cells?_some hu1
              have hc0 := huc 0 h3
              rw [List.getElem?_eq_getElem (by omega)] at hc0
              obtain ⟨g, o, sp⟩ := a
              cases sp with
              | some sp =>
                simp [World.cell?, Addr.add] at hc0
                split at hc0 <;> simp at hc0
              | none =>
                have hadd : ∀ i j, ((⟨g, o, none⟩ : Addr).add i).add j = ⟨g, o + i + j, none⟩ := fun i j => by
                  unfold Addr.add
                  split <;> split <;> simp_all <;> omega
                rw [hadd] at hc0
                simp only [World.cell?] at hc0
                cases hg : w.heap[g]? with
                | none => rw [hg] at hc0; cases hc0
                | some ob =>
                  cases ob with
                  | cells C t fr =>
                    refine ⟨g, o, C, t, fr, rfl, trivial, hg, re_of fun i e hi => ?_⟩
                    obtain ⟨_, us, hu1, hr⟩ := hp i e hi
                    obtain ⟨_, hul, huc⟩ := World.cells?_some hu1
                    have hus : ((C.toList.drop o).drop (i * k)).take k = us := by
                      apply List.ext_getElem?
                      intro j
                      rcases Nat.lt_or_ge j k with hj | hj
                      · rw [List.getElem?_take_of_lt hj, List.getElem?_drop, List.getElem?_drop, ← huc j hj, hadd]
                        simp only [World.cell?, hg]
                        simp [Nat.add_assoc]
                      · rw [List.getElem?_eq_none (by rw [List.length_take]; omega), List.getElem?_eq_none (by omega)]
                    rw [hus]
                    exact ⟨hul, hr⟩
                  | _ => rw [hg] at hc0; cases hc0
        · cases h
    | @st _ fs s hu h1 h2 =>
      unfold DataW.trodStep at h
      rw [hu] at h
      split at h <;> try (simp_all; done)
      rename_i fs' heq
      injection heq with heq
      injection heq with heq
      subst heq
      split at h
      · rename_i hl
        simp only [Option.map_eq_some_iff] at h
        obtain ⟨xs, hx, rfl⟩ := h
        have hall := mapM_all hx
        have := fs_fit (fun t s cs x => ih t s cs x) _ 0 s _ h2 (hl.trans (h1.trans (Nat.zero_add _).symm)) fun f hf => by
          obtain ⟨g, hg, rfl⟩ := List.mem_map.1 hf
          exact hall g hg
        simpa using this
      · cases h
end
end Go.Proofs.YtfgfkhmldlpmkaaGreatDoor
