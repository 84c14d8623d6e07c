/- What a contract by content says of a call from outside. What a call is told of an argument that holds structs, strings and slices: its content, by its shape. The types that the exact laws copy and compare, and their shapes. -/
import Derived.Test.YtbcgmjdfnjmhoaaGreatDoorVd
import Derived.Test.YtbcgmjdfnjmhoaaGreatDoorFa
import Derived.ChangeOld
namespace Go.Proofs.YtbcgmjdfnjmhoaaGreatDoor
set_option linter.unusedVariables false
set_option linter.unusedSimpArgs false
set_option linter.unusedSectionVars false
open Go.RowKit Pl
def cx0 (w : World) : Cx := { H := idxE [], ow := fun _ => none, w := w, us := fun i => i < 1, iw := fun _ => 0 }
theorem cx0_hr (w : World) (hg : Gl (cx0 w)) : HR (cx0 w) where
 gl := hg
 inj := fun g g' r h _ _ => absurd (by simp [cx0, idxE]) h
 lt := fun g r h => by cases h
 node := fun r e h => by have : idxE [] r = some e := h; simp [idxE] at this
 zero := rfl
 pos := by show 0 < 1; omega
 inn := fun g h => absurd rfl h
theorem zeg {P : Program} {f : FuncId} {ts : List T} (h : CT P f [] ts (.bool true) []) (w : World) (hg : Gl (cx0 w)) {vs : List Value} (ha : Args (cx0 w) ts vs) :
 Calls P f vs.toArray w fun e w' => e = .returned (.bool true) ∧ Below w.heap.size w w' := by
 refine (h.2 (cx0 w) (cx0_hr w hg) rfl rfl vs ha).mono ?_
 rintro e w' ⟨v, X', rfl, rfl, _, _, _, hv, hs⟩
 have hv : v = .bool true := by simpa only [RS, RS1, RS0, RV] using hv
 subst hv
 exact ⟨rfl, ⟨hs.os, hs.tape, hs.output, hs.size, fun k hk => (hs.stab k hk rfl).2⟩⟩
theorem zbn (w : World) (k : IntKind) (n : Int) : RS (cx0 w) (.int k n) (.int k n) := z14 _ _ _
end Go.Proofs.YtbcgmjdfnjmhoaaGreatDoor
namespace Go.Proofs.YtbcgmjdfnjmhoaaGreatDoor
set_option linter.unusedVariables false
set_option linter.unusedSimpArgs false
set_option linter.unusedSectionVars false
open Go.RowKit Pl
inductive Shp where
 | int | bool | str | nop
 | sl (k : Nat) (s : Shp)
 | two (a b : Shp)
def Shp.wd : Shp → Nat
 | .nop => 0
 | .two a b => a.wd + b.wd
 | _ => 1
def Fits (N : Nat) : Shp → List T → Prop
 | .int, ts => ∃ n, ts = [.int .i64 n] ∧ -9223372036854775808 ≤ n ∧ n ≤ 9223372036854775807
 | .bool, ts => ∃ b, ts = [.bool b]
 | .str, ts => ∃ l : Bs, ts = [.str l] ∧ l.length ≤ N
 | .nop, ts => ts = []
 | .sl k s, ts => ∃ es, ts = [.sl k es] ∧ es.length ≤ N ∧ ∀ e ∈ es, Fits N s e
 | .two a b, ts => ∃ x y, ts = x ++ y ∧ Fits N a x ∧ Fits N b y
theorem Fits.len {N : Nat} : ∀ {s : Shp} {ts : List T}, Fits N s ts → ts.length = s.wd
 | .int, _, h => by obtain ⟨n, rfl, _⟩ := h; rfl
 | .bool, _, h => by obtain ⟨n, rfl⟩ := h; rfl
 | .str, _, h => by obtain ⟨n, rfl, _⟩ := h; rfl
 | .nop, _, h => by subst h; rfl
 | .sl k s, _, h => by obtain ⟨n, rfl, _⟩ := h; rfl
 | .two a b, _, h => by
   obtain ⟨x, y, rfl, h1, h2⟩ := h
   rw [List.length_append, h1.len, h2.len]; rfl
mutual
inductive TOk (P : Program) : TypeId → Shp → Prop
 | int {t} : P.underlying t = some (.int .i64) → TOk P t .int
 | bool {t} : P.underlying t = some .bool → TOk P t .bool
 | str {t} : P.underlying t = some .string → TOk P t .str
 | sl {t e k s} : P.underlying t = some (.slice e) → P.cellsOf e = k → s.wd = k → 0 < k → TOk P e s → TOk P t (.sl k s)
 | st {t fs s} : P.underlying t = some (.struct fs) → P.cellsOf t = s.wd → FOk P (fs.toList.map fun f => (f.type, f.offset)) 0 s → TOk P t s
inductive FOk (P : Program) : List (TypeId × Nat) → Nat → Shp → Prop
 | nil {o} : FOk P [] o .nop
 | cons {t fs o a b} : P.cellsOf t = a.wd → TOk P t a → FOk P fs (o + a.wd) b → FOk P ((t, o) :: fs) o (.two a b)
end
theorem zdD {ow : Own} {w : World} : ∀ {x y : List T} {us vs : List Value}, RL ow w x us → RL ow w y vs → RL ow w (x ++ y) (us ++ vs)
 | [], y, us, vs, h1, h2 => by simp only [RL] at h1; subst h1; exact h2
 | c :: x, y, us, vs, h1, h2 => by
   simp only [RL] at h1
   obtain ⟨u, us', rfl, h3, h4⟩ := h1
   simp only [List.cons_append, RL]
   exact ⟨u, us' ++ vs, rfl, h3, zdD h4 h2⟩
theorem re_of {ow : Own} {w : World} {k : Nat} : ∀ {es : List (List T)} {vs : List Value}, (∀ i e, es[i]? = some e → ((vs.drop (i * k)).take k).length = k ∧ RL ow w e ((vs.drop (i * k)).take k)) → RE ow w k es vs
 | [], vs, _ => by simp only [RE]
 | e :: es, vs, h => by
   simp only [RE]
   have h0 := h 0 e rfl
   rw [Nat.zero_mul, List.drop_zero] at h0
   refine ⟨vs.take k, vs.drop k, (List.take_append_drop k vs).symm, h0.1, h0.2, re_of fun i e he => ?_⟩
   have h1 := h (i + 1) e he
   rw [List.drop_drop, show k + i * k = (i + 1) * k by rw [Nat.add_mul, Nat.one_mul, Nat.add_comm]]
   exact h1
theorem zeh (s : ByteArray) : bs s.data.toList = s := by
 cases s with
 | mk d => cases d; rfl
theorem z76 {α : Type} {p : Nat → α → Prop} : ∀ n, (∀ i, i < n → ∃ x, p i x) → ∃ l : List α, l.length = n ∧ ∀ i x, l[i]? = some x → p i x
 | 0, _ => ⟨[], rfl, fun i x h => by simp at h⟩
 | n + 1, h => by
   obtain ⟨l, hl, hp⟩ := z76 n fun i hi => h i (by omega)
   obtain ⟨x, hx⟩ := h n (by omega)
   refine ⟨l ++ [x], by simp [hl], fun i y hy => ?_⟩
   rcases Nat.lt_or_ge i n with hi | hi
   ·rw [List.getElem?_append_left (by omega)] at hy
    exact hp i y hy
   ·rw [List.getElem?_append_right (by omega), hl] at hy
    cases hd : i - n with
    | zero =>
      rw [hd] at hy
      simp at hy
      obtain rfl : i = n := by omega
      exact hy ▸ hx
    | succ m => rw [hd] at hy; simp at hy
theorem z9d {α β : Type} {f : α → Option β} {l : List α} {r : List β} (h : l.mapM f = some r) : ∀ x ∈ l, ∃ y, f x = some y := fun x hx => by
 obtain ⟨i, hi⟩ := List.getElem?_of_mem hx
 have h1 := mapM_some_get h i x hi
 have h2 := mapM_some_length h
 have h3 := (List.getElem?_eq_some_iff.1 hi).1
 exact ⟨r[i], by rw [h1]; exact List.getElem?_eq_getElem (by omega)⟩
section
variable {H : Type} {enc : TypeId × Value → H} {P : Program} {w : World}
theorem zdE {n : Nat} (ih : ∀ t s cs x, TOk P t s → DataW.trod enc P w 0 (fun _ => true) true n t cs = some x → ∃ ts, Fits maxLen s ts ∧ RL (fun _ => none) w ts cs) :
 ∀ (fs : List (TypeId × Nat)) (o : Nat) (s : Shp) (cs : List Value), FOk P fs o s → cs.length = o + s.wd → (∀ f ∈ fs, ∃ x, DataW.trod enc P w 0 (fun _ => true) true n f.1 ((cs.drop f.2).take (P.cellsOf f.1)) = some x) →
   ∃ ts, Fits maxLen s ts ∧ RL (fun _ => none) w ts (cs.drop o)
 | [], o, s, cs, h, hl, hf => by
   cases h
   refine ⟨[], rfl, ?_⟩
   rw [List.drop_eq_nil_of_le (by rw [hl]; exact Nat.le_refl _)]
   simp only [RL]
 | f :: fs, o, s, cs, h, hl, hf => by
   cases h with
   | @cons t _ _ a b h1 h2 h3 =>
     obtain ⟨x, hx⟩ := hf (t, o) (by simp)
     obtain ⟨ts1, a1, a2⟩ := ih _ _ _ _ h2 hx
     have hl2 : cs.length = o + (a.wd + b.wd) := hl
     obtain ⟨ts2, b1, b2⟩ := zdE ih fs (o + a.wd) b cs h3 (by omega) fun g hg => hf g (List.mem_cons_of_mem _ hg)
     refine ⟨ts1 ++ ts2, ⟨ts1, ts2, rfl, a1, b1⟩, ?_⟩
     have e : cs.drop o = (cs.drop o).take a.wd ++ cs.drop (o + a.wd) := by rw [← List.drop_drop, List.take_append_drop]
     rw [e]
     simp only [h1] at a2
     exact zdD a2 b2
theorem zcN : ∀ (n : Nat) (t : TypeId) (s : Shp) (cs : List Value) (x : DataW H × List MemPlace), TOk P t s → DataW.trod enc P w 0 (fun _ => true) true n t cs = some x → ∃ ts, Fits maxLen s ts ∧ RL (fun _ => none) w ts cs := by
 intro n
 induction n with
 | zero => intro t s cs x _ h; simp [DataW.trod] at h
 | succ n ih =>
   intro t s cs x ht h
   rw [DataW.trod_step] at h
   cases ht with
   | int hu =>
     unfold DataW.trodStep at h
     rw [hu] at h
     split at h <;> try (simp_all; done)
     rename_i k k' m he
     injection he with he
     injection he with he
     subst he
     split at h
     ·rename_i hc
      obtain ⟨rfl, hw⟩ := hc
      have hb : -9223372036854775808 ≤ m ∧ m ≤ 9223372036854775807 := by simpa [Lit.wf, IntKind.min, IntKind.max, IntKind.signed, IntKind.bits] using hw
      exact ⟨[.int .i64 m], ⟨m, rfl, hb.1, hb.2⟩, by simp [RL, RV]⟩
     ·cases h
   | bool hu =>
     unfold DataW.trodStep at h
     rw [hu] at h
     split at h <;> try (simp_all; done)
     rename_i b he
     exact ⟨[.bool b], ⟨b, rfl⟩, by simp [RL, RV]⟩
   | str hu =>
     unfold DataW.trodStep at h
     rw [hu] at h
     split at h <;> try (simp_all; done)
     rename_i s he
     split at h
     ·rename_i hs
      exact ⟨[.str s.data.toList], ⟨s.data.toList, rfl, by simpa using hs⟩, by simp [RL, RV, zeh]⟩
     ·cases h
   | @sl _ e k s hu h1 h2 h3 h4 =>
     unfold DataW.trodStep at h
     rw [hu] at h
     split at h <;> try (simp_all; done)
     ·exact ⟨[.sl k []], ⟨[], rfl, Nat.zero_le _, fun e he => by cases he⟩, by simp [RL, RV]⟩
     ·rename_i e' a len cap he
      injection he with he
      injection he with he
      subst he
      simp only at h
      split at h
      ·rename_i hc
       obtain ⟨_, hlc, hcm⟩ := hc
       simp only [Option.map_eq_some_iff, Option.bind_eq_some_iff] at h
       obtain ⟨elems, hel, _⟩ := h
       rw [h1] at hel
       have hall := z9d hel
       obtain ⟨es, hes, hp⟩ := z76 (p := fun i ts => Fits maxLen s ts ∧ ∃ us, w.cells? 0 (a.add (i * k)) k = some us ∧ RL (fun _ => none) w ts us) len fun i hi => by
        obtain ⟨y, hy⟩ := hall i (List.mem_range.2 hi)
        obtain ⟨us, hu1, hu2⟩ := Option.bind_eq_some_iff.1 hy
        obtain ⟨ts, ha, hb⟩ := ih _ _ _ _ h4 hu2
        exact ⟨ts, ha, us, hu1, hb⟩
       refine ⟨[.sl k es], ⟨es, rfl, by omega, fun x hx => ?_⟩, ?_⟩
       ·obtain ⟨i, hi⟩ := List.getElem?_of_mem hx
        exact (hp i x hi).1
       ·simp only [RL]
        refine ⟨_, [], rfl, ?_, rfl⟩
        simp only [RV]
        refine ⟨some a, cap, by rw [hes], by omega, ?_⟩
        cases hes0 : es with
        | nil => exact .inl rfl
        | cons e0 es0 =>
          right
          rw [← hes0]
          have h0 : es[0]? = some e0 := by rw [hes0]; rfl
          obtain ⟨_, us, hu1, _⟩ := hp 0 e0 h0
          rw [Nat.zero_mul] at hu1
          obtain ⟨_, hul, huc⟩ := World.cells?_some hu1
          have hc0 := huc 0 h3
          rw [List.getElem?_eq_getElem (by omega)] at hc0
          obtain ⟨g, o, sp⟩ := a
          cases sp with
          | some sp =>
            simp [World.cell?, Addr.add] at hc0
            split at hc0 <;> simp at hc0
          | none =>
            have hadd : ∀ i j, ((⟨g, o, none⟩ : Addr).add i).add j = ⟨g, o + i + j, none⟩ := fun i j => by
             unfold Addr.add
             split <;> split <;> simp_all <;> omega
            rw [hadd] at hc0
            simp only [World.cell?] at hc0
            cases hg : w.heap[g]? with
            | none => rw [hg] at hc0; cases hc0
            | some ob =>
              cases ob with
              | cells C t fr =>
                refine ⟨g, o, C, t, fr, rfl, trivial, hg, re_of fun i e hi => ?_⟩
                obtain ⟨_, us, hu1, hr⟩ := hp i e hi
                obtain ⟨_, hul, huc⟩ := World.cells?_some hu1
                have hus : ((C.toList.drop o).drop (i * k)).take k = us := by
                 apply List.ext_getElem?
                 intro j
                 rcases Nat.lt_or_ge j k with hj | hj
                 ·rw [List.getElem?_take_of_lt hj, List.getElem?_drop, List.getElem?_drop, ← huc j hj, hadd]
                  simp only [World.cell?, hg]
                  simp [Nat.add_assoc]
                 ·rw [List.getElem?_eq_none (by rw [List.length_take]; omega), List.getElem?_eq_none (by omega)]
                rw [hus]
                exact ⟨hul, hr⟩
              | _ => rw [hg] at hc0; cases hc0
      ·cases h
   | @st _ fs s hu h1 h2 =>
     unfold DataW.trodStep at h
     rw [hu] at h
     split at h <;> try (simp_all; done)
     rename_i fs' heq
     injection heq with heq
     injection heq with heq
     subst heq
     split at h
     ·rename_i hl
      simp only [Option.map_eq_some_iff] at h
      obtain ⟨xs, hx, rfl⟩ := h
      have hall := z9d hx
      have := zdE (fun t s cs x => ih t s cs x) _ 0 s _ h2 (hl.trans (h1.trans (Nat.zero_add _).symm)) fun f hf => by
       obtain ⟨g, hg, rfl⟩ := List.mem_map.1 hf
       exact hall g hg
      simpa using this
     ·cases h
end
end Go.Proofs.YtbcgmjdfnjmhoaaGreatDoor
namespace Go.Proofs.YtbcgmjdfnjmhoaaGreatDoor
set_option linter.unusedVariables false
set_option linter.unusedSimpArgs false
set_option linter.unusedSectionVars false
open Go.RowKit Pl
def exE : List (Nat × Ty) := [
 (221, ⟨2, 32, [.str [], .str []], .struct [(0, 9), (1, 9)], true⟩),
 (173, ⟨3, 40, [.int .i64 0, .str [], .str []], .struct [(0, 3), (1, 9), (2, 9)], true⟩),
 (53, ⟨3, 24, [.int .i64 0, .int .i64 0, .int .i64 0], .struct [(0, 3), (1, 3), (2, 3)], true⟩),
 (140, ⟨3, 40, [.str [], .str [], .int .i64 0], .struct [(0, 9), (1, 9), (2, 3)], true⟩),
 (24, ⟨1, 24, [.val nilV], .struct [(0, 22)], false⟩),
 (189, ⟨4, 48, [.int .i64 0, .int .i64 0, .str [], .str []], .struct [(0, 3), (1, 3), (2, 9), (3, 9)], true⟩),
 (190, ⟨4, 80, [.int .i64 0, .val nilV, .val nilV, .val nilV], .struct [(0, 3), (1, 43), (2, 43), (3, 43)], false⟩),
 (192, ⟨8, 128, [.int .i64 0, .int .i64 0, .str [], .str [], .int .i64 0, .val nilV, .val nilV, .val nilV], .struct [(0, 189), (4, 190)], false⟩),
 (55, ⟨11, 152, [.int .i64 0, .int .i64 0, .bool false, .val nilV, .int .i64 0, .val nilV, .val nilV, .val nilV, .int .i64 0, .int .i64 0, .int .i64 0], .struct [(0, 3), (1, 3), (2, 4), (3, 24), (4, 3), (5, 51), (6, 30), (7, 52), (8, 53)], false⟩),
 (69, ⟨11, 184, [.int .i64 0, .int .i64 0, .bool false, .val nilV, .val nilV, .val nilV, .val nilV, .int .i64 0, .bool false, .val nilV, .val nilV], .struct [(0, 3), (1, 3), (2, 4), (3, 24), (4, 43), (5, 67), (6, 30), (7, 3), (8, 4), (9, 43), (10, 61)], false⟩),
 (22, tySl 140),
 (43, tySl 9),
 (51, tySl 171),
 (171, tySl 221),
 (30, tySl 3),
 (52, tySl 173),
 (67, tySl 192),
 (61, tySl 4),
 (209, ⟨2, 32, [.str [], .str []], .struct [(0, 9), (1, 9)], true⟩),
 (146, ⟨3, 40, [.int .i64 0, .str [], .str []], .struct [(0, 3), (1, 9), (2, 9)], true⟩),
 (33, ⟨3, 24, [.int .i64 0, .int .i64 0, .int .i64 0], .struct [(0, 3), (1, 3), (2, 3)], true⟩),
 (152, ⟨3, 40, [.str [], .str [], .int .i64 0], .struct [(0, 9), (1, 9), (2, 3)], true⟩),
 (28, ⟨1, 24, [.val nilV], .struct [(0, 26)], false⟩),
 (183, ⟨4, 48, [.int .i64 0, .int .i64 0, .str [], .str []], .struct [(0, 3), (1, 3), (2, 9), (3, 9)], true⟩),
 (185, ⟨4, 80, [.int .i64 0, .val nilV, .val nilV, .val nilV], .struct [(0, 3), (1, 43), (2, 43), (3, 43)], false⟩),
 (187, ⟨8, 128, [.int .i64 0, .int .i64 0, .str [], .str [], .int .i64 0, .val nilV, .val nilV, .val nilV], .struct [(0, 183), (4, 185)], false⟩),
 (35, ⟨11, 152, [.int .i64 0, .int .i64 0, .bool false, .val nilV, .int .i64 0, .val nilV, .val nilV, .val nilV, .int .i64 0, .int .i64 0, .int .i64 0], .struct [(0, 3), (1, 3), (2, 4), (3, 28), (4, 3), (5, 29), (6, 30), (7, 31), (8, 33)], false⟩),
 (63, ⟨11, 184, [.int .i64 0, .int .i64 0, .bool false, .val nilV, .val nilV, .val nilV, .val nilV, .int .i64 0, .bool false, .val nilV, .val nilV], .struct [(0, 3), (1, 3), (2, 4), (3, 28), (4, 43), (5, 60), (6, 30), (7, 3), (8, 4), (9, 43), (10, 61)], false⟩),
 (76, ⟨14, 256, [.int .i64 0, .int .i64 0, .bool false, .val nilV, .val nilV, .val nilV, .val nilV, .int .i64 0, .bool false, .val nilV, .val nilV, .val nilV, .val nilV, .val nilV], .struct [(0, 63), (11, 74), (12, 43), (13, 30)], false⟩),
 (26, tySl 152),
 (29, tySl 83),
 (83, tySl 209),
 (31, tySl 146),
 (60, tySl 187),
 (228, tySl 183),
 (74, tySl 35),
 (3, tyInt)]
set_option maxRecDepth 100000 in
set_option maxHeartbeats 8000000 in
theorem zei : ∀ p ∈ exE, TyOk Tryz.prog p.1 p.2 := by
 simp only [exE, List.forall_mem_cons]
 repeat' (refine And.intro ?_ ?_)
 all_goals first
  | exact (fun _ h => by cases h)
  | exact ⟨⟨_, _, rfl, rfl, rfl, rfl, rfl⟩, ⟨_, rfl, rfl⟩, rfl, rfl, fun h => (Bool.false_ne_true h).elim⟩
  | (refine ⟨⟨_, _, rfl, rfl, rfl, rfl, rfl⟩, ⟨_, rfl, rfl⟩, rfl, rfl, fun _ => ⟨by kernel_rfl, by kernel_rfl, _, rfl, z8s ?_⟩⟩
     repeat (first | exact rfl | (refine And.intro (by decide) (And.intro rfl (And.intro rfl ?_)))))
def ttLE : List (Nat × Ty) := ttL ++ exE
def ttE : TT := lk ttLE
theorem z03 : TtOk Tryz.prog ttE := fun t y h => by
 have hm : (t, y) ∈ ttLE := z1g h
 rcases List.mem_append.1 hm with h | h
 ·exact zb8 (t, y) h
 ·exact zei (t, y) h
def z2x : Shp := .two .str (.two .str .nop)
theorem z77 {N : Nat} {e : List T} (h : Fits N z2x e) : ∃ (s0 : Bs) (s1 : Bs), e = [.str s0, .str s1] ∧ s0.length ≤ N ∧ s1.length ≤ N ∧ True := by
 obtain ⟨x0, y0, e0, h0, r0⟩ := h
 obtain ⟨s0, w0, qs0⟩ := h0
 obtain ⟨x1, y1, e1, h1, r1⟩ := r0
 obtain ⟨s1, w1, qs1⟩ := h1
 have rz : y1 = [] := r1
 refine ⟨s0, s1, ?_, qs0, qs1, trivial⟩
 rw [e0, e1, rz, w0, w1]; rfl
theorem zej {N : Nat} {s0 : Bs} {s1 : Bs} (qs0 : s0.length ≤ N) (qs1 : s1.length ≤ N) : Fits N z2x [.str s0, .str s1] := ⟨_, _, rfl, ⟨_, rfl, qs0⟩, ⟨_, _, rfl, ⟨_, rfl, qs1⟩, rfl⟩⟩
def z1S : Shp := .two .int (.two .str (.two .str .nop))
theorem z4N {N : Nat} {e : List T} (h : Fits N z1S e) : ∃ (n0 : Int) (s1 : Bs) (s2 : Bs), e = [.int .i64 n0, .str s1, .str s2] ∧ (-9223372036854775808 ≤ n0 ∧ n0 ≤ 9223372036854775807) ∧ s1.length ≤ N ∧ s2.length ≤ N ∧ True := by
 obtain ⟨x0, y0, e0, h0, r0⟩ := h
 obtain ⟨n0, w0, qn0⟩ := h0
 obtain ⟨x1, y1, e1, h1, r1⟩ := r0
 obtain ⟨s1, w1, qs1⟩ := h1
 obtain ⟨x2, y2, e2, h2, r2⟩ := r1
 obtain ⟨s2, w2, qs2⟩ := h2
 have rz : y2 = [] := r2
 refine ⟨n0, s1, s2, ?_, qn0, qs1, qs2, trivial⟩
 rw [e0, e1, e2, rz, w0, w1, w2]; rfl
theorem zbo {N : Nat} {n0 : Int} {s1 : Bs} {s2 : Bs} (qn0 : (-9223372036854775808 ≤ n0 ∧ n0 ≤ 9223372036854775807)) (qs1 : s1.length ≤ N) (qs2 : s2.length ≤ N) : Fits N z1S [.int .i64 n0, .str s1, .str s2] := ⟨_, _, rfl, ⟨_, rfl, qn0⟩, ⟨_, _, rfl, ⟨_, rfl, qs1⟩, ⟨_, _, rfl, ⟨_, rfl, qs2⟩, rfl⟩⟩⟩
def z4h : Shp := .two .int (.two .int (.two .int .nop))
theorem z5G {N : Nat} {e : List T} (h : Fits N z4h e) : ∃ (n0 : Int) (n1 : Int) (n2 : Int), e = [.int .i64 n0, .int .i64 n1, .int .i64 n2] ∧ (-9223372036854775808 ≤ n0 ∧ n0 ≤ 9223372036854775807) ∧ (-9223372036854775808 ≤ n1 ∧ n1 ≤ 9223372036854775807) ∧ (-9223372036854775808 ≤ n2 ∧ n2 ≤ 9223372036854775807) ∧ True := by
 obtain ⟨x0, y0, e0, h0, r0⟩ := h
 obtain ⟨n0, w0, qn0⟩ := h0
 obtain ⟨x1, y1, e1, h1, r1⟩ := r0
 obtain ⟨n1, w1, qn1⟩ := h1
 obtain ⟨x2, y2, e2, h2, r2⟩ := r1
 obtain ⟨n2, w2, qn2⟩ := h2
 have rz : y2 = [] := r2
 refine ⟨n0, n1, n2, ?_, qn0, qn1, qn2, trivial⟩
 rw [e0, e1, e2, rz, w0, w1, w2]; rfl
theorem z9e {N : Nat} {n0 : Int} {n1 : Int} {n2 : Int} (qn0 : (-9223372036854775808 ≤ n0 ∧ n0 ≤ 9223372036854775807)) (qn1 : (-9223372036854775808 ≤ n1 ∧ n1 ≤ 9223372036854775807)) (qn2 : (-9223372036854775808 ≤ n2 ∧ n2 ≤ 9223372036854775807)) : Fits N z4h [.int .i64 n0, .int .i64 n1, .int .i64 n2] := ⟨_, _, rfl, ⟨_, rfl, qn0⟩, ⟨_, _, rfl, ⟨_, rfl, qn1⟩, ⟨_, _, rfl, ⟨_, rfl, qn2⟩, rfl⟩⟩⟩
def z0s : Shp := .two .str (.two .str (.two .int .nop))
theorem z1n {N : Nat} {e : List T} (h : Fits N z0s e) : ∃ (s0 : Bs) (s1 : Bs) (n2 : Int), e = [.str s0, .str s1, .int .i64 n2] ∧ s0.length ≤ N ∧ s1.length ≤ N ∧ (-9223372036854775808 ≤ n2 ∧ n2 ≤ 9223372036854775807) ∧ True := by
 obtain ⟨x0, y0, e0, h0, r0⟩ := h
 obtain ⟨s0, w0, qs0⟩ := h0
 obtain ⟨x1, y1, e1, h1, r1⟩ := r0
 obtain ⟨s1, w1, qs1⟩ := h1
 obtain ⟨x2, y2, e2, h2, r2⟩ := r1
 obtain ⟨n2, w2, qn2⟩ := h2
 have rz : y2 = [] := r2
 refine ⟨s0, s1, n2, ?_, qs0, qs1, qn2, trivial⟩
 rw [e0, e1, e2, rz, w0, w1, w2]; rfl
def z1b : Shp := .two (.sl 3 z0s) .nop
theorem z26 {N : Nat} {e : List T} (h : Fits N z1b e) : ∃ (z0 : List (List T)), e = [.sl 3 z0] ∧ (z0.length ≤ N ∧ ∀ e ∈ z0, Fits N z0s e) ∧ True := by
 obtain ⟨x0, y0, e0, h0, r0⟩ := h
 obtain ⟨z0, w0, qz0⟩ := h0
 have rz : y0 = [] := r0
 refine ⟨z0, ?_, qz0, trivial⟩
 rw [e0, rz, w0]; rfl
theorem zbp {N : Nat} {z0 : List (List T)} (qz0 : (z0.length ≤ N ∧ ∀ e ∈ z0, Fits N z0s e)) : Fits N z1b [.sl 3 z0] := ⟨_, _, rfl, ⟨_, rfl, qz0⟩, rfl⟩
def z2y : Shp := .two .int (.two .int (.two .bool (.two z1b (.two .int (.two (.sl 1 (.sl 2 z2x)) (.two (.sl 1 .int) (.two (.sl 3 z1S) (.two z4h .nop))))))))
theorem z7Z {N : Nat} {e : List T} (h : Fits N z2y e) : ∃ (n0 : Int) (n1 : Int) (b2 : Bool) (z3 : List (List T)) (n4 : Int) (z5 : List (List T)) (z6 : List (List T)) (z7 : List (List T)) (n8 : Int) (n9 : Int) (n10 : Int), e = [.int .i64 n0, .int .i64 n1, .bool b2, .sl 3 z3, .int .i64 n4, .sl 1 z5, .sl 1 z6, .sl 3 z7, .int .i64 n8, .int .i64 n9, .int .i64 n10] ∧ (-9223372036854775808 ≤ n0 ∧ n0 ≤ 9223372036854775807) ∧ (-9223372036854775808 ≤ n1 ∧ n1 ≤ 9223372036854775807) ∧ True ∧ (z3.length ≤ N ∧ ∀ e ∈ z3, Fits N z0s e) ∧ (-9223372036854775808 ≤ n4 ∧ n4 ≤ 9223372036854775807) ∧ (z5.length ≤ N ∧ ∀ e ∈ z5, Fits N (.sl 2 z2x) e) ∧ (z6.length ≤ N ∧ ∀ e ∈ z6, Fits N .int e) ∧ (z7.length ≤ N ∧ ∀ e ∈ z7, Fits N z1S e) ∧ (-9223372036854775808 ≤ n8 ∧ n8 ≤ 9223372036854775807) ∧ (-9223372036854775808 ≤ n9 ∧ n9 ≤ 9223372036854775807) ∧ (-9223372036854775808 ≤ n10 ∧ n10 ≤ 9223372036854775807) ∧ True := by
 obtain ⟨x0, y0, e0, h0, r0⟩ := h
 obtain ⟨n0, w0, qn0⟩ := h0
 obtain ⟨x1, y1, e1, h1, r1⟩ := r0
 obtain ⟨n1, w1, qn1⟩ := h1
 obtain ⟨x2, y2, e2, h2, r2⟩ := r1
 obtain ⟨b2, w2⟩ := h2
 have qb2 := trivial
 obtain ⟨x3, y3, e3, h3, r3⟩ := r2
 obtain ⟨z3, w3, qz3, -⟩ := z26 h3
 obtain ⟨x4, y4, e4, h4, r4⟩ := r3
 obtain ⟨n4, w4, qn4⟩ := h4
 obtain ⟨x5, y5, e5, h5, r5⟩ := r4
 obtain ⟨z5, w5, qz5⟩ := h5
 obtain ⟨x6, y6, e6, h6, r6⟩ := r5
 obtain ⟨z6, w6, qz6⟩ := h6
 obtain ⟨x7, y7, e7, h7, r7⟩ := r6
 obtain ⟨z7, w7, qz7⟩ := h7
 obtain ⟨x8, y8, e8, h8, r8⟩ := r7
 obtain ⟨n8, n9, n10, w8, qn8, qn9, qn10, -⟩ := z5G h8
 have rz : y8 = [] := r8
 refine ⟨n0, n1, b2, z3, n4, z5, z6, z7, n8, n9, n10, ?_, qn0, qn1, qb2, qz3, qn4, qz5, qz6, qz7, qn8, qn9, qn10, trivial⟩
 rw [e0, e1, e2, e3, e4, e5, e6, e7, e8, rz, w0, w1, w2, w3, w4, w5, w6, w7, w8]; rfl
theorem zbq {N : Nat} {n0 : Int} {n1 : Int} {b2 : Bool} {z3 : List (List T)} {n4 : Int} {z5 : List (List T)} {z6 : List (List T)} {z7 : List (List T)} {n8 : Int} {n9 : Int} {n10 : Int} (qn0 : (-9223372036854775808 ≤ n0 ∧ n0 ≤ 9223372036854775807)) (qn1 : (-9223372036854775808 ≤ n1 ∧ n1 ≤ 9223372036854775807)) (qb2 : True) (qz3 : (z3.length ≤ N ∧ ∀ e ∈ z3, Fits N z0s e)) (qn4 : (-9223372036854775808 ≤ n4 ∧ n4 ≤ 9223372036854775807)) (qz5 : (z5.length ≤ N ∧ ∀ e ∈ z5, Fits N (.sl 2 z2x) e)) (qz6 : (z6.length ≤ N ∧ ∀ e ∈ z6, Fits N .int e)) (qz7 : (z7.length ≤ N ∧ ∀ e ∈ z7, Fits N z1S e)) (qn8 : (-9223372036854775808 ≤ n8 ∧ n8 ≤ 9223372036854775807)) (qn9 : (-9223372036854775808 ≤ n9 ∧ n9 ≤ 9223372036854775807)) (qn10 : (-9223372036854775808 ≤ n10 ∧ n10 ≤ 9223372036854775807)) : Fits N z2y [.int .i64 n0, .int .i64 n1, .bool b2, .sl 3 z3, .int .i64 n4, .sl 1 z5, .sl 1 z6, .sl 3 z7, .int .i64 n8, .int .i64 n9, .int .i64 n10] := ⟨_, _, rfl, ⟨_, rfl, qn0⟩, ⟨_, _, rfl, ⟨_, rfl, qn1⟩, ⟨_, _, rfl, ⟨_, rfl⟩, ⟨_, _, rfl, zbp qz3, ⟨_, _, rfl, ⟨_, rfl, qn4⟩, ⟨_, _, rfl, ⟨_, rfl, qz5⟩, ⟨_, _, rfl, ⟨_, rfl, qz6⟩, ⟨_, _, rfl, ⟨_, rfl, qz7⟩, ⟨_, _, rfl, z9e qn8 qn9 qn10, rfl⟩⟩⟩⟩⟩⟩⟩⟩⟩
end Go.Proofs.YtbcgmjdfnjmhoaaGreatDoor
