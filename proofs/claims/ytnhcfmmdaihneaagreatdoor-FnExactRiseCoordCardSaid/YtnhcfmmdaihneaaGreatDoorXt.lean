/- What a contract by content says of a call from outside. What a call is told of an argument that holds structs, strings and slices: its content, by its shape. The types that the exact laws copy and compare, and their shapes. -/
import Derived.Test.YtnhcfmmdaihneaaGreatDoorVd
import Derived.Test.YtnhcfmmdaihneaaGreatDoorFa
import Derived.ChangeOld
namespace Go.Proofs.YtnhcfmmdaihneaaGreatDoor
set_option linter.unusedVariables false
set_option linter.unusedSimpArgs false
set_option linter.unusedSectionVars false
open Go.RowKit Pl
def cx0 (w : World) : Cx := { H := idxE [], ow := fun _ => none, w := w, us := fun i => i < 1, iw := fun _ => 0 }
theorem cx0_hr (w : World) (hg : Gl (cx0 w)) : HR (cx0 w) where
 gl := hg
 inj := fun g g' r h _ _ => absurd (by simp [cx0, idxE]) h
 lt := fun g r h => by cases h
 node := fun r e h => by have : idxE [] r = some e := h; simp [idxE] at this
 zero := rfl
 pos := by show 0 < 1; omega
 inn := fun g h => absurd rfl h
theorem zbP {P : Program} {f : FuncId} {ts : List T} (h : CT P f [] ts (.bool true) []) (w : World) (hg : Gl (cx0 w)) {vs : List Value} (ha : Args (cx0 w) ts vs) :
 Calls P f vs.toArray w fun e w' => e = .returned (.bool true) ∧ Below w.heap.size w w' := by
 refine (h.2 (cx0 w) (cx0_hr w hg) rfl rfl vs ha).mono ?_
 rintro e w' ⟨v, X', rfl, rfl, _, _, _, hv, hs⟩
 have hv : v = .bool true := by simpa only [RS, RS1, RS0, RV] using hv
 subst hv
 exact ⟨rfl, ⟨hs.os, hs.tape, hs.output, hs.size, fun k hk => (hs.stab k hk rfl).2⟩⟩
theorem z96 (w : World) (k : IntKind) (n : Int) : RS (cx0 w) (.int k n) (.int k n) := z1v _ _ _
end Go.Proofs.YtnhcfmmdaihneaaGreatDoor
namespace Go.Proofs.YtnhcfmmdaihneaaGreatDoor
set_option linter.unusedVariables false
set_option linter.unusedSimpArgs false
set_option linter.unusedSectionVars false
open Go.RowKit Pl
inductive Shp where
 | int | bool | str | nop
 | sl (k : Nat) (s : Shp)
 | two (a b : Shp)
def Shp.wd : Shp → Nat
 | .nop => 0
 | .two a b => a.wd + b.wd
 | _ => 1
def Fits (N : Nat) : Shp → List T → Prop
 | .int, ts => ∃ n, ts = [.int .i64 n] ∧ -9223372036854775808 ≤ n ∧ n ≤ 9223372036854775807
 | .bool, ts => ∃ b, ts = [.bool b]
 | .str, ts => ∃ l : Bs, ts = [.str l] ∧ l.length ≤ N
 | .nop, ts => ts = []
 | .sl k s, ts => ∃ es, ts = [.sl k es] ∧ es.length ≤ N ∧ ∀ e ∈ es, Fits N s e
 | .two a b, ts => ∃ x y, ts = x ++ y ∧ Fits N a x ∧ Fits N b y
theorem Fits.len {N : Nat} : ∀ {s : Shp} {ts : List T}, Fits N s ts → ts.length = s.wd
 | .int, _, h => by obtain ⟨n, rfl, _⟩ := h; rfl
 | .bool, _, h => by obtain ⟨n, rfl⟩ := h; rfl
 | .str, _, h => by obtain ⟨n, rfl, _⟩ := h; rfl
 | .nop, _, h => by subst h; rfl
 | .sl k s, _, h => by obtain ⟨n, rfl, _⟩ := h; rfl
 | .two a b, _, h => by
   obtain ⟨x, y, rfl, h1, h2⟩ := h
   rw [List.length_append, h1.len, h2.len]; rfl
mutual
inductive TOk (P : Program) : TypeId → Shp → Prop
 | int {t} : P.underlying t = some (.int .i64) → TOk P t .int
 | bool {t} : P.underlying t = some .bool → TOk P t .bool
 | str {t} : P.underlying t = some .string → TOk P t .str
 | sl {t e k s} : P.underlying t = some (.slice e) → P.cellsOf e = k → s.wd = k → 0 < k → TOk P e s → TOk P t (.sl k s)
 | st {t fs s} : P.underlying t = some (.struct fs) → P.cellsOf t = s.wd → FOk P (fs.toList.map fun f => (f.type, f.offset)) 0 s → TOk P t s
inductive FOk (P : Program) : List (TypeId × Nat) → Nat → Shp → Prop
 | nil {o} : FOk P [] o .nop
 | cons {t fs o a b} : P.cellsOf t = a.wd → TOk P t a → FOk P fs (o + a.wd) b → FOk P ((t, o) :: fs) o (.two a b)
end
theorem zjN {ow : Own} {w : World} : ∀ {x y : List T} {us vs : List Value}, RL ow w x us → RL ow w y vs → RL ow w (x ++ y) (us ++ vs)
 | [], y, us, vs, h1, h2 => by simp only [RL] at h1; subst h1; exact h2
 | c :: x, y, us, vs, h1, h2 => by
   simp only [RL] at h1
   obtain ⟨u, us', rfl, h3, h4⟩ := h1
   simp only [List.cons_append, RL]
   exact ⟨u, us' ++ vs, rfl, h3, zjN h4 h2⟩
theorem re_of {ow : Own} {w : World} {k : Nat} : ∀ {es : List (List T)} {vs : List Value}, (∀ i e, es[i]? = some e → ((vs.drop (i * k)).take k).length = k ∧ RL ow w e ((vs.drop (i * k)).take k)) → RE ow w k es vs
 | [], vs, _ => by simp only [RE]
 | e :: es, vs, h => by
   simp only [RE]
   have h0 := h 0 e rfl
   rw [Nat.zero_mul, List.drop_zero] at h0
   refine ⟨vs.take k, vs.drop k, (List.take_append_drop k vs).symm, h0.1, h0.2, re_of fun i e he => ?_⟩
   have h1 := h (i + 1) e he
   rw [List.drop_drop, show k + i * k = (i + 1) * k by rw [Nat.add_mul, Nat.one_mul, Nat.add_comm]]
   exact h1
theorem zkC (s : ByteArray) : bs s.data.toList = s := by
 cases s with
 | mk d => cases d; rfl
theorem zal {α : Type} {p : Nat → α → Prop} : ∀ n, (∀ i, i < n → ∃ x, p i x) → ∃ l : List α, l.length = n ∧ ∀ i x, l[i]? = some x → p i x
 | 0, _ => ⟨[], rfl, fun i x h => by simp at h⟩
 | n + 1, h => by
   obtain ⟨l, hl, hp⟩ := zal n fun i hi => h i (by omega)
   obtain ⟨x, hx⟩ := h n (by omega)
   refine ⟨l ++ [x], by simp [hl], fun i y hy => ?_⟩
   rcases Nat.lt_or_ge i n with hi | hi
   ·rw [List.getElem?_append_left (by omega)] at hy
    exact hp i y hy
   ·rw [List.getElem?_append_right (by omega), hl] at hy
    cases hd : i - n with
    | zero =>
      rw [hd] at hy
      simp at hy
      obtain rfl : i = n := by omega
      exact hy ▸ hx
    | succ m => rw [hd] at hy; simp at hy
theorem zdt {α β : Type} {f : α → Option β} {l : List α} {r : List β} (h : l.mapM f = some r) : ∀ x ∈ l, ∃ y, f x = some y := fun x hx => by
 obtain ⟨i, hi⟩ := List.getElem?_of_mem hx
 have h1 := mapM_some_get h i x hi
 have h2 := mapM_some_length h
 have h3 := (List.getElem?_eq_some_iff.1 hi).1
 exact ⟨r[i], by rw [h1]; exact List.getElem?_eq_getElem (by omega)⟩
section
variable {H : Type} {enc : TypeId × Value → H} {P : Program} {w : World}
theorem zjO {n : Nat} (ih : ∀ t s cs x, TOk P t s → DataW.trod enc P w 0 (fun _ => true) true n t cs = some x → ∃ ts, Fits maxLen s ts ∧ RL (fun _ => none) w ts cs) :
 ∀ (fs : List (TypeId × Nat)) (o : Nat) (s : Shp) (cs : List Value), FOk P fs o s → cs.length = o + s.wd → (∀ f ∈ fs, ∃ x, DataW.trod enc P w 0 (fun _ => true) true n f.1 ((cs.drop f.2).take (P.cellsOf f.1)) = some x) →
   ∃ ts, Fits maxLen s ts ∧ RL (fun _ => none) w ts (cs.drop o)
 | [], o, s, cs, h, hl, hf => by
   cases h
   refine ⟨[], rfl, ?_⟩
   rw [List.drop_eq_nil_of_le (by rw [hl]; exact Nat.le_refl _)]
   simp only [RL]
 | f :: fs, o, s, cs, h, hl, hf => by
   cases h with
   | @cons t _ _ a b h1 h2 h3 =>
     obtain ⟨x, hx⟩ := hf (t, o) (by simp)
     obtain ⟨ts1, a1, a2⟩ := ih _ _ _ _ h2 hx
     have hl2 : cs.length = o + (a.wd + b.wd) := hl
     obtain ⟨ts2, b1, b2⟩ := zjO ih fs (o + a.wd) b cs h3 (by omega) fun g hg => hf g (List.mem_cons_of_mem _ hg)
     refine ⟨ts1 ++ ts2, ⟨ts1, ts2, rfl, a1, b1⟩, ?_⟩
     have e : cs.drop o = (cs.drop o).take a.wd ++ cs.drop (o + a.wd) := by rw [← List.drop_drop, List.take_append_drop]
     rw [e]
     simp only [h1] at a2
     exact zjN a2 b2
theorem zdu : ∀ (n : Nat) (t : TypeId) (s : Shp) (cs : List Value) (x : DataW H × List MemPlace), TOk P t s → DataW.trod enc P w 0 (fun _ => true) true n t cs = some x → ∃ ts, Fits maxLen s ts ∧ RL (fun _ => none) w ts cs := by
 intro n
 induction n with
 | zero => intro t s cs x _ h; simp [DataW.trod] at h
 | succ n ih =>
   intro t s cs x ht h
   rw [DataW.trod_step] at h
   cases ht with
   | int hu =>
     unfold DataW.trodStep at h
     rw [hu] at h
     split at h <;> try (simp_all; done)
     rename_i k k' m he
     injection he with he
     injection he with he
     subst he
     split at h
     ·rename_i hc
      obtain ⟨rfl, hw⟩ := hc
      have hb : -9223372036854775808 ≤ m ∧ m ≤ 9223372036854775807 := by simpa [Lit.wf, IntKind.min, IntKind.max, IntKind.signed, IntKind.bits] using hw
      exact ⟨[.int .i64 m], ⟨m, rfl, hb.1, hb.2⟩, by simp [RL, RV]⟩
     ·cases h
   | bool hu =>
     unfold DataW.trodStep at h
     rw [hu] at h
     split at h <;> try (simp_all; done)
     rename_i b he
     exact ⟨[.bool b], ⟨b, rfl⟩, by simp [RL, RV]⟩
   | str hu =>
     unfold DataW.trodStep at h
     rw [hu] at h
     split at h <;> try (simp_all; done)
     rename_i s he
     split at h
     ·rename_i hs
      exact ⟨[.str s.data.toList], ⟨s.data.toList, rfl, by simpa using hs⟩, by simp [RL, RV, zkC]⟩
     ·cases h
   | @sl _ e k s hu h1 h2 h3 h4 =>
     unfold DataW.trodStep at h
     rw [hu] at h
     split at h <;> try (simp_all; done)
     ·exact ⟨[.sl k []], ⟨[], rfl, Nat.zero_le _, fun e he => by cases he⟩, by simp [RL, RV]⟩
     ·rename_i e' a len cap he
      injection he with he
      injection he with he
      subst he
      simp only at h
      split at h
      ·rename_i hc
       obtain ⟨_, hlc, hcm⟩ := hc
       simp only [Option.map_eq_some_iff, Option.bind_eq_some_iff] at h
       obtain ⟨elems, hel, _⟩ := h
       rw [h1] at hel
       have hall := zdt hel
       obtain ⟨es, hes, hp⟩ := zal (p := fun i ts => Fits maxLen s ts ∧ ∃ us, w.cells? 0 (a.add (i * k)) k = some us ∧ RL (fun _ => none) w ts us) len fun i hi => by
        obtain ⟨y, hy⟩ := hall i (List.mem_range.2 hi)
        obtain ⟨us, hu1, hu2⟩ := Option.bind_eq_some_iff.1 hy
        obtain ⟨ts, ha, hb⟩ := ih _ _ _ _ h4 hu2
        exact ⟨ts, ha, us, hu1, hb⟩
       refine ⟨[.sl k es], ⟨es, rfl, by omega, fun x hx => ?_⟩, ?_⟩
       ·obtain ⟨i, hi⟩ := List.getElem?_of_mem hx
        exact (hp i x hi).1
       ·simp only [RL]
        refine ⟨_, [], rfl, ?_, rfl⟩
        simp only [RV]
        refine ⟨some a, cap, by rw [hes], by omega, ?_⟩
        cases hes0 : es with
        | nil => exact .inl rfl
        | cons e0 es0 =>
          right
          rw [← hes0]
          have h0 : es[0]? = some e0 := by rw [hes0]; rfl
          obtain ⟨_, us, hu1, _⟩ := hp 0 e0 h0
          rw [Nat.zero_mul] at hu1
          obtain ⟨_, hul, huc⟩ := World.cells?_some hu1
          have hc0 := huc 0 h3
          rw [List.getElem?_eq_getElem (by omega)] at hc0
          obtain ⟨g, o, sp⟩ := a
          cases sp with
          | some sp =>
            simp [World.cell?, Addr.add] at hc0
            split at hc0 <;> simp at hc0
          | none =>
            have hadd : ∀ i j, ((⟨g, o, none⟩ : Addr).add i).add j = ⟨g, o + i + j, none⟩ := fun i j => by
             unfold Addr.add
             split <;> split <;> simp_all <;> omega
            rw [hadd] at hc0
            simp only [World.cell?] at hc0
            cases hg : w.heap[g]? with
            | none => rw [hg] at hc0; cases hc0
            | some ob =>
              cases ob with
              | cells C t fr =>
                refine ⟨g, o, C, t, fr, rfl, trivial, hg, re_of fun i e hi => ?_⟩
                obtain ⟨_, us, hu1, hr⟩ := hp i e hi
                obtain ⟨_, hul, huc⟩ := World.cells?_some hu1
                have hus : ((C.toList.drop o).drop (i * k)).take k = us := by
                 apply List.ext_getElem?
                 intro j
                 rcases Nat.lt_or_ge j k with hj | hj
                 ·rw [List.getElem?_take_of_lt hj, List.getElem?_drop, List.getElem?_drop, ← huc j hj, hadd]
                  simp only [World.cell?, hg]
                  simp [Nat.add_assoc]
                 ·rw [List.getElem?_eq_none (by rw [List.length_take]; omega), List.getElem?_eq_none (by omega)]
                rw [hus]
                exact ⟨hul, hr⟩
              | _ => rw [hg] at hc0; cases hc0
      ·cases h
   | @st _ fs s hu h1 h2 =>
     unfold DataW.trodStep at h
     rw [hu] at h
     split at h <;> try (simp_all; done)
     rename_i fs' heq
     injection heq with heq
     injection heq with heq
     subst heq
     split at h
     ·rename_i hl
      simp only [Option.map_eq_some_iff] at h
      obtain ⟨xs, hx, rfl⟩ := h
      have hall := zdt hx
      have := zjO (fun t s cs x => ih t s cs x) _ 0 s _ h2 (hl.trans (h1.trans (Nat.zero_add _).symm)) fun f hf => by
       obtain ⟨g, hg, rfl⟩ := List.mem_map.1 hf
       exact hall g hg
      simpa using this
     ·cases h
end
end Go.Proofs.YtnhcfmmdaihneaaGreatDoor
namespace Go.Proofs.YtnhcfmmdaihneaaGreatDoor
set_option linter.unusedVariables false
set_option linter.unusedSimpArgs false
set_option linter.unusedSectionVars false
open Go.RowKit Pl
def exE : List (Nat × Ty) := [
 (151, ⟨3, 40, [.str [], .str [], .int .i64 0], .struct [(0, 9), (1, 9), (2, 3)], true⟩),
 (33, ⟨1, 24, [.val nilV], .struct [(0, 31)], false⟩),
 (170, ⟨4, 48, [.int .i64 0, .int .i64 0, .str [], .str []], .struct [(0, 3), (1, 3), (2, 9), (3, 9)], true⟩),
 (171, ⟨4, 80, [.int .i64 0, .val nilV, .val nilV, .val nilV], .struct [(0, 3), (1, 22), (2, 22), (3, 22)], false⟩),
 (173, ⟨8, 128, [.int .i64 0, .int .i64 0, .str [], .str [], .int .i64 0, .val nilV, .val nilV, .val nilV], .struct [(0, 170), (4, 171)], false⟩),
 (52, ⟨11, 184, [.int .i64 0, .int .i64 0, .bool false, .val nilV, .val nilV, .val nilV, .val nilV, .int .i64 0, .bool false, .val nilV, .val nilV], .struct [(0, 3), (1, 3), (2, 4), (3, 33), (4, 22), (5, 50), (6, 39), (7, 3), (8, 4), (9, 22), (10, 40)], false⟩),
 (31, tySl 151),
 (22, tySl 9),
 (39, tySl 3),
 (50, tySl 173),
 (40, tySl 4),
 (193, ⟨2, 32, [.str [], .str []], .struct [(0, 9), (1, 9)], true⟩),
 (226, ⟨3, 40, [.int .i64 0, .str [], .str []], .struct [(0, 3), (1, 9), (2, 9)], true⟩),
 (118, ⟨3, 24, [.int .i64 0, .int .i64 0, .int .i64 0], .struct [(0, 3), (1, 3), (2, 3)], true⟩),
 (157, ⟨3, 40, [.str [], .str [], .int .i64 0], .struct [(0, 9), (1, 9), (2, 3)], true⟩),
 (37, ⟨1, 24, [.val nilV], .struct [(0, 35)], false⟩),
 (163, ⟨4, 48, [.int .i64 0, .int .i64 0, .str [], .str []], .struct [(0, 3), (1, 3), (2, 9), (3, 9)], true⟩),
 (165, ⟨4, 80, [.int .i64 0, .val nilV, .val nilV, .val nilV], .struct [(0, 3), (1, 22), (2, 22), (3, 22)], false⟩),
 (167, ⟨8, 128, [.int .i64 0, .int .i64 0, .str [], .str [], .int .i64 0, .val nilV, .val nilV, .val nilV], .struct [(0, 163), (4, 165)], false⟩),
 (188, ⟨5, 88, [.int .i64 0, .int .i64 0, .val nilV, .val nilV, .val nilV], .struct [(0, 3), (1, 165)], false⟩),
 (238, ⟨16, 256, [.int .i64 0, .int .i64 0, .str [], .str [], .int .i64 0, .val nilV, .val nilV, .val nilV, .int .i64 0, .int .i64 0, .str [], .str [], .int .i64 0, .val nilV, .val nilV, .val nilV], .struct [(0, 167), (8, 167)], false⟩),
 (120, ⟨11, 152, [.int .i64 0, .int .i64 0, .bool false, .val nilV, .int .i64 0, .val nilV, .val nilV, .val nilV, .int .i64 0, .int .i64 0, .int .i64 0], .struct [(0, 3), (1, 3), (2, 4), (3, 37), (4, 3), (5, 23), (6, 39), (7, 116), (8, 118)], false⟩),
 (42, ⟨11, 184, [.int .i64 0, .int .i64 0, .bool false, .val nilV, .val nilV, .val nilV, .val nilV, .int .i64 0, .bool false, .val nilV, .val nilV], .struct [(0, 3), (1, 3), (2, 4), (3, 37), (4, 22), (5, 38), (6, 39), (7, 3), (8, 4), (9, 22), (10, 40)], false⟩),
 (59, ⟨14, 256, [.int .i64 0, .int .i64 0, .bool false, .val nilV, .val nilV, .val nilV, .val nilV, .int .i64 0, .bool false, .val nilV, .val nilV, .val nilV, .val nilV, .val nilV], .struct [(0, 42), (11, 57), (12, 22), (13, 39)], false⟩),
 (126, ⟨6, 112, [.int .i64 0, .bool false, .val nilV, .val nilV, .val nilV, .val nilV], .struct [(0, 3), (1, 4), (2, 37), (3, 22), (4, 38), (5, 124)], false⟩),
 (185, ⟨2, 24, [.int .i64 0, .str []], .struct [(0, 3), (1, 9)], true⟩),
 (190, ⟨7, 104, [.int .i64 0, .int .i64 0, .int .i64 0, .int .i64 0, .val nilV, .val nilV, .val nilV], .struct [(0, 3), (1, 3), (2, 188)], false⟩),
 (70, ⟨6, 144, [.val nilV, .val nilV, .val nilV, .val nilV, .val nilV, .val nilV], .struct [(0, 65), (1, 66), (2, 67), (3, 68), (4, 40), (5, 39)], false⟩),
 (35, tySl 157),
 (23, tySl 80),
 (80, tySl 193),
 (116, tySl 226),
 (38, tySl 167),
 (213, tySl 163),
 (57, tySl 120),
 (124, tySl 238),
 (65, tySl 59),
 (66, tySl 126),
 (67, tySl 185),
 (68, tySl 190),
 (3, zkz)]
set_option maxRecDepth 100000 in
set_option maxHeartbeats 8000000 in
theorem zkD : ∀ p ∈ exE, TyOk Tryz.prog p.1 p.2 := by
 simp only [exE, List.forall_mem_cons]
 repeat' (refine And.intro ?_ ?_)
 all_goals first
  | exact (fun _ h => by cases h)
  | exact ⟨⟨_, _, rfl, rfl, rfl, rfl, rfl⟩, ⟨_, rfl, rfl⟩, rfl, rfl, fun h => (Bool.false_ne_true h).elim⟩
  | (refine ⟨⟨_, _, rfl, rfl, rfl, rfl, rfl⟩, ⟨_, rfl, rfl⟩, rfl, rfl, fun _ => ⟨by kernel_rfl, by kernel_rfl, _, rfl, z8C ?_⟩⟩
     repeat (first | exact rfl | (refine And.intro (by decide) (And.intro rfl (And.intro rfl ?_)))))
def ttLE : List (Nat × Ty) := ttL ++ exE
def ttE : TT := lk ttLE
theorem z03 : TtOk Tryz.prog ttE := fun t y h => by
 have hm : (t, y) ∈ ttLE := z1M h
 rcases List.mem_append.1 hm with h | h
 ·exact zdg (t, y) h
 ·exact zkD (t, y) h
def z0D : Shp := .two .str (.two .str (.two .int .nop))
theorem z1W {N : Nat} {e : List T} (h : Fits N z0D e) : ∃ (s0 : Bs) (s1 : Bs) (n2 : Int), e = [.str s0, .str s1, .int .i64 n2] ∧ s0.length ≤ N ∧ s1.length ≤ N ∧ (-9223372036854775808 ≤ n2 ∧ n2 ≤ 9223372036854775807) ∧ True := by
 obtain ⟨x0, y0, e0, h0, r0⟩ := h
 obtain ⟨s0, w0, qs0⟩ := h0
 obtain ⟨x1, y1, e1, h1, r1⟩ := r0
 obtain ⟨s1, w1, qs1⟩ := h1
 obtain ⟨x2, y2, e2, h2, r2⟩ := r1
 obtain ⟨n2, w2, qn2⟩ := h2
 have rz : y2 = [] := r2
 refine ⟨s0, s1, n2, ?_, qs0, qs1, qn2, trivial⟩
 rw [e0, e1, e2, rz, w0, w1, w2]; rfl
def z1s : Shp := .two (.sl 3 z0D) .nop
theorem z2J {N : Nat} {e : List T} (h : Fits N z1s e) : ∃ (z0 : List (List T)), e = [.sl 3 z0] ∧ (z0.length ≤ N ∧ ∀ e ∈ z0, Fits N z0D e) ∧ True := by
 obtain ⟨x0, y0, e0, h0, r0⟩ := h
 obtain ⟨z0, w0, qz0⟩ := h0
 have rz : y0 = [] := r0
 refine ⟨z0, ?_, qz0, trivial⟩
 rw [e0, rz, w0]; rfl
theorem z5H {N : Nat} {z0 : List (List T)} (qz0 : (z0.length ≤ N ∧ ∀ e ∈ z0, Fits N z0D e)) : Fits N z1s [.sl 3 z0] := ⟨_, _, rfl, ⟨_, rfl, qz0⟩, rfl⟩
def z2K : Shp := .two .int (.two .int (.two .str (.two .str .nop)))
theorem z56 {N : Nat} {e : List T} (h : Fits N z2K e) : ∃ (n0 : Int) (n1 : Int) (s2 : Bs) (s3 : Bs), e = [.int .i64 n0, .int .i64 n1, .str s2, .str s3] ∧ (-9223372036854775808 ≤ n0 ∧ n0 ≤ 9223372036854775807) ∧ (-9223372036854775808 ≤ n1 ∧ n1 ≤ 9223372036854775807) ∧ s2.length ≤ N ∧ s3.length ≤ N ∧ True := by
 obtain ⟨x0, y0, e0, h0, r0⟩ := h
 obtain ⟨n0, w0, qn0⟩ := h0
 obtain ⟨x1, y1, e1, h1, r1⟩ := r0
 obtain ⟨n1, w1, qn1⟩ := h1
 obtain ⟨x2, y2, e2, h2, r2⟩ := r1
 obtain ⟨s2, w2, qs2⟩ := h2
 obtain ⟨x3, y3, e3, h3, r3⟩ := r2
 obtain ⟨s3, w3, qs3⟩ := h3
 have rz : y3 = [] := r3
 refine ⟨n0, n1, s2, s3, ?_, qn0, qn1, qs2, qs3, trivial⟩
 rw [e0, e1, e2, e3, rz, w0, w1, w2, w3]; rfl
theorem z79 {N : Nat} {n0 : Int} {n1 : Int} {s2 : Bs} {s3 : Bs} (qn0 : (-9223372036854775808 ≤ n0 ∧ n0 ≤ 9223372036854775807)) (qn1 : (-9223372036854775808 ≤ n1 ∧ n1 ≤ 9223372036854775807)) (qs2 : s2.length ≤ N) (qs3 : s3.length ≤ N) : Fits N z2K [.int .i64 n0, .int .i64 n1, .str s2, .str s3] := ⟨_, _, rfl, ⟨_, rfl, qn0⟩, ⟨_, _, rfl, ⟨_, rfl, qn1⟩, ⟨_, _, rfl, ⟨_, rfl, qs2⟩, ⟨_, _, rfl, ⟨_, rfl, qs3⟩, rfl⟩⟩⟩⟩
def z3T : Shp := .two .int (.two (.sl 1 .str) (.two (.sl 1 .str) (.two (.sl 1 .str) .nop)))
theorem z6r {N : Nat} {e : List T} (h : Fits N z3T e) : ∃ (n0 : Int) (z1 : List (List T)) (z2 : List (List T)) (z3 : List (List T)), e = [.int .i64 n0, .sl 1 z1, .sl 1 z2, .sl 1 z3] ∧ (-9223372036854775808 ≤ n0 ∧ n0 ≤ 9223372036854775807) ∧ (z1.length ≤ N ∧ ∀ e ∈ z1, Fits N .str e) ∧ (z2.length ≤ N ∧ ∀ e ∈ z2, Fits N .str e) ∧ (z3.length ≤ N ∧ ∀ e ∈ z3, Fits N .str e) ∧ True := by
 obtain ⟨x0, y0, e0, h0, r0⟩ := h
 obtain ⟨n0, w0, qn0⟩ := h0
 obtain ⟨x1, y1, e1, h1, r1⟩ := r0
 obtain ⟨z1, w1, qz1⟩ := h1
 obtain ⟨x2, y2, e2, h2, r2⟩ := r1
 obtain ⟨z2, w2, qz2⟩ := h2
 obtain ⟨x3, y3, e3, h3, r3⟩ := r2
 obtain ⟨z3, w3, qz3⟩ := h3
 have rz : y3 = [] := r3
 refine ⟨n0, z1, z2, z3, ?_, qn0, qz1, qz2, qz3, trivial⟩
 rw [e0, e1, e2, e3, rz, w0, w1, w2, w3]; rfl
theorem zdw {N : Nat} {n0 : Int} {z1 : List (List T)} {z2 : List (List T)} {z3 : List (List T)} (qn0 : (-9223372036854775808 ≤ n0 ∧ n0 ≤ 9223372036854775807)) (qz1 : (z1.length ≤ N ∧ ∀ e ∈ z1, Fits N .str e)) (qz2 : (z2.length ≤ N ∧ ∀ e ∈ z2, Fits N .str e)) (qz3 : (z3.length ≤ N ∧ ∀ e ∈ z3, Fits N .str e)) : Fits N z3T [.int .i64 n0, .sl 1 z1, .sl 1 z2, .sl 1 z3] := ⟨_, _, rfl, ⟨_, rfl, qn0⟩, ⟨_, _, rfl, ⟨_, rfl, qz1⟩, ⟨_, _, rfl, ⟨_, rfl, qz2⟩, ⟨_, _, rfl, ⟨_, rfl, qz3⟩, rfl⟩⟩⟩⟩
def z0K : Shp := .two z2K (.two z3T .nop)
theorem z2k {N : Nat} {e : List T} (h : Fits N z0K e) : ∃ (n0 : Int) (n1 : Int) (s2 : Bs) (s3 : Bs) (n4 : Int) (z5 : List (List T)) (z6 : List (List T)) (z7 : List (List T)), e = [.int .i64 n0, .int .i64 n1, .str s2, .str s3, .int .i64 n4, .sl 1 z5, .sl 1 z6, .sl 1 z7] ∧ (-9223372036854775808 ≤ n0 ∧ n0 ≤ 9223372036854775807) ∧ (-9223372036854775808 ≤ n1 ∧ n1 ≤ 9223372036854775807) ∧ s2.length ≤ N ∧ s3.length ≤ N ∧ (-9223372036854775808 ≤ n4 ∧ n4 ≤ 9223372036854775807) ∧ (z5.length ≤ N ∧ ∀ e ∈ z5, Fits N .str e) ∧ (z6.length ≤ N ∧ ∀ e ∈ z6, Fits N .str e) ∧ (z7.length ≤ N ∧ ∀ e ∈ z7, Fits N .str e) ∧ True := by
 obtain ⟨x0, y0, e0, h0, r0⟩ := h
 obtain ⟨n0, n1, s2, s3, w0, qn0, qn1, qs2, qs3, -⟩ := z56 h0
 obtain ⟨x1, y1, e1, h1, r1⟩ := r0
 obtain ⟨n4, z5, z6, z7, w1, qn4, qz5, qz6, qz7, -⟩ := z6r h1
 have rz : y1 = [] := r1
 refine ⟨n0, n1, s2, s3, n4, z5, z6, z7, ?_, qn0, qn1, qs2, qs3, qn4, qz5, qz6, qz7, trivial⟩
 rw [e0, e1, rz, w0, w1]; rfl
theorem zkE {N : Nat} {n0 : Int} {n1 : Int} {s2 : Bs} {s3 : Bs} {n4 : Int} {z5 : List (List T)} {z6 : List (List T)} {z7 : List (List T)} (qn0 : (-9223372036854775808 ≤ n0 ∧ n0 ≤ 9223372036854775807)) (qn1 : (-9223372036854775808 ≤ n1 ∧ n1 ≤ 9223372036854775807)) (qs2 : s2.length ≤ N) (qs3 : s3.length ≤ N) (qn4 : (-9223372036854775808 ≤ n4 ∧ n4 ≤ 9223372036854775807)) (qz5 : (z5.length ≤ N ∧ ∀ e ∈ z5, Fits N .str e)) (qz6 : (z6.length ≤ N ∧ ∀ e ∈ z6, Fits N .str e)) (qz7 : (z7.length ≤ N ∧ ∀ e ∈ z7, Fits N .str e)) : Fits N z0K [.int .i64 n0, .int .i64 n1, .str s2, .str s3, .int .i64 n4, .sl 1 z5, .sl 1 z6, .sl 1 z7] := ⟨_, _, rfl, z79 qn0 qn1 qs2 qs3, ⟨_, _, rfl, zdw qn4 qz5 qz6 qz7, rfl⟩⟩
def z0Q : Shp := .two .int (.two .int (.two .bool (.two z1s (.two (.sl 1 .str) (.two (.sl 8 z0K) (.two (.sl 1 .int) (.two .int (.two .bool (.two (.sl 1 .str) (.two (.sl 1 .bool) .nop))))))))))
theorem z28 {N : Nat} {e : List T} (h : Fits N z0Q e) : ∃ (n0 : Int) (n1 : Int) (b2 : Bool) (z3 : List (List T)) (z4 : List (List T)) (z5 : List (List T)) (z6 : List (List T)) (n7 : Int) (b8 : Bool) (z9 : List (List T)) (z10 : List (List T)), e = [.int .i64 n0, .int .i64 n1, .bool b2, .sl 3 z3, .sl 1 z4, .sl 8 z5, .sl 1 z6, .int .i64 n7, .bool b8, .sl 1 z9, .sl 1 z10] ∧ (-9223372036854775808 ≤ n0 ∧ n0 ≤ 9223372036854775807) ∧ (-9223372036854775808 ≤ n1 ∧ n1 ≤ 9223372036854775807) ∧ True ∧ (z3.length ≤ N ∧ ∀ e ∈ z3, Fits N z0D e) ∧ (z4.length ≤ N ∧ ∀ e ∈ z4, Fits N .str e) ∧ (z5.length ≤ N ∧ ∀ e ∈ z5, Fits N z0K e) ∧ (z6.length ≤ N ∧ ∀ e ∈ z6, Fits N .int e) ∧ (-9223372036854775808 ≤ n7 ∧ n7 ≤ 9223372036854775807) ∧ True ∧ (z9.length ≤ N ∧ ∀ e ∈ z9, Fits N .str e) ∧ (z10.length ≤ N ∧ ∀ e ∈ z10, Fits N .bool e) ∧ True := by
 obtain ⟨x0, y0, e0, h0, r0⟩ := h
 obtain ⟨n0, w0, qn0⟩ := h0
 obtain ⟨x1, y1, e1, h1, r1⟩ := r0
 obtain ⟨n1, w1, qn1⟩ := h1
 obtain ⟨x2, y2, e2, h2, r2⟩ := r1
 obtain ⟨b2, w2⟩ := h2
 have qb2 := trivial
 obtain ⟨x3, y3, e3, h3, r3⟩ := r2
 obtain ⟨z3, w3, qz3, -⟩ := z2J h3
 obtain ⟨x4, y4, e4, h4, r4⟩ := r3
 obtain ⟨z4, w4, qz4⟩ := h4
 obtain ⟨x5, y5, e5, h5, r5⟩ := r4
 obtain ⟨z5, w5, qz5⟩ := h5
 obtain ⟨x6, y6, e6, h6, r6⟩ := r5
 obtain ⟨z6, w6, qz6⟩ := h6
 obtain ⟨x7, y7, e7, h7, r7⟩ := r6
 obtain ⟨n7, w7, qn7⟩ := h7
 obtain ⟨x8, y8, e8, h8, r8⟩ := r7
 obtain ⟨b8, w8⟩ := h8
 have qb8 := trivial
 obtain ⟨x9, y9, e9, h9, r9⟩ := r8
 obtain ⟨z9, w9, qz9⟩ := h9
 obtain ⟨x10, y10, e10, h10, r10⟩ := r9
 obtain ⟨z10, w10, qz10⟩ := h10
 have rz : y10 = [] := r10
 refine ⟨n0, n1, b2, z3, z4, z5, z6, n7, b8, z9, z10, ?_, qn0, qn1, qb2, qz3, qz4, qz5, qz6, qn7, qb8, qz9, qz10, trivial⟩
 rw [e0, e1, e2, e3, e4, e5, e6, e7, e8, e9, e10, rz, w0, w1, w2, w3, w4, w5, w6, w7, w8, w9, w10]; rfl
theorem z97 {N : Nat} {n0 : Int} {n1 : Int} {b2 : Bool} {z3 : List (List T)} {z4 : List (List T)} {z5 : List (List T)} {z6 : List (List T)} {n7 : Int} {b8 : Bool} {z9 : List (List T)} {z10 : List (List T)} (qn0 : (-9223372036854775808 ≤ n0 ∧ n0 ≤ 9223372036854775807)) (qn1 : (-9223372036854775808 ≤ n1 ∧ n1 ≤ 9223372036854775807)) (qb2 : True) (qz3 : (z3.length ≤ N ∧ ∀ e ∈ z3, Fits N z0D e)) (qz4 : (z4.length ≤ N ∧ ∀ e ∈ z4, Fits N .str e)) (qz5 : (z5.length ≤ N ∧ ∀ e ∈ z5, Fits N z0K e)) (qz6 : (z6.length ≤ N ∧ ∀ e ∈ z6, Fits N .int e)) (qn7 : (-9223372036854775808 ≤ n7 ∧ n7 ≤ 9223372036854775807)) (qb8 : True) (qz9 : (z9.length ≤ N ∧ ∀ e ∈ z9, Fits N .str e)) (qz10 : (z10.length ≤ N ∧ ∀ e ∈ z10, Fits N .bool e)) : Fits N z0Q [.int .i64 n0, .int .i64 n1, .bool b2, .sl 3 z3, .sl 1 z4, .sl 8 z5, .sl 1 z6, .int .i64 n7, .bool b8, .sl 1 z9, .sl 1 z10] := ⟨_, _, rfl, ⟨_, rfl, qn0⟩, ⟨_, _, rfl, ⟨_, rfl, qn1⟩, ⟨_, _, rfl, ⟨_, rfl⟩, ⟨_, _, rfl, z5H qz3, ⟨_, _, rfl, ⟨_, rfl, qz4⟩, ⟨_, _, rfl, ⟨_, rfl, qz5⟩, ⟨_, _, rfl, ⟨_, rfl, qz6⟩, ⟨_, _, rfl, ⟨_, rfl, qn7⟩, ⟨_, _, rfl, ⟨_, rfl⟩, ⟨_, _, rfl, ⟨_, rfl, qz9⟩, ⟨_, _, rfl, ⟨_, rfl, qz10⟩, rfl⟩⟩⟩⟩⟩⟩⟩⟩⟩⟩⟩
end Go.Proofs.YtnhcfmmdaihneaaGreatDoor
