/- The types that scripts name. Plain: events, as a script's lines tell them. Plain: what a script's text says, line by line. -/
import Derived.Test.YtfgkjgfigjpkoaaDoorFa
import Derived.Test.YtfgkjgfigjpkoaaDoorNum
import Derived.Test.YtfgkjgfigjpkoaaDoorPlainScr
import Derived.Test.YtfgkjgfigjpkoaaDoorCA
import Derived.Lib.Split
namespace Go.Proofs.YtfgkjgfigjpkoaaDoor
set_option maxRecDepth 100000
set_option maxHeartbeats 4000000
set_option linter.unusedVariables false
set_option linter.unusedSimpArgs false
set_option linter.unusedSectionVars false
open Go.RowKit Pl
def zMv : List T := [.int .i64 0, .int .i64 0, .int .i64 0, .int .i64 0, .str [], .str []]
def zEv : List T := [.int .i64 0, .int .i64 0, .int .i64 0, .int .i64 0, .int .i64 0, .int .i64 0, .int .i64 0, .str [], .str [], .str []]
def exS : List (Nat × Ty) := [
 (28, ⟨5, 72, [.int .i64 0, .int .i64 0, .val nilV, .bool false, .val nilV], .struct [(0, 3), (1, 3), (2, 25), (3, 4), (4, 26)], false⟩),
 (38, ⟨3, 32, [.int .i64 0, .str [], .int .i64 0], .struct [(0, 3), (1, 9), (2, 3)], true⟩),
 (44, ⟨2, 32, [.val nilV, .bool false], .struct [(0, 39), (1, 4)], false⟩),
 (25, tySl 36),
 (26, tySl 38),
 (93, ⟨11, 176, List.replicate 11 (.str []), .array 11 9, false⟩),
 (3, tyInt)]
def tMv : Ty := ⟨6, 64, zMv, .struct [(0, 3), (1, 3), (2, 3), (3, 32)], true⟩
def tEv : Ty := ⟨10, 104, zEv, .struct [(0, 3), (1, 3), (2, 3), (3, 34), (9, 9)], true⟩
theorem zbg : ∀ p ∈ exS, TyOk Tryd.prog p.1 p.2 := by
 simp only [exS, List.forall_mem_cons]
 repeat' (refine And.intro ?_ ?_)
 all_goals first
  | exact (fun _ h => by cases h)
  | exact ⟨⟨_, _, rfl, rfl, rfl, rfl, rfl⟩, ⟨_, rfl, rfl⟩, rfl, rfl, fun h => (Bool.false_ne_true h).elim⟩
  | (refine ⟨⟨_, _, rfl, rfl, rfl, rfl, rfl⟩, ⟨_, rfl, rfl⟩, rfl, rfl, fun _ => ⟨by kernel_rfl, by kernel_rfl, _, rfl, z6a ?_⟩⟩
     repeat (first | exact rfl | (refine And.intro (by decide) (And.intro rfl (And.intro rfl ?_)))))
theorem zbh : z7J Tryd.prog (Tryd.prog.fieldsOf 32).toList 0 [.int .i64 0, .str [], .str []] := by
 rw [show Tryd.prog.fieldsOf 32 = #[_, _, _] from rfl]
 repeat (first | exact rfl | (refine And.intro (by decide) (And.intro rfl (And.intro rfl ?_))))
theorem z8H : FlatN Tryd.prog 1 (Tryd.prog.fieldsOf 34).toList 0 zMv := by
 rw [show Tryd.prog.fieldsOf 34 = #[_, _, _, _] from rfl]
 refine .cell (by decide) rfl rfl (.cell (by decide) rfl rfl (.cell (by decide) rfl rfl ?_))
 exact FlatN.sub (us := [.int .i64 0, .str [], .str []]) (zs := []) (G := Tryd.prog.fieldsOf 32) (by decide) rfl rfl (by kernel_rfl) Tryd.sizeOf32 (.flat zbh) (.flat rfl)
theorem zbi : FlatN Tryd.prog 2 (Tryd.prog.fieldsOf 36).toList 0 zEv := by
 rw [show Tryd.prog.fieldsOf 36 = #[_, _, _, _, _] from rfl]
 refine .cell (by decide) rfl rfl (.cell (by decide) rfl rfl (.cell (by decide) rfl rfl ?_))
 exact FlatN.sub (us := zMv) (zs := [.str []]) (G := Tryd.prog.fieldsOf 34) (by decide) rfl rfl (by kernel_rfl) Tryd.sizeOf34 z8H (.cell (by decide) rfl rfl (.flat rfl))
theorem ok_mv : TyOk Tryd.prog 34 tMv :=
 ⟨⟨_, _, rfl, rfl, rfl, rfl, rfl⟩, ⟨_, rfl, rfl⟩, rfl, rfl, fun _ => ⟨by kernel_rfl, by kernel_rfl, _, rfl, 1, by decide, z8H⟩⟩
theorem ok_ev : TyOk Tryd.prog 36 tEv :=
 ⟨⟨_, _, rfl, rfl, rfl, rfl, rfl⟩, ⟨_, rfl, rfl⟩, rfl, rfl, fun _ => ⟨by kernel_rfl, by kernel_rfl, _, rfl, 2, by decide, zbi⟩⟩
def ttLS : List (Nat × Ty) := (34, tMv) :: (36, tEv) :: (ttL ++ exS)
def ttS : TT := lk ttLS
theorem z0f : TtOk Tryd.prog ttS := fun t y h => by
 have hm : (t, y) ∈ ttLS := z1i h
 rcases List.mem_cons.1 hm with h | hm
 ·injection h with h1 h2; subst h1; subst h2; exact ok_mv
 rcases List.mem_cons.1 hm with h | hm
 ·injection h with h1 h2; subst h1; subst h2; exact ok_ev
 rcases List.mem_append.1 hm with h | h
 ·exact zaz (t, y) h
 ·exact zbg (t, y) h
end Go.Proofs.YtfgkjgfigjpkoaaDoor
namespace Go.Proofs.YtfgkjgfigjpkoaaDoor
set_option linter.unusedVariables false
set_option linter.unusedSimpArgs false
set_option linter.unusedSectionVars false
open Go.RowKit Pl
structure Evt where evt ::
 k : Int := 0
 h : Int := 0
 a : Int := 0
 mk : Int := 0
 mn : Int := 0
 ma : Int := 0
 ci : Int := 0
 cn : Bs := []
 cv : Bs := []
 tx : Bs := []
def evC (e : Evt) : List T := [.int .i64 e.k, .int .i64 e.h, .int .i64 e.a, .int .i64 e.mk, .int .i64 e.mn, .int .i64 e.ma, .int .i64 e.ci, .str e.cn, .str e.cv, .str e.tx]
def evE (l : List Evt) : List (List T) := l.map evC
theorem z0B (l : List Evt) : (evE l).length = l.length := by simp [evE]
theorem zaC (a b : List Evt) : evE (a ++ b) = evE a ++ evE b := by simp [evE]
def mvC (e : Evt) : List T := [.int .i64 e.mk, .int .i64 e.mn, .int .i64 e.ma, .int .i64 e.ci, .str e.cn, .str e.cv]
def mvZ : List T := [.int .i64 0, .int .i64 0, .int .i64 0, .int .i64 0, .str [], .str []]
def chZ : List T := [.int .i64 0, .str [], .str []]
def mvOk (e : Evt) : Bool := inB e.mk 1 10 && (inB e.mn 0 4 && (!decide (e.ma < 0) && (bif decide (e.mk = 1) then z0s e.ci e.cn e.cv else eqC [.int .i64 e.ci, .str e.cn, .str e.cv] chZ)))
def evOk (e : Evt) : Bool := inB e.k 1 8 && (inB e.h 0 2 && (!decide (e.a < 0) && ((bif decide (e.k = 1) then mvOk e else eqC (mvC e) mvZ) &&
 (bif decide (e.k = 5) then decide ((e.tx.length : Int) ≤ 700) else bif decide (e.k = 6) then decide ((e.tx.length : Int) ≤ 20) else decide (e.tx = [])))))
def wdL : List Bs := [[116, 101, 108, 108], [110, 111, 116, 101], [100, 114, 111, 112], [102, 111, 114, 103, 101], [101, 118, 105, 108], [100, 111, 119, 110], [117, 112]]
def mvL : List Bs := [[116, 97, 107, 101], [98, 101, 103, 105, 110], [103, 105, 118, 101], [116, 105, 99, 107], [99, 97, 114, 114, 121], [108, 111, 115, 101], [116, 119, 105, 99, 101], [115, 112, 111, 105, 108], [102, 97, 108, 108], [114, 105, 115, 101]]
def pt (p : List Bs) (i : Nat) : Bs := p.getD i []
theorem z0V {p : List Bs} {i : Nat} (h : i < p.length) : p[i]? = some (pt p i) := by rw [pt, List.getD, List.getElem?_eq_getElem h]; rfl
def mvN (j : Nat) : Nat := if j = 0 then 5 else if j ≤ 3 then 2 else if j = 8 then 4 else 3
def wdN (j : Nat) : Nat := if j = 3 then 3 else if j = 4 then 4 else if j = 5 then 3 else 2
def mvE (j : Nat) (p : List Bs) : Evt := { k := 1, h := decV (pt p 1), mk := ((j + 1 : Nat) : Int), mn := if 8 ≤ j then decV (pt p 2) else 0, ma := if j = 8 then decV (pt p 3) else if 4 ≤ j ∧ j ≤ 7 then decV (pt p 2) else 0, ci := if j = 0 then decV (pt p 2) else 0, cn := if j = 0 then pt p 3 else [], cv := if j = 0 then (if pt p 4 = [45] then [] else pt p 4) else [] }
def mvB (j : Nat) (p : List Bs) : Bool := isB (pt p 1) && ((if j = 0 ∨ 4 ≤ j then isB (pt p 2) else true) && (if j = 8 then isB (pt p 3) else true))
def wdE (j : Nat) (p : List Bs) : Evt := { k := ((j + 2 : Nat) : Int), h := if j = 1 ∨ j = 2 then 0 else decV (pt p 1), a := if j = 1 ∨ j = 2 then decV (pt p 1) else if j = 4 ∨ j = 5 then decV (pt p 2) else 0, tx := if j = 3 then pt p 2 else if j = 4 then pt p 3 else [] }
def wdB (j : Nat) (p : List Bs) : Bool := isB (pt p 1) && (if j = 4 ∨ j = 5 then isB (pt p 2) else true)
def rawM (p : List Bs) : Option (Evt × Bool) := if mvL.idxOf (pt p 0) < 10 ∧ p.length = mvN (mvL.idxOf (pt p 0)) then some (mvE (mvL.idxOf (pt p 0)) p, mvB (mvL.idxOf (pt p 0)) p) else none
def rawE (p : List Bs) : Option (Evt × Bool) := if wdL.idxOf (pt p 0) < 7 ∧ p.length = wdN (wdL.idxOf (pt p 0)) then some (wdE (wdL.idxOf (pt p 0)) p, wdB (wdL.idxOf (pt p 0)) p) else rawM p
theorem zaD {w : Bs} : (∃ j, j < 10 ∧ mvL.getD j [] = w ∧ mvL.idxOf w = j) ∨ (mvL.idxOf w = 10 ∧ ∀ j, j < 10 → ¬ mvL.getD j [] = w) := by
 by_cases h : w ∈ mvL
 ·have hl : mvL.idxOf w < mvL.length := List.idxOf_lt_length_iff.2 h
  refine .inl ⟨mvL.idxOf w, hl, ?_, rfl⟩
  rw [List.getD, List.getElem?_eq_getElem hl]
  exact List.getElem_idxOf hl
 ·refine .inr ⟨List.idxOf_eq_length h, fun j hj he => h ?_⟩
  rw [List.getD, List.getElem?_eq_getElem (show j < mvL.length from hj)] at he
  subst he
  exact List.getElem_mem _
theorem zaE {w : Bs} : (∃ j, j < 7 ∧ wdL.getD j [] = w ∧ wdL.idxOf w = j) ∨ (wdL.idxOf w = 7 ∧ ∀ j, j < 7 → ¬ wdL.getD j [] = w) := by
 by_cases h : w ∈ wdL
 ·have hl : wdL.idxOf w < wdL.length := List.idxOf_lt_length_iff.2 h
  refine .inl ⟨wdL.idxOf w, hl, ?_, rfl⟩
  rw [List.getD, List.getElem?_eq_getElem hl]
  exact List.getElem_idxOf hl
 ·refine .inr ⟨List.idxOf_eq_length h, fun j hj he => h ?_⟩
  rw [List.getD, List.getElem?_eq_getElem (show j < wdL.length from hj)] at he
  subst he
  exact List.getElem_mem _
theorem z2I : ∀ i, i < 10 → ∀ j, j < i → ¬ mvL.getD j [] = mvL.getD i [] := by decide
theorem z4F : ∀ i, i < 7 → ∀ j, j < 7 → j ≠ i → ¬ wdL.getD j [] = wdL.getD i [] := by decide
theorem mv_ne2 : ∀ i, i < 10 → ∀ j, j < 10 → j ≠ i → ¬ mvL.getD j [] = mvL.getD i [] := by decide
theorem z14 : ∀ j, j < 11 → (mvW.map fun w => T.str w)[0 + j * 1]? = some (.str (mvW.getD j [])) := by
 intro j hj
 rw [List.getElem?_map, Nat.zero_add, Nat.mul_one, List.getD, List.getElem?_eq_getElem (show j < mvW.length from hj)]
 rfl
theorem z1n : ∀ j, j < 10 → mvW.getD (j + 1) [] = mvL.getD j [] := by decide
def evR (r : Option (Evt × Bool)) : Evt := match r with
 | some x => x.1
 | none => {}
def okR (r : Option (Evt × Bool)) : Bool := match r with
 | some x => x.2
 | none => false
end Go.Proofs.YtfgkjgfigjpkoaaDoor
namespace Go.Proofs.YtfgkjgfigjpkoaaDoor
set_option linter.unusedVariables false
set_option linter.unusedSimpArgs false
set_option linter.unusedSectionVars false
open Go.RowKit Pl
def lnS (x : List Bs × Bs) (b : UInt8) : List Bs × Bs := if b.toNat = 10 then (x.1 ++ [x.2], []) else (x.1, x.2 ++ [b])
def lnF (l : Bs) : List Bs × Bs := l.foldl lnS ([], [])
def linI (l : Bs) : List Bs := (lnF l).1 ++ [(lnF l).2]
def linM (l : Bs) : List Bs := if (lnF l).2 = [] then (lnF l).1 else (lnF l).1 ++ [(lnF l).2]
theorem z4G {l : Bs} {k : Nat} (h : k < l.length) : lnF (l.take (k + 1)) = lnS (lnF (l.take k)) (l.getD k 0) := by
 have e : l.take (k + 1) = l.take k ++ [l.getD k 0] := by rw [List.take_add_one, List.getElem?_eq_getElem h, List.getD, List.getElem?_eq_getElem h]; rfl
 rw [e, lnF, List.foldl_append]
 rfl
theorem z8I (l : Bs) : ∀ k, k ≤ l.length → (lnF (l.take k)).2.length ≤ k ∧ (lnF (l.take k)).2 = (l.take k).drop (k - (lnF (l.take k)).2.length)
 | 0, _ => by simp [lnF]
 | k + 1, h => by
   obtain ⟨h1, h2⟩ := z8I l k (by omega)
   have e : l.take (k + 1) = l.take k ++ [l.getD k 0] := by rw [List.take_add_one, List.getElem?_eq_getElem (show k < l.length by omega), List.getD, List.getElem?_eq_getElem (show k < l.length by omega)]; rfl
   rw [z4G (by omega)]
   generalize lnF (l.take k) = x at h1 h2
   unfold lnS
   split
   ·refine ⟨by simp, ?_⟩
    simp [List.drop_of_length_le (show (l.take (k + 1)).length ≤ k + 1 by rw [List.length_take]; omega)]
   ·have hl : (l.take k).length = k := by rw [List.length_take]; omega
    refine ⟨by rw [List.length_append]; simp; omega, ?_⟩
    show x.2 ++ [l.getD k 0] = (l.take (k + 1)).drop (k + 1 - (x.2 ++ [l.getD k 0]).length)
    rw [e, List.length_append, List.length_singleton, show k + 1 - (x.2.length + 1) = k - x.2.length by omega, List.drop_append_of_le_length (by omega), ← h2]
theorem z4H (l : Bs) : ∀ k, k ≤ l.length → (lnF (l.take k)).1.length ≤ k
 | 0, _ => by simp [lnF]
 | k + 1, h => by
   have h1 := z4H l k (by omega)
   rw [z4G (by omega)]
   generalize lnF (l.take k) = x at h1
   unfold lnS
   split
   ·show (x.1 ++ [x.2]).length ≤ k + 1; rw [List.length_append]; simp; omega
   ·show x.1.length ≤ k + 1; omega
theorem z9T (l : Bs) : (linM l).length ≤ l.length + 1 := by
 have h := z4H l l.length (Nat.le_refl _)
 rw [List.take_length] at h
 unfold linM
 split
 ·omega
 ·rw [List.length_append]; simp; omega
theorem z9U (l : Bs) : (linI l).length ≤ l.length + 1 := by
 have h := z4H l l.length (Nat.le_refl _)
 rw [List.take_length] at h
 unfold linI
 rw [List.length_append]; simp; omega
structure Sc where sc ::
 n : Int := 0
 k : Int := 0
 ev : List Evt := []
 ca : Bool := false
 ak : List (Int × Bs × Int) := []
def akC (a : Int × Bs × Int) : List T := [.int .i64 a.1, .str a.2.1, .int .i64 a.2.2]
def akE (l : List (Int × Bs × Int)) : List (List T) := l.map akC
theorem z5r (l : List (Int × Bs × Int)) : (akE l).length = l.length := by simp [akE]
theorem ak_app (a b : List (Int × Bs × Int)) : akE (a ++ b) = akE a ++ akE b := by simp [akE]
def z1F : Bs := [99, 97, 108, 109]
def wAsk : Bs := [97, 115, 107]
def z3W : Bs := [119, 111, 114, 108, 100]
def wldB (p : List Bs) : Bool := decide (pt p 0 = z3W) && (decide (p.length = 3) && (isB (pt p 1) && (isB (pt p 2) && (inB (decV (pt p 1)) 1 3 && inB (decV (pt p 2)) 0 2))))
def z2G (p : List Bs) : Bool := decide (p.length = 1) && decide (pt p 0 = z1F)
def z7r (p : List Bs) : Bool := decide (p.length = 4) && decide (pt p 0 = wAsk)
def z5s (p : List Bs) : Int × Bs × Int := ((decV (pt p 1) : Int), pt p 2, (decV (pt p 3) : Int))
def addB (x : Sc) (p : List Bs) : Bool := if z2G p then true else if z7r p then (isB (pt p 1) && isB (pt p 3)) && decide (x.ak.length < 10)
 else (okR (rawE p) && evOk (evR (rawE p))) && decide (x.ev.length < 90)
def addC (x : Sc) (p : List Bs) : Sc := if z2G p then { x with ca := true } else if z7r p then { x with ak := x.ak ++ [z5s p] } else { x with ev := x.ev ++ [evR (rawE p)] }
def z2J (p : List Bs) : Bool := decide (p.length = 0) || decide ((pt p 0).getD 0 0 = 35)
def z1P : Sc := {}
def rdL : List Bs → Nat → Sc → Sc × Int
 | [], _, x => if x.n = 0 then (z1P, 1) else (x, 0)
 | l :: ls, i, x => if z0v l then
     (if z2J (z0o l) then rdL ls (i + 1) x
      else if x.n = 0 then (if wldB (z0o l) then rdL ls (i + 1) { x with n := decV (pt (z0o l) 1), k := decV (pt (z0o l) 2) } else (z1P, (i : Int) + 1))
      else (if addB x (z0o l) then rdL ls (i + 1) (addC x (z0o l)) else (z1P, (i : Int) + 1)))
   else (z1P, (i : Int) + 1)
theorem z7s : z0v [] = true := by decide
theorem z64 : z0o [] = [] := by decide
theorem z8J : ∀ (ls : List Bs) (i : Nat) (x : Sc), rdL (ls ++ [[]]) i x = rdL ls i x
 | [], i, x => by
   show rdL [[]] i x = _
   rw [rdL.eq_2, z7s, z64, if_pos rfl, if_pos (by decide)]
   rfl
 | l :: ls, i, x => by
   show rdL (l :: (ls ++ [[]])) i x = rdL (l :: ls) i x
   rw [rdL.eq_2, rdL.eq_2]
   simp only [z8J ls]
def z0W (s : Bs) : Sc × Int := if s.length ≤ 4000 then rdL (linM s) 0 z1P else (z1P, -1)
theorem zbj {s : Bs} (h : s.length ≤ 4000) : rdL (linI s) 0 z1P = z0W s := by
 rw [z0W, if_pos h, linI, linM]
 split
 ·rename_i he
  rw [he, z8J]
 ·rfl
def ScOk (x : Sc) : Prop := x.ev.length ≤ 90 ∧ x.ak.length ≤ 10
theorem z1Q : ScOk z1P := ⟨by decide, by decide⟩
theorem z2D {x : Sc} {p : List Bs} (h : ScOk x) (hb : addB x p = true) : ScOk (addC x p) := by
 obtain ⟨h1, h2⟩ := h
 unfold addB at hb
 unfold addC
 split
 ·exact ⟨h1, h2⟩
 ·rename_i hc
  rw [if_neg hc] at hb
  split
  ·rename_i ha
   rw [if_pos ha, Bool.and_eq_true, decide_eq_true_eq] at hb
   exact ⟨h1, by show (x.ak ++ [z5s p]).length ≤ 10; rw [List.length_append]; simp; omega⟩
  ·rename_i ha
   rw [if_neg ha, Bool.and_eq_true, decide_eq_true_eq] at hb
   exact ⟨by show (x.ev ++ [evR (rawE p)]).length ≤ 90; rw [List.length_append]; simp; omega, h2⟩
theorem z6M : ∀ (ls : List Bs) (i : Nat) (x : Sc), ScOk x → ScOk (rdL ls i x).1
 | [], i, x, h => by
   rw [rdL]
   split
   ·exact z1Q
   ·exact h
 | l :: ls, i, x, h => by
   rw [rdL]
   split
   ·split
    ·exact z6M ls _ _ h
    ·split
     ·split
      ·exact z6M ls _ _ h
      ·exact z1Q
     ·split
      ·rename_i hb
       exact z6M ls _ _ (z2D h hb)
      ·exact z1Q
   ·exact z1Q
theorem z6N (s : Bs) : ScOk (z0W s).1 := by
 unfold z0W
 split
 ·exact z6M _ _ _ z1Q
 ·exact z1Q
theorem inB_n {n : Nat} (h : inB (n : Int) 1 3 = true) : ¬ (n : Int) = 0 := by
 intro c
 rw [c] at h
 revert h
 decide
end Go.Proofs.YtfgkjgfigjpkoaaDoor
