/- Plain: a complete proof, right as it is drawn, and its text. -/
import Derived.Test.YtigfpjnjjndenaaGreatDoorTg
import Derived.Test.YtigfpjnjjndenaaGreatDoorFK
import Derived.Test.YtigfpjnjjndenaaGreatDoorPlainSig
namespace Go.Proofs.YtigfpjnjjndenaaGreatDoor
open Go.RowKit Pl
set_option linter.unusedVariables false
set_option linter.unusedSimpArgs false

theorem seed_len (i : Nat) : ([104, 111, 117, 115, 101, UInt8.ofNat (48 + i)] : Bs).length ≤ 100 := by simp
/-- The seed of a house. -/
def seedB (i : Nat) : Bs := [104, 111, 117, 115, 101, UInt8.ofNat (48 + i)]
/-- A complete proof. -/
structure Wh where
  B : List Lf
  S : List Bs
  T : List Bs
  hd : Hd
  sg : Sg
  st : List (Nat × Sg)
def stE (l : List (Nat × Sg)) : List (List T) := l.map fun x => T.int .i64 (x.1 : Int) :: sgE x.2
theorem stE_len (l : List (Nat × Sg)) : (stE l).length = l.length := by simp [stE]
theorem stE_app (l : List (Nat × Sg)) (x : Nat × Sg) : stE (l ++ [x]) = stE l ++ [T.int .i64 (x.1 : Int) :: sgE x.2] := by simp [stE]
def whE (x : Wh) : List T := [.sl 2 (lvE x.B), .sl 1 (strE x.S), .sl 1 (strE x.T)] ++ hdE x.hd ++ sgE x.sg ++ [.sl 5 (stE x.st)]
def poolH (i : Nat) : List Bs := poolN (seedB i) 16
theorem poolH_len (i : Nat) : (poolH i).length = 16 := poolN_len _ _
theorem poolH_wide {i : Nat} : ∀ x ∈ poolH i, x.length = 16 := poolN_wide
def poolsE (n : Nat) : List (List T) := (List.range n).map fun i => [T.sl 1 (strE (poolH i))]
def rootsN (n : Nat) : List Bs := (List.range n).map fun i => rootB (poolH i)
theorem poolsE_len (n : Nat) : (poolsE n).length = n := by simp [poolsE]
theorem rootsN_len (n : Nat) : (rootsN n).length = n := by simp [rootsN]
theorem poolsE_next (n : Nat) : poolsE (n + 1) = poolsE n ++ [[T.sl 1 (strE (poolH n))]] := by simp [poolsE, List.range_succ]
theorem rootsN_next (n : Nat) : rootsN (n + 1) = rootsN n ++ [rootB (poolH n)] := by simp [rootsN, List.range_succ]
theorem poolsE_at {n i : Nat} (h : i < n) : (poolsE n)[i]? = some [T.sl 1 (strE (poolH i))] := by simp [poolsE, List.getElem?_map, List.getElem?_range h]
def stampS (i : Nat) (h : Hd) : Sg := signB (seedB i) (poolH i) (4 * (h.ho + 1) + h.ep - 1) (stampB h)
/-- The stamps of the first n houses. -/
def stampsN (h : Hd) : Nat → List (Nat × Sg)
  | 0 => []
  | n + 1 => stampsN h n ++ (if n = h.ho then [] else [(n, stampS n h)])
theorem stampsN_len (h : Hd) : ∀ n, (stampsN h n).length ≤ n
  | 0 => by simp [stampsN]
  | n + 1 => by
    have := stampsN_len h n
    rw [stampsN, List.length_append]
    split <;> simp <;> omega
/-- What is drawn. -/
structure WhD (K need : Nat) (nm : Bs) (L : List Lf) (hd : Hd) : Prop where
  k : K < 3
  n : need < 3
  nok : nameOk nm = true
  nl : nm.length ≤ 9
  ok : leavesOk L = true
  sm : Small9 L
  len : L.length ≤ 9
  hgd : hd.good
  ro : hd.ro = nodeB L 16 8 0
def whD (K : Nat) (nm : Bs) (L : List Lf) (hd : Hd) : Wh := ⟨bucketL L (ixB nm : Int), sidesB L 16 (ixB nm) (8 - K), (sidesB L 16 (ixB nm) 8).drop (8 - K), hd, signB (seedB hd.ho) (poolH hd.ho) (hd.ep - 1) (headH hd), stampsN hd 3⟩
def stAt (l : List (Nat × Sg)) (k : Nat) : Nat × Sg := l.getD k (0, ⟨0, [], [], []⟩)
theorem stE_get {l : List (Nat × Sg)} {k : Nat} (h : k < l.length) : (stE l)[k]? = some (T.int .i64 ((stAt l k).1 : Int) :: sgE (stAt l k).2) := by
  simp [stE, stAt, List.getD, List.getElem?_map, List.getElem?_eq_getElem h]
theorem fold_wide {ix w : Nat} (hw : w ≤ 32) : ∀ (ss : List Bs) (j : Nat) (h : Bs), h.length = w → (foldS ix w j h ss).2.length = w
  | [], j, h, e => e
  | s :: ss, j, h, e => by
    simp only [foldS]
    exact fold_wide hw ss _ _ (cutB_len hw)
theorem lead_len (nm : Bs) (l : List Lf) (s : List Bs) : (leadB nm l s 16).length = 16 := fold_wide (by omega) s 0 _ (cutB_len (by omega))
/-- What a right complete proof has. -/
structure WhOk (R : List Bs) (K need : Nat) (nm : Bs) (x : Wh) : Prop where
  rl : R.length = 3
  rw : ∀ y ∈ R, y.length = 16
  k : K < 3
  n : need < 3
  nl : nm.length ≤ 20
  bl : x.B.length ≤ 30
  fit : Fit x.B
  fn : ∀ k, ((lfAt x.B k).1.length : Int) ≤ 100000000
  pf : pfGood nm x.B x.S 16 = true
  sl : x.S.length = 8 - K
  tl : x.T.length = K
  tw : ∀ y ∈ x.T, y.length = 16
  hd : x.hd.good
  sg : x.sg.good
  sa : x.sg.a = x.hd.ep - 1
  sr : rootV (headH x.hd) x.sg = pAt R x.hd.ho
  st : x.st.length = 2
  ris : (stAt x.st 0).1 < (stAt x.st 1).1
  sh : ∀ k, k < 2 → (stAt x.st k).1 ≤ 2 ∧ (stAt x.st k).1 ≠ x.hd.ho ∧ (stAt x.st k).2.good ∧ (stAt x.st k).2.a = 4 * (x.hd.ho + 1) + x.hd.ep - 1 ∧ rootV (stampB x.hd) (stAt x.st k).2 = pAt R (stAt x.st k).1
theorem flat16 {l : List Bs} (h : ∀ x ∈ l, x.length = 16) : l.flatten.length = 16 * l.length := by
  induction l with
  | nil => rfl
  | cons x l ih =>
    have a := ih fun y hy => h y (List.mem_cons_of_mem _ hy)
    have b := h x (by simp)
    simp only [List.flatten_cons, List.length_append, List.length_cons]
    omega
theorem sigB_len {s : Sg} (g : s.good) : (sigB s).length = 321 := by
  obtain ⟨h1, ⟨h2, h3⟩, ⟨h4, h5⟩, h6, h7⟩ := g
  have a := flat16 h3
  have b := flat16 h5
  have c := flat16 h7
  simp only [sigB, List.length_append, List.length_cons, List.length_nil]
  omega
theorem shortText_le {l : Bs} (h : l.length ≤ 100000) : (shortText l).length ≤ l.length + 10 := by
  have := shortText_len (l := l) (by omega)
  omega
/-- The text of stamps, the first n. -/
def stB (l : List (Nat × Sg)) : Nat → Bs
  | 0 => []
  | n + 1 => stB l n ++ ([UInt8.ofNat (stAt l n).1] ++ sigB (stAt l n).2)
def preB (x : Wh) : Bs := shortText (proofText x.B x.S) ++ varText x.T.length ++ x.T.flatten ++ shortText (sealB x.hd x.sg) ++ varText x.st.length
def wholeB (x : Wh) : Bs := preB x ++ stB x.st x.st.length
theorem stB_len {l : List (Nat × Sg)} : ∀ n, (∀ k, k < n → (stAt l k).2.good) → (stB l n).length = 322 * n
  | 0, _ => rfl
  | n + 1, h => by
    have a := stB_len n fun k hk => h k (by omega)
    have b := sigB_len (h n (by omega))
    simp only [stB, List.length_append, List.length_cons, List.length_nil]
    omega
namespace wh
theorem bucket_ok {l : List Lf} {ix : Int} (h : leavesOk l = true) : leavesOk (bucketL l ix) = true := by
  obtain ⟨h1, h2, h3⟩ := ok_sorted h
  exact sorted_ok (Nat.le_trans (List.length_filter_le _ _) h1) (fun x hx => h2 x (List.mem_filter.1 hx).1) (h3.filter _)
theorem bucket_at (l : List Lf) (ix : Nat) : bucketL l (ix : Int) = atP l 0 ix := by
  unfold bucketL atP
  apply List.filter_congr
  intro x _
  simp only [Nat.pow_zero, Nat.div_one]
  by_cases h : ixB x.1 = ix
  · rw [decide_eq_true h, decide_eq_true (by omega)]
  · rw [decide_eq_false h, decide_eq_false (by omega)]
theorem bucket_same (l : List Lf) (ix : Int) : bucketL (bucketL l ix) ix = bucketL l ix := by
  unfold bucketL
  rw [List.filter_filter]
  apply List.filter_congr
  intro x _
  simp
theorem bucket_get (l : List Lf) (nm : Bs) : leafGet (bucketL l (ixB nm : Int)) nm = leafGet l nm := by
  have e : (fun a : Lf => decide (decide ((ixB a.1 : Int) = (ixB nm : Int)) = true ∧ (a.1 == nm) = true)) = fun x => x.1 == nm := funext fun x => by
    by_cases h : x.1 = nm
    · rw [h]; simp
    · have h2 : (x.1 == nm) = false := by simpa using h
      rw [h2]; simp
  unfold leafGet bucketL
  rw [List.find?_filter, e]
end wh
theorem rootB_wide (i : Nat) : (rootB (poolH i)).length = 16 := by
  unfold rootB
  exact pAt_wide (lvlB_wide poolH_wide 4) (by rw [lvlB_len (poolH_len i)]; decide)
theorem rootsN_wide {n : Nat} : ∀ y ∈ rootsN n, y.length = 16 := by
  intro y hy
  simp only [rootsN, List.mem_map] at hy
  obtain ⟨i, _, rfl⟩ := hy
  exact rootB_wide i
theorem rootsN_at {n i : Nat} (h : i < n) : pAt (rootsN n) i = rootB (poolH i) := by
  simp [pAt, rootsN, List.getD, List.getElem?_map, List.getElem?_range h]
theorem stampsN_eq (h : Hd) (g : h.ho ≤ 2) : ∃ a b, a < b ∧ b ≤ 2 ∧ a ≠ h.ho ∧ b ≠ h.ho ∧ stampsN h 3 = [(a, stampS a h), (b, stampS b h)] := by
  rcases (by omega : h.ho = 0 ∨ h.ho = 1 ∨ h.ho = 2) with e | e | e
  · exact ⟨1, 2, by omega, by omega, by omega, by omega, by simp [stampsN, e]⟩
  · exact ⟨0, 2, by omega, by omega, by omega, by omega, by simp [stampsN, e]⟩
  · exact ⟨0, 1, by omega, by omega, by omega, by omega, by simp [stampsN, e]⟩
theorem stampS_good {i : Nat} {h : Hd} (g : h.good) : (stampS i h).good :=
  signB_good (poolH_len i) poolH_wide (by have := g.1; have := g.2.1; have := g.2.2.1; omega)
theorem stampS_root {i : Nat} {h : Hd} (g : h.good) : rootV (stampB h) (stampS i h) = rootB (poolH i) :=
  sign_root (seedB i) (stampB h) (by have := g.1; have := g.2.1; have := g.2.2.1; omega)
theorem sides_pf {L : List Lf} {nm : Bs} (n : Nat) (hn8 : n ≤ 8) (hL : leavesOk L = true) (hn : nameOk nm = true) :
    pfGood nm (bucketL L (ixB nm : Int)) (sidesB L 16 (ixB nm) n) 16 = true ∧ proofOkB (bucketL L (ixB nm : Int)) (sidesB L 16 (ixB nm) n) 16 = true := by
  have hB := wh.bucket_ok (ix := (ixB nm : Int)) hL
  have hw := sidesB_wide (l := L) (w := 16) (ix := ixB nm) (n := n) (by omega)
  have hl := sidesB_len L 16 (ixB nm) n
  have hall : ((sidesB L 16 (ixB nm) n).all fun x => decide ((x.length : Int) = 16)) = true := List.all_eq_true.2 fun x hx => decide_eq_true (by have := hw x hx; omega)
  refine ⟨?_, proofOk_iff.2 ⟨hB, by omega, fun x hx => by have := hw x hx; omega, by omega, by omega⟩⟩
  unfold pfGood
  rw [hn, hB, hall, wh.bucket_same, hl, decide_eq_true hn8, decide_eq_true rfl]
  rfl
theorem tops_eq {K : Nat} (h : K < 3) (L : List Lf) (ix : Nat) : (sidesB L 16 ix 8).drop (8 - K) = (List.range' (8 - K) K).map fun i => nodeB L 16 i (sib (ix / 2 ^ i)) := by
  have e : (List.range 8).drop (8 - K) = List.range' (8 - K) K := by
    rcases (by omega : K = 0 ∨ K = 1 ∨ K = 2) with rfl | rfl | rfl <;> rfl
  rw [sidesB, ← List.map_drop, e]
theorem whD_fold {K need : Nat} {nm : Bs} {L : List Lf} {hd : Hd} (d : WhD K need nm L hd) :
    (foldS (ixB nm) 16 (8 - K) (leadB nm (whD K nm L hd).B (whD K nm L hd).S 16) (whD K nm L hd).T).2 = (whD K nm L hd).hd.ro := by
  have hk := d.k
  have hro := d.ro
  show (foldS (ixB nm) 16 (8 - K) (leadB nm (bucketL L (ixB nm : Int)) (sidesB L 16 (ixB nm) (8 - K)) 16) ((sidesB L 16 (ixB nm) 8).drop (8 - K))).2 = hd.ro
  have hf := fold_tree L 16 (ixB nm) (8 - K) 0
  have e : cutB (bucketB (bucketL L (ixB nm : Int))) 16 = nodeB L 16 0 (ixB nm / 2 ^ 0) := by
    rw [nodeB, wh.bucket_at, Nat.pow_zero, Nat.div_one]
  have e2 : sidesB L 16 (ixB nm) (8 - K) = (List.range' 0 (8 - K)).map fun i => nodeB L 16 i (sib (ixB nm / 2 ^ i)) := by
    rw [sidesB, List.range_eq_range']
  have hl : leadB nm (bucketL L (ixB nm : Int)) (sidesB L 16 (ixB nm) (8 - K)) 16 = nodeB L 16 (8 - K) (ixB nm / 2 ^ (8 - K)) := by
    unfold leadB
    rw [e, e2, hf, Nat.zero_add]
  have hg := fold_tree L 16 (ixB nm) K (8 - K)
  rw [hl, tops_eq hk, hg, show 8 - K + K = 8 by omega, hro]
  have : ixB nm / 2 ^ 8 = 0 := by
    have := ixB_lt nm
    rw [show 2 ^ 8 = 256 by decide]
    omega
  rw [this]
theorem whD_ok {K need : Nat} {nm : Bs} {L : List Lf} {hd : Hd} (d : WhD K need nm L hd) : WhOk (rootsN 3) K need nm (whD K nm L hd) := by
  obtain ⟨a, b, hab, hb2, ha, hb, hst⟩ := stampsN_eq hd d.hgd.1
  have hB := wh.bucket_ok (ix := (ixB nm : Int)) d.ok
  have hBl : (bucketL L (ixB nm : Int)).length ≤ 9 := Nat.le_trans (List.length_filter_le _ _) d.len
  have hk := d.k
  have hnl := d.nl
  have hg := d.hgd
  have hho := hg.1
  have he1 := hg.2.1
  have he4 := hg.2.2.1
  have hstx : (whD K nm L hd).st = [(a, stampS a hd), (b, stampS b hd)] := hst
  exact {
    rl := rootsN_len 3, rw := rootsN_wide, k := hk, n := d.n, nl := by omega
    bl := by show (bucketL L (ixB nm : Int)).length ≤ 30; omega
    fit := (ok_sml hB).fit, fn := name_le hB
    pf := (sides_pf (8 - K) (by omega) d.ok d.nok).1
    sl := sidesB_len _ _ _ _
    tl := by
      show ((sidesB L 16 (ixB nm) 8).drop (8 - K)).length = K
      rw [List.length_drop, sidesB_len]; omega
    tw := fun y hy => sidesB_wide (by omega) y (List.mem_of_mem_drop hy)
    hd := hg
    sg := signB_good (poolH_len _) poolH_wide (by omega)
    sa := rfl
    sr := by
      show rootV (headH hd) (signB (seedB hd.ho) (poolH hd.ho) (hd.ep - 1) (headH hd)) = pAt (rootsN 3) hd.ho
      rw [rootsN_at (by omega)]
      exact sign_root (seedB hd.ho) (headH hd) (by omega)
    st := by rw [hstx]; rfl
    ris := by rw [hstx]; exact hab
    sh := fun k hk => by
      rw [hstx]
      rcases (by omega : k = 0 ∨ k = 1) with rfl | rfl
      · refine ⟨by show a ≤ 2; omega, ha, stampS_good hg, rfl, ?_⟩
        show rootV (stampB hd) (stampS a hd) = pAt (rootsN 3) a
        rw [rootsN_at (by omega)]; exact stampS_root hg
      · refine ⟨by show b ≤ 2; omega, hb, stampS_good hg, rfl, ?_⟩
        show rootV (stampB hd) (stampS b hd) = pAt (rootsN 3) b
        rw [rootsN_at (by omega)]; exact stampS_root hg }
theorem flat9 : ∀ {l : List Lf}, (∀ x ∈ l, x.1.length ≤ 9 ∧ x.2.length ≤ 9) → (l.flatMap lfText).length ≤ 28 * l.length
  | [], _ => by simp
  | x :: l, h => by
    have a := flat9 (l := l) fun y hy => h y (List.mem_cons_of_mem _ hy)
    have b := h x (by simp)
    have c := shortText_len (l := x.1) (by omega)
    have e := shortText_len (l := x.2) (by omega)
    simp only [List.flatMap_cons, List.length_append, lfText, List.length_cons]
    omega
theorem whD_pl {K need : Nat} {nm : Bs} {L : List Lf} {hd : Hd} (d : WhD K need nm L hd) : (proofText (whD K nm L hd).B (whD K nm L hd).S).length ≤ 600 := by
  show (proofText (bucketL L (ixB nm : Int)) (sidesB L 16 (ixB nm) (8 - K))).length ≤ 600
  have hBl : (bucketL L (ixB nm : Int)).length ≤ 9 := Nat.le_trans (List.length_filter_le _ _) d.len
  have h1 := flat9 (l := bucketL L (ixB nm : Int)) fun x hx => by
    have := d.sm x (List.mem_filter.1 hx).1
    omega
  have h2 := varTextL (n := (bucketL L (ixB nm : Int)).length) (by omega)
  have h3 := flat16 (l := sidesB L 16 (ixB nm) (8 - K)) (sidesB_wide (by omega))
  have hl := sidesB_len L 16 (ixB nm) (8 - K)
  have h4 := varTextL (n := (sidesB L 16 (ixB nm) (8 - K)).length) (by omega)
  simp only [proofText, leavesText, List.length_append]
  omega
/-! ### reading -/
theorem bytesOf_dec {t : Bs} {p n : Nat} {l r : Bs} (hn : l.length = n) (h : t.drop p = l ++ r) : bytesOf t p false n = (l, p + n, false) := by
  have h2 := congrArg List.length h
  simp only [List.length_drop, List.length_append] at h2
  rw [bytesOf, if_neg (by simp; omega), h, List.take_left' hn]
theorem drop_step {t : Bs} {p n : Nat} {l r : Bs} (hn : l.length = n) (h : t.drop p = l ++ r) : t.drop (p + n) = r := by
  rw [← List.drop_drop, h, List.drop_left' hn]
theorem drop_le {t : Bs} {p n : Nat} {l r : Bs} (hp : p ≤ t.length) (hn : l.length = n) (h : t.drop p = l ++ r) : p + n ≤ t.length := by
  have h2 := congrArg List.length h
  simp only [List.length_drop, List.length_append] at h2
  omega
theorem stB_at {l : List (Nat × Sg)} (hg : ∀ k, k < 2 → (stAt l k).2.good) {k : Nat} (hk : k < 2) : ∃ r, (stB l 2).drop (322 * k) = [UInt8.ofNat (stAt l k).1] ++ (sigB (stAt l k).2 ++ r) := by
  rcases (by omega : k = 0 ∨ k = 1) with rfl | rfl
  · exact ⟨[UInt8.ofNat (stAt l 1).1] ++ sigB (stAt l 1).2, by simp [stB]⟩
  · have h0 := sigB_len (hg 0 (by omega))
    refine ⟨[], ?_⟩
    have e : stB l 2 = ([UInt8.ofNat (stAt l 0).1] ++ sigB (stAt l 0).2) ++ ([UInt8.ofNat (stAt l 1).1] ++ sigB (stAt l 1).2) := by simp [stB]
    rw [e, List.append_nil]
    exact List.drop_left' (by simp [h0])
theorem take_st {l : List (Nat × Sg)} {k : Nat} (h : k < l.length) : l.take (k + 1) = l.take k ++ [stAt l k] := by
  rw [List.take_add_one, stAt, List.getD, List.getElem?_eq_getElem h]; rfl
theorem stE_next {l : List (Nat × Sg)} {k : Nat} (h : k < l.length) : stE (l.take (k + 1)) = stE (l.take k) ++ [T.int .i64 ((stAt l k).1 : Int) :: sgE (stAt l k).2] := by
  rw [take_st h, stE_app]
end Go.Proofs.YtigfpjnjjndenaaGreatDoor
