/- Plain: one-time keys, pools of them, signatures, heads, seals and stamps. -/
import Derived.Test.YtigfpjnjjndenaaGreatDoorTa
namespace Go.Proofs.YtigfpjnjjndenaaGreatDoor
open Go.RowKit Pl
set_option linter.unusedVariables false
set_option linter.unusedSimpArgs false
def secB (seed : Bs) (a b v : Nat) : Bs := hashB 5 [seed, [UInt8.ofNat a, UInt8.ofNat b, UInt8.ofNat v]] 16
def lockB (s : Bs) : Bs := hashB 6 [s] 16
/-- The first n locks of a key, two for each bit. -/
def locksB (seed : Bs) (a n : Nat) : List Bs := (List.range n).map fun i => lockB (secB seed a (i / 2) (i % 2))
def pubB (seed : Bs) (a : Nat) : Bs := hashB 6 (locksB seed a 16) 16
def poolN (seed : Bs) (n : Nat) : List Bs := (List.range n).map (pubB seed)
/-- One level up: each two beside one another joined. -/
def upN (l : List Bs) (n : Nat) : List Bs := (List.range n).map fun i => hashB 3 [pAt l (2 * i), pAt l (2 * i + 1)] 16
def lvlB (l : List Bs) : Nat → List Bs
  | 0 => l
  | j + 1 => upN (lvlB l j) ((lvlB l j).length / 2)
def rootB (l : List Bs) : Bs := pAt (lvlB l 4) 0
theorem secB_len (s : Bs) (a b v : Nat) : (secB s a b v).length = 16 := hashB_len (by omega)
theorem lockB_len (s : Bs) : (lockB s).length = 16 := hashB_len (by omega)
theorem pubB_len (s : Bs) (a : Nat) : (pubB s a).length = 16 := hashB_len (by omega)
theorem locksB_len (s : Bs) (a n : Nat) : (locksB s a n).length = n := by simp [locksB]
theorem poolN_len (s : Bs) (n : Nat) : (poolN s n).length = n := by simp [poolN]
theorem upN_len (l : List Bs) (n : Nat) : (upN l n).length = n := by simp [upN]
theorem locksB_next (s : Bs) (a n : Nat) : locksB s a (n + 1) = locksB s a n ++ [lockB (secB s a (n / 2) (n % 2))] := by simp [locksB, List.range_succ]
theorem poolN_next (s : Bs) (n : Nat) : poolN s (n + 1) = poolN s n ++ [pubB s n] := by simp [poolN, List.range_succ]
theorem upN_next (l : List Bs) (n : Nat) : upN l (n + 1) = upN l n ++ [hashB 3 [pAt l (2 * n), pAt l (2 * n + 1)] 16] := by simp [upN, List.range_succ]
theorem locksB_wide {s : Bs} {a n : Nat} : ∀ x ∈ locksB s a n, x.length = 16 := by
  intro x hx
  simp only [locksB, List.mem_map] at hx
  obtain ⟨i, _, rfl⟩ := hx
  exact lockB_len _
theorem poolN_wide {s : Bs} {n : Nat} : ∀ x ∈ poolN s n, x.length = 16 := by
  intro x hx
  simp only [poolN, List.mem_map] at hx
  obtain ⟨i, _, rfl⟩ := hx
  exact pubB_len _ _
theorem upN_wide {l : List Bs} {n : Nat} : ∀ x ∈ upN l n, x.length = 16 := by
  intro x hx
  simp only [upN, List.mem_map] at hx
  obtain ⟨i, _, rfl⟩ := hx
  exact hashB_len (by omega)
theorem poolN_at {s : Bs} {n i : Nat} (h : i < n) : pAt (poolN s n) i = pubB s i := by
  simp [pAt, poolN, List.getD, List.getElem?_map, List.getElem?_range h]
theorem upN_at {l : List Bs} {n i : Nat} (h : i < n) : pAt (upN l n) i = hashB 3 [pAt l (2 * i), pAt l (2 * i + 1)] 16 := by
  simp [pAt, upN, List.getD, List.getElem?_map, List.getElem?_range h]
theorem lvlB_len {l : List Bs} (h : l.length = 16) : ∀ j, (lvlB l j).length = 16 / 2 ^ j
  | 0 => by simpa [lvlB] using h
  | j + 1 => by
    rw [lvlB, upN_len, lvlB_len h j, Nat.pow_succ, Nat.div_div_eq_div_mul]
theorem lvlB_wide {l : List Bs} (h : ∀ x ∈ l, x.length = 16) : ∀ j, ∀ x ∈ lvlB l j, x.length = 16
  | 0 => h
  | j + 1 => upN_wide
theorem lvlB_at {l : List Bs} (h : l.length = 16) {j p : Nat} (hp : p < 16 / 2 ^ (j + 1)) : pAt (lvlB l (j + 1)) p = hashB 3 [pAt (lvlB l j) (2 * p), pAt (lvlB l j) (2 * p + 1)] 16 := by
  rw [lvlB]
  refine upN_at ?_
  rw [lvlB_len h j, Nat.div_div_eq_div_mul, ← Nat.pow_succ]
  exact hp
/-- The bits that are signed. -/
def sbB (text : Bs) : Nat := ((hashB 7 [text] 16).getD 0 0).toNat
theorem sbB_lt (t : Bs) : sbB t < 256 := UInt8.toNat_lt _
structure Sg where
  a : Nat
  op : List Bs
  sh : List Bs
  si : List Bs
/-- Bit b of the bits that are signed. -/
def sbit (ix b : Nat) : Nat := bitB ix (7 - b)
theorem sbit_lt (ix b : Nat) : sbit ix b < 2 := Nat.mod_lt _ (by omega)
def openN (seed : Bs) (a ix n : Nat) : List Bs := (List.range n).map fun b => secB seed a b (sbit ix b)
def shutN (seed : Bs) (a ix n : Nat) : List Bs := (List.range n).map fun b => lockB (secB seed a b (1 - sbit ix b))
def sideN (pool : List Bs) (a n : Nat) : List Bs := (List.range n).map fun j => pAt (lvlB pool j) (sib (a / 2 ^ j))
theorem openN_next (s : Bs) (a ix n : Nat) : openN s a ix (n + 1) = openN s a ix n ++ [secB s a n (sbit ix n)] := by simp [openN, List.range_succ]
theorem shutN_next (s : Bs) (a ix n : Nat) : shutN s a ix (n + 1) = shutN s a ix n ++ [lockB (secB s a n (1 - sbit ix n))] := by simp [shutN, List.range_succ]
theorem sideN_next (l : List Bs) (a n : Nat) : sideN l a (n + 1) = sideN l a n ++ [pAt (lvlB l n) (sib (a / 2 ^ n))] := by simp [sideN, List.range_succ]
theorem openN_len (s : Bs) (a ix n : Nat) : (openN s a ix n).length = n := by simp [openN]
theorem shutN_len (s : Bs) (a ix n : Nat) : (shutN s a ix n).length = n := by simp [shutN]
theorem sideN_len (l : List Bs) (a n : Nat) : (sideN l a n).length = n := by simp [sideN]
theorem openN_wide {s : Bs} {a ix n : Nat} : ∀ x ∈ openN s a ix n, x.length = 16 := by
  intro x hx
  simp only [openN, List.mem_map] at hx
  obtain ⟨i, _, rfl⟩ := hx
  exact secB_len _ _ _ _
theorem shutN_wide {s : Bs} {a ix n : Nat} : ∀ x ∈ shutN s a ix n, x.length = 16 := by
  intro x hx
  simp only [shutN, List.mem_map] at hx
  obtain ⟨i, _, rfl⟩ := hx
  exact lockB_len _
theorem pAt_wide {l : List Bs} {w i : Nat} (h : ∀ x ∈ l, x.length = w) (hi : i < l.length) : (pAt l i).length = w := by
  simp only [pAt, List.getD, List.getElem?_eq_getElem hi, Option.getD_some]
  exact h _ (List.getElem_mem hi)
theorem sib_in {a j : Nat} (ha : a < 16) (hj : j < 4) : sib (a / 2 ^ j) < 16 / 2 ^ j := by
  have h : j = 0 ∨ j = 1 ∨ j = 2 ∨ j = 3 := by omega
  unfold sib
  rcases h with rfl | rfl | rfl | rfl <;> simp <;> split <;> omega
theorem sideN_wide {l : List Bs} {a n : Nat} (hl : l.length = 16) (hw : ∀ x ∈ l, x.length = 16) (ha : a < 16) (hn : n ≤ 4) : ∀ x ∈ sideN l a n, x.length = 16 := by
  intro x hx
  simp only [sideN, List.mem_map, List.mem_range] at hx
  obtain ⟨i, hi, rfl⟩ := hx
  refine pAt_wide (lvlB_wide hw i) ?_
  rw [lvlB_len hl]
  exact sib_in ha (by omega)
def signB (seed : Bs) (pool : List Bs) (a : Nat) (text : Bs) : Sg := ⟨a, openN seed a (sbB text) 8, shutN seed a (sbB text) 8, sideN pool a 4⟩
def Sg.good (s : Sg) : Prop := s.a < 16 ∧ (s.op.length = 8 ∧ ∀ x ∈ s.op, x.length = 16) ∧ (s.sh.length = 8 ∧ ∀ x ∈ s.sh, x.length = 16) ∧ s.si.length = 4 ∧ ∀ x ∈ s.si, x.length = 16
theorem signB_good {seed : Bs} {pool : List Bs} {a : Nat} {text : Bs} (hl : pool.length = 16) (hw : ∀ x ∈ pool, x.length = 16) (ha : a < 16) : (signB seed pool a text).good :=
  ⟨ha, ⟨openN_len _ _ _ _, openN_wide⟩, ⟨shutN_len _ _ _ _, shutN_wide⟩, sideN_len _ _ _, sideN_wide hl hw ha (by omega)⟩
/-- The locks as the verifier makes them. -/
def pairL (ix b : Nat) (o s : Bs) : List Bs := if sbit ix b = 0 then [lockB o, s] else [s, lockB o]
def locksV (ix : Nat) (op sh : List Bs) (n : Nat) : List Bs := (List.range n).flatMap fun b => pairL ix b (pAt op b) (pAt sh b)
theorem locksV_next (ix : Nat) (op sh : List Bs) (n : Nat) : locksV ix op sh (n + 1) = locksV ix op sh n ++ pairL ix n (pAt op n) (pAt sh n) := by simp [locksV, List.range_succ]
theorem pairL_len (ix b : Nat) (o s : Bs) : (pairL ix b o s).length = 2 := by unfold pairL; split <;> rfl
theorem locksV_len (ix : Nat) (op sh : List Bs) : ∀ n, (locksV ix op sh n).length = 2 * n
  | 0 => rfl
  | n + 1 => by rw [locksV_next, List.length_append, locksV_len ix op sh n, pairL_len]; omega
theorem pairL_wide {ix b : Nat} {o s : Bs} (h : s.length = 16) : ∀ x ∈ pairL ix b o s, x.length = 16 := by
  have h2 := lockB_len o
  intro x hx
  unfold pairL at hx
  generalize lockB o = k at hx h2
  split at hx
  · rcases List.mem_cons.1 hx with rfl | hx
    · exact h2
    · rw [List.mem_singleton.1 hx]; exact h
  · rcases List.mem_cons.1 hx with rfl | hx
    · exact h
    · rw [List.mem_singleton.1 hx]; exact h2
theorem locksV_wide {ix : Nat} {op sh : List Bs} {n : Nat} (h : ∀ x ∈ sh, x.length = 16) (hn : n ≤ sh.length) : ∀ x ∈ locksV ix op sh n, x.length = 16 := by
  intro x hx
  obtain ⟨b, hb, hx⟩ := List.mem_flatMap.1 hx
  have hb := List.mem_range.1 hb
  exact pairL_wide (pAt_wide h (i := b) (by omega)) x hx
def keyV (text : Bs) (s : Sg) : Bs := hashB 6 (locksV (sbB text) s.op s.sh 8) 16
def rootV (text : Bs) (s : Sg) : Bs := (foldS s.a 16 0 (keyV text s) s.si).2
theorem locks_sign (seed : Bs) (a ix N : Nat) : ∀ n, n ≤ N → locksV ix (openN seed a ix N) (shutN seed a ix N) n = locksB seed a (2 * n)
  | 0, _ => rfl
  | n + 1, h => by
    have h1 : pAt (openN seed a ix N) n = secB seed a n (sbit ix n) := by simp [pAt, openN, List.getD, List.getElem?_map, List.getElem?_range (show n < N by omega)]
    have h2 : pAt (shutN seed a ix N) n = lockB (secB seed a n (1 - sbit ix n)) := by simp [pAt, shutN, List.getD, List.getElem?_map, List.getElem?_range (show n < N by omega)]
    have e1 : 2 * n / 2 = n := by omega
    have e2 : 2 * n % 2 = 0 := by omega
    have e3 : (2 * n + 1) / 2 = n := by omega
    have e4 : (2 * n + 1) % 2 = 1 := by omega
    rw [locksV_next, locks_sign seed a ix N n (by omega), show 2 * (n + 1) = 2 * n + 1 + 1 by omega, locksB_next, locksB_next, e1, e2, e3, e4, h1, h2, List.append_assoc]
    congr 1
    unfold pairL
    have := sbit_lt ix n
    rcases (by omega : sbit ix n = 0 ∨ sbit ix n = 1) with h | h
    · rw [if_pos h, h]; rfl
    · rw [if_neg (by omega), h]; rfl
theorem fold_pool {l : List Bs} (hl : l.length = 16) {a : Nat} (ha : a < 16) : ∀ (n j : Nat), j + n ≤ 4 → (foldS a 16 j (pAt (lvlB l j) (a / 2 ^ j)) ((List.range' j n).map fun i => pAt (lvlB l i) (sib (a / 2 ^ i)))).2 = pAt (lvlB l (j + n)) (a / 2 ^ (j + n))
  | 0, j, _ => rfl
  | n + 1, j, hj => by
    rw [List.range'_succ, List.map_cons, foldS]
    have hp : cutB (tagB 3 (pairB a j (pAt (lvlB l j) (a / 2 ^ j)) (pAt (lvlB l j) (sib (a / 2 ^ j))))) 16 = pAt (lvlB l (j + 1)) (a / 2 ^ (j + 1)) := by
      have hlt : a / 2 ^ (j + 1) < 16 / 2 ^ (j + 1) := by
        rcases (by omega : j = 0 ∨ j = 1 ∨ j = 2 ∨ j = 3) with rfl | rfl | rfl | rfl <;> simp <;> omega
      rw [lvlB_at hl hlt]
      have e : a / 2 ^ (j + 1) = a / 2 ^ j / 2 := by rw [Nat.pow_succ, Nat.div_div_eq_div_mul]
      unfold pairB bitB hashB
      rw [e]
      generalize a / 2 ^ j = q
      by_cases h : q % 2 = 1
      · have h1 : 2 * (q / 2) + 1 = q := by omega
        have h2 : sib q = 2 * (q / 2) := by unfold sib; rw [if_neg (by omega)]; omega
        rw [if_pos h, h1, h2]
      · have h1 : 2 * (q / 2) = q := by omega
        have h2 : sib q = 2 * (q / 2) + 1 := by unfold sib; rw [if_pos (by omega)]; omega
        rw [if_neg h, h2, h1]
    simp only
    rw [hp, fold_pool hl ha n (j + 1) (by omega), show j + 1 + n = j + (n + 1) by omega]
/-- A right signature is verified: its root is that of the pool. -/
theorem sign_root (seed text : Bs) {a : Nat} (ha : a < 16) : rootV text (signB seed (poolN seed 16) a text) = rootB (poolN seed 16) := by
  have hk : keyV text (signB seed (poolN seed 16) a text) = pAt (lvlB (poolN seed 16) 0) (a / 2 ^ 0) := by
    rw [Nat.pow_zero, Nat.div_one]
    show hashB 6 (locksV (sbB text) (openN seed a (sbB text) 8) (shutN seed a (sbB text) 8) 8) 16 = pAt (poolN seed 16) a
    rw [locks_sign seed a (sbB text) 8 8 (by omega), poolN_at ha]; rfl
  have hf := fold_pool (poolN_len seed 16) ha 4 0 (by omega)
  rw [← hk] at hf
  have hs : ((List.range' 0 4).map fun i => pAt (lvlB (poolN seed 16) i) (sib (a / 2 ^ i))) = (signB seed (poolN seed 16) a text).si := by
    simp [signB, sideN, List.range_eq_range']
  rw [hs] at hf
  have e0 : a / 2 ^ (0 + 4) = 0 := by simp; omega
  rw [e0] at hf
  exact hf
structure Hd where
  ho : Nat
  ep : Nat
  ro : Bs
  pr : Bs
deriving DecidableEq
def Hd.good (h : Hd) : Prop := h.ho ≤ 2 ∧ 1 ≤ h.ep ∧ h.ep ≤ 4 ∧ h.ro.length = 16 ∧ (if h.ep = 1 then h.pr = [] else h.pr.length = 16)
def headB (h : Hd) : Bs := [UInt8.ofNat h.ho, UInt8.ofNat h.ep] ++ h.ro ++ h.pr
theorem headB_len {h : Hd} (g : h.good) : (headB h).length ≤ 34 := by
  obtain ⟨_, _, _, h4, h5⟩ := g
  simp only [headB, List.length_append, List.length_cons, List.length_nil, h4]
  split at h5
  · rw [h5]; simp
  · rw [h5]; omega
def headH (h : Hd) : Bs := hashB 4 [headB h] 16
def stampB (h : Hd) : Bs := hashB 8 [headH h] 16
def sigB (s : Sg) : Bs := [UInt8.ofNat s.a] ++ s.op.flatten ++ s.sh.flatten ++ s.si.flatten
def sealB (h : Hd) (s : Sg) : Bs := shortText (headB h) ++ sigB s
/-! ### contents -/
def hdE (h : Hd) : List T := [.int .i64 (h.ho : Int), .int .i64 (h.ep : Int), .str h.ro, .str h.pr]
def sgE (s : Sg) : List T := [.int .i64 (s.a : Int), .sl 1 (strE s.op), .sl 1 (strE s.sh), .sl 1 (strE s.si)]
def ex4 : List (Nat × Ty) := [
  (46, ⟨4, 48, [.int .i64 0, .int .i64 0, .str [], .str []], .struct [(0, 3), (1, 3), (2, 9), (3, 9)], true⟩),
  (48, ⟨4, 80, [.int .i64 0, .val nilV, .val nilV, .val nilV], .struct [(0, 3), (1, 25), (2, 25), (3, 25)], false⟩),
  (50, ⟨8, 128, [.int .i64 0, .int .i64 0, .str [], .str [], .int .i64 0, .val nilV, .val nilV, .val nilV], .struct [(0, 46), (4, 48)], false⟩),
  (154, ⟨5, 88, [.int .i64 0, .int .i64 0, .val nilV, .val nilV, .val nilV], .struct [(0, 3), (1, 48)], false⟩),
  (44, ⟨3, 40, [.val nilV, .int .i64 0, .int .i64 0], .struct [(0, 25), (1, 3), (2, 3)], false⟩),
  (53, ⟨12, 224, [.val nilV, .val nilV, .val nilV, .int .i64 0, .int .i64 0, .str [], .str [], .int .i64 0, .val nilV, .val nilV, .val nilV, .val nilV], .struct [(0, 27), (2, 25), (3, 50), (11, 51)], false⟩),
  (51, tySl 154),
  (221, tySl 25),
  (3, tyInt)]
set_option maxRecDepth 100000 in
set_option maxHeartbeats 4000000 in
theorem ex4_all : ∀ p ∈ ex4, TyOk Tryz.prog p.1 p.2 := by
  simp only [ex4, List.forall_mem_cons]
  repeat' (refine And.intro ?_ ?_)
  all_goals first
    | exact (fun _ h => by cases h)
    | exact ⟨⟨_, _, rfl, rfl, rfl, rfl, rfl⟩, ⟨_, rfl, rfl⟩, rfl, rfl, fun h => (Bool.false_ne_true h).elim⟩
    | (refine ⟨⟨_, _, rfl, rfl, rfl, rfl, rfl⟩, ⟨_, rfl, rfl⟩, rfl, rfl, fun _ => ⟨by kernel_rfl, by kernel_rfl, _, rfl, ?_⟩⟩
       repeat (first | exact rfl | (refine And.intro (by decide) (And.intro rfl (And.intro rfl ?_)))))
def ttL4 : List (Nat × Ty) := ttL ++ ex4
def tt4 : TT := lk ttL4
theorem tt4_ok : TtOk Tryz.prog tt4 := fun t y h => by
  have hm : (t, y) ∈ ttL4 := lk_mem h
  rcases List.mem_append.1 hm with h | h
  · exact tt_all (t, y) h
  · exact ex4_all (t, y) h
end Go.Proofs.YtigfpjnjjndenaaGreatDoor
