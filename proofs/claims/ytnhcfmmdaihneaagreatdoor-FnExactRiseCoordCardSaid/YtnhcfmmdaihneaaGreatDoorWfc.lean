/- Rows of coordinators: what the exact laws' marks ask of them, and their shapes. -/
import Derived.Test.YtnhcfmmdaihneaaGreatDoorCda
import Derived.Test.YtnhcfmmdaihneaaGreatDoorMk
import Derived.Test.YtnhcfmmdaihneaaGreatDoorPx
import Derived.Test.YtnhcfmmdaihneaaGreatDoorXt
namespace Go.Proofs.YtnhcfmmdaihneaaGreatDoor
set_option linter.unusedVariables false
set_option linter.unusedSimpArgs false
set_option linter.unusedSectionVars false
open Go.RowKit Pl
theorem zhf (l : List Fl) : WfFl (flE l) := fun e he => by
 simp only [flE, List.mem_map] at he
 obtain ⟨x, _, rfl⟩ := he
 exact ⟨_, _, _, rfl⟩
theorem zjU (l : List Nat) : WfIt (ntE l) := fun e he => by
 simp only [ntE, List.mem_map] at he
 obtain ⟨x, _, rfl⟩ := he
 exact ⟨_, rfl⟩
theorem z3D (l : List Bs) : WfSt (strE l) := fun e he => by
 simp only [strE, List.mem_map] at he
 obtain ⟨x, _, rfl⟩ := he
 exact ⟨_, rfl⟩
theorem zhg (n : Nat) : WfSt (emV n) := fun e he => by
 rw [(List.mem_replicate.1 he).2]; exact ⟨_, rfl⟩
theorem zhh (n : Nat) : WfBo (emD n) := fun e he => by
 rw [(List.mem_replicate.1 he).2]; exact ⟨_, rfl⟩
theorem zjV (l : List (Hd × Sg)) {N : Nat} (hN : N ≤ 1000000000) (h : ∀ x ∈ l, x.2.op.length ≤ N ∧ x.2.sh.length ≤ N ∧ x.2.si.length ≤ N) : WfSl (sdE l) := fun e he => by
 simp only [sdE, List.mem_map] at he
 obtain ⟨x, hx, rfl⟩ := he
 obtain ⟨h1, h2, h3⟩ := h x hx
 have a := z0m x.2.op
 have b := z0m x.2.sh
 have c := z0m x.2.si
 exact ⟨_, _, _, _, _, _, _, _, rfl, z3D _, by omega, z3D _, by omega, z3D _, by omega⟩
theorem zhi (n : Nat) : ∀ (es : List (List T)), cnG (fun _ => n) es = n * es.length
 | [] => rfl
 | e :: es => by rw [cnG, zhi n es, List.length_cons, Nat.mul_add]; omega
theorem zjW (l : List (List T)) : cnG szFl l = 3 * l.length := zhi 3 l
theorem zhj (l : List (List T)) : cnG szIt l = 1 * l.length := zhi 1 l
theorem z3E (l : List (List T)) : cnG szSt l = 1 * l.length := zhi 1 l
theorem zhk (l : List (List T)) : cnG szBo l = 1 * l.length := zhi 1 l
theorem zjX {N : Nat} : ∀ (l : List (Hd × Sg)), (∀ x ∈ l, x.2.op.length ≤ N ∧ x.2.sh.length ≤ N ∧ x.2.si.length ≤ N) → cnG szSl (sdE l) ≤ (5 + 3 * N) * l.length
 | [], _ => Nat.zero_le _
 | x :: l, h => by
   have ih := zjX l fun v hv => h v (by simp [hv])
   obtain ⟨h1, h2, h3⟩ := h x (by simp)
   show szSl (sdC x) + cnG szSl (sdE l) ≤ _
   have e : szSl (sdC x) = 5 + cnG szSt (strE x.2.op) + cnG szSt (strE x.2.sh) + cnG szSt (strE x.2.si) := rfl
   rw [e, z3E, z3E, z3E, z0m, z0m, z0m, List.length_cons, Nat.mul_add, Nat.mul_one]
   omega
theorem slc_nt (l : List Nat) : ucE (ntE l) = ntE l := z2g fun e he c hc => by
 simp only [ntE, List.mem_map] at he
 obtain ⟨x, _, rfl⟩ := he
 simp only [List.mem_singleton] at hc
 subst hc; rfl
theorem zdV (l : List Fl) : ucE (flE l) = flE l := z2g fun e he c hc => by
 simp only [flE, List.mem_map] at he
 obtain ⟨x, _, rfl⟩ := he
 simp only [List.mem_cons, List.not_mem_nil, or_false] at hc
 rcases hc with rfl | rfl | rfl <;> rfl
theorem zjY (n : Nat) : ucE (emV n) = emV n := z2g fun e he c hc => by
 rw [(List.mem_replicate.1 he).2, List.mem_singleton] at hc
 subst hc; rfl
theorem zjZ (n : Nat) : ucE (emD n) = emD n := z2g fun e he c hc => by
 rw [(List.mem_replicate.1 he).2, List.mem_singleton] at hc
 subst hc; rfl
theorem zhl {ho : Int} {s : Cv} (h : z4b ho s) : (∀ x ∈ s.se, x.1.good ∧ x.2.good) ∧ ∀ x ∈ s.tr, x ≤ 1000 := by
 rcases h with ⟨h, k⟩ | ⟨h, k1, k2, k3⟩
 ·exact ⟨k.sg, k.tb⟩
 ·rw [k1, k2]; exact ⟨fun x hx => (by cases hx), fun x hx => (by cases hx)⟩
theorem zk0 {s : Sg} (g : s.good) : s.op.length ≤ 8 ∧ s.sh.length ≤ 8 ∧ s.si.length ≤ 8 := by
 obtain ⟨h1, ⟨h2, h3⟩, ⟨h4, h5⟩, h6, h7⟩ := g
 omega
theorem zaV {l : List Bs} {N : Nat} (hl : l.length ≤ N) (h : ∀ x ∈ l, x.length ≤ N) : (strE l).length ≤ N ∧ ∀ e ∈ strE l, Fits N .str e := ⟨by rw [z0m]; exact hl, fun e he => by
 simp only [strE, List.mem_map] at he
 obtain ⟨x, hx, rfl⟩ := he
 exact ⟨_, rfl, h x hx⟩⟩
theorem fit_sl {l : List (Hd × Sg)} (hl : l.length ≤ 1048576) (h : ∀ x ∈ l, x.1.good ∧ x.2.good) : (slE l).length ≤ 1048576 ∧ ∀ e ∈ slE l, Fits 1048576 z0K e := ⟨by rw [z9k]; exact hl, fun e he => by
 simp only [slE, List.mem_map] at he
 obtain ⟨x, hx, rfl⟩ := he
 obtain ⟨⟨h1, h2, h3, h4, h5⟩, ⟨g1, ⟨g2, g3⟩, ⟨g4, g5⟩, g6, g7⟩⟩ := h x hx
 have hp : x.1.pr.length ≤ 16 := by
  split at h5
  ·rw [h5]; simp
  ·omega
 exact zkE (by omega) (by omega) (by omega) (by omega) (by omega) (zaV (by omega) fun y hy => by have := g3 y hy; omega) (zaV (by omega) fun y hy => by have := g5 y hy; omega) (zaV (by omega) fun y hy => by have := g7 y hy; omega)⟩
theorem zhm (a K : Int) (ha : -9223372036854775808 ≤ a ∧ a ≤ 9223372036854775807) (hK : -9223372036854775808 ≤ K ∧ K ≤ 9223372036854775807) (fs : List Fl) (hf : (flE fs).length ≤ 1048576 ∧ ∀ e ∈ flE fs, Fits 1048576 z0D e) (po : List Bs) (hp : po.length ≤ 1048576) (hp2 : ∀ x ∈ po, x.length ≤ 1048576) (s : Cv) (g : z4b a s) (n : Nat) (hn : n ≤ 4) : Fits 1048576 z0Q (cvE a K fs po s (emV n) (emD n)) := by
 obtain ⟨g1, g2, g3⟩ := zch g
 obtain ⟨g4, g5⟩ := zhl g
 refine z97 ha hK trivial hf (zaV hp hp2) (fit_sl (by omega) g4) ⟨by simp [ntE]; omega, fun e he => ?_⟩ (by omega) trivial ⟨by simp [emV]; omega, fun e he => ?_⟩ ⟨by simp [emD]; omega, fun e he => ?_⟩
 ·simp only [ntE, List.mem_map] at he
  obtain ⟨x, hx, rfl⟩ := he
  have := g5 x hx
  exact ⟨_, rfl, by omega, by omega⟩
 ·rw [(List.mem_replicate.1 he).2]
  exact ⟨_, rfl, by simp⟩
 ·rw [(List.mem_replicate.1 he).2]
  exact ⟨_, rfl⟩
end Go.Proofs.YtnhcfmmdaihneaaGreatDoor
