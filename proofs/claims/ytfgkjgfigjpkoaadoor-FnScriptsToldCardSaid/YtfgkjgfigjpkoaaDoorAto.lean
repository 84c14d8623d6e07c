/- strconv.Atoi of any text of at most ten bytes, and impl.ReadDecimal (an old walk), by what the kit's shelf proves once for all programs. -/
import Derived.Shelf.Strconv.Atoi
import Derived.Shelf.Strconv.AtoiErr
import Derived.Lib.AtoiErrMem
import Derived.Test.YtfgkjgfigjpkoaaDoorIto
import Derived.Test.YtfgkjgfigjpkoaaDoorNum
namespace Go.Proofs.YtfgkjgfigjpkoaaDoor
set_option maxRecDepth 100000
set_option maxHeartbeats 1000000
set_option linter.unusedVariables false
set_option linter.unusedSimpArgs false
set_option linter.unusedSectionVars false
open Go.RowKit Pl
def atoRen : Go.Shelf.Ren := ⟨fun | 172 => 41 | 244 => 54 | 245 => 55 | 247 => 68 | 279 => 69 | 280 => 70 | 281 => 71 | 282 => 72 | 287 => 79 | 316 => 80 | 171 => 56 | 205 => 81 | 321 => 85 | 322 => 86 | 243 => 73 | 246 => 82 | 283 => 87 | 284 => 88 | 285 => 89 | 286 => 90 | 129 => 92 | 317 => 91 | 318 => 93 | 319 => 94 | 320 => 95 | 337 => 96 | 338 => 97 | n => n, fun | 9 => 9 | 3 => 3 | 75 => 79 | 76 => 80 | 4 => 4 | 5 => 5 | 167 => 97 | 37 => 22 | 0 => 0 | 85 => 98 | 2 => 2 | 168 => 100 | 53 => 111 | 175 => 112 | 46 => 84 | 210 => 116 | 127 => 120 | 145 => 123 | 143 => 121 | 21 => 21 | 171 => 124 | 173 => 127 | 212 => 130 | 51 => 108 | 20 => 20 | 213 => 131 | 232 => 134 | 233 => 135 | 80 => 136 | n => n, fun | 15 => 4 | 16 => 5 | 17 => 6 | 18 => 7 | 19 => 8 | n => n⟩
theorem atoLays : LaysC.n172 Tryd.prog atoRen where
 mixed := by kernel_rfl
 f129 := Tryd.func92.trans (congrArg some (by kernel_rfl))
 f171 := Tryd.func56.trans (congrArg some (by kernel_rfl))
 f172 := Tryd.func41.trans (congrArg some (by kernel_rfl))
 f205 := Tryd.func81.trans (congrArg some (by kernel_rfl))
 f243 := Tryd.func73.trans (congrArg some (by kernel_rfl))
 f244 := Tryd.func54.trans (congrArg some (by kernel_rfl))
 f245 := Tryd.func55.trans (congrArg some (by kernel_rfl))
 f246 := Tryd.func82.trans (congrArg some (by kernel_rfl))
 f247 := Tryd.func68.trans (congrArg some (by kernel_rfl))
 f279 := Tryd.func69.trans (congrArg some (by kernel_rfl))
 f280 := Tryd.func70.trans (congrArg some (by kernel_rfl))
 f281 := Tryd.func71.trans (congrArg some (by kernel_rfl))
 f282 := Tryd.func72.trans (congrArg some (by kernel_rfl))
 f283 := Tryd.func87.trans (congrArg some (by kernel_rfl))
 f284 := Tryd.func88.trans (congrArg some (by kernel_rfl))
 f285 := Tryd.func89.trans (congrArg some (by kernel_rfl))
 f286 := Tryd.func90.trans (congrArg some (by kernel_rfl))
 f287 := Tryd.func79.trans (congrArg some (by kernel_rfl))
 f316 := Tryd.func80.trans (congrArg some (by kernel_rfl))
 f317 := Tryd.func91.trans (congrArg some (by kernel_rfl))
 f318 := Tryd.func93.trans (congrArg some (by kernel_rfl))
 f319 := Tryd.func94.trans (congrArg some (by kernel_rfl))
 f320 := Tryd.func95.trans (congrArg some (by kernel_rfl))
 f321 := Tryd.func85.trans (congrArg some (by kernel_rfl))
 f322 := Tryd.func86.trans (congrArg some (by kernel_rfl))
 f337 := Tryd.func96.trans (congrArg some (by kernel_rfl))
 f338 := Tryd.func97.trans (congrArg some (by kernel_rfl))
 t0 := Tryd.underlying0
 a0 := Tryd.isAgg0
 z0 := Tryd.sizeOf0
 v0 := Tryd.zeroValue0
 t2 := Tryd.underlying2
 a2 := Tryd.isAgg2
 z2 := Tryd.sizeOf2
 v2 := Tryd.zeroValue2
 t3 := Tryd.underlying3
 a3 := Tryd.isAgg3
 z3 := Tryd.sizeOf3
 v3 := Tryd.zeroValue3
 t4 := Tryd.underlying4
 a4 := Tryd.isAgg4
 z4 := Tryd.sizeOf4
 v4 := Tryd.zeroValue4
 t5 := Tryd.underlying5
 a5 := Tryd.isAgg5
 z5 := Tryd.sizeOf5
 v5 := Tryd.zeroValue5
 t9 := Tryd.underlying9
 a9 := Tryd.isAgg9
 z9 := Tryd.sizeOf9
 v9 := Tryd.zeroValue9
 t20 := Tryd.underlying20
 a20 := Tryd.isAgg20
 z20 := Tryd.sizeOf20
 v20 := Tryd.zeroValue20
 t21 := Tryd.underlying21
 a21 := Tryd.isAgg21
 z21 := Tryd.sizeOf21
 v21 := Tryd.zeroValue21
 t37 := Tryd.underlying22
 a37 := Tryd.isAgg22
 z37 := Tryd.sizeOf22
 v37 := Tryd.zeroValue22
 t46 := Tryd.underlying84
 a46 := Tryd.isAgg84
 z46 := Tryd.sizeOf84
 v46 := Tryd.zeroValue84
 t51 := Tryd.underlying108
 a51 := Tryd.isAgg108
 z51 := Tryd.sizeOf108
 v51 := Tryd.zeroValue108
 t53 := Tryd.underlying111
 a53 := Tryd.isAgg111
 z53 := Tryd.sizeOf111
 v53 := Tryd.zeroValue111
 t75 := Tryd.underlying79
 a75 := Tryd.isAgg79
 z75 := Tryd.sizeOf79
 v75 := Tryd.zeroValue79
 t76 := Tryd.underlying80
 a76 := Tryd.isAgg80
 z76 := Tryd.sizeOf80
 v76 := Tryd.zeroValue80
 t85 := Tryd.underlying98
 a85 := Tryd.isAgg98
 z85 := Tryd.sizeOf98
 v85 := Tryd.zeroValue98
 t127 := Tryd.underlying120
 a127 := Tryd.isAgg120
 z127 := Tryd.sizeOf120
 v127 := Tryd.zeroValue120
 t143 := Tryd.underlying121
 a143 := Tryd.isAgg121
 z143 := Tryd.sizeOf121
 v143 := Tryd.zeroValue121
 t145 := Tryd.underlying123
 a145 := Tryd.isAgg123
 z145 := Tryd.sizeOf123
 v145 := Tryd.zeroValue123
 t167 := Tryd.underlying97
 a167 := Tryd.isAgg97
 z167 := Tryd.sizeOf97
 v167 := Tryd.zeroValue97
 t168 := Tryd.underlying100
 a168 := Tryd.isAgg100
 z168 := Tryd.sizeOf100
 v168 := Tryd.zeroValue100
 t171 := Tryd.underlying124
 a171 := Tryd.isAgg124
 z171 := Tryd.sizeOf124
 v171 := Tryd.zeroValue124
 t173 := Tryd.underlying127
 a173 := Tryd.isAgg127
 z173 := Tryd.sizeOf127
 v173 := Tryd.zeroValue127
 t175 := Tryd.underlying112
 a175 := Tryd.isAgg112
 z175 := Tryd.sizeOf112
 v175 := Tryd.zeroValue112
 t210 := Tryd.underlying116
 a210 := Tryd.isAgg116
 z210 := Tryd.sizeOf116
 v210 := Tryd.zeroValue116
 t212 := Tryd.underlying130
 a212 := Tryd.isAgg130
 z212 := Tryd.sizeOf130
 v212 := Tryd.zeroValue130
 t213 := Tryd.underlying131
 a213 := Tryd.isAgg131
 z213 := Tryd.sizeOf131
 t232 := Tryd.underlying134
 a232 := Tryd.isAgg134
 z232 := Tryd.sizeOf134
 v232 := Tryd.zeroValue134
 t233 := Tryd.underlying135
 a233 := Tryd.isAgg135
 z233 := Tryd.sizeOf135
 v233 := Tryd.zeroValue135
 g15 := by kernel_rfl
 g16 := by kernel_rfl
 g17 := by kernel_rfl
 g18 := by kernel_rfl
 g19 := by kernel_rfl
 t80 := Tryd.underlying136
 a80 := Tryd.isAgg136
 z80 := Tryd.sizeOf136
 v80 := Tryd.zeroValue136
 i0 := by kernel_rfl
 i2 := by kernel_rfl
 i3 := by kernel_rfl
 i4 := by kernel_rfl
 i5 := by kernel_rfl
 i9 := by kernel_rfl
 i20 := by kernel_rfl
 i21 := by kernel_rfl
 i37 := by kernel_rfl
 i46 := by kernel_rfl
 i51 := by kernel_rfl
 i53 := by kernel_rfl
 i75 := by kernel_rfl
 i76 := by kernel_rfl
 i80 := by kernel_rfl
 i85 := by kernel_rfl
 i127 := by kernel_rfl
 i143 := by kernel_rfl
 i145 := by kernel_rfl
 i167 := by kernel_rfl
 i168 := by kernel_rfl
 i171 := by kernel_rfl
 i173 := by kernel_rfl
 i175 := by kernel_rfl
 i210 := by kernel_rfl
 i212 := by kernel_rfl
 i232 := by kernel_rfl
 i233 := by kernel_rfl
 m15 := by kernel_rfl
 m16 := by kernel_rfl
 m17 := by kernel_rfl
 m18 := by kernel_rfl
 m19 := by kernel_rfl
 c0 := by kernel_rfl
 c2 := by kernel_rfl
 c3 := by kernel_rfl
 c4 := by kernel_rfl
 c5 := by kernel_rfl
 c9 := by kernel_rfl
 c20 := by kernel_rfl
 c21 := by kernel_rfl
 c37 := by kernel_rfl
 c46 := by kernel_rfl
 c51 := by kernel_rfl
 c53 := by kernel_rfl
 c75 := by kernel_rfl
 c76 := by kernel_rfl
 c80 := by kernel_rfl
 c85 := by kernel_rfl
 c127 := by kernel_rfl
 c143 := by kernel_rfl
 c145 := by kernel_rfl
 c167 := by kernel_rfl
 c168 := by kernel_rfl
 c171 := by kernel_rfl
 c173 := by kernel_rfl
 c175 := by kernel_rfl
 c210 := by kernel_rfl
 c212 := by kernel_rfl
 c213 := by kernel_rfl
 c232 := by kernel_rfl
 c233 := by kernel_rfl
theorem z3r (t : Bs) : isB t = (decR t).isSome := rfl
theorem z9X {X : Cx} (h : HR X) {w' : World} (hb : Below X.w.heap.size X.w w') : Lib.TabIs Tryd.prog w' "internal/strconv.uint64pow10" .u64 Lib.pow10Tab := by
 obtain ⟨-, C, t, fr, hh, hr⟩ := h.gl.1 6 (powZ.map fun z => T.int .u64 z) rfl
 have hg : Tryd.prog.globalNamed "internal/strconv.uint64pow10" = some 6 := by kernel_rfl
 have hc := z6I _ _ hr
 have hh2 := (hb.block _ (z0E hh)).trans hh
 unfold Lib.TabIs World.var?
 rw [hg]
 simp only [Option.bind_some]
 rw [hh2]
 show some C = some _
 congr 1
 rw [← Array.toArray_toList (xs := C), hc]
 rfl
theorem z9Y {X : Cx} (h : HR X) : ∃ ev, X.w.cell? ⟨4, 0, none⟩ = some ev ∧ (ev = .nilIface ∨ ∃ te pe, ev = .iface te pe) := by
 obtain ⟨-, C, t, fr, hh, ev, hr, he⟩ := h.gl.2 4 1 rfl
 refine ⟨ev, ?_, he⟩
 simp only [World.cell?, hh]
 simpa using hr
theorem z7w (n : Int) (h0 : -9223372036854775808 ≤ n) (h1 : n ≤ 9223372036854775807) (w : World) (hT : Lib.TabIs Tryd.prog w "internal/strconv.uint64pow10" .u64 Lib.pow10Tab) :
 Calls Tryd.prog 42 #[.int .i64 n] w fun e w' => e = .returned (.string ⟨(Lib.itoa n).toArray⟩) ∧ Below w.heap.size w w' := by
 have c : Calls Tryd.prog 56 #[.int .i64 n] w fun e w' => e = .returned (.string ⟨(Lib.itoa n).toArray⟩) ∧ Below w.heap.size w w' :=
  (Any.strconv_Itoa zbe n h0 h1 w hT).mono (by
    rintro e w' ⟨rfl, k, os, rfl⟩
    exact ⟨rfl, Lib.below_grow _ _ (Nat.le_refl _) k os⟩)
 go_enter Tryd.func42, Tryd.ntmps42
 go_wp2_with (go_at_call 56; refine c.mono ?_; rintro e w' ⟨rfl, hb⟩)
 go_ret
 exact ⟨rfl, hb⟩
theorem zbk (s : ByteArray) (w : World) (h : ¬ (1 ≤ (s.size : Int) ∧ (s.size : Int) ≤ 10)) :
 Calls Tryd.prog 27 #[.string s] w fun e w' => e = .returned (.tuple #[.int .i64 0, .bool false]) ∧ Below w.heap.size w w' := by
 go_enter Tryd.func27, Tryd.ntmps27
 go_wp2_with (go_at_call 12; with_reducible refine (z7l (s.size : Int) 1 10 _ h).mono ?_; rintro e w1 ⟨rfl, rfl⟩)
 go_ret2
 exact ⟨rfl, Below.refl _ _⟩
theorem rd_bad (s : ByteArray) (w : World) (h1 : 1 ≤ (s.size : Int)) (h2 : (s.size : Int) ≤ 10) (ha : Lib.atoi s.data.toList = none) (ev : Value) (hv : w.cell? ⟨4, 0, none⟩ = some ev) (hev : ev = .nilIface ∨ ∃ te pe, ev = .iface te pe) :
 Calls Tryd.prog 27 #[.string s] w fun e w' => e = .returned (.tuple #[.int .i64 0, .bool false]) ∧ Below w.heap.size w w' := by
 have c : Calls Tryd.prog 41 #[.string s] w fun e w' => ∃ N, e = .returned (.tuple #[.int .i64 0, .iface (atoRen.t 168) (.pointer (some ⟨N, 0, none⟩))]) ∧ Below w.heap.size w w' :=
  (Any.strconv_Atoi_err atoLays s (by omega) ha ev w hv hev).mono (by
    rintro e w' ⟨N, rfl, -, -, hb⟩
    exact ⟨N, rfl, hb⟩)
 go_enter Tryd.func27, Tryd.ntmps27
 go_wp2_with (first
  | (go_at_call 12; with_reducible refine (z1D (s.size : Int) 1 10 _ h1 h2).mono ?_; rintro e w1 ⟨rfl, rfl⟩)
  | (go_at_call 41; refine c.mono ?_; rintro e W1 ⟨N, rfl, hb⟩))
 go_ret2
 exact ⟨rfl, hb⟩
theorem rd_out (s : ByteArray) (n : Int) (w : World) (h1 : 1 ≤ (s.size : Int)) (h2 : (s.size : Int) ≤ 10) (ha : Lib.atoi s.data.toList = some n) (ho : ¬ (0 ≤ n ∧ n ≤ 1000000000)) :
 Calls Tryd.prog 27 #[.string s] w fun e w' => e = .returned (.tuple #[.int .i64 0, .bool false]) ∧ Below w.heap.size w w' := by
 have c : Calls Tryd.prog 41 #[.string s] w fun e w' => e = .returned (.tuple #[.int .i64 n, .nilIface]) ∧ Below w.heap.size w w' :=
  (Any.strconv_Atoi atoLays.toM.ton172 s n (by omega) ha w).mono (by
    rintro e w' ⟨rfl, t, rfl⟩
    exact ⟨rfl, Lib.bytesWorld_below _ _ _⟩)
 clear ha
 go_enter Tryd.func27, Tryd.ntmps27
 go_wp2_with (first
  | (go_at_call 12; with_reducible refine (z1D (s.size : Int) 1 10 _ h1 h2).mono ?_; rintro e w1 ⟨rfl, rfl⟩)
  | (go_at_call 12; with_reducible refine (z7l n 0 1000000000 _ ho).mono ?_; rintro e w1 ⟨rfl, rfl⟩)
  | (go_at_call 41; refine c.mono ?_; rintro e W1 ⟨rfl, hb⟩))
 go_ret2
 exact ⟨rfl, hb⟩
theorem rd_in (s : ByteArray) (n : Int) (b : Bool) (w : World) (h1 : 1 ≤ (s.size : Int)) (h2 : (s.size : Int) ≤ 10) (ha : Lib.atoi s.data.toList = some n) (h3 : 0 ≤ n) (h4 : n ≤ 1000000000)
 (hT : ∀ w', Below w.heap.size w w' → Lib.TabIs Tryd.prog w' "internal/strconv.uint64pow10" .u64 Lib.pow10Tab) (hne : (((⟨(Lib.itoa n).toArray⟩ : ByteArray).toList == s.toList) : Bool) = b) :
 Calls Tryd.prog 27 #[.string s] w fun e w' => e = .returned (.tuple #[.int .i64 (bif b then n else 0), .bool b]) ∧ Below w.heap.size w w' := by
 have c : Calls Tryd.prog 41 #[.string s] w fun e w' => e = .returned (.tuple #[.int .i64 n, .nilIface]) ∧ Below w.heap.size w w' :=
  (Any.strconv_Atoi atoLays.toM.ton172 s n (by omega) ha w).mono (by
    rintro e w' ⟨rfl, t, rfl⟩
    exact ⟨rfl, Lib.bytesWorld_below _ _ _⟩)
 have d : ∀ w', Below w.heap.size w w' → Calls Tryd.prog 42 #[.int .i64 n] w' fun e w2 => e = .returned (.string ⟨(Lib.itoa n).toArray⟩) ∧ Below w'.heap.size w' w2 := fun w' hb => z7w n (by omega) (by omega) w' (hT w' hb)
 generalize (⟨(Lib.itoa n).toArray⟩ : ByteArray) = D at d hne
 clear ha hT
 cases b with
 | true =>
   go_enter Tryd.func27, Tryd.ntmps27
   go_wp2_with (first
    | (go_at_call 12; with_reducible refine (z1D (s.size : Int) 1 10 _ h1 h2).mono ?_; rintro e w1 ⟨rfl, rfl⟩)
    | (go_at_call 12; with_reducible refine (z1D n 0 1000000000 _ h3 h4).mono ?_; rintro e w1 ⟨rfl, rfl⟩)
    | (go_at_call 41; refine c.mono ?_; rintro e W1 ⟨rfl, hb⟩)
    | (go_at_call 42; refine (d _ hb).mono ?_; rintro e W2 ⟨rfl, hb2⟩))
   go_ret2
   exact ⟨rfl, hb.trans (hb2.mono hb.size)⟩
 | false =>
   go_enter Tryd.func27, Tryd.ntmps27
   go_wp2_with (first
    | (go_at_call 12; with_reducible refine (z1D (s.size : Int) 1 10 _ h1 h2).mono ?_; rintro e w1 ⟨rfl, rfl⟩)
    | (go_at_call 12; with_reducible refine (z1D n 0 1000000000 _ h3 h4).mono ?_; rintro e w1 ⟨rfl, rfl⟩)
    | (go_at_call 41; refine c.mono ?_; rintro e W1 ⟨rfl, hb⟩)
    | (go_at_call 42; refine (d _ hb).mono ?_; rintro e W2 ⟨rfl, hb2⟩))
   go_ret2
   exact ⟨rfl, hb.trans (hb2.mono hb.size)⟩
theorem rd_rs (X : Cx) (n : Int) (b : Bool) : RS X (.tup [.int .i64 n, .bool b]) (.tuple #[.int .i64 n, .bool b]) := ⟨_, rfl, _, _, rfl, z1q X _ _, _, _, rfl, z1f X _, rfl⟩
theorem z2p (t : Bs) : CT Tryd.prog 27 [] [.str t] (.tup [.int .i64 (decV t : Int), .bool (isB t)]) [] := by
 refine zbf ⟨_, Tryd.func27, rfl, rfl⟩ rfl (fun X => rd_rs X _ _) fun X hh => ?_
 show Calls _ _ #[.string (bs t)] X.w _
 by_cases hs : 1 ≤ ((bs t).size : Int) ∧ ((bs t).size : Int) ≤ 10
 ·have hl : t.length ≤ 10 := by have := hs.2; rw [z0I] at this; omega
  cases ha : Lib.atoi t with
  | none =>
    obtain ⟨ev, hv, hev⟩ := z9Y hh
    have h := rd_bad (bs t) X.w hs.1 hs.2 (by rw [z0T]; exact ha) ev hv hev
    have hd := z9O ha
    rw [z3r, show decV t = 0 by rw [decV, hd]; rfl, hd]
    exact h
  | some n =>
    by_cases hn : 0 ≤ n ∧ n ≤ 1000000000
    ·have h := rd_in (bs t) n (decide (Lib.itoa n = t)) X.w hs.1 hs.2 (by rw [z0T]; exact ha) hn.1 hn.2 (fun w' hb => z9X hh hb) (by
      rw [show (⟨(Lib.itoa n).toArray⟩ : ByteArray) = bs (Lib.itoa n) from rfl, z0U, z0U]
      by_cases e : Lib.itoa n = t
      ·simp [e]
      ·simp [e])
     by_cases e : Lib.itoa n = t
     ·have hd := z9P hl ha hn.1 hn.2 e
      rw [z3r, show (decV t : Int) = n by rw [decV, hd]; show ((n.toNat : Nat) : Int) = n; omega, hd]
      simp only [e, decide_true, cond_true] at h
      exact h
     ·have hd := z8C ha (fun c => e c.2.2)
      rw [z3r, show decV t = 0 by rw [decV, hd]; rfl, hd]
      simp only [e, decide_false, cond_false] at h
      exact h
    ·have h := rd_out (bs t) n X.w hs.1 hs.2 (by rw [z0T]; exact ha) hn
     have hd := z8C ha (fun c => hn ⟨c.1, c.2.1⟩)
     rw [z3r, show decV t = 0 by rw [decV, hd]; rfl, hd]
     exact h
 ·have h := zbk (bs t) X.w hs
  have hd : decR t = none := by
   rw [z0I] at hs
   cases t with
   | nil => rfl
   | cons b r =>
     rw [decR, if_neg]
     intro c
     simp at hs c
     omega
  rw [z3r, show decV t = 0 by rw [decV, hd]; rfl, hd]
  exact h
end Go.Proofs.YtfgkjgfigjpkoaaDoor
