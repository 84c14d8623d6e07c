/- strconv.Atoi of any text of at most ten bytes, and impl.ReadDecimal (an old walk), by what the kit's shelf proves once for all programs. -/
import Derived.Shelf.Strconv.Atoi
import Derived.Shelf.Strconv.AtoiErr
import Derived.Lib.AtoiErrMem
import Derived.Test.YtkgfidphcpklhaaDoorIto
import Derived.Test.YtkgfidphcpklhaaDoorNum
namespace Go.Proofs.YtkgfidphcpklhaaDoor
open Go.RowKit Pl
set_option linter.unusedVariables false
set_option linter.unusedSimpArgs false

def atoRen : Go.Shelf.Ren := ⟨fun | 172 => 54 | 244 => 68 | 245 => 69 | 247 => 83 | 279 => 84 | 280 => 85 | 281 => 86 | 282 => 87 | 287 => 94 | 316 => 95 | 171 => 70 | 205 => 96 | 321 => 100 | 322 => 101 | 243 => 88 | 246 => 97 | 283 => 102 | 284 => 103 | 285 => 104 | 286 => 105 | 129 => 107 | 317 => 106 | 318 => 108 | 319 => 109 | 320 => 110 | 337 => 111 | 338 => 112 | n => n, fun | 9 => 9 | 3 => 3 | 75 => 88 | 76 => 89 | 4 => 4 | 5 => 5 | 167 => 108 | 37 => 22 | 0 => 0 | 85 => 109 | 2 => 2 | 168 => 111 | 53 => 121 | 175 => 122 | 46 => 94 | 210 => 126 | 127 => 130 | 145 => 133 | 143 => 131 | 21 => 21 | 171 => 134 | 173 => 137 | 212 => 140 | 51 => 118 | 20 => 20 | 213 => 141 | 232 => 144 | 233 => 145 | 80 => 146 | n => n, fun | 15 => 4 | 16 => 5 | 17 => 6 | 18 => 7 | 19 => 8 | n => n⟩
theorem atoLays : LaysC.n172 Tryd.prog atoRen where
  mixed := by kernel_rfl
  f129 := Tryd.func107.trans (congrArg some (by kernel_rfl))
  f171 := Tryd.func70.trans (congrArg some (by kernel_rfl))
  f172 := Tryd.func54.trans (congrArg some (by kernel_rfl))
  f205 := Tryd.func96.trans (congrArg some (by kernel_rfl))
  f243 := Tryd.func88.trans (congrArg some (by kernel_rfl))
  f244 := Tryd.func68.trans (congrArg some (by kernel_rfl))
  f245 := Tryd.func69.trans (congrArg some (by kernel_rfl))
  f246 := Tryd.func97.trans (congrArg some (by kernel_rfl))
  f247 := Tryd.func83.trans (congrArg some (by kernel_rfl))
  f279 := Tryd.func84.trans (congrArg some (by kernel_rfl))
  f280 := Tryd.func85.trans (congrArg some (by kernel_rfl))
  f281 := Tryd.func86.trans (congrArg some (by kernel_rfl))
  f282 := Tryd.func87.trans (congrArg some (by kernel_rfl))
  f283 := Tryd.func102.trans (congrArg some (by kernel_rfl))
  f284 := Tryd.func103.trans (congrArg some (by kernel_rfl))
  f285 := Tryd.func104.trans (congrArg some (by kernel_rfl))
  f286 := Tryd.func105.trans (congrArg some (by kernel_rfl))
  f287 := Tryd.func94.trans (congrArg some (by kernel_rfl))
  f316 := Tryd.func95.trans (congrArg some (by kernel_rfl))
  f317 := Tryd.func106.trans (congrArg some (by kernel_rfl))
  f318 := Tryd.func108.trans (congrArg some (by kernel_rfl))
  f319 := Tryd.func109.trans (congrArg some (by kernel_rfl))
  f320 := Tryd.func110.trans (congrArg some (by kernel_rfl))
  f321 := Tryd.func100.trans (congrArg some (by kernel_rfl))
  f322 := Tryd.func101.trans (congrArg some (by kernel_rfl))
  f337 := Tryd.func111.trans (congrArg some (by kernel_rfl))
  f338 := Tryd.func112.trans (congrArg some (by kernel_rfl))
  t0 := Tryd.underlying0
  a0 := Tryd.isAgg0
  z0 := Tryd.sizeOf0
  v0 := Tryd.zeroValue0
  t2 := Tryd.underlying2
  a2 := Tryd.isAgg2
  z2 := Tryd.sizeOf2
  v2 := Tryd.zeroValue2
  t3 := Tryd.underlying3
  a3 := Tryd.isAgg3
  z3 := Tryd.sizeOf3
  v3 := Tryd.zeroValue3
  t4 := Tryd.underlying4
  a4 := Tryd.isAgg4
  z4 := Tryd.sizeOf4
  v4 := Tryd.zeroValue4
  t5 := Tryd.underlying5
  a5 := Tryd.isAgg5
  z5 := Tryd.sizeOf5
  v5 := Tryd.zeroValue5
  t9 := Tryd.underlying9
  a9 := Tryd.isAgg9
  z9 := Tryd.sizeOf9
  v9 := Tryd.zeroValue9
  t20 := Tryd.underlying20
  a20 := Tryd.isAgg20
  z20 := Tryd.sizeOf20
  v20 := Tryd.zeroValue20
  t21 := Tryd.underlying21
  a21 := Tryd.isAgg21
  z21 := Tryd.sizeOf21
  v21 := Tryd.zeroValue21
  t37 := Tryd.underlying22
  a37 := Tryd.isAgg22
  z37 := Tryd.sizeOf22
  v37 := Tryd.zeroValue22
  t46 := Tryd.underlying94
  a46 := Tryd.isAgg94
  z46 := Tryd.sizeOf94
  v46 := Tryd.zeroValue94
  t51 := Tryd.underlying118
  a51 := Tryd.isAgg118
  z51 := Tryd.sizeOf118
  v51 := Tryd.zeroValue118
  t53 := Tryd.underlying121
  a53 := Tryd.isAgg121
  z53 := Tryd.sizeOf121
  v53 := Tryd.zeroValue121
  t75 := Tryd.underlying88
  a75 := Tryd.isAgg88
  z75 := Tryd.sizeOf88
  v75 := Tryd.zeroValue88
  t76 := Tryd.underlying89
  a76 := Tryd.isAgg89
  z76 := Tryd.sizeOf89
  v76 := Tryd.zeroValue89
  t85 := Tryd.underlying109
  a85 := Tryd.isAgg109
  z85 := Tryd.sizeOf109
  v85 := Tryd.zeroValue109
  t127 := Tryd.underlying130
  a127 := Tryd.isAgg130
  z127 := Tryd.sizeOf130
  v127 := Tryd.zeroValue130
  t143 := Tryd.underlying131
  a143 := Tryd.isAgg131
  z143 := Tryd.sizeOf131
  v143 := Tryd.zeroValue131
  t145 := Tryd.underlying133
  a145 := Tryd.isAgg133
  z145 := Tryd.sizeOf133
  v145 := Tryd.zeroValue133
  t167 := Tryd.underlying108
  a167 := Tryd.isAgg108
  z167 := Tryd.sizeOf108
  v167 := Tryd.zeroValue108
  t168 := Tryd.underlying111
  a168 := Tryd.isAgg111
  z168 := Tryd.sizeOf111
  v168 := Tryd.zeroValue111
  t171 := Tryd.underlying134
  a171 := Tryd.isAgg134
  z171 := Tryd.sizeOf134
  v171 := Tryd.zeroValue134
  t173 := Tryd.underlying137
  a173 := Tryd.isAgg137
  z173 := Tryd.sizeOf137
  v173 := Tryd.zeroValue137
  t175 := Tryd.underlying122
  a175 := Tryd.isAgg122
  z175 := Tryd.sizeOf122
  v175 := Tryd.zeroValue122
  t210 := Tryd.underlying126
  a210 := Tryd.isAgg126
  z210 := Tryd.sizeOf126
  v210 := Tryd.zeroValue126
  t212 := Tryd.underlying140
  a212 := Tryd.isAgg140
  z212 := Tryd.sizeOf140
  v212 := Tryd.zeroValue140
  t213 := Tryd.underlying141
  a213 := Tryd.isAgg141
  z213 := Tryd.sizeOf141
  t232 := Tryd.underlying144
  a232 := Tryd.isAgg144
  z232 := Tryd.sizeOf144
  v232 := Tryd.zeroValue144
  t233 := Tryd.underlying145
  a233 := Tryd.isAgg145
  z233 := Tryd.sizeOf145
  v233 := Tryd.zeroValue145
  g15 := by kernel_rfl
  g16 := by kernel_rfl
  g17 := by kernel_rfl
  g18 := by kernel_rfl
  g19 := by kernel_rfl
  t80 := Tryd.underlying146
  a80 := Tryd.isAgg146
  z80 := Tryd.sizeOf146
  v80 := Tryd.zeroValue146
  i0 := by kernel_rfl
  i2 := by kernel_rfl
  i3 := by kernel_rfl
  i4 := by kernel_rfl
  i5 := by kernel_rfl
  i9 := by kernel_rfl
  i20 := by kernel_rfl
  i21 := by kernel_rfl
  i37 := by kernel_rfl
  i46 := by kernel_rfl
  i51 := by kernel_rfl
  i53 := by kernel_rfl
  i75 := by kernel_rfl
  i76 := by kernel_rfl
  i80 := by kernel_rfl
  i85 := by kernel_rfl
  i127 := by kernel_rfl
  i143 := by kernel_rfl
  i145 := by kernel_rfl
  i167 := by kernel_rfl
  i168 := by kernel_rfl
  i171 := by kernel_rfl
  i173 := by kernel_rfl
  i175 := by kernel_rfl
  i210 := by kernel_rfl
  i212 := by kernel_rfl
  i232 := by kernel_rfl
  i233 := by kernel_rfl
  m15 := by kernel_rfl
  m16 := by kernel_rfl
  m17 := by kernel_rfl
  m18 := by kernel_rfl
  m19 := by kernel_rfl
  c0 := by kernel_rfl
  c2 := by kernel_rfl
  c3 := by kernel_rfl
  c4 := by kernel_rfl
  c5 := by kernel_rfl
  c9 := by kernel_rfl
  c20 := by kernel_rfl
  c21 := by kernel_rfl
  c37 := by kernel_rfl
  c46 := by kernel_rfl
  c51 := by kernel_rfl
  c53 := by kernel_rfl
  c75 := by kernel_rfl
  c76 := by kernel_rfl
  c80 := by kernel_rfl
  c85 := by kernel_rfl
  c127 := by kernel_rfl
  c143 := by kernel_rfl
  c145 := by kernel_rfl
  c167 := by kernel_rfl
  c168 := by kernel_rfl
  c171 := by kernel_rfl
  c173 := by kernel_rfl
  c175 := by kernel_rfl
  c210 := by kernel_rfl
  c212 := by kernel_rfl
  c213 := by kernel_rfl
  c232 := by kernel_rfl
  c233 := by kernel_rfl
theorem isB_def (t : Bs) : isB t = (decR t).isSome := rfl
theorem tab_powB {X : Cx} (h : HR X) {w' : World} (hb : Below X.w.heap.size X.w w') : Lib.TabIs Tryd.prog w' "internal/strconv.uint64pow10" .u64 Lib.pow10Tab := by
  obtain ⟨-, C, t, fr, hh, hr⟩ := h.gl.1 6 (powZ.map fun z => T.int .u64 z) rfl
  have hg : Tryd.prog.globalNamed "internal/strconv.uint64pow10" = some 6 := by kernel_rfl
  have hc := pow_vals _ _ hr
  have hh2 := (hb.block _ (lt_of_heap hh)).trans hh
  unfold Lib.TabIs World.var?
  rw [hg]
  simp only [Option.bind_some]
  rw [hh2]
  show some C = some _
  congr 1
  rw [← Array.toArray_toList (xs := C), hc]
  rfl
theorem err_cell {X : Cx} (h : HR X) : ∃ ev, X.w.cell? ⟨4, 0, none⟩ = some ev ∧ (ev = .nilIface ∨ ∃ te pe, ev = .iface te pe) := by
  obtain ⟨-, C, t, fr, hh, ev, hr, he⟩ := h.gl.2 4 1 rfl
  refine ⟨ev, ?_, he⟩
  simp only [World.cell?, hh]
  simpa using hr
set_option maxRecDepth 100000 in
set_option maxHeartbeats 1000000 in
theorem decimal_at (n : Int) (h0 : -9223372036854775808 ≤ n) (h1 : n ≤ 9223372036854775807) (w : World) (hT : Lib.TabIs Tryd.prog w "internal/strconv.uint64pow10" .u64 Lib.pow10Tab) :
    Calls Tryd.prog 55 #[.int .i64 n] w fun e w' => e = .returned (.string ⟨(Lib.itoa n).toArray⟩) ∧ Below w.heap.size w w' := by
  have c : Calls Tryd.prog 70 #[.int .i64 n] w fun e w' => e = .returned (.string ⟨(Lib.itoa n).toArray⟩) ∧ Below w.heap.size w w' :=
    (Any.strconv_Itoa itoLays n h0 h1 w hT).mono (by
      rintro e w' ⟨rfl, k, os, rfl⟩
      exact ⟨rfl, Lib.below_grow _ _ (Nat.le_refl _) k os⟩)
  go_enter Tryd.func55, Tryd.ntmps55
  go_wp2_with (go_at_call 70; refine c.mono ?_; rintro e w' ⟨rfl, hb⟩)
  go_ret
  exact ⟨rfl, hb⟩
set_option maxRecDepth 100000 in
set_option maxHeartbeats 1000000 in
theorem rd_size (s : ByteArray) (w : World) (h : ¬ (1 ≤ (s.size : Int) ∧ (s.size : Int) ≤ 10)) :
    Calls Tryd.prog 37 #[.string s] w fun e w' => e = .returned (.tuple #[.int .i64 0, .bool false]) ∧ Below w.heap.size w w' := by
  go_enter Tryd.func37, Tryd.ntmps37
  go_wp2_with (go_at_call 16; with_reducible refine (in_no (s.size : Int) 1 10 _ h).mono ?_; rintro e w1 ⟨rfl, rfl⟩)
  go_ret2
  exact ⟨rfl, Below.refl _ _⟩
set_option maxRecDepth 100000 in
set_option maxHeartbeats 1000000 in
theorem rd_bad (s : ByteArray) (w : World) (h1 : 1 ≤ (s.size : Int)) (h2 : (s.size : Int) ≤ 10) (ha : Lib.atoi s.data.toList = none) (ev : Value) (hv : w.cell? ⟨4, 0, none⟩ = some ev) (hev : ev = .nilIface ∨ ∃ te pe, ev = .iface te pe) :
    Calls Tryd.prog 37 #[.string s] w fun e w' => e = .returned (.tuple #[.int .i64 0, .bool false]) ∧ Below w.heap.size w w' := by
  have c : Calls Tryd.prog 54 #[.string s] w fun e w' => ∃ N, e = .returned (.tuple #[.int .i64 0, .iface (atoRen.t 168) (.pointer (some ⟨N, 0, none⟩))]) ∧ Below w.heap.size w w' :=
    (Any.strconv_Atoi_err atoLays s (by omega) ha ev w hv hev).mono (by
      rintro e w' ⟨N, rfl, -, -, hb⟩
      exact ⟨N, rfl, hb⟩)
  go_enter Tryd.func37, Tryd.ntmps37
  go_wp2_with (first
    | (go_at_call 16; with_reducible refine (in_yes (s.size : Int) 1 10 _ h1 h2).mono ?_; rintro e w1 ⟨rfl, rfl⟩)
    | (go_at_call 54; refine c.mono ?_; rintro e W1 ⟨N, rfl, hb⟩))
  go_ret2
  exact ⟨rfl, hb⟩
set_option maxRecDepth 100000 in
set_option maxHeartbeats 1000000 in
theorem rd_out (s : ByteArray) (n : Int) (w : World) (h1 : 1 ≤ (s.size : Int)) (h2 : (s.size : Int) ≤ 10) (ha : Lib.atoi s.data.toList = some n) (ho : ¬ (0 ≤ n ∧ n ≤ 1000000000)) :
    Calls Tryd.prog 37 #[.string s] w fun e w' => e = .returned (.tuple #[.int .i64 0, .bool false]) ∧ Below w.heap.size w w' := by
  have c : Calls Tryd.prog 54 #[.string s] w fun e w' => e = .returned (.tuple #[.int .i64 n, .nilIface]) ∧ Below w.heap.size w w' :=
    (Any.strconv_Atoi atoLays.toM.ton172 s n (by omega) ha w).mono (by
      rintro e w' ⟨rfl, t, rfl⟩
      exact ⟨rfl, Lib.bytesWorld_below _ _ _⟩)
  clear ha
  go_enter Tryd.func37, Tryd.ntmps37
  go_wp2_with (first
    | (go_at_call 16; with_reducible refine (in_yes (s.size : Int) 1 10 _ h1 h2).mono ?_; rintro e w1 ⟨rfl, rfl⟩)
    | (go_at_call 16; with_reducible refine (in_no n 0 1000000000 _ ho).mono ?_; rintro e w1 ⟨rfl, rfl⟩)
    | (go_at_call 54; refine c.mono ?_; rintro e W1 ⟨rfl, hb⟩))
  go_ret2
  exact ⟨rfl, hb⟩
set_option maxRecDepth 100000 in
set_option maxHeartbeats 1000000 in
theorem rd_in (s : ByteArray) (n : Int) (b : Bool) (w : World) (h1 : 1 ≤ (s.size : Int)) (h2 : (s.size : Int) ≤ 10) (ha : Lib.atoi s.data.toList = some n) (h3 : 0 ≤ n) (h4 : n ≤ 1000000000)
    (hT : ∀ w', Below w.heap.size w w' → Lib.TabIs Tryd.prog w' "internal/strconv.uint64pow10" .u64 Lib.pow10Tab) (hne : (((⟨(Lib.itoa n).toArray⟩ : ByteArray).toList == s.toList) : Bool) = b) :
    Calls Tryd.prog 37 #[.string s] w fun e w' => e = .returned (.tuple #[.int .i64 (bif b then n else 0), .bool b]) ∧ Below w.heap.size w w' := by
  have c : Calls Tryd.prog 54 #[.string s] w fun e w' => e = .returned (.tuple #[.int .i64 n, .nilIface]) ∧ Below w.heap.size w w' :=
    (Any.strconv_Atoi atoLays.toM.ton172 s n (by omega) ha w).mono (by
      rintro e w' ⟨rfl, t, rfl⟩
      exact ⟨rfl, Lib.bytesWorld_below _ _ _⟩)
  have d : ∀ w', Below w.heap.size w w' → Calls Tryd.prog 55 #[.int .i64 n] w' fun e w2 => e = .returned (.string ⟨(Lib.itoa n).toArray⟩) ∧ Below w'.heap.size w' w2 := fun w' hb => decimal_at n (by omega) (by omega) w' (hT w' hb)
  generalize (⟨(Lib.itoa n).toArray⟩ : ByteArray) = D at d hne
  clear ha hT
  cases b with
  | true =>
    go_enter Tryd.func37, Tryd.ntmps37
    go_wp2_with (first
      | (go_at_call 16; with_reducible refine (in_yes (s.size : Int) 1 10 _ h1 h2).mono ?_; rintro e w1 ⟨rfl, rfl⟩)
      | (go_at_call 16; with_reducible refine (in_yes n 0 1000000000 _ h3 h4).mono ?_; rintro e w1 ⟨rfl, rfl⟩)
      | (go_at_call 54; refine c.mono ?_; rintro e W1 ⟨rfl, hb⟩)
      | (go_at_call 55; refine (d _ hb).mono ?_; rintro e W2 ⟨rfl, hb2⟩))
    go_ret2
    exact ⟨rfl, hb.trans (hb2.mono hb.size)⟩
  | false =>
    go_enter Tryd.func37, Tryd.ntmps37
    go_wp2_with (first
      | (go_at_call 16; with_reducible refine (in_yes (s.size : Int) 1 10 _ h1 h2).mono ?_; rintro e w1 ⟨rfl, rfl⟩)
      | (go_at_call 16; with_reducible refine (in_yes n 0 1000000000 _ h3 h4).mono ?_; rintro e w1 ⟨rfl, rfl⟩)
      | (go_at_call 54; refine c.mono ?_; rintro e W1 ⟨rfl, hb⟩)
      | (go_at_call 55; refine (d _ hb).mono ?_; rintro e W2 ⟨rfl, hb2⟩))
    go_ret2
    exact ⟨rfl, hb.trans (hb2.mono hb.size)⟩
def rdT (t : Bs) : T := .tup [.int .i64 (decV t : Int), .bool (isB t)]
theorem rd_rs (X : Cx) (n : Int) (b : Bool) : RS X (.tup [.int .i64 n, .bool b]) (.tuple #[.int .i64 n, .bool b]) := ⟨_, rfl, _, _, rfl, mk_int X _ _, _, _, rfl, mk_bool X _, rfl⟩
theorem c_ReadDecimal (t : Bs) : CT Tryd.prog 37 [] [.str t] (.tup [.int .i64 (decV t : Int), .bool (isB t)]) [] := by
  refine old_ctX ⟨_, Tryd.func37, rfl, rfl⟩ rfl (fun X => rd_rs X _ _) fun X hh => ?_
  show Calls _ _ #[.string (bs t)] X.w _
  by_cases hs : 1 ≤ ((bs t).size : Int) ∧ ((bs t).size : Int) ≤ 10
  · have hl : t.length ≤ 10 := by have := hs.2; rw [bs_size] at this; omega
    cases ha : Lib.atoi t with
    | none =>
      obtain ⟨ev, hv, hev⟩ := err_cell hh
      have h := rd_bad (bs t) X.w hs.1 hs.2 (by rw [bs_data]; exact ha) ev hv hev
      have hd := decR_bad ha
      rw [isB_def, show decV t = 0 by rw [decV, hd]; rfl, hd]
      exact h
    | some n =>
      by_cases hn : 0 ≤ n ∧ n ≤ 1000000000
      · have h := rd_in (bs t) n (decide (Lib.itoa n = t)) X.w hs.1 hs.2 (by rw [bs_data]; exact ha) hn.1 hn.2 (fun w' hb => tab_powB hh hb) (by
          rw [show (⟨(Lib.itoa n).toArray⟩ : ByteArray) = bs (Lib.itoa n) from rfl, bs_toList, bs_toList]
          by_cases e : Lib.itoa n = t
          · simp [e]
          · simp [e])
        by_cases e : Lib.itoa n = t
        · have hd := decR_yes hl ha hn.1 hn.2 e
          rw [isB_def, show (decV t : Int) = n by rw [decV, hd]; show ((n.toNat : Nat) : Int) = n; omega, hd]
          simp only [e, decide_true, cond_true] at h
          exact h
        · have hd := decR_no ha (fun c => e c.2.2)
          rw [isB_def, show decV t = 0 by rw [decV, hd]; rfl, hd]
          simp only [e, decide_false, cond_false] at h
          exact h
      · have h := rd_out (bs t) n X.w hs.1 hs.2 (by rw [bs_data]; exact ha) hn
        have hd := decR_no ha (fun c => hn ⟨c.1, c.2.1⟩)
        rw [isB_def, show decV t = 0 by rw [decV, hd]; rfl, hd]
        exact h
  · have h := rd_size (bs t) X.w hs
    have hd : decR t = none := by
      rw [bs_size] at hs
      cases t with
      | nil => rfl
      | cons b r =>
        rw [decR, if_neg]
        intro c
        simp at hs c
        omega
    rw [isB_def, show decV t = 0 by rw [decV, hd]; rfl, hd]
    exact h
end Go.Proofs.YtkgfidphcpklhaaDoor
