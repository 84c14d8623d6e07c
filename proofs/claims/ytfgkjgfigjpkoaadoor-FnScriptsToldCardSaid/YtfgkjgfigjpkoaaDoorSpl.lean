/- strings.Split of a text at line feeds, by what the kit's shelf proves once for all programs. -/
import Derived.Shelf.Strings.Split
import Derived.Lib.SplitLaws
import Derived.Lib.IndexBytes
import Derived.Test.YtfgkjgfigjpkoaaDoorPlE
import Derived.Test.YtfgkjgfigjpkoaaDoorFb
namespace Go.Proofs.YtfgkjgfigjpkoaaDoor
set_option linter.unusedVariables false
set_option linter.unusedSimpArgs false
set_option linter.unusedSectionVars false
open Go.RowKit Pl
def splRen : Go.Shelf.Ren := ⟨fun | 146 => 9 | 221 => 26 | 268 => 38 | 138 => 39 | 143 => 40 | 195 => 50 | 197 => 51 | 218 => 52 | 219 => 53 | 260 => 63 | 217 => 64 | 225 => 65 | 224 => 66 | 267 => 67 | 266 => 77 | 314 => 78 | n => n, fun | 9 => 9 | 31 => 39 | 3 => 3 | 4 => 4 | 0 => 0 | 105 => 89 | 21 => 21 | 5 => 5 | 46 => 84 | 119 => 104 | 139 => 107 | 138 => 106 | 146 => 109 | 51 => 108 | n => n, fun | 1 => 1 | 3 => 2 | 4 => 3 | n => n⟩
theorem zbs : Lays.n146 Tryd.prog splRen where
 mixed := by kernel_rfl
 f138 := Tryd.func39.trans (congrArg some (by kernel_rfl))
 f143 := Tryd.func40.trans (congrArg some (by kernel_rfl))
 f146 := Tryd.func9.trans (congrArg some (by kernel_rfl))
 f195 := Tryd.func50.trans (congrArg some (by kernel_rfl))
 f197 := Tryd.func51.trans (congrArg some (by kernel_rfl))
 f217 := Tryd.func64.trans (congrArg some (by kernel_rfl))
 f218 := Tryd.func52.trans (congrArg some (by kernel_rfl))
 f219 := Tryd.func53.trans (congrArg some (by kernel_rfl))
 f221 := Tryd.func26.trans (congrArg some (by kernel_rfl))
 f224 := Tryd.func66.trans (congrArg some (by kernel_rfl))
 f225 := Tryd.func65.trans (congrArg some (by kernel_rfl))
 f260 := Tryd.func63.trans (congrArg some (by kernel_rfl))
 f266 := Tryd.func77.trans (congrArg some (by kernel_rfl))
 f267 := Tryd.func67.trans (congrArg some (by kernel_rfl))
 f268 := Tryd.func38.trans (congrArg some (by kernel_rfl))
 f314 := Tryd.func78.trans (congrArg some (by kernel_rfl))
 t0 := Tryd.underlying0
 a0 := Tryd.isAgg0
 z0 := Tryd.sizeOf0
 v0 := Tryd.zeroValue0
 t3 := Tryd.underlying3
 a3 := Tryd.isAgg3
 z3 := Tryd.sizeOf3
 v3 := Tryd.zeroValue3
 t4 := Tryd.underlying4
 a4 := Tryd.isAgg4
 z4 := Tryd.sizeOf4
 v4 := Tryd.zeroValue4
 t5 := Tryd.underlying5
 a5 := Tryd.isAgg5
 z5 := Tryd.sizeOf5
 v5 := Tryd.zeroValue5
 t9 := Tryd.underlying9
 a9 := Tryd.isAgg9
 z9 := Tryd.sizeOf9
 v9 := Tryd.zeroValue9
 t21 := Tryd.underlying21
 a21 := Tryd.isAgg21
 z21 := Tryd.sizeOf21
 v21 := Tryd.zeroValue21
 t31 := Tryd.underlying39
 a31 := Tryd.isAgg39
 z31 := Tryd.sizeOf39
 v31 := Tryd.zeroValue39
 t46 := Tryd.underlying84
 a46 := Tryd.isAgg84
 z46 := Tryd.sizeOf84
 v46 := Tryd.zeroValue84
 t51 := Tryd.underlying108
 a51 := Tryd.isAgg108
 z51 := Tryd.sizeOf108
 v51 := Tryd.zeroValue108
 t105 := Tryd.underlying89
 a105 := Tryd.isAgg89
 z105 := Tryd.sizeOf89
 v105 := Tryd.zeroValue89
 t119 := Tryd.underlying104
 a119 := Tryd.isAgg104
 z119 := Tryd.sizeOf104
 t138 := Tryd.underlying106
 a138 := Tryd.isAgg106
 z138 := Tryd.sizeOf106
 v138 := Tryd.zeroValue106
 t139 := Tryd.underlying107
 a139 := Tryd.isAgg107
 z139 := Tryd.sizeOf107
 v139 := Tryd.zeroValue107
 t146 := Tryd.underlying109
 a146 := Tryd.isAgg109
 z146 := Tryd.sizeOf109
 v146 := Tryd.zeroValue109
 g1 := by kernel_rfl
 g3 := by kernel_rfl
 g4 := by kernel_rfl
def linJ : Bs → List Bs
 | [] => [[]]
 | b :: r => if b = 10 then [] :: linJ r else match linJ r with
   | h :: t => (b :: h) :: t
   | [] => []
def preJ (c : Bs) : List Bs → List Bs
 | h :: t => (c ++ h) :: t
 | [] => []
theorem z93 : ∀ s : Bs, linJ s ≠ []
 | [], h => by cases h
 | b :: r, h => by
   unfold linJ at h
   split at h
   ·cases h
   ·cases hr : linJ r with
    | nil => exact z93 r hr
    | cons x t => rw [hr] at h; cases h
theorem z6P : ∀ {l : List Bs}, preJ [] l = l
 | [] => rfl
 | h :: t => rfl
theorem zbt : ∀ (s : Bs) (d : List Bs) (c : Bs), (s.foldl lnS (d, c)).1 ++ [(s.foldl lnS (d, c)).2] = d ++ preJ c (linJ s)
 | [], d, c => by simp [linJ, preJ]
 | b :: r, d, c => by
   rw [List.foldl_cons]
   by_cases hb : b = 10
   ·subst hb
    have e : lnS (d, c) 10 = (d ++ [c], []) := if_pos (show UInt8.toNat 10 = 10 from rfl)
    rw [e, zbt r (d ++ [c]) [], z6P, linJ, if_pos rfl]
    simp [preJ]
   ·have e : lnS (d, c) b = (d, c ++ [b]) := if_neg (fun h => hb (UInt8.toNat_inj.1 h))
    rw [e, zbt r d (c ++ [b]), linJ, if_neg hb]
    cases hr : linJ r with
    | nil => exact absurd hr (z93 r)
    | cons x t => simp [preJ]
theorem linI_J (s : Bs) : linI s = linJ s := by
 have := zbt s [] []
 rw [z6P, List.nil_append] at this
 exact this
theorem z5u : ∀ {s : Bs}, Lib.indexByte s 10 = -1 → linJ s = [s]
 | [], _ => rfl
 | b :: r, h => by
   unfold Lib.indexByte at h
   by_cases hb : b = 10
   ·subst hb
    rw [if_pos (by decide)] at h
    cases h
   ·rw [if_neg (by simpa using hb)] at h
    have hr : Lib.indexByte r 10 = -1 := by
     split at h
     ·rename_i h2
      simpa using h2
     ·have := Lib.indexByte_ge r 10
      omega
    rw [linJ, if_neg hb, z5u hr]
theorem z6Q : ∀ {s : Bs} {i : Nat}, Lib.indexByte s 10 = i → linJ s = s.take i :: linJ (s.drop (i + 1))
 | [], i, h => by
   unfold Lib.indexByte at h
   omega
 | b :: r, i, h => by
   unfold Lib.indexByte at h
   by_cases hb : b = 10
   ·subst hb
    rw [if_pos (by decide)] at h
    obtain rfl : i = 0 := by omega
    rw [linJ, if_pos rfl]
    rfl
   ·rw [if_neg (by simpa using hb)] at h
    split at h
    ·omega
    ·rename_i h2
     have hge := Lib.indexByte_ge r 10
     have hne : Lib.indexByte r 10 ≠ -1 := by simpa using h2
     obtain ⟨j, rfl⟩ : ∃ j, i = j + 1 := ⟨i - 1, by omega⟩
     have hr : Lib.indexByte r 10 = j := by omega
     rw [linJ, if_neg hb, z6Q hr]
     rfl
theorem z94 : ∀ (n : Nat) (s : Bs), s.length ≤ n → Lib.splitK [10] 0 (Lib.count s [10]) s = linJ s
 | 0, s, h => by
   obtain rfl : s = [] := List.eq_nil_of_length_eq_zero (by omega)
   rfl
 | n + 1, s, h => by
   rcases Int.lt_or_le (Lib.indexByte s 10) 0 with hi | hi
   ·have hm : Lib.indexByte s 10 = -1 := by
     have := Lib.indexByte_ge s 10
     omega
    rw [Lib.count_miss (by rw [Lib.index_one]; exact hm), z5u hm]
    rfl
   ·obtain ⟨i, hi⟩ : ∃ i : Nat, Lib.indexByte s 10 = i := ⟨(Lib.indexByte s 10).toNat, by omega⟩
    have hx : Lib.index s [10] = i := by rw [Lib.index_one]; exact hi
    rw [Lib.count_hit (by simp) hx, z6Q hi, Nat.add_comm, Lib.splitK, if_neg (by rw [hx, beq_iff_eq]; omega), hx]
    have hs : s ≠ [] := by
     intro c
     subst c
     unfold Lib.indexByte at hi
     omega
    have hl : 0 < s.length := List.length_pos_iff.2 hs
    have hrec := z94 n (s.drop (i + 1)) (by rw [List.length_drop]; omega)
    show List.take (i + 0) s :: Lib.splitK [10] 0 (Lib.count (s.drop (i + 1)) [10]) (s.drop (i + 1)) = _
    rw [hrec]
    rfl
theorem zbu (s : Bs) : (Lib.splitB (bs [10]) 0 (Lib.countB (bs s) (bs [10])) (bs s)).map (·.data.toList) = linI s := by
 rw [Lib.splitB_data, linI_J, ← z94 s.length s (Nat.le_refl _)]
 show Lib.splitK (bs [10]).data.toList 0 (Lib.count (bs s).data.toList (bs [10]).data.toList) (bs s).data.toList = _
 rw [z0T, z0T]
theorem zbv {P : Program} {f : FuncId} {ts : List T} {r : T} (hfn : ∃ fn, P.funcs[f]? = some fn ∧ (fn.name == "runtime.NumGoroutine") = false ∧ fn.body.isNone = false)
 (h : ∀ X : Cx, HR X → ∀ vs, Args X ts vs → Calls P f vs.toArray X.w fun e w' => ∃ v, e = .returned v ∧ Below X.w.heap.size X.w w' ∧ RS { X with w := w' } r v) : CT P f [] ts r [] := by
 refine ⟨hfn, fun X hh hH hu vs ha => ?_⟩
 refine (h X hh vs ha).mono ?_
 rintro e w' ⟨v, rfl, hb, hr⟩
 have hgl : Gl { X with w := w' } := Gl.mono (X := X) (X' := { X with w := w' }) (fun g (hg : g < X.w.heap.size) hn => ⟨hn, hb.block g hg⟩) hh.gl
 have hno : ∀ r, X.H r = none := fun r => by rw [hH]; exact z4A r
 refine ⟨v, { X with w := w' }, rfl, rfl, hH, hu, ⟨fun g g' r hr => absurd (hno r) hr, fun g r hg => ?_, fun r e he => ?_, hh.zero, hh.pos, hgl⟩, hr, ?_⟩
 ·obtain ⟨a, b⟩ := hh.lt g r hg
  exact ⟨Nat.lt_of_lt_of_le a hb.size, b⟩
 ·have := hno r
  rw [show X.H r = some e from he] at this; cases this
 ·refine ⟨fun _ h => h, hb.os, hb.tape, hb.output, hb.size, fun g hg hn => ⟨hn, hb.block g hg⟩, fun r _ e' he => ?_, fun g hg => ⟨hg, hb.block g (hh.lt g 0 hg).1⟩, fun r _ hn => absurd (hno r) hn⟩
  have := hno r
  rw [show X.H r = some e' from he] at this; cases this
theorem z95 {ow : Own} {w : World} : ∀ (L : List Bs), RE ow w 1 (strE L) (L.map fun l => Value.string (bs l))
 | [] => by simp [strE, RE]
 | x :: L => by
   simp only [strE, List.map_cons, RE]
   exact ⟨[.string (bs x)], L.map fun l => Value.string (bs l), rfl, rfl, by simp [RL, RV], z95 L⟩
theorem za4 {X : Cx} (h : HR X) : ∃ m, X.w.cell? ⟨1, 0, none⟩ = some (.int .i64 m) := by
 obtain ⟨-, C, t, fr, hh, m, hr⟩ := h.gl.2 1 0 rfl
 refine ⟨m, ?_⟩
 simp only [World.cell?, hh]
 simpa using hr
theorem map_bs (L : List ByteArray) (M : List Bs) (h : L.map (·.data.toList) = M) : L.map Value.string = M.map fun l => Value.string (bs l) := by
 subst h
 rw [List.map_map]
 refine List.map_congr_left fun x _ => ?_
 show Value.string x = Value.string (bs x.data.toList)
 congr 1
set_option maxRecDepth 100000 in
set_option maxHeartbeats 1000000 in
theorem zbw (s : Bs) (hs : s.length ≤ 4000) : CT Tryd.prog 9 [] [.str s, .str [10]] (.sl 1 (strE (linI s))) [] := by
 refine zbv ⟨_, Tryd.func9, rfl, rfl⟩ fun X hh vs ha => ?_
 rw [z1U (ts := [.str s, .str [10]]) rfl ha]
 obtain ⟨m, hm⟩ := za4 hh
 have c : Calls Tryd.prog 9 #[.string (bs s), .string (bs [10])] X.w fun e w' => e = .returned (.slice (some ⟨X.w.heap.size, 0, none⟩) (Lib.countB (bs s) (bs [10]) + 1) (Lib.countB (bs s) (bs [10]) + 1)) ∧ w' = X.w.alloc (.cells ((Lib.splitB (bs [10]) 0 (Lib.countB (bs s) (bs [10])) (bs s)).map Value.string).toArray (splRen.t 9)) :=
  Any.strings_Split zbs (by kernel_rfl) (bs s) (bs [10]) m X.w (by rw [z0I]; omega) hm (by decide)
 show Calls Tryd.prog 9 #[.string (bs s), .string (bs [10])] X.w _
 refine c.mono ?_
 have hlen := Lib.splitB_all (bs [10]) (by decide) 0 (Lib.countB (bs s) (bs [10])) (bs s) rfl
 have hI := zbu s
 have hl2 : (linI s).length = Lib.countB (bs s) (bs [10]) + 1 := by rw [← hI, List.length_map, hlen]
 rw [map_bs _ _ hI, ← hl2]
 clear c hI hlen hl2
 rintro e w' ⟨rfl, rfl⟩
 refine ⟨_, rfl, Below.alloc (Below.refl _ _) (Nat.le_refl _) _, ?_⟩
 have hno : X.ow X.w.heap.size = none := by
  cases ho : X.ow X.w.heap.size with
  | none => rfl
  | some r => exact absurd (hh.lt _ r ho).1 (Nat.lt_irrefl _)
 have hle : (strE (linI s)).length = (linI s).length := z0h _
 show RV X.ow _ (.sl 1 (strE (linI s))) _
 simp only [RV]
 refine ⟨some ⟨X.w.heap.size, 0, none⟩, (linI s).length, by rw [hle], by omega, .inr ⟨X.w.heap.size, 0, ((linI s).map fun l => Value.string (bs l)).toArray, splRen.t 9, (0, 0), rfl, hno, ?_, ?_⟩⟩
 ·show (X.w.heap.push _)[X.w.heap.size]? = _
  exact Array.getElem?_push_size
 ·simp only [List.drop_zero]
  exact z95 _
end Go.Proofs.YtfgkjgfigjpkoaaDoor
