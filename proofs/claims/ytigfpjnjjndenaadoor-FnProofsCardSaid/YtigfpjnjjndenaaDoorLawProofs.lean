/- For every code, a proof of a name leads to the root and says what the entries say, and is read from what is written of it. Condition: the two tables of words hold what the program's text lays in them (the card ties this to the text). -/
import Derived.Test.YtigfpjnjjndenaaDoorTd
import Derived.Test.YtigfpjnjjndenaaDoorTf
import Derived.Test.YtigfpjnjjndenaaDoorShell
import Derived.Test.YtigfpjnjjndenaaDoorRows
import Derived.Test.YtigfpjnjjndenaaDoorCards
import Derived.Test.YtigfpjnjjndenaaDoorTie
import Derived.ProofKit
import Derived.OpenShut
import Derived.OpenVars
import Derived.ShutString
import Derived.ChangeOld
import Derived.ChangeSlices
import Derived.ChangeVars
import Derived.Below
import Derived.Lib.LaidTab
import Derived.LaidMore
import Derived.Stop.LaidErr
import Derived.MakeChecks
import Derived.SevenTiedAt
namespace Go.Proofs.YtigfpjnjjndenaaDoor.fnProofs
open Go.ChangeShapes Go.WideShapes Go.ChangeAt Go.RowKit Pl
open Go.ChangeMaps (open_string shut_string)
set_option linter.unusedVariables false
set_option linter.unusedSimpArgs false

theorem own : ownKnob Tryd.prog.godebug = none := by kernel_rfl
theorem laidOut : laidOutB Tryd.prog = true := by kernel_rfl
theorem bucket_ok {l : List Lf} {ix : Int} (h : leavesOk l = true) : leavesOk (bucketL l ix) = true := by
  obtain ⟨h1, h2, h3⟩ := ok_sorted h
  exact sorted_ok (Nat.le_trans (List.length_filter_le _ _) h1) (fun x hx => h2 x (List.mem_filter.1 hx).1) (h3.filter _)
theorem bucket_at (l : List Lf) (ix : Nat) : bucketL l (ix : Int) = atP l 0 ix := by
  unfold bucketL atP
  apply List.filter_congr
  intro x _
  simp only [Nat.pow_zero, Nat.div_one]
  by_cases h : ixB x.1 = ix
  · rw [decide_eq_true h, decide_eq_true (by omega)]
  · rw [decide_eq_false h, decide_eq_false (by omega)]
theorem bucket_same (l : List Lf) (ix : Int) : bucketL (bucketL l ix) ix = bucketL l ix := by
  unfold bucketL
  rw [List.filter_filter]
  apply List.filter_congr
  intro x _
  simp
theorem bucket_get (l : List Lf) (nm : Bs) : leafGet (bucketL l (ixB nm : Int)) nm = leafGet l nm := by
  have e : (fun a : Lf => decide (decide ((ixB a.1 : Int) = (ixB nm : Int)) = true ∧ (a.1 == nm) = true)) = fun x => x.1 == nm := funext fun x => by
    by_cases h : x.1 = nm
    · rw [h]; simp
    · have h2 : (x.1 == nm) = false := by simpa using h
      rw [h2]; simp
  unfold leafGet bucketL
  rw [List.find?_filter, e]
/-- What the law asks, in plain. -/
theorem facts {L : List Lf} {nm : Bs} (hL : leavesOk L = true) (hn : nameOk nm = true) :
    pfGood nm (bucketL L (ixB nm : Int)) (sidesB L 16 (ixB nm) 8) 16 = true ∧ proofOkB (bucketL L (ixB nm : Int)) (sidesB L 16 (ixB nm) 8) 16 = true ∧ leadB nm (bucketL L (ixB nm : Int)) (sidesB L 16 (ixB nm) 8) 16 = nodeB L 16 8 0 ∧
      readPf (proofText (bucketL L (ixB nm : Int)) (sidesB L 16 (ixB nm) 8)) 16 = some (bucketL L (ixB nm : Int), sidesB L 16 (ixB nm) 8) := by
  have hB := bucket_ok (ix := (ixB nm : Int)) hL
  have hw := sidesB_wide (l := L) (w := 16) (ix := ixB nm) (n := 8) (by omega)
  have hl := sidesB_len L 16 (ixB nm) 8
  have hall : ((sidesB L 16 (ixB nm) 8).all fun x => decide ((x.length : Int) = 16)) = true := List.all_eq_true.2 fun x hx => decide_eq_true (by have := hw x hx; omega)
  have hok : proofOkB (bucketL L (ixB nm : Int)) (sidesB L 16 (ixB nm) 8) 16 = true := proofOk_iff.2 ⟨hB, by omega, fun x hx => by have := hw x hx; omega, by omega, by omega⟩
  refine ⟨?_, hok, ?_, ?_⟩
  · unfold pfGood
    rw [hn, hB, hall, bucket_same, hl, decide_eq_true rfl]
    rfl
  · have hf := fold_tree L 16 (ixB nm) 8 0
    unfold leadB
    have e : cutB (bucketB (bucketL L (ixB nm : Int))) 16 = nodeB L 16 0 (ixB nm / 2 ^ 0) := by
      rw [nodeB, bucket_at, Nat.pow_zero, Nat.div_one]
    have e2 : sidesB L 16 (ixB nm) 8 = (List.range' 0 8).map fun i => nodeB L 16 i (sib (ixB nm / 2 ^ i)) := by
      rw [sidesB, List.range_eq_range']
    have e3 : ixB nm / 2 ^ (0 + 8) = 0 := by
      have := ixB_lt nm
      rw [show 2 ^ (0 + 8) = 256 by decide]
      omega
    rw [e, e2]
    generalize (List.range' 0 8).map (fun i => nodeB L 16 i (sib (ixB nm / 2 ^ i))) = ss at hf ⊢
    generalize nodeB L 16 0 (ixB nm / 2 ^ 0) = h0 at hf ⊢
    rw [hf, e3]
  · have hi : inB 16 1 32 = true := by decide
    show (bif inB 16 1 32 then readPfI _ (16 : Int).toNat else none) = _
    rw [hi]
    exact (pfI_iff (w := 16) (by omega)).2 ⟨hok, rfl⟩
section
attribute [local irreducible] CondB CallP LoopW AnsP LeP
set_option maxRecDepth 100000 in
set_option maxHeartbeats 8000000 in
theorem c_law (c : Bs) : CT Tryd.prog 4 [] [.sl 1 (bytesE c)] (.bool true) [] := by
  have cb := c_big c
  by_cases hc : (c.length : Int) ≤ 1048576
  · obtain ⟨L, ⟨hL, hLs, hL9⟩, cL⟩ := c_DrawLeaves c hc
    obtain ⟨nm, ⟨hn, hn9⟩, cN⟩ := c_DrawName c hc
    obtain ⟨f1, f2, f3, f4⟩ := facts hL hn
    have hok2 := bucket_ok (ix := (ixB nm : Int)) hL
    have hB24 := (ok_sorted hok2).1
    have hsl := sidesB_len L 16 (ixB nm) 8
    have c1 : CT Tryd.prog 22 [] [.sl 2 (lvE L), .str nm, .int .i64 0, .int .i64 16] (.tup [.agg [.ref 1, .ref 2], .bool true]) [.row 2 (lvE (bucketL L (ixB nm : Int))), .row 1 (strE (sidesB L 16 (ixB nm) 8))] := c_ProveLeaf L nm 16 8 hL hn (by omega) (by omega)
    have c2 := c_ProofSays (bucketL L (ixB nm : Int)) (sidesB L 16 (ixB nm) 8) nm (by omega)
    rw [bucket_get] at c2
    have c3 := c_sLeafGet L nm (by omega)
    have c4 := c_ProofText (bucketL L (ixB nm : Int)) (sidesB L 16 (ixB nm) 8) 16 f2
    have htl : ((proofText (bucketL L (ixB nm : Int)) (sidesB L 16 (ixB nm) 8)).length : Int) ≤ 1000000000 := by
      have h1 := flat_len (ok_sml hok2) (bucketL L (ixB nm : Int)).length
      rw [List.take_length] at h1
      have h2 := varTextL (n := (bucketL L (ixB nm : Int)).length) (by omega)
      have h3 := varTextL (n := (sidesB L 16 (ixB nm) 8).length) (by omega)
      have h4 := flatten_len (s := sidesB L 16 (ixB nm) 8) (fun x hx => by have := sidesB_wide (by omega) x hx; omega)
      simp only [proofText, leavesText, List.length_append]
      omega
    have c5 := c_ReadProof (proofText (bucketL L (ixB nm : Int)) (sidesB L 16 (ixB nm) 8)) 16 htl
    rw [f4] at c5
    have c6 := c_ProofTexts nm (bucketL L (ixB nm : Int)) (sidesB L 16 (ixB nm) 8) 16 f1
    have htx := textsB_len nm (bucketL L (ixB nm : Int)) (sidesB L 16 (ixB nm) 8) 16
    rw [hsl] at htx
    have c7 := c_ProofOk nm (bucketL L (ixB nm : Int)) (sidesB L 16 (ixB nm) 8) 16 (by omega) (by omega) (ok_sml hok2).fit (name_le hok2) (by omega)
    rw [f1] at c7
    have c8 := c_ProofHash nm (bucketL L (ixB nm : Int)) (sidesB L 16 (ixB nm) 8) 16 f1
    rw [f3] at c8
    have c9 := c_sRootOf L 16 hL (by omega)
    have c10 := c_sameProof (bucketL L (ixB nm : Int)) (bucketL L (ixB nm : Int)) (sidesB L 16 (ixB nm) 8) (sidesB L 16 (ixB nm) 8) (by omega) (by omega) (by omega) (by omega)
    rw [decide_eq_true rfl, decide_eq_true rfl] at c10
    simp only [pfGet, Option.isSome_some] at c5
    clear f1 f2 f3 f4 htl hok2 hsl hB24
    generalize proofText (bucketL L (ixB nm : Int)) (sidesB L 16 (ixB nm) 8) = tx at c4 c5
    generalize textsB nm (bucketL L (ixB nm : Int)) (sidesB L 16 (ixB nm) 8) 16 = X at c6 htx
    generalize bucketL L (ixB nm : Int) = B at c1 c2 c4 c5 c6 c7 c8 c10
    generalize sidesB L 16 (ixB nm) 8 = S at c1 c2 c4 c5 c6 c7 c8 c10
    generalize nodeB L 16 8 0 = rt at c8 c9
    generalize (leafGet L nm).getD [] = v at c2 c3
    generalize (leafGet L nm).isSome = b at c2 c3
    have hXl := strE_len X
    refine ct_intro tt_ok 1 rfl Tryd.func4 rfl rfl rfl ?_
    repeat ((try conv => whnf); first | (refine c_call ([]) (cb) (by ((repeat' (first | (exact trivial) | (exact rfl) | (refine And.intro ?_ ?_))); first | done | fail)) (by ((repeat' (first | (exact trivial) | (exact rfl) | (refine And.intro ?_ ?_))); first | done | fail)) (by decide) (by rfl) (by first | exact .inl rfl | (refine .inr ⟨?_, ?_⟩ <;> simp [own2, own1, own0, ownE])) ?_) | (refine c_call ([]) (cL) (by ((repeat' (first | (exact trivial) | (exact rfl) | (refine And.intro ?_ ?_))); first | done | fail)) (by ((repeat' (first | (exact trivial) | (exact rfl) | (refine And.intro ?_ ?_))); first | done | fail)) (by decide) (by rfl) (by first | exact .inl rfl | (refine .inr ⟨?_, ?_⟩ <;> simp [own2, own1, own0, ownE])) ?_) | (refine c_call ([]) (cN) (by ((repeat' (first | (exact trivial) | (exact rfl) | (refine And.intro ?_ ?_))); first | done | fail)) (by ((repeat' (first | (exact trivial) | (exact rfl) | (refine And.intro ?_ ?_))); first | done | fail)) (by decide) (by rfl) (by first | exact .inl rfl | (refine .inr ⟨?_, ?_⟩ <;> simp [own2, own1, own0, ownE])) ?_) | (refine c_call ([]) (c1) (by ((repeat' (first | (exact trivial) | (exact rfl) | (refine And.intro ?_ ?_))); first | done | fail)) (by ((repeat' (first | (exact trivial) | (exact rfl) | (refine And.intro ?_ ?_))); first | done | fail)) (by decide) (by rfl) (by first | exact .inl rfl | (refine .inr ⟨by simp [own2, own1, own0], fun e he => ?_⟩; simp only [List.mem_cons, List.not_mem_nil, or_false] at he <;> first | exact he.elim | (subst he; (first | exact own_lvE _ | exact own_strE _)) | (rcases he with rfl | rfl <;> (first | exact own_lvE _ | exact own_strE _)))) ?_) | (refine c_call ([]) (c2) (by ((repeat' (first | (exact trivial) | (exact rfl) | (refine And.intro ?_ ?_))); first | done | fail)) (by ((repeat' (first | (exact trivial) | (exact rfl) | (refine And.intro ?_ ?_))); first | done | fail)) (by decide) (by rfl) (by first | exact .inl rfl | (refine .inr ⟨by simp [own2, own1, own0], fun e he => ?_⟩; simp only [List.mem_cons, List.not_mem_nil, or_false] at he <;> first | exact he.elim | (subst he; (first | exact own_lvE _ | exact own_strE _)) | (rcases he with rfl | rfl <;> (first | exact own_lvE _ | exact own_strE _)))) ?_) | (refine c_call ([]) (c3) (by ((repeat' (first | (exact trivial) | (exact rfl) | (refine And.intro ?_ ?_))); first | done | fail)) (by ((repeat' (first | (exact trivial) | (exact rfl) | (refine And.intro ?_ ?_))); first | done | fail)) (by decide) (by rfl) (by first | exact .inl rfl | (refine .inr ⟨by simp [own2, own1, own0], fun e he => ?_⟩; simp only [List.mem_cons, List.not_mem_nil, or_false] at he <;> first | exact he.elim | (subst he; (first | exact own_lvE _ | exact own_strE _)) | (rcases he with rfl | rfl <;> (first | exact own_lvE _ | exact own_strE _)))) ?_) | (refine c_call ([]) (c4) (by ((repeat' (first | (exact trivial) | (exact rfl) | (refine And.intro ?_ ?_))); first | done | fail)) (by ((repeat' (first | (exact trivial) | (exact rfl) | (refine And.intro ?_ ?_))); first | done | fail)) (by decide) (by rfl) (by first | exact .inl rfl | (refine .inr ⟨by simp [own2, own1, own0], fun e he => ?_⟩; simp only [List.mem_cons, List.not_mem_nil, or_false] at he <;> first | exact he.elim | (subst he; (first | exact own_lvE _ | exact own_strE _)) | (rcases he with rfl | rfl <;> (first | exact own_lvE _ | exact own_strE _)))) ?_) | (refine c_call ([]) (c5) (by ((repeat' (first | (exact trivial) | (exact rfl) | (refine And.intro ?_ ?_))); first | done | fail)) (by ((repeat' (first | (exact trivial) | (exact rfl) | (refine And.intro ?_ ?_))); first | done | fail)) (by decide) (by rfl) (by first | exact .inl rfl | (refine .inr ⟨by simp [own2, own1, own0], fun e he => ?_⟩; simp only [List.mem_cons, List.not_mem_nil, or_false] at he <;> first | exact he.elim | (subst he; (first | exact own_lvE _ | exact own_strE _)) | (rcases he with rfl | rfl <;> (first | exact own_lvE _ | exact own_strE _)))) ?_) | (refine c_call ([]) (c6) (by ((repeat' (first | (exact trivial) | (exact rfl) | (refine And.intro ?_ ?_))); first | done | fail)) (by ((repeat' (first | (exact trivial) | (exact rfl) | (refine And.intro ?_ ?_))); first | done | fail)) (by decide) (by rfl) (by first | exact .inl rfl | (refine .inr ⟨by simp [own2, own1, own0], fun e he => ?_⟩; simp only [List.mem_cons, List.not_mem_nil, or_false] at he <;> first | exact he.elim | (subst he; (first | exact own_lvE _ | exact own_strE _)) | (rcases he with rfl | rfl <;> (first | exact own_lvE _ | exact own_strE _)))) ?_) | (refine c_call ([]) (c7) (by ((repeat' (first | (exact trivial) | (exact rfl) | (refine And.intro ?_ ?_))); first | done | fail)) (by ((repeat' (first | (exact trivial) | (exact rfl) | (refine And.intro ?_ ?_))); first | done | fail)) (by decide) (by rfl) (by first | exact .inl rfl | (refine .inr ⟨by simp [own2, own1, own0], fun e he => ?_⟩; simp only [List.mem_cons, List.not_mem_nil, or_false] at he <;> first | exact he.elim | (subst he; (first | exact own_lvE _ | exact own_strE _)) | (rcases he with rfl | rfl <;> (first | exact own_lvE _ | exact own_strE _)))) ?_) | (refine c_call ([]) (c8) (by ((repeat' (first | (exact trivial) | (exact rfl) | (refine And.intro ?_ ?_))); first | done | fail)) (by ((repeat' (first | (exact trivial) | (exact rfl) | (refine And.intro ?_ ?_))); first | done | fail)) (by decide) (by rfl) (by first | exact .inl rfl | (refine .inr ⟨by simp [own2, own1, own0], fun e he => ?_⟩; simp only [List.mem_cons, List.not_mem_nil, or_false] at he <;> first | exact he.elim | (subst he; (first | exact own_lvE _ | exact own_strE _)) | (rcases he with rfl | rfl <;> (first | exact own_lvE _ | exact own_strE _)))) ?_) | (refine c_call ([]) (c9) (by ((repeat' (first | (exact trivial) | (exact rfl) | (refine And.intro ?_ ?_))); first | done | fail)) (by ((repeat' (first | (exact trivial) | (exact rfl) | (refine And.intro ?_ ?_))); first | done | fail)) (by decide) (by rfl) (by first | exact .inl rfl | (refine .inr ⟨by simp [own2, own1, own0], fun e he => ?_⟩; simp only [List.mem_cons, List.not_mem_nil, or_false] at he <;> first | exact he.elim | (subst he; (first | exact own_lvE _ | exact own_strE _)) | (rcases he with rfl | rfl <;> (first | exact own_lvE _ | exact own_strE _)))) ?_) | (refine c_call ([]) (c10) (by ((repeat' (first | (exact trivial) | (exact rfl) | (refine And.intro ?_ ?_))); first | done | fail)) (by ((repeat' (first | (exact trivial) | (exact rfl) | (refine And.intro ?_ ?_))); first | done | fail)) (by decide) (by rfl) (by first | exact .inl rfl | (refine .inr ⟨by simp [own2, own1, own0], fun e he => ?_⟩; simp only [List.mem_cons, List.not_mem_nil, or_false] at he <;> first | exact he.elim | (subst he; (first | exact own_lvE _ | exact own_strE _)) | (rcases he with rfl | rfl <;> (first | exact own_lvE _ | exact own_strE _)))) ?_) | (refine Exists.intro X.length (And.intro hXl ?_)) | (refine cb_t (decide_eq_true rfl) ?_) | (refine And.intro rfl ?_) | (refine w_addn (by omega) ?_) | (refine w_subn (by omega) ?_) | (refine w_add (by omega) ?_) | (refine w_sub (by omega) ?_) | (refine w_any (by omega) ?_) | (refine Exists.intro _ (And.intro rfl ?_)) | (with_reducible (refine cb_t rfl ?_)) | (with_reducible (refine cb_f rfl ?_)) | (refine cb_dt (by omega) ?_) | (refine cb_df (by omega) ?_) | (refine cb_nt (by omega) ?_) | (refine cb_nf (by omega) ?_) | (refine cb_t (by assumption) ?_) | (refine cb_f (by assumption) ?_) | (refine i_lt (by omega) ?_) | (refine i_le (by omega) ?_) | (refine i_cut (by omega) ?_) | (refine And.intro (by omega) ?_) | (refine And.intro trivial ?_) | (refine And.intro (by decide) ?_) | (refine And.intro (Nat.le_of_ble_eq_true rfl) ?_))
    (refine ans_auto (by rfl) ?_ ?_ (by rfl)) <;> (repeat' (first | (exact trivial) | (with_reducible rfl) | (exact (rfl : _ = true)) | (exact (rfl : _ = some _)) | (exact (rfl : _ = none)) | (refine And.intro ?_ ?_) | ((show (_ : Int) = _); omega) | ((fail_if_success (with_reducible (show _ = _))); (show _ = _))))
    exact decide_eq_true (by rw [htx]; rfl)
  · refine ct_intro tt_ok 1 rfl Tryd.func4 rfl rfl rfl ?_
    repeat ((try conv => whnf); first | (refine c_call ([]) (cb) (by ((repeat' (first | (exact trivial) | (exact rfl) | (refine And.intro ?_ ?_))); first | done | fail)) (by ((repeat' (first | (exact trivial) | (exact rfl) | (refine And.intro ?_ ?_))); first | done | fail)) (by decide) (by rfl) (by first | exact .inl rfl | (refine .inr ⟨?_, ?_⟩ <;> simp [own2, own1, own0, ownE])) ?_) | (refine And.intro rfl ?_) | (refine w_addn (by omega) ?_) | (refine w_subn (by omega) ?_) | (refine w_add (by omega) ?_) | (refine w_sub (by omega) ?_) | (refine w_any (by omega) ?_) | (refine Exists.intro _ (And.intro rfl ?_)) | (with_reducible (refine cb_t rfl ?_)) | (with_reducible (refine cb_f rfl ?_)) | (refine cb_dt (by omega) ?_) | (refine cb_df (by omega) ?_) | (refine cb_nt (by omega) ?_) | (refine cb_nf (by omega) ?_) | (refine cb_t (by assumption) ?_) | (refine cb_f (by assumption) ?_) | (refine i_lt (by omega) ?_) | (refine i_le (by omega) ?_) | (refine i_cut (by omega) ?_) | (refine And.intro (by omega) ?_) | (refine And.intro trivial ?_) | (refine And.intro (by decide) ?_) | (refine And.intro (Nat.le_of_ble_eq_true rfl) ?_))
    (refine ans_auto (by rfl) ?_ ?_ (by rfl)) <;> (repeat' (first | (exact trivial) | (with_reducible rfl) | (exact (rfl : _ = true)) | (exact (rfl : _ = some _)) | (exact (rfl : _ = none)) | (refine And.intro ?_ ?_) | ((show (_ : Int) = _); omega) | ((fail_if_success (with_reducible (show _ = _))); (show _ = _))))
end
/-- The walk. -/
theorem walk (a : Option Addr) (len cap : Nat) (zs : List Int) (w : World) (hg : Gl (cx0 w)) (h : IsRow .u8 w a len cap zs) :
    Calls Tryd.prog 4 #[.slice a len cap] w fun e w' => e = .returned (.bool true) ∧ Below w.heap.size w w' := by
  obtain ⟨c, _, hr⟩ := isRow_rv h
  exact ct_walk (c_law c) w hg (vs := [.slice a len cap]) ⟨_, [], rfl, hr, rfl⟩

/-! ### the row's step -/
theorem gS : Tryd.prog.globalNamed "loop.example/g00284/impl.startWords" = some 0 := by kernel_rfl
theorem gR : Tryd.prog.globalNamed "loop.example/g00284/impl.roundWords" = some 1 := by kernel_rfl
theorem tS : (Tryd.prog.globals[0]?).map (·.type) = some 218 := by kernel_rfl
theorem tR : (Tryd.prog.globals[1]?).map (·.type) = some 245 := by kernel_rfl
theorem uS : Tryd.prog.underlying 218 = some (.array 8 217) := by kernel_rfl
theorem uR : Tryd.prog.underlying 245 = some (.array 64 217) := by kernel_rfl
theorem uU : Tryd.prog.underlying 217 = some (.int .u32) := by kernel_rfl
theorem cU : Tryd.prog.cellsOf 217 = 1 := by kernel_rfl
theorem cS : Tryd.prog.cellsOf 218 = 8 := by kernel_rfl
theorem cR : Tryd.prog.cellsOf 245 = 64 := by kernel_rfl
theorem tab_heap {W : World} {name : String} {zs : List Int} {g : Nat} (h : Lib.TabIs Tryd.prog W name .u32 zs) (hg : Tryd.prog.globalNamed name = some g) : ∃ C t fr, W.heap[g]? = some (.cells C t fr) ∧ C.toList = zs.map fun z => Value.int .u32 z := by
  unfold Lib.TabIs World.var? at h
  rw [hg] at h
  simp only [Option.bind_some] at h
  cases hh : W.heap[g]? with
  | none => rw [hh] at h; cases h
  | some o =>
    rw [hh] at h
    cases o with
    | cells C t fr => exact ⟨C, t, fr, rfl, by have := Option.some.inj h; rw [this]⟩
    | _ => cases h
theorem glob_rl (ow : Own) (w : World) : ∀ zs : List Int, RL ow w (globT zs) (zs.map fun z => Value.int .u32 z)
  | [] => by simp [globT, RL]
  | z :: zs => by
    have ih := glob_rl ow w zs
    simp only [globT, List.map_cons, RL] at ih ⊢
    exact ⟨_, _, rfl, by simp [RV], ih⟩
theorem gl_of {W : World} (hL : laidMet Tryd.prog [("loop.example/g00284/impl.roundWords", Lib.tabData .u32 roundZ), ("loop.example/g00284/impl.startWords", Lib.tabData .u32 startZ)] W) : Gl (cx0 W) := by
  have hR := Lib.tabIs_of_head gR tR uR uU cU cR hL
  have hS := Lib.tabIs_of_head gS tS uS uU cU cS (laidMet.tail hL)
  obtain ⟨CR, tr, fr, hr, er⟩ := tab_heap hR gR
  obtain ⟨CS, ts, fs, hs, es⟩ := tab_heap hS gS
  intro g cs hg
  unfold glob at hg
  cases h1 : Nat.beq g 0 with
  | true =>
    rw [h1] at hg
    have e := Nat.eq_of_beq_eq_true h1
    subst e
    injection hg with hg; subst hg
    exact ⟨rfl, CS, ts, fs, hs, by rw [es]; exact glob_rl _ _ _⟩
  | false =>
    rw [h1] at hg
    cases h2 : Nat.beq g 1 with
    | true =>
      rw [h2] at hg
      have e := Nat.eq_of_beq_eq_true h2
      subst e
      injection hg with hg; subst hg
      exact ⟨rfl, CR, tr, fr, hr, by rw [er]; exact glob_rl _ _ _⟩
    | false => rw [h2] at hg; cases hg
/-- The door's own heap meets the condition. -/
theorem door_met (os : Os) (args : Array Value) : laidMetH Tryd.prog Rows.fnProofsRow.laid ((World.doorLaid Tryd.prog 400 os).forCall (fun _ _ => 0) ⟨#[], args, []⟩).memory :=
  laidMetH_of_parts3 (fuel := 8) (laidMet_of_run' 8 (by kernel_rfl) (by kernel_rfl)) (by kernel_rfl) (by kernel_rfl)
set_option maxRecDepth 100000 in
theorem lifted (os : Os) (started : os.Started) (H : Type) (enc : TypeId × Value → H) :
    ReturnsInHanded {} Tryd.checked os 4 .any (fun w args => (Rows.fnProofsSpec.pre enc Tryd.prog Tryd.f4 [] false w args ∧ laidMetH Tryd.prog Rows.fnProofsRow.laid w) ∧ sizedMet enc Tryd.prog Tryd.f4 (OpenSpec.ofChange Rows.fnProofsSpec) false w args) (Rows.fnProofsSpec.post enc Tryd.prog Tryd.f4 false true false false) := by
  refine returnsInHanded_of_change_and (C := Tryd.checked) (X := fun w _ => laidMetH Tryd.prog Rows.fnProofsRow.laid w) (fun _ _ _ hh h => h.of_heap hh) own started (by kernel_rfl) Tryd.func4
    (ChangeSpec.witness_shaped (enc := enc) (C := Tryd.checked) (os := os) (X := fun w _ => laidMetH Tryd.prog Rows.fnProofsRow.laid w) false (World.doorLaid Tryd.prog 400 os) #[.slice none 0 0] 8 rfl (World.shaped_of_RefB (by kernel_rfl) (by kernel_rfl)) (by kernel_rfl) (by kernel_rfl) (by kernel_rfl) (door_met os _)) ?_
  intro W base args ds gs before hval0 hW _ _ hL0 _
  have hL1 : laidMet Tryd.prog Rows.fnProofsRow.laid W := by rwa [MakeChecks.laidMetH_plain _ _ _ (by kernel_rfl)] at hL0
  have hgl := gl_of (show laidMet Tryd.prog [("loop.example/g00284/impl.roundWords", Lib.tabData .u32 roundZ), ("loop.example/g00284/impl.startWords", Lib.tabData .u32 startZ)] W from hL1)
  have hval : ∀ (j : Nat) t v, Tryd.f4.params[j]? = some t → args[j]? = some v → Value.okWide Tryd.prog W .any base t v := hval0
  have hW' := hW
  obtain ⟨p, q, hA0, hV, rfl, hfz, hnd⟩ := hW
  have hA : DataW.TrodAll enc Tryd.prog W 0 (fun _ => true) true Tryd.f4.params.toList args.toList ds p := hA0
  rw [Tryd.params4] at hA hval
  obtain ⟨v0, vs0, d0, ds0, p0, q0, hargs, rfl, rfl, h0, r0⟩ := trodAll_cons hA
  obtain ⟨rfl, rfl, rfl⟩ := trodAll_nil r0
  obtain rfl : args = #[v0] := by cases args; simp_all
  have hV0 : DataW.TrodVars enc Tryd.prog W (fun _ => true) Rows.fnProofsSpec.vars gs q := hV
  obtain ⟨gA, tA, csA, fA, dA, pA, gB, tB, csB, fB, dB, pB, rfl, _, _, _, _, _, _, _, _, _⟩ := trodVars_two hV0
  obtain ⟨a0, len0, cap0, rfl⟩ := okWide_slice Tryd.underlying22 (hval 0 22 v0 rfl rfl)
  have k0 := h0
  have lt0 : ∀ x ∈ p0, x.block < W.heap.size := by obtain ⟨m, hm⟩ := k0; exact DataW.trod_lt m _ _ _ hm
  obtain ⟨z0, w0⟩ : ∃ zs, IsRow .u8 W a0 len0 cap0 zs := by
    obtain ⟨fuel, hf⟩ := h0
    rcases open_ints Tryd.underlying22 Tryd.underlying5 (by kernel_rfl) hf with ⟨hcs, _⟩ | ⟨x, l, c, zs, hcs, hlt, hl, hm, hz, _, hcell, hwz⟩
    · simp [Value.cells] at hcs
      obtain ⟨rfl, rfl, rfl⟩ := hcs
      exact ⟨[], .inl ⟨rfl, rfl, rfl, rfl⟩⟩
    · simp [Value.cells] at hcs
      obtain ⟨rfl, rfl, rfl⟩ := hcs
      exact ⟨zs, .inr ⟨_, rfl, hl, hm, by simpa using hz, hcell, hwz⟩⟩
  clear hA0 hval0 hV
  refine (walk a0 len0 cap0 z0 W hgl w0).mono fun e W' ⟨he, bel⟩ => ?_
  subst he
  exact ⟨_, rfl, _, _, _, [], _, q, hW', trodAll_mk1 (shut_bool Tryd.underlying4 _), (trodAll_cons_mk (Below.trod laidOut (by kernel_rfl) (of_decide_eq_true (by kernel_rfl)) k0 bel lt0) trodAll_mk0), Below.trodVars laidOut bel (by kernel_rfl) hV0, bel.frame _, fun h => by cases h⟩

theorem over : Rows.fnProofsRow.holds Tryd.pinned (OpenSpec.ofChange Rows.fnProofsSpec) :=
  OpenClaim.holds_of_wide 4 Tryd.f4 rfl rfl rfl rfl rfl rfl rfl ⟨rfl, rfl, rfl, rfl, rfl⟩ rfl rfl rfl rfl rfl (by kernel_rfl) Tryd.func4 (by kernel_rfl)
    (of_decide_eq_true (by kernel_rfl)) (by unfold Func.isWrapper; first | (rw [if_pos (by decide +kernel)]; kernel_rfl) | (rw [if_neg (by decide +kernel)]; exact ⟨rfl, rfl⟩))
    (fun os started H enc _ => lifted os started H enc)

/-- The statement: the row's card, tied to the program's text. -/
theorem proved : Rows.FnProofsCardSaid :=
  Claim7.holds_tied_plain_at .later [] [.data, .data] true Rows.fnProofsCard.stood.harness false
    over (fun _ h => by cases h) (by kernel_rfl) (fun _ h => by cases h) fnProofs_row_tie rfl ⟨rfl, rfl⟩ (by kernel_rfl) rfl
    (fun f fn hf hfn => by
      obtain rfl : f = 4 := Option.some.inj ((show Tryd.prog.funcNamed "loop.example/g00284/laws.FnProofs" = some 4 by kernel_rfl).symm.trans hf) |>.symm
      obtain rfl : fn = Tryd.f4 := (Option.some.inj (Tryd.func4.symm.trans hfn)).symm
      exact ⟨by kernel_rfl, fun j t ht => by
        rw [Tryd.params4] at ht
        have hm := Array.mem_of_getElem? ht
        have hall : (Tryd.f4.params.all fun u => !Tryd.prog.wantsStandIn u) = true := by kernel_rfl
        rw [Tryd.params4] at hall
        have := Array.all_eq_true_iff_forall_mem.1 hall t hm
        exact (show Tryd.prog.wantsStandIn t = false by simpa using this)⟩)
    (by kernel_rfl)
#print axioms proved
end Go.Proofs.YtigfpjnjjndenaaDoor.fnProofs
