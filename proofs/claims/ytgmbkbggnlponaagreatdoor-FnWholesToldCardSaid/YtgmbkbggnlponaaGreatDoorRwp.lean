/- Plain: complete proofs of good content and their texts. -/
import Derived.Test.YtgmbkbggnlponaaGreatDoorPco
namespace Go.Proofs.YtgmbkbggnlponaaGreatDoor
set_option linter.unusedVariables false
set_option linter.unusedSimpArgs false
set_option linter.unusedSectionVars false
open Go.RowKit Pl
structure WhGood (x : Wh) : Prop where
 pf : z0J x.B x.S 16 = true
 tl : x.T.length ≤ 2
 tw : ∀ y ∈ x.T, y.length = 16
 hd : x.hd.good
 sg : x.sg.good
 sl : x.st.length ≤ 3
 sh : ∀ y ∈ x.st, y.1 ≤ 2 ∧ y.2.good
def stL : List (Nat × Sg) → Bs
 | [] => []
 | y :: l => UInt8.ofNat y.1 :: (sigB y.2 ++ stL l)
def z1V (x : Wh) : Bs := z0e (z0l x.B x.S) ++ (z0g x.T.length ++ (x.T.flatten ++ (z0e (z12 x.hd x.sg) ++ (z0g x.st.length ++ stL x.st))))
theorem z9d : ∀ {l : List (Nat × Sg)}, (∀ y ∈ l, y.2.good) → (stL l).length = 322 * l.length
 | [], _ => rfl
 | y :: l, h => by
   have ih := z9d (l := l) fun z hz => h z (by simp [hz])
   have hs := z1Y (h y (by simp))
   simp only [stL, List.length_cons, List.length_append]
   omega
theorem zhf {l : List (Nat × Sg)} {i : Nat} (h : i < l.length) : stL (l.drop i) = [UInt8.ofNat l[i].1] ++ (sigB l[i].2 ++ stL (l.drop (i + 1))) := by
 rw [List.drop_eq_getElem_cons h]; rfl
theorem zbM : ∀ (a b : List (Nat × Sg)), stL (a ++ b) = stL a ++ stL b
 | [], b => rfl
 | y :: a, b => by simp only [List.cons_append, stL, zbM a b, List.append_assoc]
def stD (l : List (Nat × Sg)) : List (List T) := l.map fun y => [.int .i64 (y.1 : Int), .int .i64 (y.2.a : Int), .own 1 (strE y.2.op), .own 1 (strE y.2.sh), .own 1 (strE y.2.si)]
theorem zie (l : List (Nat × Sg)) : (stD l).length = l.length := by simp [stD]
theorem zgG {l : List (Nat × Sg)} {i : Nat} (h : i < l.length) : stD (l.take (i + 1)) = stD (l.take i) ++ [[.int .i64 (l[i].1 : Int), .int .i64 (l[i].2.a : Int), .own 1 (strE l[i].2.op), .own 1 (strE l[i].2.sh), .own 1 (strE l[i].2.si)]] := by
 rw [List.take_succ_eq_append_getElem h]; simp only [stD, List.map_append, List.map_cons, List.map_nil]
def whDp (x : Wh) : List Ent := [.deep 2 (lvE x.B) [], .deep 1 (strE x.S) [], .deep 1 (strE x.T) [], .deep 1 (strE x.sg.op) [], .deep 1 (strE x.sg.sh) [], .deep 1 (strE x.sg.si) [], .deep 5 (stD x.st) []]
def whRp (x : Wh) : List T := [.ref 1, .ref 2, .ref 3, .int .i64 (x.hd.ho : Int), .int .i64 (x.hd.ep : Int), .str x.hd.ro, .str x.hd.pr, .int .i64 (x.sg.a : Int), .ref 4, .ref 5, .ref 6, .ref 7]
end Go.Proofs.YtgmbkbggnlponaaGreatDoor
