/- One operation, told by content: the operations that call nobody. -/
import Derived.Test.YtkdajahiaedoiaaV2
namespace Go.Proofs.Ytkdajahiaedoiaa
open Go.RowKit Pl
set_option linter.unusedVariables false
set_option linter.unusedSectionVars false

abbrev Upd := List (Nat × Option Ent)
abbrev Kon := T → Upd → Prop
def updL (H : Hp) : Upd → Hp
  | [] => H
  | (r, e) :: l => updL (updE H r e) l
def forceT (x : T) (K : T → Prop) : Prop := match x with
  | .int k n => K (.int k n)
  | .bool b => K (.bool b)
  | .str s => K (.str s)
  | .val v => K (.val v)
  | .agg cs => K (.agg cs)
  | .tup cs => K (.tup cs)
  | .sl k es => K (.sl k es)
  | .ref r => K (.ref r)
  | .ptr r i j => K (.ptr r i j)
  | .rptr c j => K (.rptr c j)
  | .any => K .any
theorem forceT_eq {x : T} {K : T → Prop} (h : forceT x K) : K x := by cases x <;> exact h
/-- A branch on a bool. -/
def CondB (b : Bool) (p q : Prop) : Prop := (b = true → p) ∧ (b = false → q)
def CondT (t : T) (p q : Prop) : Prop := match t with
  | .bool b => CondB b p q
  | _ => False
def opnds : Op → List Operand
  | .move x | .assign x | .box _ x | .load _ x | .nilCheck x | .unOp _ _ x | .convert _ _ x | .fieldAddr _ x _ | .field _ x _ | .extract x _ => [x]
  | .pick c a b => [c, a, b]
  | .build _ ps | .buildSlice _ _ ps => ps.toList.map (·.2)
  | .store _ a v | .binOp _ _ a v _ | .makeSlice _ a v | .indexAddr _ a v | .index _ a v => [a, v]
  | .slice _ x l h m => x :: (l.toList ++ h.toList ++ m.toList)
  | .call c => (match c.callee with | .value f => [f] | _ => []) ++ c.args.toList
  | _ => []
def cellsT : T → Option (List T)
  | .agg cs => some cs
  | .any => none
  | .tup _ => none
  | x => some [x]
def byteE (b : UInt8) : List T := [.int .u8 (b.toNat : Int)]
def bytesE (l : Bs) : List (List T) := l.map byteE

/-- Two operands. -/
def binT (op : BinOp) (x y : T) (K : T → Prop) : Prop := match x, y with
  | .int k a, .int k' b => match op with
    | .shl => 0 ≤ b ∧ b ≤ (k.bits : Int) ∧ ∃ r, r = k.wrap (a * 2 ^ b.toNat) ∧ K (.int k r)
    | .shr => 0 ≤ b ∧ b ≤ (k.bits : Int) ∧ ∃ r, r = a / 2 ^ b.toNat ∧ K (.int k r)
    | .add => k = k' ∧ ∃ r, r = k.wrap (a + b) ∧ K (.int k r)
    | .sub => k = k' ∧ ∃ r, r = k.wrap (a - b) ∧ K (.int k r)
    | .mul => k = k' ∧ ∃ r, r = k.wrap (a * b) ∧ K (.int k r)
    | .quo => k = k' ∧ b ≠ 0 ∧ ∃ r, r = k.wrap (a.tdiv b) ∧ K (.int k r)
    | .rem => k = k' ∧ b ≠ 0 ∧ ∃ r, r = a.tmod b ∧ K (.int k r)
    | .and => k = k' ∧ ∃ r, r = bits .and k a b ∧ K (.int k r)
    | .or => k = k' ∧ ∃ r, r = bits .or k a b ∧ K (.int k r)
    | .xor => k = k' ∧ ∃ r, r = bits .xor k a b ∧ K (.int k r)
    | .andNot => k = k' ∧ ∃ r, r = bits .andNot k a b ∧ K (.int k r)
    | .eql => k = k' ∧ K (.bool (decide (a = b)))
    | .neq => k = k' ∧ K (.bool (!decide (a = b)))
    | .lss => k = k' ∧ K (.bool (decide (a < b)))
    | .leq => k = k' ∧ K (.bool (decide (a ≤ b)))
    | .gtr => k = k' ∧ K (.bool (decide (b < a)))
    | .geq => k = k' ∧ K (.bool (decide (b ≤ a)))
  | .str a, .str b => match op with
    | .add => ((a.length + b.length : Nat) : Int) ≤ 9223372036854775807 ∧ K (.str (a ++ b))
    | .eql => K (.bool (decide (a = b)))
    | .neq => K (.bool (!decide (a = b)))
    | .lss => K (.bool (Op.bytesLess a b))
    | .leq => K (.bool (Op.bytesLess a b || decide (a = b)))
    | .gtr => K (.bool (!(Op.bytesLess a b || decide (a = b))))
    | .geq => K (.bool (!Op.bytesLess a b))
    | _ => False
  | _, _ => False
/-- Structs, compared cell by cell. -/
def eqC : List T → List T → Bool
  | [], [] => true
  | .int _ a :: xs, .int _ b :: ys => decide (a = b) && eqC xs ys
  | .bool a :: xs, .bool b :: ys => decide (a = b) && eqC xs ys
  | .str a :: xs, .str b :: ys => decide (a = b) && eqC xs ys
  | _, _ => false
def sameK : List T → List T → Bool
  | [], [] => true
  | .int k _ :: zs, .int k' _ :: xs => decide (k = k') && sameK zs xs
  | .bool _ :: zs, .bool _ :: xs => sameK zs xs
  | .str _ :: zs, .str _ :: xs => sameK zs xs
  | _, _ => false
def eqT (tt : TT) (op : BinOp) (t : TypeId) (xs ys : List T) (K : T → Prop) : Prop := match tt t with
  | some y => y.cmp = true ∧ sameK y.zero xs = true ∧ sameK y.zero ys = true ∧ (match op with
    | .eql => K (.bool (eqC xs ys))
    | .neq => K (.bool (!eqC xs ys))
    | _ => False)
  | none => False
def eqB (tt : TT) (op : BinOp) (t : TypeId) (a b : Bool) (K : T → Prop) : Prop := match tt t with
  | some y => match y.d with
    | .bool => (match op with
      | .eql => K (.bool (decide (a = b)))
      | .neq => K (.bool (!decide (a = b)))
      | _ => False)
    | _ => False
  | none => False
def unT (op : UnOp) (x : T) (K : T → Prop) : Prop := match op, x with
  | .not, .bool b => K (.bool (!b))
  | .neg, .int k n => ∃ r, r = k.wrap (0 - n) ∧ K (.int k r)
  | .xor, .int k n => ∃ r, r = bits .xor k (if k.signed then -1 else k.max) n ∧ K (.int k r)
  | _, _ => False
/-- The cells of one variable, read. -/
def forceSp {α : Type} (l : List α) (K : List α → Prop) : Prop := match l with
  | [] => K []
  | x :: l => forceSp l fun l => K (x :: l)
theorem forceSp_eq {α : Type} : ∀ {l : List α} {K : List α → Prop}, forceSp l K → K l
  | [], _, h => h
  | x :: l, K, h => forceSp_eq (K := fun l => K (x :: l)) h
theorem forceSp_mk {α : Type} : ∀ {l : List α} {K : List α → Prop}, K l → forceSp l K
  | [], _, h => h
  | x :: l, K, h => forceSp_mk (K := fun l => K (x :: l)) h
def loadT (y : Ty) (cs : List T) (j : Nat) (K : T → Prop) : Prop :=
  bif y.d.agg then forceSp ((cs.drop j).take y.sz) fun xs => xs.length = y.sz ∧ K (.agg xs) else ∃ c, cs[j]? = some c ∧ forceT c K
/-- The cells of parts, overwritten. -/
def fillT (place : Nat → Option (Nat × Nat)) (cells : List T) : List (Nat × T) → Option (List T)
  | [] => some cells
  | (i, x) :: l => match place i, cellsT x with
    | some (o, sz), some xs => bif Nat.beq xs.length sz && Nat.ble (o + sz) cells.length then fillT place (ovl cells o xs) l else none
    | _, _ => none
def placeS (tt : TT) (fs : List (Nat × TypeId)) (i : Nat) : Option (Nat × Nat) := match fs[i]? with
  | some (o, ft) => match tt ft with
    | some y => some (o, y.sz)
    | none => none
  | none => none
/-- A row that the call owns, as a slice that is only read: its number is given up. -/
def frz (H : Hp) : List T → Option (List T × List Nat)
  | [] => some ([], [])
  | c :: cs => match frz H cs with
    | some (ds, rs) => match c with
      | .ref r => match H r with
        | some (.row k es) => some (.sl k es :: ds, r :: rs)
        | _ => none
      | .int k n => some (.int k n :: ds, rs)
      | .bool b => some (.bool b :: ds, rs)
      | .str s => some (.str s :: ds, rs)
      | .val v => some (.val v :: ds, rs)
      | .sl k es => some (.sl k es :: ds, rs)
      | _ => none
    | none => none
/-- Elements put into a row. -/
def fillE (H : Hp) (sz : Nat) (es : List (List T)) (gone : List Nat) : List (Nat × T) → Option (List (List T) × List Nat)
  | [] => some (es, gone)
  | (i, x) :: l => match cellsT x with
    | some xs => match frz H xs with
      | some (ys, rs) => bif Nat.beq ys.length sz && Nat.blt i es.length then fillE H sz (es.set i ys) (gone ++ rs) l else none
      | none => none
    | none => none
def goneU (l : List Nat) : Upd := l.map fun r => (r, none)
def zipParts : List (Nat × Operand) → List T → List (Nat × T)
  | (i, _) :: l, x :: xs => (i, x) :: zipParts l xs
  | _, _ => []

def isU8 (tt : TT) (e : TypeId) : Bool := match tt e with
  | some y => match y.d with
    | .int .u8 => true
    | _ => false
  | none => false
def isBytes (tt : TT) (y : Ty) : Bool := match y.d with
  | .slice e => isU8 tt e
  | _ => false
def isStr (y : Ty) : Bool := match y.d with
  | .string => true
  | _ => false
def sliceSz (tt : TT) (y : Ty) : Option Nat := match y.d with
  | .slice e => match tt e with
    | some ye => some ye.sz
    | none => none
  | _ => none
/-- What is appended, and whose row it is. -/
def newsT (tt : TT) (H : Hp) (ye yu : Ty) (z : T) (K : Nat → List (List T) → Prop) : Prop := match z with
  | .ref s => match H s with
    | some (.row k es) => sliceSz tt yu = some k ∧ K k es
    | _ => False
  | .sl k es => sliceSz tt yu = some k ∧ K k es
  | .val v => v = nilV ∧ sliceSz tt yu = some ye.sz ∧ K ye.sz []
  | .str b => isStr yu = true ∧ (match ye.d with | .int .u8 => True | _ => False) ∧ K 1 (bytesE b)
  | _ => False
def appT (tt : TT) (H : Hp) (ye yu : Ty) (x z : T) (K : Nat → List (List T) → List Nat → Prop) : Prop := match x with
  | .val v => v = nilV ∧ newsT tt H ye yu z fun k es => K k es []
  | .ref r => match H r with
    | some (.row k0 es0) => (match z with | .ref s => !Nat.beq s r | _ => true) = true ∧ newsT tt H ye yu z fun k es => k0 = k ∧ K k (es0 ++ es) [r]
    | _ => False
  | _ => False

/-- What an operation asks of the contents, and what it gives. -/
def Eff (tt : TT) (op : Op) (ty : TypeId) (args : List T) (H : Hp) (id : Nat) (K : Kon) : Prop := match op, args with
  | .move _, [x] => forceT x fun x => K x []
  | .assign _, [x] => forceT x fun x => K x []
  | .pick _ _ _, [c, a, b] => CondT c (forceT a fun a => K a []) (forceT b fun b => K b [])
  | .alloc e, [] => match tt e with
    | some y => K (.ptr id 0 0) [(id, some (.box y.zero))]
    | none => False
  | .box e _, [x] => match tt e, cellsT x with
    | some y, some cs => K (.ptr id 0 0) [(id, some (.box cs))]
    | _, _ => False
  | .nilCheck _, [x] => match x with
    | .ptr r i j => K (.ptr r i j) []
    | .rptr c j => K (.rptr c j) []
    | _ => False
  | .fieldAddr st _ f, [x] => match tt st with
    | some y => match y.d with
      | .struct fs => match fs[f]? with
        | some (off, ft) => match tt ft with
          | some yf => yf.sz ≠ 0 ∧ (match x with
            | .ptr r i j => K (.ptr r i (j + off)) []
            | .rptr c j => K (.rptr c (j + off)) []
            | _ => False)
          | none => False
        | none => False
      | _ => False
    | none => False
  | .indexAddr t _ _, [x, i] => match i, tt t with
    | .int _ n, some y => match y.d with
      | .slice e => match tt e with
        | some ye => match x with
          | .ref r => match H r with
            | some (.row k es) => k = ye.sz ∧ ∃ i : Nat, n = i ∧ i < es.length ∧ K (.ptr r i 0) []
            | _ => False
          | .sl k es => k = ye.sz ∧ ∃ (i : Nat) (e : List T), n = i ∧ es[i]? = some e ∧ K (.rptr e 0) []
          | _ => False
        | none => False
      | .array len e => match tt e with
        | some ye => ∃ m : Nat, n = m ∧ m < len ∧ (match x with
          | .ptr r i j => K (.ptr r i (j + m * ye.sz)) []
          | .rptr c j => K (.rptr c (j + m * ye.sz)) []
          | _ => False)
        | none => False
      | _ => False
    | _, _ => False
  | .index t _ _, [x, i] => match i, x, tt t with
    | .int _ n, .str s, some y => match y.d with
      | .string => ∃ i : Nat, n = i ∧ i < s.length ∧ K (.int .u8 ((s.getD i 0).toNat : Int)) []
      | _ => False
    | _, _, _ => False
  | .extract _ i, [x] => match x with
    | .tup cs => match cs[i]? with
      | some c => forceT c fun c => K c []
      | none => False
    | _ => False
  | .load t _, [x] => match tt t with
    | some y => match x with
      | .ptr r i j => match H r with
        | some (.box cs) => i = 0 ∧ loadT y cs j fun c => K c []
        | some (.row k es) => ∃ e, es[i]? = some e ∧ loadT y e j fun c => K c []
        | none => False
      | .rptr c j => loadT y c j fun c => K c []
      | _ => False
    | none => False
  | .store t _ _, [p, x] => match tt t, cellsT x with
    | some y, some xs => xs.length = y.sz ∧ (match p with
      | .ptr r i j => match H r with
        | some (.box cs) => i = 0 ∧ j + y.sz ≤ cs.length ∧ K .any [(r, some (.box (ovl cs j xs)))]
        | some (.row k es) => xs.all (fun c => match c with | .ref _ => false | .ptr _ _ _ => false | .rptr _ _ => false | .any => false | .agg _ => false | .tup _ => false | _ => true) = true ∧ ∃ e, es[i]? = some e ∧ j + y.sz ≤ k ∧ K .any [(r, some (.row k (es.set i (ovl e j xs))))]
        | none => False
      | _ => False)
    | _, _ => False
  | .binOp op t _ _ _, [x, y] => match x, y with
    | .agg xs, .agg ys => eqT tt op t xs ys fun r => K r []
    | .bool a, .bool b => eqB tt op t a b fun r => K r []
    | x, y => binT op x y fun r => K r []
  | .unOp op _ _, [x] => unT op x fun r => K r []
  | .convert src dst _, [x] => match tt src, tt dst with
    | some ys, some yd => match yd.d, x with
      | .int k, .int _ n => ∃ r, r = k.wrap n ∧ K (.int k r) []
      | .string, .str s => K (.str s) []
      | .slice e, .str s => isStr ys = true ∧ isU8 tt e = true ∧ (s.length : Int) ≤ 1000000000 ∧ K (.ref id) [(id, some (.row 1 (bytesE s)))]
      | .string, .ref r => match H r with
        | some (.row _ es) => isBytes tt ys = true ∧ ∃ l, es = bytesE l ∧ K (.str l) []
        | _ => False
      | .string, .sl _ es => isBytes tt ys = true ∧ ∃ l, es = bytesE l ∧ K (.str l) []
      | .string, .val v => isBytes tt ys = true ∧ v = nilV ∧ K (.str []) []
      | _, _ => False
    | _, _ => False
  | .build t parts, xs => match tt t with
    | some y => match y.d with
      | .struct fs => fs.all (fun f => (tt f.2).isSome) = true ∧ (match fillT (placeS tt fs) y.zero (zipParts parts.toList xs) with
        | some cells => K (.agg cells) []
        | none => False)
      | .array _ e => match tt e with
        | some ye => match fillT (fun i => some (i * ye.sz, ye.sz)) y.zero (zipParts parts.toList xs) with
          | some cells => K (.agg cells) []
          | none => False
        | none => False
      | _ => False
    | none => False
  | .buildSlice t len parts, xs => match tt t with
    | some y => match y.d with
      | .slice e => match tt e with
        | some ye => Nat.ble (len * ye.sz) 16777216 = true ∧ ye.sz ≠ 0 ∧ (match fillE H ye.sz (List.replicate len ye.zero) [] (zipParts parts.toList xs) with
          | some (es, gone) => K (.ref id) (goneU gone ++ [(id, some (.row ye.sz es))])
          | none => False)
        | none => False
      | _ => False
    | none => False
  | .makeSlice t _ _, [l, c] => match l, c, tt t with
    | .int _ n, .int _ n', some y => match y.d with
      | .slice e => match tt e with
        | some ye => ye.sz ≠ 0 ∧ Nat.ble ye.by8 100000 = true ∧ ∃ m : Nat, n = m ∧ n' = m ∧ (m : Int) ≤ 1000000000 ∧ K (.ref id) [(id, some (.row ye.sz (List.replicate m ye.zero)))]
        | none => False
      | _ => False
    | _, _, _ => False
  | .slice t _ (some _) none none, [x, a] => match a, x, tt t with
    | .int _ n, .str s, some y => isStr y = true ∧ ∃ i : Nat, n = i ∧ i ≤ s.length ∧ K (.str (s.drop i)) []
    | .int _ n, .sl k es, some y => sliceSz tt y = some k ∧ ∃ i : Nat, n = i ∧ i ≤ es.length ∧ K (.sl k (es.drop i)) []
    | .int _ n, .ref r, some y => match H r with
      | some (.row k es) => sliceSz tt y = some k ∧ ∃ i : Nat, n = i ∧ i ≤ es.length ∧ K (.sl k (es.drop i)) [(r, none)]
      | _ => False
    | _, _, _ => False
  | .slice t _ none (some _) none, [x, a] => match a, x, tt t with
    | .int _ n, .str s, some y => isStr y = true ∧ ∃ i : Nat, n = i ∧ i ≤ s.length ∧ K (.str (s.take i)) []
    | .int _ n, .sl k es, some y => sliceSz tt y = some k ∧ ∃ i : Nat, n = i ∧ i ≤ es.length ∧ K (.sl k (es.take i)) []
    | .int _ n, .ref r, some y => match H r with
      | some (.row k es) => sliceSz tt y = some k ∧ ∃ i : Nat, n = i ∧ i ≤ es.length ∧ K (.sl k (es.take i)) [(r, none)]
      | _ => False
    | _, _, _ => False
  | .slice t _ (some _) (some _) none, [x, a, b] => match a, b, x, tt t with
    | .int _ n, .int _ m, .str s, some y => isStr y = true ∧ ∃ i j : Nat, n = i ∧ m = j ∧ i ≤ j ∧ j ≤ s.length ∧ K (.str ((s.take j).drop i)) []
    | .int _ n, .int _ m, .sl k es, some y => sliceSz tt y = some k ∧ ∃ i j : Nat, n = i ∧ m = j ∧ i ≤ j ∧ j ≤ es.length ∧ K (.sl k ((es.take j).drop i)) []
    | _, _, _, _ => False
  | .call c, xs => match c.callee, xs with
    | .builtin .len, [x] => match c.argTypes.toList with
      | [t] => match tt t with
        | some y => match x with
          | .str s => isStr y = true ∧ K (.int .i64 (s.length : Int)) []
          | .sl _ es => (sliceSz tt y).isSome = true ∧ ∃ n : Nat, es.length = n ∧ K (.int .i64 (n : Int)) []
          | .ref r => match H r with
            | some (.row _ es) => (sliceSz tt y).isSome = true ∧ ∃ n : Nat, es.length = n ∧ K (.int .i64 (n : Int)) []
            | _ => False
          | .val v => (sliceSz tt y).isSome = true ∧ v = nilV ∧ K (.int .i64 0) []
          | _ => False
        | none => False
      | _ => False
    | .builtin .append, [x, z] => match c.argTypes.toList with
      | [t, u] => match tt t, tt u with
        | some y, some yu => match y.d with
          | .slice e => match tt e with
            | some ye => appT tt H ye yu x z fun k es gone => k = ye.sz ∧ ye.sz ≠ 0 ∧ Nat.ble ye.by8 100000 = true ∧ (es.length : Int) ≤ 1000000000 ∧ K (.ref id) (goneU gone ++ [(id, some (.row ye.sz es))])
            | none => False
          | _ => False
        | _, _ => False
      | _ => False
    | _, _ => False
  | _, _ => False

/-- What is left behind an operation. -/
def Out (X : Cx) (id : Nat) (K : Kon) (v : Value) (w' : World) : Prop :=
  ∃ x upd X', K x upd ∧ X'.w = w' ∧ X'.us = X.win id ∧ X'.H = updL X.H upd ∧ Same X X' ∧ HR X' ∧ RS X' x v
def Args (X : Cx) : List T → List Value → Prop
  | [], vs => vs = []
  | x :: xs, vs => ∃ u us, vs = u :: us ∧ RS X x u ∧ Args X xs us

section
variable {X : Cx} {id : Nat} {K : Kon} (hh : HR X) (hi : Fresh X id)
include hh hi
theorem Out.same {x : T} {v : Value} (h : K x []) (hx : RS X x v) : Out X id K v X.w :=
  ⟨x, [], { X with us := X.win id }, h, rfl, rfl, rfl, same_nx X (fun _ h => .inl h) X.w rfl rfl rfl rfl, hh.nx (fun _ h => .inl h) X.w rfl rfl rfl rfl, hx.mono (same_nx X (fun _ h => .inl h) X.w rfl rfl rfl rfl)⟩
theorem Out.newBox {cs : List T} {C : Array Value} {t : TypeId} (h : K (.ptr id 0 0) [(id, some (.box cs))]) (hc : RSl X cs C.toList) :
    Out X id K (.pointer (some ⟨X.w.heap.size, 0, none⟩)) (X.w.alloc (.cells C t)) := by
  have hs := same_new hh hi (.box cs) X.w C t (0, 0) rfl rfl rfl
  refine ⟨_, _, X.new id (.box cs) X.w C t (0, 0), h, rfl, rfl, rfl, hs, hh.new hi _ X.w C t (0, 0) rfl rfl rfl fun _ => ?_, ?_⟩
  · refine ⟨X.w.heap.size, C, t, (0, 0), by simp [Cx.new], ?_, .inl (Nat.le_refl _), hc.mono hs⟩
    show (X.w.heap.push _)[_]? = _
    simp
  · refine ⟨.inr ⟨Nat.le_refl _, by omega⟩, ⟨_, rfl⟩, fun e he => ⟨X.w.heap.size, by simp [Cx.new], by simp⟩⟩
theorem Out.newRow {k n c : Nat} {es : List (List T)} {C : Array Value} {t : TypeId} {fr : Nat × Nat} (w1 : World) (ho : w1.os = X.w.os) (ht : w1.tape = X.w.tape) (hu : w1.output = X.w.output) (hw : w1.heap = X.w.heap)
    (h : K (.ref id) [(id, some (.row k es))]) (hk : 0 < k) (hn : n = es.length) (hsz : C.size = c * k) (hnc : n ≤ c) (hm : c ≤ maxLen) (hf : FreeR fr C.size)
    (hc : RE X.ow X.w k es C.toList) : Out X id K (.slice (some ⟨X.w.heap.size, 0, none⟩) n c) (w1.alloc (.cells C t fr)) := by
  have hs := same_new hh hi (.row k es) w1 C t fr ho ht hu
  have hget : (X.w.heap.push (.cells C t fr))[X.w.heap.size]? = some (.cells C t fr) := by simp
  have hwa : (X.new id (.row k es) w1 C t fr).w = w1.alloc (.cells C t fr) := by simp [Cx.new, World.alloc, hw]
  subst hn
  refine ⟨_, _, X.new id (.row k es) w1 C t fr, h, hwa, rfl, rfl, hs, hh.new hi _ w1 C t fr ho ht hu fun _ => ?_, ?_⟩
  · exact ⟨hk, .inr ⟨X.w.heap.size, C, t, fr, by simp [Cx.new], hget, hf, RE.mono hs.stab hc⟩⟩
  · refine ⟨.inr ⟨Nat.le_refl _, by omega⟩, ⟨_, _, _, rfl⟩, fun k' es' he => ?_⟩
    change updE X.H id (some (.row k es)) id = _ at he
    rw [updE_same] at he
    injection he with he; injection he with a b; subst a b
    exact .inr ⟨X.w.heap.size, c, C, t, fr, rfl, by simp [Cx.new], hget, hf, hsz, hnc, hm⟩
theorem Out.put {r : Nat} {e0 e : Ent} {g : Nat} {C0 C : Array Value} {t : TypeId} {fr : Nat × Nat} {v : Value} (h0 : X.H r = some e0) (hg : X.ow g = some r) (hC : X.w.heap[g]? = some (.cells C0 t fr)) (hs : e0.shape = e.shape) (hz : C.size = C0.size)
    (h : K .any [(r, some e)]) (hnode : Same X (X.put r e g C t fr) → (X.put r e g C t fr).w.heap[g]? = some (.cells C t fr) → Node (X.put r e g C t fr) r e) :
    Out X id K v { X.w with heap := X.w.heap.setIfInBounds g (.cells C t fr) } := by
  have hsame := same_put hh h0 hg hC hs hz
  have hhr := hh.put h0 hg hC hs hz hnode
  exact ⟨.any, _, { X.put r e g C t fr with us := X.win id }, h, rfl, rfl, rfl, hsame.trans (same_nx _ (fun _ h => .inl h) _ rfl rfl rfl rfl), hhr.nx (fun _ h => .inl h) _ rfl rfl rfl rfl, trivial⟩
end
end Go.Proofs.Ytkdajahiaedoiaa
