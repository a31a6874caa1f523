/- The functions read plainly. Conditions: none (definitions alone). -/
import GoSem.Core.View
import GoSem.Op.String

set_option linter.unusedVariables false
set_option linter.unusedSimpArgs false
set_option linter.unnecessarySimpa false

namespace Go.PL
def w64 (x : Int) : Int := IntKind.i64.wrap x
def w (k : IntKind) (x : Int) : Int := k.wrap x
def grd {α : Type} (c : Bool) (x : Option α) : Option α := bif c then x else none
def grz {α : Type} (b : Int) (x : Option α) : Option α := bif decide (b = 0) then none else x
def letv {α β : Type} (v : α) (k : α -> β) : β := k v
def at_ {α : Type} (d : α) (xs : List α) (i : Int) : α := xs.getD i.toNat d
def inb {α : Type} (i : Int) (xs : List α) : Bool := decide (0 <= i) && decide (i < (xs.length : Int))
def growOk {α : Type} (i' i : Int) (xs : List α) : Bool := decide (i' = i) && (decide (0 <= i') && decide (i' < (xs.length : Int)))
def appOk {α : Type} (s x : List α) (b : Nat) : Bool := decide ((s.length + x.length) * b <= 140737488355328)
def selOk {α : Type} (ix : List Int) (i : Int) (x : List α) (b : Nat) : Bool := ix.all (fun k => decide (k < i)) && decide ((x.length + 1) * b <= 140737488355328)
def selOk0 {α : Type} (x : List α) (b : Nat) : Bool := x.isEmpty && decide ((0 + 1) * b <= 140737488355328)
def makeOk (n : Int) (b : Nat) : Bool := decide (n = n) && (decide (0 <= n) && decide (n * b <= 140737488355328))
def byteAt (s : ByteArray) (n : Int) : Option UInt8 := if 0 <= n then s[n.toNat]? else none
def catOk (a b : ByteArray) : Bool := decide (a.size + b.size <= 140737488355328)
def seq (a b : ByteArray) : Bool := a.toList == b.toList
def slt (a b : ByteArray) : Bool := Op.bytesLess a.toList b.toList
def subOk (lo hi : Int) (n : Nat) : Bool := decide (0 <= lo) && (decide (lo <= hi) && decide (hi <= (n : Int)))
def sub (s : ByteArray) (lo hi : Int) : ByteArray := s.extract lo.toNat hi.toNat
def ofBytes (x : List Int) : ByteArray := ⟨(x.map fun n => UInt8.ofNat n.toNat).toArray⟩
def bits (op : BinOp) (k : IntKind) (a b : Int) : Int := match op with
 | .and => k.wrap ((BitVec.ofInt k.bits a &&& BitVec.ofInt k.bits b).toNat : Int)
 | .xor => k.wrap ((BitVec.ofInt k.bits a ^^^ BitVec.ofInt k.bits b).toNat : Int)
 | .or => k.wrap ((BitVec.ofInt k.bits a ||| BitVec.ofInt k.bits b).toNat : Int)
 | .shl => k.wrap (a * 2 ^ (min b.toNat k.bits))
 | .shr => a.fdiv (2 ^ (min b.toNat k.bits))
 | _ => 0
def imax (a b : Int) : Int := if b > a then b else a
def imin (a b : Int) : Int := if b < a then b else a
end Go.PL

namespace Go.PL
abbrev D0 : Type := List (ByteArray × Int × Int) × List (Int × List Int)
abbrev Q0 : Type := Int × List (Int × List Int) × List Int
abbrev C0 : Type := Int × Int × Int × Int × Int × Int × Int
abbrev R0 : Type := List (ByteArray × Int × Int)
abbrev A0 : Type := List (Int × List Int)
abbrev L0 : Type := List (List Int)
abbrev I0 : Type := List Int
abbrev E0 : Type := List (Int × Int)
variable (N : Nat)
def Z0v (N : Nat) (s : I0) : Option I0 := grd (decide (s.length * 8 <= 140737488355328)) (some s)
def Z88 (N : Nat) (s : I0) (n : Int) : Option I0 := grd (decide (0 <= n) && decide ((s.length + n.toNat) * 8 <= 140737488355328)) (some s)
def Z89 (N : Nat) (s : I0) : Option I0 := grd (decide (s.length < 4611686018427387904)) (some (s.mergeSort fun a b => decide (a <= b)))
def Z72 (N : Nat) (s : I0) : Option I0 := some (((List.range s.length).filter fun j => decide (j = 0 \/ s.toArray[j]! ≠ s.toArray[j - 1]!)).map fun j => s.toArray[j]!)
def Z7g (N : Nat) (s : I0) (n : Int) : Option I0 := grd (decide (s.length = 1) && (decide (0 <= n) && decide (n * 8 <= 140737488355328))) (some (List.replicate n.toNat (at_ 0 s 0)))
def Z3t (N : Nat) (a : ByteArray × Int × Int) (left_ : Int) : Option (Int) :=
 bif decide ((w64 (left_ - (a.1.size : Int))) < 0) then some (-1)
 else
 some (w64 (left_ - (a.1.size : Int)))
def Z5r (rec_ : R0 -> Int -> Int -> Option (Int)) (a2 : R0) (left_2 : Int) (i : Int) : Option (Int) :=
 bif decide (i < (a2.length : Int)) then
  grd (inb i a2) <|
  (Z3t N ((at_ (⟨#[]⟩, (0, 0)) a2 i).1, ((at_ (⟨#[]⟩, (0, 0)) a2 i).2)) left_2).bind fun r =>
  bif decide (r < 0) then some (-1)
  else
  rec_ a2 r (w64 (i + 1))
 else
 some left_2
def Z3v (N : Nat) : Nat -> R0 -> Int -> Int -> Option (Int)
 | 0, _, _, _ => none
 | k_ + 1, a2, left_2, i => Z5r N (Z3v N k_) a2 left_2 i
def Z8y (N : Nat) (Z0b7 : R0 -> Int -> Int -> Option (Int)) (a : R0) (left_ : Int) : Option (Int) :=
 bif decide ((w64 (left_ - (a.length : Int))) < 0) then some (-1)
 else
 Z0b7 a (w64 (left_ - (a.length : Int))) 0
def Z48 (a : R0) (left_ : Int) : Option (Int) := Z8y N (Z3v N N) a left_
def Z3z (N : Nat) (a : I0) (left_ : Int) : Option (Int) :=
 bif decide ((w64 (left_ - (a.length : Int))) < 0) then some (-1)
 else
 some (w64 (left_ - (a.length : Int)))
def Z6g (a : Int × List Int) (left_ : Int) : Option (Int) :=
 (Z3z N a.2 left_).bind fun r =>
 bif decide (r < 0) then some (-1)
 else
 some r
def Z7t (rec_ : A0 -> Int -> Int -> Option (Int)) (a2 : A0) (left_2 : Int) (i : Int) : Option (Int) :=
 bif decide (i < (a2.length : Int)) then
  grd (inb i a2) <|
  (Z6g N (at_ (0, []) a2 i) left_2).bind fun r =>
  bif decide (r < 0) then some (-1)
  else
  rec_ a2 r (w64 (i + 1))
 else
 some left_2
def Z5s (N : Nat) : Nat -> A0 -> Int -> Int -> Option (Int)
 | 0, _, _, _ => none
 | k_ + 1, a2, left_2, i => Z7t N (Z5s N k_) a2 left_2 i
def Z9k (N : Nat) (Z0bj : A0 -> Int -> Int -> Option (Int)) (a : A0) (left_ : Int) : Option (Int) :=
 bif decide ((w64 (left_ - (a.length : Int))) < 0) then some (-1)
 else
 Z0bj a (w64 (left_ - (a.length : Int))) 0
def Z6k (a : A0) (left_ : Int) : Option (Int) := Z9k N (Z5s N N) a left_
def Z4j (a : D0) (left_ : Int) : Option (Int) :=
 (Z48 N a.1 left_).bind fun r =>
 bif decide (r < 0) then some (-1)
 else
 (Z6k N a.2 r).bind fun r2 =>
 bif decide (r2 < 0) then some (-1)
 else
 some r2
def Z1a (N : Nat) (a : List C0) (left_ : Int) : Option (Int) :=
 bif decide ((w64 (left_ - (a.length : Int))) < 0) then some (-1)
 else
 some (w64 (left_ - (a.length : Int)))
def Z6h (a : Int × List Int) (left_ : Int) : Option (Int) :=
 (Z3z N a.2 left_).bind fun r =>
 bif decide (r < 0) then some (-1)
 else
 some r
def Z7u (rec_ : A0 -> Int -> Int -> Option (Int)) (a2 : A0) (left_2 : Int) (i : Int) : Option (Int) :=
 bif decide (i < (a2.length : Int)) then
  grd (inb i a2) <|
  (Z6h N (at_ (0, []) a2 i) left_2).bind fun r =>
  bif decide (r < 0) then some (-1)
  else
  rec_ a2 r (w64 (i + 1))
 else
 some left_2
def Z5t (N : Nat) : Nat -> A0 -> Int -> Int -> Option (Int)
 | 0, _, _, _ => none
 | k_ + 1, a2, left_2, i => Z7u N (Z5t N k_) a2 left_2 i
def Z9l (N : Nat) (Z0bk : A0 -> Int -> Int -> Option (Int)) (a : A0) (left_ : Int) : Option (Int) :=
 bif decide ((w64 (left_ - (a.length : Int))) < 0) then some (-1)
 else
 Z0bk a (w64 (left_ - (a.length : Int))) 0
def Z6l (a : A0) (left_ : Int) : Option (Int) := Z9l N (Z5t N N) a left_
def Z6m (a : Q0) (left_ : Int) : Option (Int) :=
 (Z6l N a.2.1 left_).bind fun r =>
 bif decide (r < 0) then some (-1)
 else
 (Z3z N a.2.2 r).bind fun r2 =>
 bif decide (r2 < 0) then some (-1)
 else
 some r2
def Z4k (N : Nat) (a : ByteArray × Int × Int) : Option (ByteArray × Int × Int) :=
 some a
def Z5u (rec_ : R0 -> R0 -> Int -> Option R0) (a2 : R0) (out : R0) (i : Int) : Option R0 :=
 bif decide (i < (a2.length : Int)) then
  grd (inb i a2) <|
  (Z4k N ((at_ (⟨#[]⟩, (0, 0)) a2 i).1, ((at_ (⟨#[]⟩, (0, 0)) a2 i).2))).bind fun r =>
  grd (inb i out) <|
  grd (inb i out) <|
  letv (out.set i.toNat r) fun u =>
  rec_ a2 u (w64 (i + 1))
 else
 some out
def Z3w (N : Nat) : Nat -> R0 -> R0 -> Int -> Option R0
 | 0, _, _, _ => none
 | k_ + 1, a2, out, i => Z5u N (Z3w N k_) a2 out i
def Z8z (N : Nat) (Z0b8 : R0 -> R0 -> Int -> Option R0) (a : R0) : Option R0 :=
 grd (makeOk (a.length : Int) 32) <|
 Z0b8 a (List.replicate (a.length : Int).toNat (⟨#[]⟩, (0, 0))) 0
def Z49 (a : R0) : Option R0 := Z8z N (Z3w N N) a
def Z8a (N : Nat) (rec_ : I0 -> I0 -> Int -> Option I0) (a2 : I0) (out : I0) (i : Int) : Option I0 :=
 bif decide (i < (a2.length : Int)) then
  grd (inb i a2) <|
  grd (inb i out) <|
  grd (inb i out) <|
  letv (out.set i.toNat (at_ 0 a2 i)) fun u =>
  rec_ a2 u (w64 (i + 1))
 else
 some out
def Z6i (N : Nat) : Nat -> I0 -> I0 -> Int -> Option I0
 | 0, _, _, _ => none
 | k_ + 1, a2, out, i => Z8a N (Z6i N k_) a2 out i
def Z0a3 (N : Nat) (Z0bu : I0 -> I0 -> Int -> Option I0) (a : I0) : Option I0 :=
 grd (makeOk (a.length : Int) 8) <|
 Z0bu a (List.replicate (a.length : Int).toNat 0) 0
def Z40 (a : I0) : Option I0 := Z0a3 N (Z6i N N) a
def Z7h (a : Int × List Int) : Option (Int × List Int) :=
 (Z40 N a.2).bind fun r =>
 some (a.1, r)
def Z7v (rec_ : A0 -> A0 -> Int -> Option A0) (a2 : A0) (out : A0) (i : Int) : Option A0 :=
 bif decide (i < (a2.length : Int)) then
  grd (inb i a2) <|
  (Z7h N (at_ (0, []) a2 i)).bind fun r =>
  grd (inb i out) <|
  grd (inb i out) <|
  letv (out.set i.toNat r) fun u =>
  rec_ a2 u (w64 (i + 1))
 else
 some out
def Z5v (N : Nat) : Nat -> A0 -> A0 -> Int -> Option A0
 | 0, _, _, _ => none
 | k_ + 1, a2, out, i => Z7v N (Z5v N k_) a2 out i
def Z9m (N : Nat) (Z0bl : A0 -> A0 -> Int -> Option A0) (a : A0) : Option A0 :=
 grd (makeOk (a.length : Int) 32) <|
 Z0bl a (List.replicate (a.length : Int).toNat (0, [])) 0
def Z6n (a : A0) : Option A0 := Z9m N (Z5v N N) a
def Z2r (a : D0) : Option D0 :=
 (Z49 N a.1).bind fun r =>
 (Z6n N a.2).bind fun r2 =>
 some (r, r2)
def Z2a (N : Nat) (a : C0) : Option C0 :=
 some a
def Z33 (rec_ : (List C0) -> (List C0) -> Int -> Option (List C0)) (a2 : List C0) (out : List C0) (i : Int) : Option (List C0) :=
 bif decide (i < (a2.length : Int)) then
  grd (inb i a2) <|
  (Z2a N ((at_ (0, (0, (0, (0, (0, (0, 0)))))) a2 i).1, ((at_ (0, (0, (0, (0, (0, (0, 0)))))) a2 i).2).1, (((at_ (0, (0, (0, (0, (0, (0, 0)))))) a2 i).2).2).1, ((((at_ (0, (0, (0, (0, (0, (0, 0)))))) a2 i).2).2).2).1, (((((at_ (0, (0, (0, (0, (0, (0, 0)))))) a2 i).2).2).2).2).1, ((((((at_ (0, (0, (0, (0, (0, (0, 0)))))) a2 i).2).2).2).2).2))).bind fun r =>
  grd (inb i out) <|
  grd (inb i out) <|
  letv (out.set i.toNat r) fun u =>
  rec_ a2 u (w64 (i + 1))
 else
 some out
def Z1c (N : Nat) : Nat -> (List C0) -> (List C0) -> Int -> Option (List C0)
 | 0, _, _, _ => none
 | k_ + 1, a2, out, i => Z33 N (Z1c N k_) a2 out i
def Z65 (N : Nat) (Z9n : (List C0) -> (List C0) -> Int -> Option (List C0)) (a : List C0) : Option (List C0) :=
 grd (makeOk (a.length : Int) 56) <|
 Z9n a (List.replicate (a.length : Int).toNat (0, (0, (0, (0, (0, (0, 0))))))) 0
def Z0k (a : List C0) : Option (List C0) := Z65 N (Z1c N N) a
def Z7i (a : Int × List Int) : Option (Int × List Int) :=
 (Z40 N a.2).bind fun r =>
 some (a.1, r)
def Z7w (rec_ : A0 -> A0 -> Int -> Option A0) (a2 : A0) (out : A0) (i : Int) : Option A0 :=
 bif decide (i < (a2.length : Int)) then
  grd (inb i a2) <|
  (Z7i N (at_ (0, []) a2 i)).bind fun r =>
  grd (inb i out) <|
  grd (inb i out) <|
  letv (out.set i.toNat r) fun u =>
  rec_ a2 u (w64 (i + 1))
 else
 some out
def Z5w (N : Nat) : Nat -> A0 -> A0 -> Int -> Option A0
 | 0, _, _, _ => none
 | k_ + 1, a2, out, i => Z7w N (Z5w N k_) a2 out i
def Z9o (N : Nat) (Z0bm : A0 -> A0 -> Int -> Option A0) (a : A0) : Option A0 :=
 grd (makeOk (a.length : Int) 32) <|
 Z0bm a (List.replicate (a.length : Int).toNat (0, [])) 0
def Z6o (a : A0) : Option A0 := Z9o N (Z5w N N) a
def Z4l (a : Q0) : Option Q0 :=
 (Z6o N a.2.1).bind fun r =>
 (Z40 N a.2.2).bind fun r2 =>
 some (a.1, r, r2)
def Z6 (N : Nat) (x : Int) (low : Int) (high : Int) : Option (Bool) :=
 bif decide (x >= low) then some (decide (x <= high))
 else
 some false
def Z9 (s : ByteArray × Int × Int) : Option (Bool) :=
 bif ((s.1.size : Int) == 1) then
  (byteAt s.1 0).bind fun b =>
  bif decide ((b.toNat : Int) >= 97) then
   (byteAt s.1 0).bind fun b2 =>
   bif decide ((b2.toNat : Int) <= 122) then
    (Z6 N s.2.1 1 3).bind fun r =>
    bif r then
     (Z6 N s.2.2 0 s.2.1).bind fun r2 =>
     some r2
    else
    some false
   else
   some false
  else
  some false
 else
 some false
def Z1d (rec_ : R0 -> Int -> Option (Bool)) (l2 : R0) (i : Int) : Option (Bool) :=
 bif decide (i < (l2.length : Int)) then
  grd (inb i l2) <|
  (Z9 N ((at_ (⟨#[]⟩, (0, 0)) l2 i).1, ((at_ (⟨#[]⟩, (0, 0)) l2 i).2))).bind fun r =>
  bif (!r) then some false
  else
  bif decide (i > 0) then
   grd (inb (w64 (i - 1)) l2) <|
   grd (inb i l2) <|
   bif (!slt ((at_ (⟨#[]⟩, (0, 0)) l2 (w64 (i - 1))).1) ((at_ (⟨#[]⟩, (0, 0)) l2 i).1)) then some false
   else
   rec_ l2 (w64 (i + 1))
  else
  rec_ l2 (w64 (i + 1))
 else
 some (decide ((l2.length : Int) <= 4))
def Z0i (N : Nat) : Nat -> R0 -> Int -> Option (Bool)
 | 0, _, _ => none
 | k_ + 1, l2, i => Z1d N (Z0i N k_) l2 i
def Z4m (N : Nat) (Z0a4 : R0 -> Int -> Option (Bool)) (l : R0) : Option (Bool) :=
 Z0a4 l 0
def Z0e (l : R0) : Option (Bool) := Z4m N (Z0i N N) l
def Z5x (rec_ : Int -> I0 -> Int -> Option (Bool)) (f2 : Int) (f3 : I0) (i : Int) : Option (Bool) :=
 bif decide (i < (f3.length : Int)) then
  grd (inb i f3) <|
  (Z6 N (at_ 0 f3 i) 0 9).bind fun r3 =>
  bif (!r3) then some false
  else
  rec_ f2 f3 (w64 (i + 1))
 else
 some true
def Z3x (N : Nat) : Nat -> Int -> I0 -> Int -> Option (Bool)
 | 0, _, _, _ => none
 | k_ + 1, f2, f3, i => Z5x N (Z3x N k_) f2 f3 i
def Z90 (Z0b9 : Int -> I0 -> Int -> Option (Bool)) (l : R0) (f : Int × List Int) : Option (Bool) :=
 (Z0e N l).bind fun r =>
 bif (!r) then some false
 else
 (Z6 N f.1 0 (w64 ((l.length : Int) - 1))).bind fun r2 =>
 bif (!r2) then some false
 else
 grd (inb f.1 l) <|
 bif ((f.2.length : Int) != (((at_ (⟨#[]⟩, (0, 0)) l f.1).2).1)) then some false
 else
 Z0b9 f.1 f.2 0
def Z0z (l : R0) (f : Int × List Int) : Option (Bool) := Z90 N (Z3x N N) l f
def Z6p (N : Nat) (rec_ : I0 -> I0 -> Int -> Option (Int)) (a2 : I0) (b2 : I0) (i : Int) : Option (Int) :=
 bif decide (i < (a2.length : Int)) then
  bif decide (i < (b2.length : Int)) then
   grd (inb i a2) <|
   grd (inb i b2) <|
   bif decide ((at_ 0 a2 i) < (at_ 0 b2 i)) then some (-1)
   else
   grd (inb i a2) <|
   grd (inb i b2) <|
   bif decide ((at_ 0 a2 i) > (at_ 0 b2 i)) then some 1
   else
   rec_ a2 b2 (w64 (i + 1))
  else
  bif decide ((a2.length : Int) < (b2.length : Int)) then some (-1)
  else
  bif decide ((a2.length : Int) > (b2.length : Int)) then some 1
  else
  some 0
 else
 bif decide ((a2.length : Int) < (b2.length : Int)) then some (-1)
 else
 bif decide ((a2.length : Int) > (b2.length : Int)) then some 1
 else
 some 0
def Z56 (N : Nat) : Nat -> I0 -> I0 -> Int -> Option (Int)
 | 0, _, _, _ => none
 | k_ + 1, a2, b2, i => Z6p N (Z56 N k_) a2 b2 i
def Z0a5 (N : Nat) (Z0bv : I0 -> I0 -> Int -> Option (Int)) (a : I0) (b : I0) : Option (Int) :=
 Z0bv a b 0
def Z5c (a : I0) (b : I0) : Option (Int) := Z0a5 N (Z56 N N) a b
def Z3o (a : Int × List Int) (b : Int × List Int) : Option (Int) :=
 bif decide (a.1 < b.1) then some (-1)
 else
 bif decide (a.1 > b.1) then some 1
 else
 (Z5c N a.2 b.2).bind fun r =>
 some r
def Z4h (rec_ : R0 -> A0 -> Int -> Option (Bool)) (d2 : R0) (d3 : A0) (i : Int) : Option (Bool) :=
 bif decide (i < (d3.length : Int)) then
  grd (inb i d3) <|
  (Z0z N d2 (at_ (0, []) d3 i)).bind fun r =>
  bif (!r) then some false
  else
  bif decide (i > 0) then
   grd (inb (w64 (i - 1)) d3) <|
   grd (inb i d3) <|
   (Z3o N (at_ (0, []) d3 (w64 (i - 1))) (at_ (0, []) d3 i)).bind fun r2 =>
   bif decide (r2 >= 0) then some false
   else
   rec_ d2 d3 (w64 (i + 1))
  else
  rec_ d2 d3 (w64 (i + 1))
 else
 (Z0e N d2).bind fun r3 =>
 bif r3 then some (decide ((d3.length : Int) <= 14))
 else
 some false
def Z2b (N : Nat) : Nat -> R0 -> A0 -> Int -> Option (Bool)
 | 0, _, _, _ => none
 | k_ + 1, d2, d3, i => Z4h N (Z2b N k_) d2 d3 i
def Z7j (N : Nat) (Z0ah : R0 -> A0 -> Int -> Option (Bool)) (d : D0) : Option (Bool) :=
 Z0ah d.1 d.2 0
def Z0 (d : D0) : Option (Bool) := Z7j N (Z2b N N) d
def Z7b (l : R0) (f : Int × List Int) : Option I0 :=
 (Z0z N l f).bind fun r =>
 bif (!r) then some []
 else
 grd (inb f.1 l) <|
 grd (subOk 0 (((at_ (⟨#[]⟩, (0, 0)) l f.1).2).2) f.2.length) <|
 grd (appOk [] (f.2.take (((at_ (⟨#[]⟩, (0, 0)) l f.1).2).2).toNat) 8) <|
 some (f.2.take (((at_ (⟨#[]⟩, (0, 0)) l f.1).2).2).toNat)
def Z2d (l : R0) (a : Int × List Int) (b : Int × List Int) : Option (Bool) :=
 (Z0z N l a).bind fun r =>
 bif r then
  (Z0z N l b).bind fun r2 =>
  bif r2 then
   bif (a.1 == b.1) then
    (Z7b N l a).bind fun r3 =>
    (Z7b N l b).bind fun r4 =>
    (Z5c N r3 r4).bind fun r5 =>
    some (r5 == 0)
   else
   some false
  else
  some false
 else
 some false
def Z15 (d : D0) (x : C0) : Option (Bool) :=
 (Z0 N d).bind fun r =>
 bif (!r) then some false
 else
 (Z6 N x.1 0 (w64 ((d.1.length : Int) - 1))).bind fun r2 =>
 bif (!r2) then some false
 else
 (Z6 N x.2.1 0 (w64 ((d.1.length : Int) - 1))).bind fun r3 =>
 bif (!r3) then some false
 else
 grd (inb x.1 d.1) <|
 grd (inb x.2.1 d.1) <|
 (Z6 N x.2.2.1 0 (w64 ((((at_ (⟨#[]⟩, (0, 0)) d.1 x.1).2).1) - 1))).bind fun r4 =>
 bif r4 then
  (Z6 N x.2.2.2.2.1 0 (w64 ((((at_ (⟨#[]⟩, (0, 0)) d.1 x.1).2).1) - 1))).bind fun r5 =>
  bif r5 then
   (Z6 N x.2.2.2.1 0 (w64 ((((at_ (⟨#[]⟩, (0, 0)) d.1 x.2.1).2).1) - 1))).bind fun r6 =>
   bif r6 then
    (Z6 N x.2.2.2.2.2.1 0 (w64 ((((at_ (⟨#[]⟩, (0, 0)) d.1 x.2.1).2).1) - 1))).bind fun r7 =>
    bif r7 then
     (Z6 N x.2.2.2.2.2.2 1 2).bind fun r8 =>
     some r8
    else
    some false
   else
   some false
  else
  some false
 else
 some false
def Z11 (d : D0) (x : C0) (i : Int) (k : Int) : Option (Bool) :=
 (Z15 N d x).bind fun r =>
 bif (!r) then some false
 else
 (Z6 N i 0 (w64 ((d.2.length : Int) - 1))).bind fun r2 =>
 bif (!r2) then some false
 else
 (Z6 N k 0 (w64 ((d.2.length : Int) - 1))).bind fun r3 =>
 bif (!r3) then some false
 else
 bif (i == k) then some false
 else
 grd (inb i d.2) <|
 grd (inb k d.2) <|
 bif (((at_ (0, []) d.2 i).1) != x.1) then some false
 else
 bif (((at_ (0, []) d.2 k).1) != x.2.1) then some false
 else
 grd (inb x.2.2.1 ((at_ (0, []) d.2 i).2)) <|
 grd (inb x.2.2.2.1 ((at_ (0, []) d.2 k).2)) <|
 bif ((at_ 0 ((at_ (0, []) d.2 i).2) x.2.2.1) != (at_ 0 ((at_ (0, []) d.2 k).2) x.2.2.2.1)) then some false
 else
 bif (x.2.2.2.2.2.2 == 1) then
  grd (inb x.2.2.2.2.1 ((at_ (0, []) d.2 i).2)) <|
  grd (inb x.2.2.2.2.2.1 ((at_ (0, []) d.2 k).2)) <|
  some ((at_ 0 ((at_ (0, []) d.2 i).2) x.2.2.2.2.1) == (at_ 0 ((at_ (0, []) d.2 k).2) x.2.2.2.2.2.1))
 else
 grd (inb x.2.2.2.2.1 ((at_ (0, []) d.2 i).2)) <|
 grd (inb x.2.2.2.2.2.1 ((at_ (0, []) d.2 k).2)) <|
 some (decide ((at_ 0 ((at_ (0, []) d.2 i).2) x.2.2.2.2.1) < (at_ 0 ((at_ (0, []) d.2 k).2) x.2.2.2.2.2.1)))
def Z4y (Z41 : (List C0) -> R0 -> A0 -> E0 -> Int -> Int -> Option E0) (rec_ : (List C0) -> R0 -> A0 -> E0 -> Int -> Int -> Bool -> Int -> Option E0) (l4 : List C0) (d6 : R0) (d7 : A0) (out3 : E0) (i3 : Int) (k2 : Int) (is_ : Bool) (n : Int) : Option E0 :=
 bif decide (n < (l4.length : Int)) then
  bif is_ then rec_ l4 d6 d7 out3 i3 k2 true (w64 (n + 1))
  else
  grd (inb n l4) <|
  (Z11 N (d6, d7) ((at_ (0, (0, (0, (0, (0, (0, 0)))))) l4 n).1, ((at_ (0, (0, (0, (0, (0, (0, 0)))))) l4 n).2).1, (((at_ (0, (0, (0, (0, (0, (0, 0)))))) l4 n).2).2).1, ((((at_ (0, (0, (0, (0, (0, (0, 0)))))) l4 n).2).2).2).1, (((((at_ (0, (0, (0, (0, (0, (0, 0)))))) l4 n).2).2).2).2).1, ((((((at_ (0, (0, (0, (0, (0, (0, 0)))))) l4 n).2).2).2).2).2)) i3 k2).bind fun r3 =>
  bif r3 then rec_ l4 d6 d7 out3 i3 k2 true (w64 (n + 1))
  else
  grd (inb n l4) <|
  (Z11 N (d6, d7) ((at_ (0, (0, (0, (0, (0, (0, 0)))))) l4 n).1, ((at_ (0, (0, (0, (0, (0, (0, 0)))))) l4 n).2).1, (((at_ (0, (0, (0, (0, (0, (0, 0)))))) l4 n).2).2).1, ((((at_ (0, (0, (0, (0, (0, (0, 0)))))) l4 n).2).2).2).1, (((((at_ (0, (0, (0, (0, (0, (0, 0)))))) l4 n).2).2).2).2).1, ((((((at_ (0, (0, (0, (0, (0, (0, 0)))))) l4 n).2).2).2).2).2)) k2 i3).bind fun r4 =>
  rec_ l4 d6 d7 out3 i3 k2 r4 (w64 (n + 1))
 else
 bif is_ then
  grd (appOk out3 [(i3, k2)] 16) <|
  Z41 l4 d6 d7 (out3 ++ [(i3, k2)]) i3 (w64 (k2 + 1))
 else
 Z41 l4 d6 d7 out3 i3 (w64 (k2 + 1))
def Z2w (Z41 : (List C0) -> R0 -> A0 -> E0 -> Int -> Int -> Option E0) (N : Nat) : Nat -> (List C0) -> R0 -> A0 -> E0 -> Int -> Int -> Bool -> Int -> Option E0
 | 0, _, _, _, _, _, _, _, _ => none
 | k_ + 1, l4, d6, d7, out3, i3, k2, is_, n => Z4y N Z41 (Z2w Z41 N k_) l4 d6 d7 out3 i3 k2 is_ n
def Z4z (Z42 : (List C0) -> R0 -> A0 -> E0 -> Int -> Option E0) (Z0aq : (List C0) -> R0 -> A0 -> E0 -> Int -> Int -> Bool -> Int -> Option E0) (rec_ : (List C0) -> R0 -> A0 -> E0 -> Int -> Int -> Option E0) (l3 : List C0) (d4 : R0) (d5 : A0) (out2 : E0) (i2 : Int) (k : Int) : Option E0 :=
 bif decide (k < (d5.length : Int)) then
  grd (inb i2 d5) <|
  grd (inb k d5) <|
  (Z2d N d4 (at_ (0, []) d5 i2) (at_ (0, []) d5 k)).bind fun r2 =>
  Z0aq l3 d4 d5 out2 i2 k r2 0
 else
 Z42 l3 d4 d5 out2 (w64 (i2 + 1))
def Z0w (Z42 : (List C0) -> R0 -> A0 -> E0 -> Int -> Option E0) (N : Nat) : Nat -> (List C0) -> R0 -> A0 -> E0 -> Int -> Int -> Option E0
 | 0, _, _, _, _, _, _ => none
 | k_ + 1, l3, d4, d5, out2, i2, k => Z4z N Z42 (Z2w (Z0w Z42 N k_) N N) (Z0w Z42 N k_) l3 d4 d5 out2 i2 k
def Z3n (Z0ar : (List C0) -> R0 -> A0 -> E0 -> Int -> Int -> Option E0) (rec_ : (List C0) -> R0 -> A0 -> E0 -> Int -> Option E0) (l2 : List C0) (d2 : R0) (d3 : A0) (out : E0) (i : Int) : Option E0 :=
 bif decide (i < (d3.length : Int)) then
  (Z0 N (d2, d3)).bind fun r =>
  bif r then Z0ar l2 d2 d3 out i (w64 (i + 1))
  else
  some out
 else
 some out
def Z1e (N : Nat) : Nat -> (List C0) -> R0 -> A0 -> E0 -> Int -> Option E0
 | 0, _, _, _, _, _ => none
 | k_ + 1, l2, d2, d3, out, i => Z3n N (Z0w (Z1e N k_) N N) (Z1e N k_) l2 d2 d3 out i
def Z8b (N : Nat) (Z0as : (List C0) -> R0 -> A0 -> E0 -> Int -> Option E0) (d : D0) (l : List C0) : Option E0 :=
 Z0as l d.1 d.2 [] 0
def Z35 (d : D0) (l : List C0) : Option E0 := Z8b N (Z1e N N) d l
def Z50 (rec_ : Int -> E0 -> Int -> Option (Bool)) (n2 : Int) (l2 : E0) (i : Int) : Option (Bool) :=
 bif decide (i < (l2.length : Int)) then
  grd (inb i l2) <|
  grd (inb i l2) <|
  (Z6 N ((at_ (0, 0) l2 i).1) 0 (w64 (((at_ (0, 0) l2 i).2) - 1))).bind fun r =>
  bif (!r) then some false
  else
  grd (inb i l2) <|
  (Z6 N ((at_ (0, 0) l2 i).2) 0 (w64 (n2 - 1))).bind fun r2 =>
  bif (!r2) then some false
  else
  bif decide (i > 0) then
   grd (inb i l2) <|
   grd (inb (w64 (i - 1)) l2) <|
   bif decide (((at_ (0, 0) l2 i).1) < ((at_ (0, 0) l2 (w64 (i - 1))).1)) then some false
   else
   grd (inb i l2) <|
   grd (inb (w64 (i - 1)) l2) <|
   bif (((at_ (0, 0) l2 i).1) == ((at_ (0, 0) l2 (w64 (i - 1))).1)) then
    grd (inb i l2) <|
    grd (inb (w64 (i - 1)) l2) <|
    bif decide (((at_ (0, 0) l2 i).2) <= ((at_ (0, 0) l2 (w64 (i - 1))).2)) then some false
    else
    rec_ n2 l2 (w64 (i + 1))
   else
   rec_ n2 l2 (w64 (i + 1))
  else
  rec_ n2 l2 (w64 (i + 1))
 else
 (Z6 N n2 0 14).bind fun r3 =>
 some r3
def Z2x (N : Nat) : Nat -> Int -> E0 -> Int -> Option (Bool)
 | 0, _, _, _ => none
 | k_ + 1, n2, l2, i => Z50 N (Z2x N k_) n2 l2 i
def Z8c (N : Nat) (Z0at : Int -> E0 -> Int -> Option (Bool)) (n : Int) (l : E0) : Option (Bool) :=
 Z0at n l 0
def Z1t (n : Int) (l : E0) : Option (Bool) := Z8c N (Z2x N N) n l
def Z8u (rec_ : Int -> I0 -> Int -> Option (Bool)) (n2 : Int) (s2 : I0) (i : Int) : Option (Bool) :=
 bif decide (i < (s2.length : Int)) then
  grd (inb i s2) <|
  (Z6 N (at_ 0 s2 i) 0 (w64 (n2 - 1))).bind fun r =>
  bif (!r) then some false
  else
  bif decide (i > 0) then
   grd (inb i s2) <|
   grd (inb (w64 (i - 1)) s2) <|
   bif decide ((at_ 0 s2 i) <= (at_ 0 s2 (w64 (i - 1)))) then some false
   else
   rec_ n2 s2 (w64 (i + 1))
  else
  rec_ n2 s2 (w64 (i + 1))
 else
 some true
def Z77 (N : Nat) : Nat -> Int -> I0 -> Int -> Option (Bool)
 | 0, _, _, _ => none
 | k_ + 1, n2, s2, i => Z8u N (Z77 N k_) n2 s2 i
def Z0ai (N : Nat) (Z0c0 : Int -> I0 -> Int -> Option (Bool)) (n : Int) (s : I0) : Option (Bool) :=
 Z0c0 n s 0
def Z8d (n : Int) (s : I0) : Option (Bool) := Z0ai N (Z77 N N) n s
def Z8v (N : Nat) (rec_ : I0 -> Int -> Int -> Option (Bool)) (l2 : I0) (x2 : Int) (i : Int) : Option (Bool) :=
 bif decide (i < (l2.length : Int)) then
  grd (inb i l2) <|
  bif ((at_ 0 l2 i) == x2) then some true
  else
  rec_ l2 x2 (w64 (i + 1))
 else
 some false
def Z78 (N : Nat) : Nat -> I0 -> Int -> Int -> Option (Bool)
 | 0, _, _, _ => none
 | k_ + 1, l2, x2, i => Z8v N (Z78 N k_) l2 x2 i
def Z0aj (N : Nat) (Z0c1 : I0 -> Int -> Int -> Option (Bool)) (l : I0) (x : Int) : Option (Bool) :=
 Z0c1 l x 0
def Z44 (l : I0) (x : Int) : Option (Bool) := Z0aj N (Z78 N N) l x
def Z51 (rec_ : E0 -> I0 -> Int -> Option (Bool)) (l2 : E0) (s2 : I0) (i : Int) : Option (Bool) :=
 bif decide (i < (l2.length : Int)) then
  grd (inb i l2) <|
  (Z44 N s2 ((at_ (0, 0) l2 i).1)).bind fun r =>
  bif r then
   grd (inb i l2) <|
   (Z44 N s2 ((at_ (0, 0) l2 i).2)).bind fun r2 =>
   bif r2 then some false
   else
   rec_ l2 s2 (w64 (i + 1))
  else
  rec_ l2 s2 (w64 (i + 1))
 else
 some true
def Z2y (N : Nat) : Nat -> E0 -> I0 -> Int -> Option (Bool)
 | 0, _, _, _ => none
 | k_ + 1, l2, s2, i => Z51 N (Z2y N k_) l2 s2 i
def Z8e (N : Nat) (Z0au : E0 -> I0 -> Int -> Option (Bool)) (l : E0) (s : I0) : Option (Bool) :=
 Z0au l s 0
def Z1u (l : E0) (s : I0) : Option (Bool) := Z8e N (Z2y N N) l s
def Z5d (l : E0) (s : I0) (x : Int) : Option (Bool) :=
 (Z44 N s x).bind fun r =>
 bif (!r) then
  grd (appOk [] s 8) <|
  grd (appOk s [x] 8) <|
  (Z1u N l (s ++ [x])).bind fun r2 =>
  some r2
 else
 some false
def Z2s (rec_ : Int -> E0 -> I0 -> Int -> Option (Bool)) (n2 : Int) (l2 : E0) (s2 : I0) (x : Int) : Option (Bool) :=
 bif decide (x < n2) then
  (Z5d N l2 s2 x).bind fun r4 =>
  bif r4 then some false
  else
  rec_ n2 l2 s2 (w64 (x + 1))
 else
 some true
def Z16 (N : Nat) : Nat -> Int -> E0 -> I0 -> Int -> Option (Bool)
 | 0, _, _, _, _ => none
 | k_ + 1, n2, l2, s2, x => Z2s N (Z16 N k_) n2 l2 s2 x
def Z5i (Z9i : Int -> E0 -> I0 -> Int -> Option (Bool)) (n : Int) (l : E0) (s : I0) : Option (Bool) :=
 (Z1t N n l).bind fun r =>
 bif (!r) then some false
 else
 (Z8d N n s).bind fun r2 =>
 bif (!r2) then some false
 else
 (Z1u N l s).bind fun r3 =>
 bif (!r3) then some false
 else
 Z9i n l s 0
def Z13 (n : Int) (l : E0) (s : I0) : Option (Bool) := Z5i N (Z16 N N) n l s
def Z8f (N : Nat) (Rf : Int -> E0 -> I0 -> Int -> Option L0) (rec_ : Int -> E0 -> I0 -> Int -> L0 -> Bool -> Int -> Option L0) (n2 : Int) (l2 : E0) (s2 : I0) (x2 : Int) (out : L0) (met : Bool) (i : Int) : Option L0 :=
 bif decide (i < (l2.length : Int)) then
  bif met then rec_ n2 l2 s2 x2 out true (w64 (i + 1))
  else
  grd (inb i l2) <|
  bif (((at_ (0, 0) l2 i).1) == x2) then rec_ n2 l2 s2 x2 out true (w64 (i + 1))
  else
  grd (inb i l2) <|
  rec_ n2 l2 s2 x2 out (((at_ (0, 0) l2 i).2) == x2) (w64 (i + 1))
 else
 bif met then
  (Rf n2 l2 s2 (w64 (x2 + 1))).bind fun r4 =>
  grd (appOk out r4 24) <|
  some (out ++ r4)
 else
 some out
def Z57 (N : Nat) (Rf : Int -> E0 -> I0 -> Int -> Option L0) : Nat -> Int -> E0 -> I0 -> Int -> L0 -> Bool -> Int -> Option L0
 | 0, _, _, _, _, _, _, _ => none
 | k_ + 1, n2, l2, s2, x2, out, met, i => Z8f N Rf (Z57 N Rf k_) n2 l2 s2 x2 out met i
def Z9b (Rf : Int -> E0 -> I0 -> Int -> Option L0) (Z0ap : Int -> E0 -> I0 -> Int -> L0 -> Bool -> Int -> Option L0) (n : Int) (l : E0) (s : I0) (x : Int) : Option L0 :=
 bif (x == n) then
  (Z13 N n l s).bind fun r =>
  bif r then
   grd (appOk [] s 8) <|
   some [s]
  else
  some []
 else
 (Z5d N l s x).bind fun r2 =>
 bif r2 then
  grd (appOk [] s 8) <|
  grd (appOk s [x] 8) <|
  (Rf n l (s ++ [x]) (w64 (x + 1))).bind fun r3 =>
  Z0ap n l s x r3 false 0
 else
 Z0ap n l s x [] false 0
def Z3b (N : Nat) : Nat -> Int -> E0 -> I0 -> Int -> Option L0
 | 0, _, _, _, _ => none
 | k_ + 1, n, l, s, x => Z9b N (Z3b N k_) (Z57 N (Z3b N k_) N) n l s x
def Z8o (n : Int) (l : E0) (s : I0) (x : Int) : Option L0 := Z3b N N n l s x
def Z0r (n : Int) (l : E0) : Option L0 :=
 (Z1t N n l).bind fun r =>
 bif (!r) then some []
 else
 (Z8o N n l [] 0).bind fun r2 =>
 some r2
def Z36 (d : D0) (l : List C0) : Option L0 :=
 (Z0 N d).bind fun r =>
 bif (!r) then some []
 else
 (Z35 N d l).bind fun r2 =>
 (Z0r N (d.2.length : Int) r2).bind fun r3 =>
 some r3
def Z3c (N : Nat) (rec_ : I0 -> L0 -> L0 -> Int -> Int -> Option L0) (outx : I0) (out3 : L0) (all3 : L0) (n3 : Int) (i3 : Int) : Option L0 :=
 bif decide (i3 < (all3.length : Int)) then
  grd (inb i3 all3) <|
  bif (((at_ [] all3 i3).length : Int) == n3) then
   grd (inb i3 all3) <|
   grd (selOk outx i3 out3 24) <|
   rec_ (outx ++ [i3]) (out3 ++ [(at_ [] all3 i3)]) all3 n3 (w64 (i3 + 1))
  else
  rec_ outx out3 all3 n3 (w64 (i3 + 1))
 else
 some out3
def Z1n (N : Nat) : Nat -> I0 -> L0 -> L0 -> Int -> Int -> Option L0
 | 0, _, _, _, _, _ => none
 | k_ + 1, outx, out3, all3, n3, i3 => Z3c N (Z1n N k_) outx out3 all3 n3 i3
def Z3d (N : Nat) (Z9w : I0 -> L0 -> L0 -> Int -> Int -> Option L0) (rec_ : L0 -> L0 -> Int -> Int -> Option L0) (out2 : L0) (all2 : L0) (n2 : Int) (i2 : Int) : Option L0 :=
 bif decide (i2 < (all2.length : Int)) then
  grd (inb i2 all2) <|
  bif (((at_ [] all2 i2).length : Int) == n2) then
   grd (inb i2 all2) <|
   grd (selOk0 out2 24) <|
   Z9w [i2] [(at_ [] all2 i2)] all2 n2 (w64 (i2 + 1))
  else
  rec_ out2 all2 n2 (w64 (i2 + 1))
 else
 some out2
def Z1o (N : Nat) : Nat -> L0 -> L0 -> Int -> Int -> Option L0
 | 0, _, _, _, _ => none
 | k_ + 1, out2, all2, n2, i2 => Z3d N (Z1n N k_) (Z1o N k_) out2 all2 n2 i2
def Z3e (N : Nat) (Z9x : L0 -> L0 -> Int -> Int -> Option L0) (rec_ : L0 -> L0 -> Int -> Int -> Option L0) (out : L0) (all : L0) (n : Int) (i : Int) : Option L0 :=
 bif decide (i < (all.length : Int)) then
  grd (inb i all) <|
  rec_ out all (imax n ((at_ [] all i).length : Int)) (w64 (i + 1))
 else
 Z9x out all n 0
def Z1p (N : Nat) : Nat -> L0 -> L0 -> Int -> Int -> Option L0
 | 0, _, _, _, _ => none
 | k_ + 1, out, all, n, i => Z3e N (Z1o N N) (Z1p N k_) out all n i
def Z6b (Z9y : L0 -> L0 -> Int -> Int -> Option L0) (d : D0) (l : List C0) : Option L0 :=
 (Z36 N d l).bind fun r =>
 Z9y [] r 0 0
def Z1h (d : D0) (l : List C0) : Option L0 := Z6b N (Z1p N N) d l
def Z7k (Z0x : R0 -> Int -> A0 -> I0 -> (List Bool) -> Int -> Option (Bool)) (rec_ : R0 -> Int -> A0 -> I0 -> (List Bool) -> Int -> Int -> I0 -> Int -> Option (Bool)) (l4 : R0) (q8 : Int) (q9 : A0) (q10 : I0) (met3 : List Bool) (i3 : Int) (a3 : Int) (a4 : I0) (k2 : Int) : Option (Bool) :=
 bif decide (k2 < (a4.length : Int)) then
  grd (inb k2 a4) <|
  (Z6 N (at_ 0 a4 k2) (-10) (w64 (q8 - 1))).bind fun r5 =>
  bif (!r5) then some false
  else
  grd (inb k2 a4) <|
  bif decide ((at_ 0 a4 k2) >= 0) then
   grd (inb k2 a4) <|
   grd (inb (at_ 0 a4 k2) met3) <|
   grd (inb (at_ 0 a4 k2) met3) <|
   letv (met3.set (at_ 0 a4 k2).toNat true) fun u =>
   rec_ l4 q8 q9 q10 u i3 a3 a4 (w64 (k2 + 1))
  else
  rec_ l4 q8 q9 q10 met3 i3 a3 a4 (w64 (k2 + 1))
 else
 Z0x l4 q8 q9 q10 met3 (w64 (i3 + 1))
def Z1v (Z0x : R0 -> Int -> A0 -> I0 -> (List Bool) -> Int -> Option (Bool)) (N : Nat) : Nat -> R0 -> Int -> A0 -> I0 -> (List Bool) -> Int -> Int -> I0 -> Int -> Option (Bool)
 | 0, _, _, _, _, _, _, _, _, _ => none
 | k_ + 1, l4, q8, q9, q10, met3, i3, a3, a4, k2 => Z7k N Z0x (Z1v Z0x N k_) l4 q8 q9 q10 met3 i3 a3 a4 k2
def Z5e (N : Nat) (Z0x : R0 -> Int -> A0 -> I0 -> (List Bool) -> Int -> Option (Bool)) (Z0az : R0 -> Int -> A0 -> I0 -> (List Bool) -> Int -> Int -> I0 -> Int -> Option (Bool)) (rec_ : R0 -> Int -> A0 -> I0 -> (List Bool) -> Int -> Int -> I0 -> Int -> Option (Bool)) (l3 : R0) (q5 : Int) (q6 : A0) (q7 : I0) (met2 : List Bool) (i2 : Int) (a : Int) (a2 : I0) (k : Int) : Option (Bool) :=
 bif decide (k < i2) then
  grd (inb k q6) <|
  bif (((at_ (0, []) q6 k).1) == a) then some false
  else
  rec_ l3 q5 q6 q7 met2 i2 a a2 (w64 (k + 1))
 else
 Z0az l3 q5 q6 q7 met2 i2 a a2 0
def Z2e (Z0x : R0 -> Int -> A0 -> I0 -> (List Bool) -> Int -> Option (Bool)) (N : Nat) : Nat -> R0 -> Int -> A0 -> I0 -> (List Bool) -> Int -> Int -> I0 -> Int -> Option (Bool)
 | 0, _, _, _, _, _, _, _, _, _ => none
 | k_ + 1, l3, q5, q6, q7, met2, i2, a, a2, k => Z5e N Z0x (Z1v Z0x N N) (Z2e Z0x N k_) l3 q5 q6 q7 met2 i2 a a2 k
def Z5f (rec_ : Int -> A0 -> I0 -> Int -> Option (Bool)) (q14 : Int) (q15 : A0) (q16 : I0) (i4 : Int) : Option (Bool) :=
 bif decide (i4 < (q16.length : Int)) then
  grd (inb i4 q16) <|
  (Z6 N (at_ 0 q16 i4) 0 (w64 (q14 - 1))).bind fun r6 =>
  bif (!r6) then some false
  else
  bif decide (i4 > 0) then
   grd (inb i4 q16) <|
   grd (inb (w64 (i4 - 1)) q16) <|
   bif decide ((at_ 0 q16 i4) <= (at_ 0 q16 (w64 (i4 - 1)))) then some false
   else
   rec_ q14 q15 q16 (w64 (i4 + 1))
  else
  rec_ q14 q15 q16 (w64 (i4 + 1))
 else
 some true
def Z2f (N : Nat) : Nat -> Int -> A0 -> I0 -> Int -> Option (Bool)
 | 0, _, _, _, _ => none
 | k_ + 1, q14, q15, q16, i4 => Z5f N (Z2f N k_) q14 q15 q16 i4
def Z5g (N : Nat) (Z0b0 : Int -> A0 -> I0 -> Int -> Option (Bool)) (rec_ : Int -> A0 -> I0 -> (List Bool) -> Int -> Option (Bool)) (q11 : Int) (q12 : A0) (q13 : I0) (met4 : List Bool) (v : Int) : Option (Bool) :=
 bif decide (v < q11) then
  grd (inb v met4) <|
  bif (!(at_ false met4 v)) then some false
  else
  rec_ q11 q12 q13 met4 (w64 (v + 1))
 else
 Z0b0 q11 q12 q13 0
def Z2g (N : Nat) : Nat -> Int -> A0 -> I0 -> (List Bool) -> Int -> Option (Bool)
 | 0, _, _, _, _, _ => none
 | k_ + 1, q11, q12, q13, met4, v => Z5g N (Z2f N N) (Z2g N k_) q11 q12 q13 met4 v
def Z7l (Z0b1 : R0 -> Int -> A0 -> I0 -> (List Bool) -> Int -> Int -> I0 -> Int -> Option (Bool)) (Z0b2 : Int -> A0 -> I0 -> (List Bool) -> Int -> Option (Bool)) (rec_ : R0 -> Int -> A0 -> I0 -> (List Bool) -> Int -> Option (Bool)) (l2 : R0) (q2 : Int) (q3 : A0) (q4 : I0) (met : List Bool) (i : Int) : Option (Bool) :=
 bif decide (i < (q3.length : Int)) then
  grd (inb i q3) <|
  (Z6 N ((at_ (0, []) q3 i).1) 0 (w64 ((l2.length : Int) - 1))).bind fun r4 =>
  bif (!r4) then some false
  else
  grd (inb ((at_ (0, []) q3 i).1) l2) <|
  bif ((((at_ (0, []) q3 i).2).length : Int) != (((at_ (⟨#[]⟩, (0, 0)) l2 ((at_ (0, []) q3 i).1)).2).1)) then some false
  else
  Z0b1 l2 q2 q3 q4 met i ((at_ (0, []) q3 i).1) ((at_ (0, []) q3 i).2) 0
 else
 Z0b2 q2 q3 q4 met 0
def Z3f (N : Nat) : Nat -> R0 -> Int -> A0 -> I0 -> (List Bool) -> Int -> Option (Bool)
 | 0, _, _, _, _, _, _ => none
 | k_ + 1, l2, q2, q3, q4, met, i => Z7l N (Z2e (Z3f N k_) N N) (Z2g N N) (Z3f N k_) l2 q2 q3 q4 met i
def Z8q (Z0b3 : R0 -> Int -> A0 -> I0 -> (List Bool) -> Int -> Option (Bool)) (l : R0) (q : Q0) : Option (Bool) :=
 (Z0e N l).bind fun r =>
 bif (!r) then some false
 else
 (Z6 N q.1 0 4).bind fun r2 =>
 bif (!r2) then some false
 else
 (Z6 N (q.2.1.length : Int) 1 3).bind fun r3 =>
 bif (!r3) then some false
 else
 grd (makeOk 4 1) <|
 Z0b3 l q.1 q.2.1 q.2.2 (List.replicate (4 : Int).toNat false) 0
def Z3p (l : R0) (q : Q0) : Option (Bool) := Z8q N (Z3f N N) l q
def Z18 (d : D0) (q : Q0) : Option (Bool) :=
 (Z0 N d).bind fun r =>
 bif r then
  (Z3p N d.1 q).bind fun r2 =>
  some r2
 else
 some false
def Z96 (N : Nat) (rec_ : Int -> I0 -> Option I0) (n2 : Int) (l : I0) : Option I0 :=
 bif decide ((l.length : Int) < n2) then
  grd (appOk l [(-1)] 8) <|
  rec_ n2 (l ++ [(-1)])
 else
 some l
def Z7c (N : Nat) : Nat -> Int -> I0 -> Option I0
 | 0, _, _ => none
 | k_ + 1, n2, l => Z96 N (Z7c N k_) n2 l
def Z9p (N : Nat) (Z0bn : Int -> I0 -> Option I0) (n : Int) : Option I0 :=
 Z0bn n []
def Z5j (n : Int) : Option I0 := Z9p N (Z7c N N) n
def Z97 (N : Nat) (rec_ : Int -> I0 -> Int -> I0 -> I0 -> Int -> Option (List Int × Bool)) (a2 : Int) (a3 : I0) (f2 : Int) (f3 : I0) (x : I0) (i : Int) : Option (List Int × Bool) :=
 bif decide (i < (a3.length : Int)) then
  grd (inb i a3) <|
  bif decide ((at_ 0 a3 i) < 0) then
   grd (inb i f3) <|
   bif ((w64 ((-1) - (at_ 0 a3 i))) != (at_ 0 f3 i)) then some (x, false)
   else
   rec_ a2 a3 f2 f3 x (w64 (i + 1))
  else
  grd (inb (at_ 0 a3 i) x) <|
  bif decide ((at_ 0 x (at_ 0 a3 i)) >= 0) then
   grd (inb (at_ 0 a3 i) x) <|
   grd (inb i f3) <|
   bif ((at_ 0 x (at_ 0 a3 i)) != (at_ 0 f3 i)) then some (x, false)
   else
   grd (inb i f3) <|
   grd (inb (at_ 0 a3 i) x) <|
   grd (inb (at_ 0 a3 i) x) <|
   letv (x.set (at_ 0 a3 i).toNat (at_ 0 f3 i)) fun u =>
   rec_ a2 a3 f2 f3 u (w64 (i + 1))
  else
  grd (inb i f3) <|
  grd (inb (at_ 0 a3 i) x) <|
  grd (inb (at_ 0 a3 i) x) <|
  letv (x.set (at_ 0 a3 i).toNat (at_ 0 f3 i)) fun u2 =>
  rec_ a2 a3 f2 f3 u2 (w64 (i + 1))
 else
 some (x, true)
def Z7d (N : Nat) : Nat -> Int -> I0 -> Int -> I0 -> I0 -> Int -> Option (List Int × Bool)
 | 0, _, _, _, _, _, _ => none
 | k_ + 1, a2, a3, f2, f3, x, i => Z97 N (Z7d N k_) a2 a3 f2 f3 x i
def Z9q (N : Nat) (Z0bo : Int -> I0 -> Int -> I0 -> I0 -> Int -> Option (List Int × Bool)) (a : Int × List Int) (f : Int × List Int) (vals : I0) : Option (List Int × Bool) :=
 grd (appOk [] vals 8) <|
 bif (f.1 != a.1) then some (vals, false)
 else
 bif ((f.2.length : Int) != (a.2.length : Int)) then some (vals, false)
 else
 Z0bo a.1 a.2 f.1 f.2 vals 0
def Z6q (a : Int × List Int) (f : Int × List Int) (vals : I0) : Option (List Int × Bool) := Z9q N (Z7d N N) a f vals
def Z98 (Rf : D0 -> Q0 -> Int -> I0 -> I0 -> Option (List (List Int × List Int))) (rec_ : Int -> I0 -> I0 -> R0 -> A0 -> Int -> A0 -> I0 -> (List (List Int × List Int)) -> Int -> Option (List (List Int × List Int))) (k2 : Int) (vals2 : I0) (facts2 : I0) (d2 : R0) (d3 : A0) (q2 : Int) (q3 : A0) (q4 : I0) (out : List (List Int × List Int)) (i : Int) : Option (List (List Int × List Int)) :=
 bif decide (i < (d3.length : Int)) then
  grd (inb k2 q3) <|
  grd (inb i d3) <|
  (Z6q N (at_ (0, []) q3 k2) (at_ (0, []) d3 i) vals2).bind fun p_r =>
  bif p_r.2 then
   grd (appOk [] facts2 8) <|
   grd (appOk facts2 [i] 8) <|
   (Rf (d2, d3) (q2, q3, q4) (w64 (k2 + 1)) p_r.1 (facts2 ++ [i])).bind fun r3 =>
   grd (appOk out r3 48) <|
   rec_ k2 vals2 facts2 d2 d3 q2 q3 q4 (out ++ r3) (w64 (i + 1))
  else
  rec_ k2 vals2 facts2 d2 d3 q2 q3 q4 out (w64 (i + 1))
 else
 some out
def Z7e (N : Nat) (Rf : D0 -> Q0 -> Int -> I0 -> I0 -> Option (List (List Int × List Int))) : Nat -> Int -> I0 -> I0 -> R0 -> A0 -> Int -> A0 -> I0 -> (List (List Int × List Int)) -> Int -> Option (List (List Int × List Int))
 | 0, _, _, _, _, _, _, _, _, _, _ => none
 | k_ + 1, k2, vals2, facts2, d2, d3, q2, q3, q4, out, i => Z98 N Rf (Z7e N Rf k_) k2 vals2 facts2 d2 d3 q2 q3 q4 out i
def Z95 (N : Nat) (Rf : D0 -> Q0 -> Int -> I0 -> I0 -> Option (List (List Int × List Int))) (Z0bp : Int -> I0 -> I0 -> R0 -> A0 -> Int -> A0 -> I0 -> (List (List Int × List Int)) -> Int -> Option (List (List Int × List Int))) (d : D0) (q : Q0) (k : Int) (vals : I0) (facts : I0) : Option (List (List Int × List Int)) :=
 bif (k == (q.2.1.length : Int)) then
  grd (appOk [] vals 8) <|
  grd (appOk [] facts 8) <|
  some [(vals, facts)]
 else
 Z0bp k vals facts d.1 d.2 q.1 q.2.1 q.2.2 [] 0
def Z3g (N : Nat) : Nat -> D0 -> Q0 -> Int -> I0 -> I0 -> Option (List (List Int × List Int))
 | 0, _, _, _, _, _ => none
 | k_ + 1, d, q, k, vals, facts => Z95 N (Z3g N k_) (Z7e N (Z3g N k_) N) d q k vals facts
def Z81 (d : D0) (q : Q0) (k : Int) (vals : I0) (facts : I0) : Option (List (List Int × List Int)) := Z3g N N d q k vals facts
def Z2p (d : D0) (q : Q0) : Option (List (List Int × List Int)) :=
 (Z18 N d q).bind fun r =>
 bif (!r) then some []
 else
 (Z5j N q.1).bind fun r2 =>
 (Z81 N d q 0 r2 []).bind fun r3 =>
 some r3
def Z7f (N : Nat) (Z69 : I0 -> I0 -> Int -> Option I0) (rec_ : I0 -> I0 -> Int -> Int -> Option I0) (l3 : I0) (out2 : I0) (i2 : Int) (k : Int) : Option I0 :=
 bif decide (k > 0) then
  grd (inb (w64 (k - 1)) out2) <|
  grd (inb i2 l3) <|
  bif decide ((at_ 0 out2 (w64 (k - 1))) > (at_ 0 l3 i2)) then rec_ l3 out2 i2 (w64 (k - 1))
  else
  grd (subOk 0 k out2.length) <|
  grd (appOk [] (out2.take k.toNat) 8) <|
  grd (inb i2 l3) <|
  grd (appOk (out2.take k.toNat) [(at_ 0 l3 i2)] 8) <|
  grd (subOk k (out2.length : Int) out2.length) <|
  grd (appOk ((out2.take k.toNat) ++ [(at_ 0 l3 i2)]) (out2.drop k.toNat) 8) <|
  Z69 l3 (((out2.take k.toNat) ++ [(at_ 0 l3 i2)]) ++ (out2.drop k.toNat)) (w64 (i2 + 1))
 else
 grd (subOk 0 k out2.length) <|
 grd (appOk [] (out2.take k.toNat) 8) <|
 grd (inb i2 l3) <|
 grd (appOk (out2.take k.toNat) [(at_ 0 l3 i2)] 8) <|
 grd (subOk k (out2.length : Int) out2.length) <|
 grd (appOk ((out2.take k.toNat) ++ [(at_ 0 l3 i2)]) (out2.drop k.toNat) 8) <|
 Z69 l3 (((out2.take k.toNat) ++ [(at_ 0 l3 i2)]) ++ (out2.drop k.toNat)) (w64 (i2 + 1))
def Z58 (Z69 : I0 -> I0 -> Int -> Option I0) (N : Nat) : Nat -> I0 -> I0 -> Int -> Int -> Option I0
 | 0, _, _, _, _ => none
 | k_ + 1, l3, out2, i2, k => Z7f N Z69 (Z58 Z69 N k_) l3 out2 i2 k
def Z91 (N : Nat) (Z0bh : I0 -> I0 -> Int -> Int -> Option I0) (rec_ : I0 -> I0 -> Int -> Option I0) (l2 : I0) (out : I0) (i : Int) : Option I0 :=
 bif decide (i < (l2.length : Int)) then Z0bh l2 out i (out.length : Int)
 else
 some out
def Z37 (N : Nat) : Nat -> I0 -> I0 -> Int -> Option I0
 | 0, _, _, _ => none
 | k_ + 1, l2, out, i => Z91 N (Z58 (Z37 N k_) N N) (Z37 N k_) l2 out i
def Z9g (N : Nat) (Z0bi : I0 -> I0 -> Int -> Option I0) (l : I0) : Option I0 :=
 Z0bi l [] 0
def Z66 (l : I0) : Option I0 := Z9g N (Z37 N N) l
def Z8w (rec_ : I0 -> R0 -> A0 -> Int -> Option (Bool)) (l2 : I0) (d2 : R0) (d3 : A0) (i : Int) : Option (Bool) :=
 bif decide (i < (l2.length : Int)) then
  grd (inb i l2) <|
  (Z6 N (at_ 0 l2 i) 0 (w64 ((d3.length : Int) - 1))).bind fun r =>
  bif (!r) then some false
  else
  bif decide (i > 0) then
   grd (inb i l2) <|
   grd (inb (w64 (i - 1)) l2) <|
   bif decide ((at_ 0 l2 i) <= (at_ 0 l2 (w64 (i - 1)))) then some false
   else
   rec_ l2 d2 d3 (w64 (i + 1))
  else
  rec_ l2 d2 d3 (w64 (i + 1))
 else
 some true
def Z79 (N : Nat) : Nat -> I0 -> R0 -> A0 -> Int -> Option (Bool)
 | 0, _, _, _, _ => none
 | k_ + 1, l2, d2, d3, i => Z8w N (Z79 N k_) l2 d2 d3 i
def Z0ak (N : Nat) (Z0c2 : I0 -> R0 -> A0 -> Int -> Option (Bool)) (d : D0) (l : I0) : Option (Bool) :=
 Z0c2 l d.1 d.2 0
def Z8g (d : D0) (l : I0) : Option (Bool) := Z0ak N (Z79 N N) d l
def Z82 (N : Nat) (rec_ : I0 -> R0 -> A0 -> R0 -> A0 -> R0 -> A0 -> Int -> Option (D0 × Bool)) (l2 : I0) (d2 : R0) (d3 : A0) (t4 : R0) (t42 : A0) (x : R0) (x2 : A0) (i : Int) : Option (D0 × Bool) :=
 bif decide (i < (l2.length : Int)) then
  grd (inb i l2) <|
  grd (inb (at_ 0 l2 i) d3) <|
  grd (appOk [] ((at_ (0, []) d3 (at_ 0 l2 i)).2) 8) <|
  grd (appOk x2 [(at_ (0, []) d3 (at_ 0 l2 i))] 32) <|
  rec_ l2 d2 d3 t4 t42 x (x2 ++ [(at_ (0, []) d3 (at_ 0 l2 i))]) (w64 (i + 1))
 else
 some ((x, x2), true)
def Z54 (N : Nat) : Nat -> I0 -> R0 -> A0 -> R0 -> A0 -> R0 -> A0 -> Int -> Option (D0 × Bool)
 | 0, _, _, _, _, _, _, _, _ => none
 | k_ + 1, l2, d2, d3, t4, t42, x, x2, i => Z82 N (Z54 N k_) l2 d2 d3 t4 t42 x x2 i
def Z92 (Z0ba : I0 -> R0 -> A0 -> R0 -> A0 -> R0 -> A0 -> Int -> Option (D0 × Bool)) (d : D0) (l : I0) : Option (D0 × Bool) :=
 (Z0 N d).bind fun r =>
 bif (!r) then some (([], []), false)
 else
 (Z8g N d l).bind fun r2 =>
 bif (!r2) then some (([], []), false)
 else
 grd (appOk [] d.1 32) <|
 Z0ba l d.1 d.2 [] [] d.1 [] 0
def Z4a (d : D0) (l : I0) : Option (D0 × Bool) := Z92 N (Z54 N N) d l
def Z7x (rec_ : Int -> R0 -> A0 -> I0 -> Int -> Option I0) (i2 : Int) (d2 : R0) (d3 : A0) (out : I0) (k : Int) : Option I0 :=
 bif decide (k < (d3.length : Int)) then
  (Z0 N (d2, d3)).bind fun r =>
  bif r then
   (Z6 N i2 0 (w64 ((d3.length : Int) - 1))).bind fun r2 =>
   bif r2 then
    grd (inb i2 d3) <|
    grd (inb k d3) <|
    (Z2d N d2 (at_ (0, []) d3 i2) (at_ (0, []) d3 k)).bind fun r3 =>
    bif r3 then
     grd (appOk out [k] 8) <|
     rec_ i2 d2 d3 (out ++ [k]) (w64 (k + 1))
    else
    rec_ i2 d2 d3 out (w64 (k + 1))
   else
   some out
  else
  some out
 else
 some out
def Z5y (N : Nat) : Nat -> Int -> R0 -> A0 -> I0 -> Int -> Option I0
 | 0, _, _, _, _, _ => none
 | k_ + 1, i2, d2, d3, out, k => Z7x N (Z5y N k_) i2 d2 d3 out k
def Z9r (N : Nat) (Z0bq : Int -> R0 -> A0 -> I0 -> Int -> Option I0) (d : D0) (i : Int) : Option I0 :=
 Z0bq i d.1 d.2 [] 0
def Z6r (d : D0) (i : Int) : Option I0 := Z9r N (Z5y N N) d i
def Z6s (rec_ : R0 -> A0 -> L0 -> Int -> Option L0) (d2 : R0) (d3 : A0) (out : L0) (i : Int) : Option L0 :=
 bif decide (i < (d3.length : Int)) then
  (Z0 N (d2, d3)).bind fun r =>
  bif r then
   (Z6r N (d2, d3) i).bind fun r2 =>
   grd (inb 0 r2) <|
   bif ((at_ 0 r2 0) == i) then
    grd (appOk out [r2] 24) <|
    rec_ d2 d3 (out ++ [r2]) (w64 (i + 1))
   else
   rec_ d2 d3 out (w64 (i + 1))
  else
  some out
 else
 some out
def Z59 (N : Nat) : Nat -> R0 -> A0 -> L0 -> Int -> Option L0
 | 0, _, _, _, _ => none
 | k_ + 1, d2, d3, out, i => Z6s N (Z59 N k_) d2 d3 out i
def Z0a6 (N : Nat) (Z0bw : R0 -> A0 -> L0 -> Int -> Option L0) (d : D0) : Option L0 :=
 Z0bw d.1 d.2 [] 0
def Z7m (d : D0) : Option L0 := Z0a6 N (Z59 N N) d
def Z4u (d : D0) : Option (Bool) :=
 (Z0 N d).bind fun r =>
 bif r then
  (Z7m N d).bind fun r2 =>
  some ((r2.length : Int) == (d.2.length : Int))
 else
 some false
def Z1w (d : D0) (l : I0) : Option (Bool) :=
 (Z4a N d l).bind fun p_r =>
 bif p_r.2 then
  (Z4u N p_r.1).bind fun r3 =>
  some r3
 else
 some false
def Z8r (rec_ : R0 -> A0 -> L0 -> (List (List Int × List Int)) -> Int -> Option L0) (d2 : R0) (d3 : A0) (out : L0) (l : List (List Int × List Int)) (i : Int) : Option L0 :=
 bif decide (i < (l.length : Int)) then
  grd (inb i l) <|
  (Z66 N ((at_ ([], []) l i).2)).bind fun r2 =>
  (Z1w N (d2, d3) r2).bind fun r3 =>
  bif r3 then
   grd (appOk out [r2] 24) <|
   rec_ d2 d3 (out ++ [r2]) l (w64 (i + 1))
  else
  rec_ d2 d3 out l (w64 (i + 1))
 else
 some out
def Z6a (N : Nat) : Nat -> R0 -> A0 -> L0 -> (List (List Int × List Int)) -> Int -> Option L0
 | 0, _, _, _, _, _ => none
 | k_ + 1, d2, d3, out, l, i => Z8r N (Z6a N k_) d2 d3 out l i
def Z9c (Z0bg : R0 -> A0 -> L0 -> (List (List Int × List Int)) -> Int -> Option L0) (d : D0) (q : Q0) : Option L0 :=
 (Z2p N d q).bind fun r =>
 Z0bg d.1 d.2 [] r 0
def Z5a (d : D0) (q : Q0) : Option L0 := Z9c N (Z6a N N) d q
def Z9d (Z8x : L0 -> I0 -> Int -> Option (Bool)) (rec_ : L0 -> I0 -> Int -> Bool -> Int -> Option (Bool)) (l3 : L0) (s3 : I0) (i2 : Int) (all : Bool) (k : Int) : Option (Bool) :=
 grd (inb i2 l3) <|
 bif decide (k < ((at_ [] l3 i2).length : Int)) then
  bif all then
   grd (inb i2 l3) <|
   grd (inb k (at_ [] l3 i2)) <|
   (Z44 N s3 (at_ 0 (at_ [] l3 i2) k)).bind fun r =>
   rec_ l3 s3 i2 r (w64 (k + 1))
  else
  rec_ l3 s3 i2 false (w64 (k + 1))
 else
 bif all then some true
 else
 Z8x l3 s3 (w64 (i2 + 1))
def Z83 (Z8x : L0 -> I0 -> Int -> Option (Bool)) (N : Nat) : Nat -> L0 -> I0 -> Int -> Bool -> Int -> Option (Bool)
 | 0, _, _, _, _, _ => none
 | k_ + 1, l3, s3, i2, all, k => Z9d N Z8x (Z83 Z8x N k_) l3 s3 i2 all k
def Z8h (N : Nat) (Z0bx : L0 -> I0 -> Int -> Bool -> Int -> Option (Bool)) (rec_ : L0 -> I0 -> Int -> Option (Bool)) (l2 : L0) (s2 : I0) (i : Int) : Option (Bool) :=
 bif decide (i < (l2.length : Int)) then Z0bx l2 s2 i true 0
 else
 some false
def Z3h (N : Nat) : Nat -> L0 -> I0 -> Int -> Option (Bool)
 | 0, _, _, _ => none
 | k_ + 1, l2, s2, i => Z8h N (Z83 (Z3h N k_) N N) (Z3h N k_) l2 s2 i
def Z0a7 (N : Nat) (Z0by : L0 -> I0 -> Int -> Option (Bool)) (l : L0) (s : I0) : Option (Bool) :=
 Z0by l s 0
def Z8p (l : L0) (s : I0) : Option (Bool) := Z0a7 N (Z3h N N) l s
def Z4e (l : L0) (s : I0) : Option (Bool) :=
 (Z8p N l s).bind fun r =>
 some r
def Z7y (rec_ : L0 -> Bool -> R0 -> A0 -> Int -> A0 -> I0 -> L0 -> Int -> Option (List Int × Bool)) (sets2 : L0) (want2 : Bool) (d2 : R0) (d3 : A0) (q2 : Int) (q3 : A0) (q4 : I0) (need : L0) (i : Int) : Option (List Int × Bool) :=
 bif decide (i < (sets2.length : Int)) then
  (Z18 N (d2, d3) (q2, q3, q4)).bind fun r2 =>
  bif r2 then
   grd (inb i sets2) <|
   (Z4e N need (at_ [] sets2 i)).bind fun r3 =>
   bif (r3 == want2) then
    grd (inb i sets2) <|
    grd (appOk [] (at_ [] sets2 i) 8) <|
    some ((at_ [] sets2 i), true)
   else
   rec_ sets2 want2 d2 d3 q2 q3 q4 need (w64 (i + 1))
  else
  some ([], false)
 else
 some ([], false)
def Z5z (N : Nat) : Nat -> L0 -> Bool -> R0 -> A0 -> Int -> A0 -> I0 -> L0 -> Int -> Option (List Int × Bool)
 | 0, _, _, _, _, _, _, _, _, _ => none
 | k_ + 1, sets2, want2, d2, d3, q2, q3, q4, need, i => Z7y N (Z5z N k_) sets2 want2 d2 d3 q2 q3 q4 need i
def Z9s (Z0br : L0 -> Bool -> R0 -> A0 -> Int -> A0 -> I0 -> L0 -> Int -> Option (List Int × Bool)) (d : D0) (q : Q0) (sets : L0) (want : Bool) : Option (List Int × Bool) :=
 (Z5a N d q).bind fun r =>
 Z0br sets want d.1 d.2 q.1 q.2.1 q.2.2 r 0
def Z6t (d : D0) (q : Q0) (sets : L0) (want : Bool) : Option (List Int × Bool) := Z9s N (Z5z N N) d q sets want
def Z0p (d : D0) (l : List C0) (q : Q0) : Option (List Int × Bool) :=
 (Z1h N d l).bind fun r =>
 (Z6t N d q r false).bind fun p_r2 =>
 some (p_r2.1, p_r2.2)
def Z1i (d : D0) (l : List C0) (q : Q0) : Option (Bool) :=
 (Z0p N d l q).bind fun p_r =>
 (Z18 N d q).bind fun r3 =>
 bif r3 then some (!p_r.2)
 else
 some false
def Z4 (N : Nat) (n : Int) (low : Int) (high : Int) : Option (Bool) :=
 bif decide (low <= n) then some (decide (n <= high))
 else
 some false
def Z2h (relation : ByteArray × Int × Int) : Option (Bool) :=
 bif ((relation.1.size : Int) == 1) then
  (byteAt relation.1 0).bind fun b =>
  bif decide ((b.toNat : Int) >= 97) then
   (byteAt relation.1 0).bind fun b2 =>
   bif decide ((b2.toNat : Int) <= 122) then
    (Z4 N relation.2.1 1 3).bind fun r =>
    bif r then
     (Z4 N relation.2.2 0 relation.2.1).bind fun r2 =>
     some r2
    else
    some false
   else
   some false
  else
  some false
 else
 some false
def Z3u (rec_ : R0 -> R0 -> Int -> Int -> Option (Bool)) (relations2 : R0) (t5 : R0) (t6 : Int) (t7 : Int) : Option (Bool) :=
 bif decide (t7 < t6) then
  grd (inb t7 t5) <|
  (Z2h N ((at_ (⟨#[]⟩, (0, 0)) t5 t7).1, ((at_ (⟨#[]⟩, (0, 0)) t5 t7).2))).bind fun r =>
  bif (!r) then some false
  else
  bif decide (t7 > 0) then
   grd (inb (w64 (t7 - 1)) relations2) <|
   bif (!slt ((at_ (⟨#[]⟩, (0, 0)) relations2 (w64 (t7 - 1))).1) ((at_ (⟨#[]⟩, (0, 0)) t5 t7).1)) then some false
   else
   rec_ relations2 t5 t6 (w64 (t7 + 1))
  else
  rec_ relations2 t5 t6 (w64 (t7 + 1))
 else
 some (decide ((relations2.length : Int) <= 4))
def Z22 (N : Nat) : Nat -> R0 -> R0 -> Int -> Int -> Option (Bool)
 | 0, _, _, _, _ => none
 | k_ + 1, relations2, t5, t6, t7 => Z3u N (Z22 N k_) relations2 t5 t6 t7
def Z6u (N : Nat) (Z0a8 : R0 -> R0 -> Int -> Int -> Option (Bool)) (relations : R0) : Option (Bool) :=
 Z0a8 relations relations (relations.length : Int) 0
def Z0q (relations : R0) : Option (Bool) := Z6u N (Z22 N N) relations
def Z4v (v : Int) : Option (Bool) :=
 (Z4 N v 0 9).bind fun r =>
 some (!r)
def Z0u (rec_ : I0 -> Int -> Int -> Option (Int)) (s2 : I0) (t7 : Int) (t8 : Int) : Option (Int) :=
 bif decide (t8 < t7) then
  grd (inb t8 s2) <|
  (Z4v N (at_ 0 s2 t8)).bind fun r =>
  bif r then some t8
  else
  rec_ s2 t7 (w64 (t8 + 1))
 else
 some (-1)
def Z0c (N : Nat) : Nat -> I0 -> Int -> Int -> Option (Int)
 | 0, _, _, _ => none
 | k_ + 1, s2, t7, t8 => Z0u N (Z0c N k_) s2 t7 t8
def Z2i (N : Nat) (Z84 : I0 -> Int -> Int -> Option (Int)) (s : I0) : Option (Int) :=
 Z84 s (s.length : Int) 0
def Z0f (s : I0) : Option (Int) := Z2i N (Z0c N N) s
def Z0d (s : I0) : Option (Bool) :=
 (Z0f N s).bind fun r =>
 some (decide (r >= 0))
def Z5b (list : I0) : Option (Bool) :=
 (Z0d N list).bind fun r =>
 some (!r)
def Z7n (relations : R0) (fact : Int × List Int) : Option (Bool) :=
 (Z4 N fact.1 0 (w64 ((relations.length : Int) - 1))).bind fun r =>
 bif r then
  grd (inb fact.1 relations) <|
  bif ((fact.2.length : Int) == (((at_ (⟨#[]⟩, (0, 0)) relations fact.1).2).1)) then
   (Z5b N fact.2).bind fun r2 =>
   some r2
  else
  some false
 else
 some false
def Z85 (N : Nat) (a : Int) (b : Int) : Option (Int) :=
 bif decide (a < b) then some (-1)
 else
 bif decide (a > b) then some 1
 else
 some 0
def Z67 (N : Nat) (x : Int) : Option (Bool) :=
 some (x != x)
def Z4n (x : Int) (y : Int) : Option (Int) :=
 (Z67 N x).bind fun r =>
 (Z67 N y).bind fun r2 =>
 bif r then
  bif r2 then some 0
  else
  some (-1)
 else
 bif r2 then some 1
 else
 bif decide (x < y) then some (-1)
 else
 bif decide (x > y) then some 1
 else
 some 0
def Z24 (rec_ : I0 -> I0 -> I0 -> Int -> Int -> Option (Int)) (s12 : I0) (s22 : I0) (t9 : I0) (t10 : Int) (t11 : Int) : Option (Int) :=
 bif decide (t11 < t10) then
  grd (inb t11 t9) <|
  bif decide (t11 >= (s22.length : Int)) then some 1
  else
  grd (inb t11 s22) <|
  (Z4n N (at_ 0 t9 t11) (at_ 0 s22 t11)).bind fun r =>
  bif (r != 0) then some r
  else
  rec_ s12 s22 t9 t10 (w64 (t11 + 1))
 else
 bif decide ((s12.length : Int) < (s22.length : Int)) then some (-1)
 else
 some 0
def Z10 (N : Nat) : Nat -> I0 -> I0 -> I0 -> Int -> Int -> Option (Int)
 | 0, _, _, _, _, _ => none
 | k_ + 1, s12, s22, t9, t10, t11 => Z24 N (Z10 N k_) s12 s22 t9 t10 t11
def Z6c (N : Nat) (Z9z : I0 -> I0 -> I0 -> Int -> Int -> Option (Int)) (s1 : I0) (s2 : I0) : Option (Int) :=
 Z9z s1 s2 s1 (s1.length : Int) 0
def Z1j (s1 : I0) (s2 : I0) : Option (Int) := Z6c N (Z10 N N) s1 s2
def Z3q (a : Int × List Int) (b : Int × List Int) : Option (Int) :=
 bif (a.1 != b.1) then
  (Z85 N a.1 b.1).bind fun r =>
  some r
 else
 (Z1j N a.2 b.2).bind fun r2 =>
 some r2
def Z4i (rec_ : R0 -> A0 -> A0 -> Int -> Int -> Option (Bool)) (db2 : R0) (db3 : A0) (t16 : A0) (t17 : Int) (t18 : Int) : Option (Bool) :=
 bif decide (t18 < t17) then
  grd (inb t18 t16) <|
  (Z7n N db2 (at_ (0, []) t16 t18)).bind fun r2 =>
  bif (!r2) then some false
  else
  bif decide (t18 > 0) then
   grd (inb (w64 (t18 - 1)) db3) <|
   (Z3q N (at_ (0, []) db3 (w64 (t18 - 1))) (at_ (0, []) t16 t18)).bind fun r3 =>
   bif decide (r3 >= 0) then some false
   else
   rec_ db2 db3 t16 t17 (w64 (t18 + 1))
  else
  rec_ db2 db3 t16 t17 (w64 (t18 + 1))
 else
 some true
def Z2c (N : Nat) : Nat -> R0 -> A0 -> A0 -> Int -> Int -> Option (Bool)
 | 0, _, _, _, _, _ => none
 | k_ + 1, db2, db3, t16, t17, t18 => Z4i N (Z2c N k_) db2 db3 t16 t17 t18
def Z7o (Z0al : R0 -> A0 -> A0 -> Int -> Int -> Option (Bool)) (db : D0) : Option (Bool) :=
 (Z0q N db.1).bind fun r =>
 bif (!r) then some false
 else
 bif decide ((db.2.length : Int) > 14) then some false
 else
 Z0al db.1 db.2 db.2 (db.2.length : Int) 0
def Z0a (db : D0) : Option (Bool) := Z7o N (Z2c N N) db
def Z20 (db : D0) (constraint : C0) : Option (Bool) :=
 (Z0a N db).bind fun r =>
 bif (!r) then some false
 else
 (Z4 N constraint.1 0 (w64 ((db.1.length : Int) - 1))).bind fun r2 =>
 bif (!r2) then some false
 else
 (Z4 N constraint.2.1 0 (w64 ((db.1.length : Int) - 1))).bind fun r3 =>
 bif (!r3) then some false
 else
 grd (inb constraint.1 db.1) <|
 grd (inb constraint.2.1 db.1) <|
 (Z4 N constraint.2.2.1 0 (w64 ((((at_ (⟨#[]⟩, (0, 0)) db.1 constraint.1).2).1) - 1))).bind fun r4 =>
 bif r4 then
  (Z4 N constraint.2.2.2.2.1 0 (w64 ((((at_ (⟨#[]⟩, (0, 0)) db.1 constraint.1).2).1) - 1))).bind fun r5 =>
  bif r5 then
   (Z4 N constraint.2.2.2.1 0 (w64 ((((at_ (⟨#[]⟩, (0, 0)) db.1 constraint.2.1).2).1) - 1))).bind fun r6 =>
   bif r6 then
    (Z4 N constraint.2.2.2.2.2.1 0 (w64 ((((at_ (⟨#[]⟩, (0, 0)) db.1 constraint.2.1).2).1) - 1))).bind fun r7 =>
    bif r7 then
     (Z4 N constraint.2.2.2.2.2.2 1 2).bind fun r8 =>
     some r8
    else
    some false
   else
   some false
  else
  some false
 else
 some false
def Z7a (N : Nat) (c : C0) (a : Int × List Int) (b : Int × List Int) : Option (Bool) :=
 bif (a.1 != c.1) then some false
 else
 bif (b.1 != c.2.1) then some false
 else
 grd (inb c.2.2.1 a.2) <|
 grd (inb c.2.2.2.1 b.2) <|
 bif ((at_ 0 a.2 c.2.2.1) != (at_ 0 b.2 c.2.2.2.1)) then some false
 else
 grd (inb c.2.2.2.2.1 a.2) <|
 grd (inb c.2.2.2.2.2.1 b.2) <|
 bif (c.2.2.2.2.2.2 == 1) then
  bif ((at_ 0 a.2 c.2.2.2.2.1) == (at_ 0 b.2 c.2.2.2.2.2.1)) then some true
  else
  bif (c.2.2.2.2.2.2 == 2) then
   some (decide ((at_ 0 a.2 c.2.2.2.2.1) < (at_ 0 b.2 c.2.2.2.2.2.1)))
  else
  some false
 else
 bif (c.2.2.2.2.2.2 == 2) then
  some (decide ((at_ 0 a.2 c.2.2.2.2.1) < (at_ 0 b.2 c.2.2.2.2.2.1)))
 else
 some false
def Z12 (db : D0) (constraint : C0) (first : Int) (second : Int) : Option (Bool) :=
 (Z20 N db constraint).bind fun r =>
 bif r then
  bif (first != second) then
   (Z4 N first 0 (w64 ((db.2.length : Int) - 1))).bind fun r2 =>
   bif r2 then
    (Z4 N second 0 (w64 ((db.2.length : Int) - 1))).bind fun r3 =>
    bif r3 then
     grd (inb first db.2) <|
     grd (inb second db.2) <|
     (Z7a N constraint (at_ (0, []) db.2 first) (at_ (0, []) db.2 second)).bind fun r4 =>
     some r4
    else
    some false
   else
   some false
  else
  some false
 else
 some false
def Z45 (N : Nat) (rec_ : I0 -> I0 -> Int -> Int -> Option (Bool)) (s12 : I0) (s22 : I0) (t12 : Int) (t13 : Int) : Option (Bool) :=
 bif decide (t13 < t12) then
  grd (inb t13 s12) <|
  grd (inb t13 s22) <|
  bif ((at_ 0 s12 t13) != (at_ 0 s22 t13)) then some false
  else
  rec_ s12 s22 t12 (w64 (t13 + 1))
 else
 some true
def Z25 (N : Nat) : Nat -> I0 -> I0 -> Int -> Int -> Option (Bool)
 | 0, _, _, _, _ => none
 | k_ + 1, s12, s22, t12, t13 => Z45 N (Z25 N k_) s12 s22 t12 t13
def Z73 (N : Nat) (Z0ad : I0 -> I0 -> Int -> Int -> Option (Bool)) (s1 : I0) (s2 : I0) : Option (Bool) :=
 bif ((s1.length : Int) != (s2.length : Int)) then some false
 else
 Z0ad s1 s2 (s1.length : Int) 0
def Z26 (s1 : I0) (s2 : I0) : Option (Bool) := Z73 N (Z25 N N) s1 s2
def Z6v (relations : R0) (a : Int × List Int) (b : Int × List Int) : Option (Bool) :=
 bif (a.1 != b.1) then some false
 else
 grd (inb a.1 relations) <|
 grd (subOk 0 (((at_ (⟨#[]⟩, (0, 0)) relations a.1).2).2) a.2.length) <|
 grd (subOk 0 (((at_ (⟨#[]⟩, (0, 0)) relations a.1).2).2) b.2.length) <|
 (Z26 N (a.2.take (((at_ (⟨#[]⟩, (0, 0)) relations a.1).2).2).toNat) (b.2.take (((at_ (⟨#[]⟩, (0, 0)) relations a.1).2).2).toNat)).bind fun r =>
 some r
def Z46 (rec_ : Int -> Int -> R0 -> A0 -> (List C0) -> Int -> Int -> Option (Bool)) (a2 : Int) (b2 : Int) (t3 : R0) (t32 : A0) (t9 : List C0) (t10 : Int) (t11 : Int) : Option (Bool) :=
 bif decide (t11 < t10) then
  grd (inb t11 t9) <|
  (Z12 N (t3, t32) ((at_ (0, (0, (0, (0, (0, (0, 0)))))) t9 t11).1, ((at_ (0, (0, (0, (0, (0, (0, 0)))))) t9 t11).2).1, (((at_ (0, (0, (0, (0, (0, (0, 0)))))) t9 t11).2).2).1, ((((at_ (0, (0, (0, (0, (0, (0, 0)))))) t9 t11).2).2).2).1, (((((at_ (0, (0, (0, (0, (0, (0, 0)))))) t9 t11).2).2).2).2).1, ((((((at_ (0, (0, (0, (0, (0, (0, 0)))))) t9 t11).2).2).2).2).2)) a2 b2).bind fun r =>
  bif r then some true
  else
  (Z12 N (t3, t32) ((at_ (0, (0, (0, (0, (0, (0, 0)))))) t9 t11).1, ((at_ (0, (0, (0, (0, (0, (0, 0)))))) t9 t11).2).1, (((at_ (0, (0, (0, (0, (0, (0, 0)))))) t9 t11).2).2).1, ((((at_ (0, (0, (0, (0, (0, (0, 0)))))) t9 t11).2).2).2).1, (((((at_ (0, (0, (0, (0, (0, (0, 0)))))) t9 t11).2).2).2).2).1, ((((((at_ (0, (0, (0, (0, (0, (0, 0)))))) t9 t11).2).2).2).2).2)) b2 a2).bind fun r2 =>
  bif r2 then some true
  else
  rec_ a2 b2 t3 t32 t9 t10 (w64 (t11 + 1))
 else
 grd (inb a2 t32) <|
 grd (inb b2 t32) <|
 (Z6v N t3 (at_ (0, []) t32 a2) (at_ (0, []) t32 b2)).bind fun r3 =>
 some r3
def Z27 (N : Nat) : Nat -> Int -> Int -> R0 -> A0 -> (List C0) -> Int -> Int -> Option (Bool)
 | 0, _, _, _, _, _, _, _ => none
 | k_ + 1, a2, b2, t3, t32, t9, t10, t11 => Z46 N (Z27 N k_) a2 b2 t3 t32 t9 t10 t11
def Z74 (N : Nat) (Z0ae : Int -> Int -> R0 -> A0 -> (List C0) -> Int -> Int -> Option (Bool)) (a : Int) (b : Int) (c2 : List C0) (c3 : D0) : Option (Bool) :=
 Z0ae a b c3.1 c3.2 c2 (c2.length : Int) 0
def Z28 (a : Int) (b : Int) (c2 : List C0) (c3 : D0) : Option (Bool) := Z74 N (Z27 N N) a b c2 c3
def Z2j (Z2n : Int -> (List C0) -> D0 -> E0 -> Int -> Int -> Option E0) (rec_ : Int -> (List C0) -> D0 -> E0 -> Int -> Int -> Int -> Int -> Option E0) (n3 : Int) (holds3 : List C0) (holds4 : D0) (out2 : E0) (a : Int) (b : Int) (t92 : Int) (t102 : Int) : Option E0 :=
 bif decide (b < n3) then
  (Z28 N a b holds3 holds4).bind fun r =>
  bif r then
   grd (appOk out2 [(a, b)] 16) <|
   rec_ n3 holds3 holds4 (out2 ++ [(a, b)]) a (w64 (b + 1)) t92 t102
  else
  rec_ n3 holds3 holds4 out2 a (w64 (b + 1)) t92 t102
 else
 Z2n n3 holds3 holds4 out2 t92 (w64 (t102 + 1))
def Z0l (Z2n : Int -> (List C0) -> D0 -> E0 -> Int -> Int -> Option E0) (N : Nat) : Nat -> Int -> (List C0) -> D0 -> E0 -> Int -> Int -> Int -> Int -> Option E0
 | 0, _, _, _, _, _, _, _, _ => none
 | k_ + 1, n3, holds3, holds4, out2, a, b, t92, t102 => Z2j N Z2n (Z0l Z2n N k_) n3 holds3 holds4 out2 a b t92 t102
def Z2k (N : Nat) (Z9e : Int -> (List C0) -> D0 -> E0 -> Int -> Int -> Int -> Int -> Option E0) (rec_ : Int -> (List C0) -> D0 -> E0 -> Int -> Int -> Option E0) (n2 : Int) (holds : List C0) (holds2 : D0) (out : E0) (t9 : Int) (t10 : Int) : Option E0 :=
 bif decide (t10 < t9) then
  Z9e n2 holds holds2 out t10 (w64 (t10 + 1)) t9 t10
 else
 some out
def Z0m (N : Nat) : Nat -> Int -> (List C0) -> D0 -> E0 -> Int -> Int -> Option E0
 | 0, _, _, _, _, _, _ => none
 | k_ + 1, n2, holds, holds2, out, t9, t10 => Z2k N (Z0l (Z0m N k_) N N) (Z0m N k_) n2 holds holds2 out t9 t10
def Z4x (N : Nat) (Z9f : Int -> (List C0) -> D0 -> E0 -> Int -> Int -> Option E0) (n : Int) (c : List C0) (c2 : D0) : Option E0 :=
 Z9f n c c2 [] n 0
def Z1f (n : Int) (c : List C0) (c2 : D0) : Option E0 := Z4x N (Z0m N N) n c c2
def Z38 (db : D0) (constraints : List C0) : Option E0 :=
 (Z0a N db).bind fun r =>
 bif (!r) then some []
 else
 (Z1f N (db.2.length : Int) constraints db).bind fun r2 =>
 some r2
def Z52 (N : Nat) (rec_ : Int -> E0 -> E0 -> Int -> Int -> Option (Bool)) (n2 : Int) (edges2 : E0) (t10 : E0) (t11 : Int) (t12 : Int) : Option (Bool) :=
 bif decide (t12 < t11) then
  grd (inb t12 t10) <|
  bif decide (((at_ (0, 0) t10 t12).1) < 0) then some false
  else
  bif decide (((at_ (0, 0) t10 t12).1) >= ((at_ (0, 0) t10 t12).2)) then some false
  else
  bif decide (((at_ (0, 0) t10 t12).2) >= n2) then some false
  else
  bif decide (t12 > 0) then
   grd (inb (w64 (t12 - 1)) edges2) <|
   bif decide (((at_ (0, 0) edges2 (w64 (t12 - 1))).1) > ((at_ (0, 0) t10 t12).1)) then some false
   else
   grd (inb (w64 (t12 - 1)) edges2) <|
   bif (((at_ (0, 0) edges2 (w64 (t12 - 1))).1) == ((at_ (0, 0) t10 t12).1)) then
    grd (inb (w64 (t12 - 1)) edges2) <|
    bif decide (((at_ (0, 0) edges2 (w64 (t12 - 1))).2) >= ((at_ (0, 0) t10 t12).2)) then some false
    else
    rec_ n2 edges2 t10 t11 (w64 (t12 + 1))
   else
   rec_ n2 edges2 t10 t11 (w64 (t12 + 1))
  else
  rec_ n2 edges2 t10 t11 (w64 (t12 + 1))
 else
 some true
def Z2z (N : Nat) : Nat -> Int -> E0 -> E0 -> Int -> Int -> Option (Bool)
 | 0, _, _, _, _, _ => none
 | k_ + 1, n2, edges2, t10, t11, t12 => Z52 N (Z2z N k_) n2 edges2 t10 t11 t12
def Z8i (Z0av : Int -> E0 -> E0 -> Int -> Int -> Option (Bool)) (n : Int) (edges : E0) : Option (Bool) :=
 (Z4 N n 0 14).bind fun r =>
 bif (!r) then some false
 else
 Z0av n edges edges (edges.length : Int) 0
def Z1x (n : Int) (edges : E0) : Option (Bool) := Z8i N (Z2z N N) n edges
def Z6d (rec_ : I0 -> Int -> I0 -> Int -> Int -> Option (Bool)) (indices2 : I0) (n2 : Int) (t7 : I0) (t8 : Int) (t9 : Int) : Option (Bool) :=
 bif decide (t9 < t8) then
  grd (inb t9 t7) <|
  (Z4 N (at_ 0 t7 t9) 0 (w64 (n2 - 1))).bind fun r =>
  bif (!r) then some false
  else
  bif decide (t9 > 0) then
   grd (inb (w64 (t9 - 1)) indices2) <|
   bif decide ((at_ 0 indices2 (w64 (t9 - 1))) >= (at_ 0 t7 t9)) then some false
   else
   rec_ indices2 n2 t7 t8 (w64 (t9 + 1))
  else
  rec_ indices2 n2 t7 t8 (w64 (t9 + 1))
 else
 some true
def Z4f (N : Nat) : Nat -> I0 -> Int -> I0 -> Int -> Int -> Option (Bool)
 | 0, _, _, _, _, _ => none
 | k_ + 1, indices2, n2, t7, t8, t9 => Z6d N (Z4f N k_) indices2 n2 t7 t8 t9
def Z99 (N : Nat) (Z0be : I0 -> Int -> I0 -> Int -> Int -> Option (Bool)) (indices : I0) (n : Int) : Option (Bool) :=
 Z0be indices n indices (indices.length : Int) 0
def Z1y (indices : I0) (n : Int) : Option (Bool) := Z99 N (Z4f N N) indices n
def Z47 (N : Nat) (rec_ : I0 -> Int -> Int -> Int -> Option (Int)) (s2 : I0) (v2 : Int) (t7 : Int) (t8 : Int) : Option (Int) :=
 bif decide (t8 < t7) then
  grd (inb t8 s2) <|
  bif (v2 == (at_ 0 s2 t8)) then some t8
  else
  rec_ s2 v2 t7 (w64 (t8 + 1))
 else
 some (-1)
def Z29 (N : Nat) : Nat -> I0 -> Int -> Int -> Int -> Option (Int)
 | 0, _, _, _, _ => none
 | k_ + 1, s2, v2, t7, t8 => Z47 N (Z29 N k_) s2 v2 t7 t8
def Z75 (N : Nat) (Z0af : I0 -> Int -> Int -> Int -> Option (Int)) (s : I0) (v : Int) : Option (Int) :=
 Z0af s v (s.length : Int) 0
def Z30 (s : I0) (v : Int) : Option (Int) := Z75 N (Z29 N N) s v
def Z0g (s : I0) (v : Int) : Option (Bool) :=
 (Z30 N s v).bind fun r =>
 some (decide (r >= 0))
def Z31 (e : Int × Int) (c1 : I0) : Option (Bool) :=
 (Z0g N c1 e.1).bind fun r =>
 bif r then
  (Z0g N c1 e.2).bind fun r2 =>
  some r2
 else
 some false
def Z7 (rec_ : E0 -> I0 -> Int -> Int -> Option (Int)) (s2 : E0) (f : I0) (t7 : Int) (t8 : Int) : Option (Int) :=
 bif decide (t8 < t7) then
  grd (inb t8 s2) <|
  (Z31 N (at_ (0, 0) s2 t8) f).bind fun r =>
  bif r then some t8
  else
  rec_ s2 f t7 (w64 (t8 + 1))
 else
 some (-1)
def Z1 (N : Nat) : Nat -> E0 -> I0 -> Int -> Int -> Option (Int)
 | 0, _, _, _, _ => none
 | k_ + 1, s2, f, t7, t8 => Z7 N (Z1 N k_) s2 f t7 t8
def Z0j (N : Nat) (Z4b : E0 -> I0 -> Int -> Int -> Option (Int)) (s : E0) (c : I0) : Option (Int) :=
 Z4b s c (s.length : Int) 0
def Z3 (s : E0) (c : I0) : Option (Int) := Z0j N (Z1 N N) s c
def Z2 (s : E0) (c : I0) : Option (Bool) :=
 (Z3 N s c).bind fun r =>
 some (decide (r >= 0))
def Z0s (edges : E0) (set : I0) : Option (Bool) :=
 (Z2 N edges set).bind fun r =>
 some (!r)
def Z32 (n : Int) (edges : E0) (set : I0) : Option (Bool) :=
 (Z1x N n edges).bind fun r =>
 bif r then
  (Z1y N set n).bind fun r2 =>
  bif r2 then
   (Z0s N edges set).bind fun r3 =>
   some r3
  else
  some false
 else
 some false
def Z2t (rec_ : E0 -> I0 -> Int -> Int -> Option (Bool)) (edges2 : E0) (set2 : I0) (t13 : Int) (t14 : Int) : Option (Bool) :=
 bif decide (t14 < t13) then
  (Z0g N set2 t14).bind fun r2 =>
  bif (!r2) then
   (Z0v N set2).bind fun r3 =>
   grd (appOk r3 [t14] 8) <|
   (Z0s N edges2 (r3 ++ [t14])).bind fun r4 =>
   bif r4 then some false
   else
   rec_ edges2 set2 t13 (w64 (t14 + 1))
  else
  rec_ edges2 set2 t13 (w64 (t14 + 1))
 else
 some true
def Z17 (N : Nat) : Nat -> E0 -> I0 -> Int -> Int -> Option (Bool)
 | 0, _, _, _, _ => none
 | k_ + 1, edges2, set2, t13, t14 => Z2t N (Z17 N k_) edges2 set2 t13 t14
def Z5k (Z9j : E0 -> I0 -> Int -> Int -> Option (Bool)) (n : Int) (edges : E0) (set : I0) : Option (Bool) :=
 (Z32 N n edges set).bind fun r =>
 bif (!r) then some false
 else
 Z9j edges set n 0
def Z14 (n : Int) (edges : E0) (set : I0) : Option (Bool) := Z5k N (Z17 N N) n edges set
def Z2l (Rf : Int -> I0 -> Int -> E0 -> L0 -> Int -> E0 -> Option L0) (v : Int) (set : I0) (c2 : Int) (c3 : E0) (c4 : L0) (sc2 : Int) (sc3 : E0) : Option L0 :=
 bif (v == c2) then
  (Z14 N c2 c3 set).bind fun r =>
  bif r then
   grd (appOk [] set 8) <|
   grd (appOk c4 [set] 24) <|
   some (c4 ++ [set])
  else
  some c4
 else
 (Z0v N set).bind fun r2 =>
 grd (appOk r2 [v] 8) <|
 (Z0s N c3 (r2 ++ [v])).bind fun r3 =>
 bif r3 then
  (Rf (w64 (v + 1)) (r2 ++ [v]) sc2 sc3 c4 sc2 sc3).bind fun m =>
  (Rf (w64 (v + 1)) set sc2 sc3 m sc2 sc3).bind fun m2 =>
  some m2
 else
 (Rf (w64 (v + 1)) set sc2 sc3 c4 sc2 sc3).bind fun m3 =>
 some m3
def Z0h (N : Nat) : Nat -> Int -> I0 -> Int -> E0 -> L0 -> Int -> E0 -> Option L0
 | 0, _, _, _, _, _, _, _ => none
 | k_ + 1, v, set, c2, c3, c4, sc2, sc3 => Z2l N (Z0h N k_) v set c2 c3 c4 sc2 sc3
def Z0y (v : Int) (set : I0) (c2 : Int) (c3 : E0) (c4 : L0) (sc2 : Int) (sc3 : E0) : Option L0 := Z0h N N v set c2 c3 c4 sc2 sc3
def Z0t (n : Int) (edges : E0) : Option L0 :=
 (Z1x N n edges).bind fun r =>
 bif (!r) then some []
 else
 (Z0y N 0 [] n edges [] n edges).bind fun m =>
 some m
def Z39 (db : D0) (constraints : List C0) : Option L0 :=
 (Z0a N db).bind fun r =>
 bif (!r) then some []
 else
 (Z38 N db constraints).bind fun r2 =>
 (Z0t N (db.2.length : Int) r2).bind fun r3 =>
 some r3
def Z3i (N : Nat) (rec_ : Int -> L0 -> I0 -> L0 -> L0 -> Int -> Int -> Option L0) (most3 : Int) (sets3 : L0) (outx : I0) (out3 : L0) (t272 : L0) (t282 : Int) (t292 : Int) : Option L0 :=
 bif decide (t292 < t282) then
  grd (inb t292 t272) <|
  bif (((at_ [] t272 t292).length : Int) == most3) then
   grd (selOk outx t292 out3 24) <|
   rec_ most3 sets3 (outx ++ [t292]) (out3 ++ [(at_ [] t272 t292)]) t272 t282 (w64 (t292 + 1))
  else
  rec_ most3 sets3 outx out3 t272 t282 (w64 (t292 + 1))
 else
 some out3
def Z1q (N : Nat) : Nat -> Int -> L0 -> I0 -> L0 -> L0 -> Int -> Int -> Option L0
 | 0, _, _, _, _, _, _, _ => none
 | k_ + 1, most3, sets3, outx, out3, t272, t282, t292 => Z3i N (Z1q N k_) most3 sets3 outx out3 t272 t282 t292
def Z3j (N : Nat) (Z0a0 : Int -> L0 -> I0 -> L0 -> L0 -> Int -> Int -> Option L0) (rec_ : Int -> L0 -> L0 -> L0 -> Int -> Int -> Option L0) (most2 : Int) (sets2 : L0) (out2 : L0) (t27 : L0) (t28 : Int) (t29 : Int) : Option L0 :=
 bif decide (t29 < t28) then
  grd (inb t29 t27) <|
  bif (((at_ [] t27 t29).length : Int) == most2) then
   grd (selOk0 out2 24) <|
   Z0a0 most2 sets2 [t29] [(at_ [] t27 t29)] t27 t28 (w64 (t29 + 1))
  else
  rec_ most2 sets2 out2 t27 t28 (w64 (t29 + 1))
 else
 some out2
def Z1r (N : Nat) : Nat -> Int -> L0 -> L0 -> L0 -> Int -> Int -> Option L0
 | 0, _, _, _, _, _, _ => none
 | k_ + 1, most2, sets2, out2, t27, t28, t29 => Z3j N (Z1q N k_) (Z1r N k_) most2 sets2 out2 t27 t28 t29
def Z3k (N : Nat) (Z0a1 : Int -> L0 -> L0 -> L0 -> Int -> Int -> Option L0) (rec_ : Int -> L0 -> L0 -> L0 -> Int -> Int -> Option L0) (most : Int) (sets : L0) (out : L0) (t16 : L0) (t17 : Int) (t18 : Int) : Option L0 :=
 bif decide (t18 < t17) then
  grd (inb t18 t16) <|
  rec_ (imax most ((at_ [] t16 t18).length : Int)) sets out t16 t17 (w64 (t18 + 1))
 else
 Z0a1 most sets out sets (sets.length : Int) 0
def Z1s (N : Nat) : Nat -> Int -> L0 -> L0 -> L0 -> Int -> Int -> Option L0
 | 0, _, _, _, _, _, _ => none
 | k_ + 1, most, sets, out, t16, t17, t18 => Z3k N (Z1r N N) (Z1s N k_) most sets out t16 t17 t18
def Z6e (Z0a2 : Int -> L0 -> L0 -> L0 -> Int -> Int -> Option L0) (db : D0) (constraints : List C0) : Option L0 :=
 (Z39 N db constraints).bind fun r =>
 Z0a2 0 r [] r (r.length : Int) 0
def Z1k (db : D0) (constraints : List C0) : Option L0 := Z6e N (Z1s N N) db constraints
def Z3l (N : Nat) (own : Int × List Int) (c1 : Int × List Int) : Option (Bool) :=
 some (own.1 == c1.1)
def Z0n (rec_ : A0 -> (Int × List Int) -> Int -> Int -> Option (Int)) (s2 : A0) (f : Int × List Int) (t7 : Int) (t8 : Int) : Option (Int) :=
 bif decide (t8 < t7) then
  grd (inb t8 s2) <|
  (Z3l N (at_ (0, []) s2 t8) f).bind fun r =>
  bif r then some t8
  else
  rec_ s2 f t7 (w64 (t8 + 1))
 else
 some (-1)
def Z8 (N : Nat) : Nat -> A0 -> (Int × List Int) -> Int -> Int -> Option (Int)
 | 0, _, _, _, _ => none
 | k_ + 1, s2, f, t7, t8 => Z0n N (Z8 N k_) s2 f t7 t8
def Z1z (N : Nat) (Z71 : A0 -> (Int × List Int) -> Int -> Int -> Option (Int)) (s : A0) (c : Int × List Int) : Option (Int) :=
 Z71 s c (s.length : Int) 0
def Z0b (s : A0) (c : Int × List Int) : Option (Int) := Z1z N (Z8 N N) s c
def Z5 (s : A0) (c : Int × List Int) : Option (Bool) :=
 (Z0b N s c).bind fun r =>
 some (decide (r >= 0))
def Z5l (N : Nat) (rec_ : I0 -> L0 -> Int -> Int -> Option I0) (newslice : I0) (t25 : L0) (t26 : Int) (t27 : Int) : Option I0 :=
 bif decide (t27 < t26) then
  grd (inb t27 t25) <|
  grd (appOk newslice (at_ [] t25 t27) 8) <|
  rec_ (newslice ++ (at_ [] t25 t27)) t25 t26 (w64 (t27 + 1))
 else
 some newslice
def Z23 (N : Nat) : Nat -> I0 -> L0 -> Int -> Int -> Option I0
 | 0, _, _, _, _ => none
 | k_ + 1, newslice, t25, t26, t27 => Z5l N (Z23 N k_) newslice t25 t26 t27
def Z5m (Z0a9 : I0 -> L0 -> Int -> Int -> Option I0) (rec_ : L0 -> Int -> L0 -> Int -> Int -> Option I0) (slices2 : L0) (size : Int) (t9 : L0) (t10 : Int) (t11 : Int) : Option I0 :=
 bif decide (t11 < t10) then
  grd (inb t11 t9) <|
  bif decide ((w64 (size + ((at_ [] t9 t11).length : Int))) < 0) then none
  else
  rec_ slices2 (w64 (size + ((at_ [] t9 t11).length : Int))) t9 t10 (w64 (t11 + 1))
 else
 (Z88 N [] size).bind fun r =>
 Z0a9 r slices2 (slices2.length : Int) 0
def Z2u (N : Nat) : Nat -> L0 -> Int -> L0 -> Int -> Int -> Option I0
 | 0, _, _, _, _, _ => none
 | k_ + 1, slices2, size, t9, t10, t11 => Z5m N (Z23 N N) (Z2u N k_) slices2 size t9 t10 t11
def Z6w (N : Nat) (Z0aa : L0 -> Int -> L0 -> Int -> Int -> Option I0) (slices : L0) : Option I0 :=
 Z0aa slices 0 slices (slices.length : Int) 0
def Z21 (slices : L0) : Option I0 := Z6w N (Z2u N N) slices
def Z6f (a : I0) (b : I0) : Option I0 :=
 (Z21 N [a, b]).bind fun r =>
 (Z89 N r).bind fun m =>
 (Z72 N m).bind fun r2 =>
 some r2
def Z76 (rec_ : I0 -> I0 -> Int -> Int -> Option I0) (out : I0) (t8 : I0) (t9 : Int) (t10 : Int) : Option I0 :=
 bif decide (t10 < t9) then
  grd (inb t10 t8) <|
  (Z4 N (at_ 0 t8 t10) 0 3).bind fun r =>
  bif r then
   grd (appOk out [(at_ 0 t8 t10)] 8) <|
   rec_ (out ++ [(at_ 0 t8 t10)]) t8 t9 (w64 (t10 + 1))
  else
  rec_ out t8 t9 (w64 (t10 + 1))
 else
 (Z6f N out []).bind fun r2 =>
 some r2
def Z4g (N : Nat) : Nat -> I0 -> I0 -> Int -> Int -> Option I0
 | 0, _, _, _, _ => none
 | k_ + 1, out, t8, t9, t10 => Z76 N (Z4g N k_) out t8 t9 t10
def Z8j (N : Nat) (Z0aw : I0 -> I0 -> Int -> Int -> Option I0) (atom : Int × List Int) : Option I0 :=
 Z0aw [] atom.2 (atom.2.length : Int) 0
def Z3a (atom : Int × List Int) : Option I0 := Z8j N (Z4g N N) atom
def Z5h (Z60 : R0 -> Int -> A0 -> I0 -> I0 -> A0 -> Int -> Int -> Option (Bool)) (rec_ : R0 -> Int -> A0 -> I0 -> I0 -> Int -> I0 -> A0 -> Int -> Int -> I0 -> Int -> Int -> Option (Bool)) (relations3 : R0) (query5 : Int) (query6 : A0) (query7 : I0) (occurring2 : I0) (atom : Int) (atom2 : I0) (t362 : A0) (t372 : Int) (t382 : Int) (t71 : I0) (t72 : Int) (t73 : Int) : Option (Bool) :=
 bif decide (t73 < t72) then
  grd (inb t73 t71) <|
  (Z4 N (at_ 0 t71 t73) (-10) (w64 (query5 - 1))).bind fun r7 =>
  bif (!r7) then some false
  else
  rec_ relations3 query5 query6 query7 occurring2 atom atom2 t362 t372 t382 t71 t72 (w64 (t73 + 1))
 else
 (Z3a N (atom, atom2)).bind fun r8 =>
 (Z6f N occurring2 r8).bind fun r9 =>
 Z60 relations3 query5 query6 query7 r9 t362 t372 (w64 (t382 + 1))
def Z2m (Z60 : R0 -> Int -> A0 -> I0 -> I0 -> A0 -> Int -> Int -> Option (Bool)) (N : Nat) : Nat -> R0 -> Int -> A0 -> I0 -> I0 -> Int -> I0 -> A0 -> Int -> Int -> I0 -> Int -> Int -> Option (Bool)
 | 0, _, _, _, _, _, _, _, _, _, _, _, _, _ => none
 | k_ + 1, relations3, query5, query6, query7, occurring2, atom, atom2, t362, t372, t382, t71, t72, t73 => Z5h N Z60 (Z2m Z60 N k_) relations3 query5 query6 query7 occurring2 atom atom2 t362 t372 t382 t71 t72 t73
def Z7p (Z0b4 : R0 -> Int -> A0 -> I0 -> I0 -> Int -> I0 -> A0 -> Int -> Int -> I0 -> Int -> Int -> Option (Bool)) (rec_ : R0 -> Int -> A0 -> I0 -> I0 -> A0 -> Int -> Int -> Option (Bool)) (relations2 : R0) (query2 : Int) (query3 : A0) (query4 : I0) (occurring : I0) (t36 : A0) (t37 : Int) (t38 : Int) : Option (Bool) :=
 bif decide (t38 < t37) then
  grd (inb t38 t36) <|
  (Z4 N ((at_ (0, []) t36 t38).1) 0 (w64 ((relations2.length : Int) - 1))).bind fun r5 =>
  bif (!r5) then some false
  else
  grd (inb ((at_ (0, []) t36 t38).1) relations2) <|
  bif ((((at_ (0, []) t36 t38).2).length : Int) != (((at_ (⟨#[]⟩, (0, 0)) relations2 ((at_ (0, []) t36 t38).1)).2).1)) then some false
  else
  grd (subOk 0 t38 query3.length) <|
  (Z5 N (query3.take t38.toNat) (at_ (0, []) t36 t38)).bind fun r6 =>
  bif r6 then some false
  else
  Z0b4 relations2 query2 query3 query4 occurring ((at_ (0, []) t36 t38).1) ((at_ (0, []) t36 t38).2) t36 t37 t38 ((at_ (0, []) t36 t38).2) (((at_ (0, []) t36 t38).2).length : Int) 0
 else
 some ((occurring.length : Int) == query2)
def Z3m (N : Nat) : Nat -> R0 -> Int -> A0 -> I0 -> I0 -> A0 -> Int -> Int -> Option (Bool)
 | 0, _, _, _, _, _, _, _, _ => none
 | k_ + 1, relations2, query2, query3, query4, occurring, t36, t37, t38 => Z7p N (Z2m (Z3m N k_) N N) (Z3m N k_) relations2 query2 query3 query4 occurring t36 t37 t38
def Z8s (Z0b5 : R0 -> Int -> A0 -> I0 -> I0 -> A0 -> Int -> Int -> Option (Bool)) (relations : R0) (query : Q0) : Option (Bool) :=
 (Z0q N relations).bind fun r =>
 bif (!r) then some false
 else
 (Z4 N query.1 0 4).bind fun r2 =>
 bif (!r2) then some false
 else
 (Z4 N (query.2.1.length : Int) 1 3).bind fun r3 =>
 bif (!r3) then some false
 else
 (Z1y N query.2.2 query.1).bind fun r4 =>
 bif (!r4) then some false
 else
 Z0b5 relations query.1 query.2.1 query.2.2 [] query.2.1 (query.2.1.length : Int) 0
def Z3r (relations : R0) (query : Q0) : Option (Bool) := Z8s N (Z3m N N) relations query
def Z19 (db : D0) (query : Q0) : Option (Bool) :=
 (Z0a N db).bind fun r =>
 bif r then
  (Z3r N db.1 query).bind fun r2 =>
  some r2
 else
 some false
def Z7q (N : Nat) (rec_ : R0 -> A0 -> R0 -> A0 -> A0 -> Int -> Int -> Option D0) (t2 : R0) (t22 : A0) (out : R0) (out2 : A0) (t13 : A0) (t14 : Int) (t15 : Int) : Option D0 :=
 bif decide (t15 < t14) then
  grd (inb t15 t13) <|
  grd (appOk [] ((at_ (0, []) t13 t15).2) 8) <|
  grd (appOk out2 [(at_ (0, []) t13 t15)] 32) <|
  rec_ t2 t22 out (out2 ++ [(at_ (0, []) t13 t15)]) t13 t14 (w64 (t15 + 1))
 else
 some (out, out2)
def Z4o (N : Nat) : Nat -> R0 -> A0 -> R0 -> A0 -> A0 -> Int -> Int -> Option D0
 | 0, _, _, _, _, _, _, _ => none
 | k_ + 1, t2, t22, out, out2, t13, t14, t15 => Z7q N (Z4o N k_) t2 t22 out out2 t13 t14 t15
def Z8t (N : Nat) (Z0b6 : R0 -> A0 -> R0 -> A0 -> A0 -> Int -> Int -> Option D0) (db : D0) : Option D0 :=
 grd (appOk [] db.1 32) <|
 Z0b6 [] [] db.1 [] db.2 (db.2.length : Int) 0
def Z3s (db : D0) : Option D0 := Z8t N (Z4o N N) db
def Z86 (N : Nat) (rec_ : R0 -> A0 -> R0 -> A0 -> R0 -> A0 -> I0 -> Int -> Int -> Option (D0 × Bool)) (t43 : R0) (t44 : A0) (all3 : R0) (all4 : A0) (out3 : R0) (out4 : A0) (t272 : I0) (t282 : Int) (t292 : Int) : Option (D0 × Bool) :=
 bif decide (t292 < t282) then
  grd (inb t292 t272) <|
  grd (inb (at_ 0 t272 t292) all4) <|
  grd (appOk out4 [(at_ (0, []) all4 (at_ 0 t272 t292))] 32) <|
  rec_ t43 t44 all3 all4 out3 (out4 ++ [(at_ (0, []) all4 (at_ 0 t272 t292))]) t272 t282 (w64 (t292 + 1))
 else
 some ((out3, out4), true)
def Z55 (N : Nat) : Nat -> R0 -> A0 -> R0 -> A0 -> R0 -> A0 -> I0 -> Int -> Int -> Option (D0 × Bool)
 | 0, _, _, _, _, _, _, _, _, _ => none
 | k_ + 1, t43, t44, all3, all4, out3, out4, t272, t282, t292 => Z86 N (Z55 N k_) t43 t44 all3 all4 out3 out4 t272 t282 t292
def Z87 (N : Nat) (Z0bb : R0 -> A0 -> R0 -> A0 -> R0 -> A0 -> I0 -> Int -> Int -> Option (D0 × Bool)) (rec_ : R0 -> A0 -> R0 -> A0 -> R0 -> A0 -> I0 -> Int -> Int -> Option (D0 × Bool)) (t4 : R0) (t42 : A0) (all : R0) (all2 : A0) (out : R0) (out2 : A0) (t27 : I0) (t28 : Int) (t29 : Int) : Option (D0 × Bool) :=
 bif decide (t29 < t28) then
  grd (inb t29 t27) <|
  grd (inb (at_ 0 t27 t29) all2) <|
  grd (appOk out2 [(at_ (0, []) all2 (at_ 0 t27 t29))] 32) <|
  Z0bb t4 t42 all all2 out (out2 ++ [(at_ (0, []) all2 (at_ 0 t27 t29))]) t27 t28 (w64 (t29 + 1))
 else
 some ((out, out2), true)
def Z70 (N : Nat) : Nat -> R0 -> A0 -> R0 -> A0 -> R0 -> A0 -> I0 -> Int -> Int -> Option (D0 × Bool)
 | 0, _, _, _, _, _, _, _, _, _ => none
 | k_ + 1, t4, t42, all, all2, out, out2, t27, t28, t29 => Z87 N (Z55 N k_) (Z70 N k_) t4 t42 all all2 out out2 t27 t28 t29
def Z93 (Z0bc : R0 -> A0 -> R0 -> A0 -> R0 -> A0 -> I0 -> Int -> Int -> Option (D0 × Bool)) (db : D0) (indices : I0) : Option (D0 × Bool) :=
 (Z0a N db).bind fun r =>
 bif (!r) then some (([], []), false)
 else
 (Z1y N indices (db.2.length : Int)).bind fun r2 =>
 bif (!r2) then some (([], []), false)
 else
 (Z3s N db).bind fun r3 =>
 Z0bc [] [] r3.1 r3.2 r3.1 [] indices (indices.length : Int) 0
def Z4c (db : D0) (indices : I0) : Option (D0 × Bool) := Z93 N (Z70 N N) db indices
def Z5n (n : Int) : Option I0 :=
 (Z7g N [(-1)] n).bind fun r =>
 some r
def Z61 (N : Nat) (t : Int) : Option (Bool) :=
 some (decide (t >= 0))
def Z4w (N : Nat) (v : Int) : Option (Int) :=
 some (w64 ((-1) - v))
def Z9h (rec_ : I0 -> I0 -> I0 -> Int -> Int -> Option (List Int × Bool)) (from_2 : I0) (out : I0) (t13 : I0) (t14 : Int) (t15 : Int) : Option (List Int × Bool) :=
 bif decide (t15 < t14) then
  grd (inb t15 t13) <|
  (Z61 N (at_ 0 t13 t15)).bind fun r2 =>
  bif (!r2) then
   (Z4w N (at_ 0 t13 t15)).bind fun r3 =>
   grd (inb t15 from_2) <|
   bif (r3 != (at_ 0 from_2 t15)) then some ([], false)
   else
   rec_ from_2 out t13 t14 (w64 (t15 + 1))
  else
  grd (inb (at_ 0 t13 t15) out) <|
  bif decide ((at_ 0 out (at_ 0 t13 t15)) < 0) then
   grd (inb t15 from_2) <|
   grd (inb (at_ 0 t13 t15) out) <|
   grd (inb (at_ 0 t13 t15) out) <|
   letv (out.set (at_ 0 t13 t15).toNat (at_ 0 from_2 t15)) fun u =>
   rec_ from_2 u t13 t14 (w64 (t15 + 1))
  else
  grd (inb (at_ 0 t13 t15) out) <|
  grd (inb t15 from_2) <|
  bif ((at_ 0 out (at_ 0 t13 t15)) != (at_ 0 from_2 t15)) then some ([], false)
  else
  rec_ from_2 out t13 t14 (w64 (t15 + 1))
 else
 some (out, true)
def Z8n (N : Nat) : Nat -> I0 -> I0 -> I0 -> Int -> Int -> Option (List Int × Bool)
 | 0, _, _, _, _, _ => none
 | k_ + 1, from_2, out, t13, t14, t15 => Z9h N (Z8n N k_) from_2 out t13 t14 t15
def Z0am (Z0c3 : I0 -> I0 -> I0 -> Int -> Int -> Option (List Int × Bool)) (values : I0) (terms : I0) (from_ : I0) : Option (List Int × Bool) :=
 (Z0v N values).bind fun r =>
 Z0c3 from_ r terms (terms.length : Int) 0
def Z8k (values : I0) (terms : I0) (from_ : I0) : Option (List Int × Bool) := Z0am N (Z8n N N) values terms from_
def Z5o (Rf : I0 -> I0 -> Q0 -> (List (List Int × List Int)) -> D0 -> Q0 -> D0 -> Option (List (List Int × List Int))) (rec_ : I0 -> I0 -> (List (List Int × List Int)) -> Q0 -> D0 -> Int -> I0 -> A0 -> Int -> Int -> Option (List (List Int × List Int))) (values2 : I0) (facts2 : I0) (t3 : List (List Int × List Int)) (t5c : Q0) (t5c2 : D0) (atom : Int) (atom2 : I0) (t34 : A0) (t35 : Int) (t36 : Int) : Option (List (List Int × List Int)) :=
 bif decide (t36 < t35) then
  grd (inb t36 t34) <|
  bif (((at_ (0, []) t34 t36).1) != atom) then
   rec_ values2 facts2 t3 t5c t5c2 atom atom2 t34 t35 (w64 (t36 + 1))
  else
  (Z8k N values2 atom2 ((at_ (0, []) t34 t36).2)).bind fun p_r3 =>
  bif p_r3.2 then
   (Z0v N facts2).bind fun r5 =>
   grd (appOk r5 [t36] 8) <|
   (Rf p_r3.1 (r5 ++ [t36]) t5c t3 t5c2 t5c t5c2).bind fun m =>
   rec_ values2 facts2 m t5c t5c2 atom atom2 t34 t35 (w64 (t36 + 1))
  else
  rec_ values2 facts2 t3 t5c t5c2 atom atom2 t34 t35 (w64 (t36 + 1))
 else
 some t3
def Z2v (N : Nat) (Rf : I0 -> I0 -> Q0 -> (List (List Int × List Int)) -> D0 -> Q0 -> D0 -> Option (List (List Int × List Int))) : Nat -> I0 -> I0 -> (List (List Int × List Int)) -> Q0 -> D0 -> Int -> I0 -> A0 -> Int -> Int -> Option (List (List Int × List Int))
 | 0, _, _, _, _, _, _, _, _, _, _ => none
 | k_ + 1, values2, facts2, t3, t5c, t5c2, atom, atom2, t34, t35, t36 => Z5o N Rf (Z2v N Rf k_) values2 facts2 t3 t5c t5c2 atom atom2 t34 t35 t36
def Z4p (Rf : I0 -> I0 -> Q0 -> (List (List Int × List Int)) -> D0 -> Q0 -> D0 -> Option (List (List Int × List Int))) (Z0ab : I0 -> I0 -> (List (List Int × List Int)) -> Q0 -> D0 -> Int -> I0 -> A0 -> Int -> Int -> Option (List (List Int × List Int))) (values : I0) (facts : I0) (c2 : Q0) (c3 : List (List Int × List Int)) (c4 : D0) (sc2 : Q0) (sc4 : D0) : Option (List (List Int × List Int)) :=
 bif ((facts.length : Int) == (c2.2.1.length : Int)) then
  (Z0v N values).bind fun r =>
  (Z0v N facts).bind fun r2 =>
  grd (appOk c3 [(r, r2)] 48) <|
  some (c3 ++ [(r, r2)])
 else
 grd (inb (facts.length : Int) c2.2.1) <|
 Z0ab values facts c3 sc2 sc4 ((at_ (0, []) c2.2.1 (facts.length : Int)).1) ((at_ (0, []) c2.2.1 (facts.length : Int)).2) c4.2 (c4.2.length : Int) 0
def Z0o (N : Nat) : Nat -> I0 -> I0 -> Q0 -> (List (List Int × List Int)) -> D0 -> Q0 -> D0 -> Option (List (List Int × List Int))
 | 0, _, _, _, _, _, _, _ => none
 | k_ + 1, values, facts, c2, c3, c4, sc2, sc4 => Z4p N (Z0o N k_) (Z2v N (Z0o N k_) N) values facts c2 c3 c4 sc2 sc4
def Z2o (values : I0) (facts : I0) (c2 : Q0) (c3 : List (List Int × List Int)) (c4 : D0) (sc2 : Q0) (sc4 : D0) : Option (List (List Int × List Int)) := Z0o N N values facts c2 c3 c4 sc2 sc4
def Z2q (db : D0) (query : Q0) : Option (List (List Int × List Int)) :=
 (Z19 N db query).bind fun r =>
 bif (!r) then some []
 else
 (Z5n N query.1).bind fun r2 =>
 (Z2o N r2 [] query [] db query db).bind fun m =>
 some m
def Z5p (db : D0) (indices : I0) (query : Q0) : Option (Bool) :=
 (Z4c N db indices).bind fun p_r =>
 bif p_r.2 then
  (Z2q N p_r.1 query).bind fun r3 =>
  some (decide ((r3.length : Int) > 0))
 else
 some false
def Z8l (rec_ : R0 -> A0 -> Int -> A0 -> I0 -> L0 -> Int -> Int -> Option (List Int × Bool)) (db2 : R0) (db3 : A0) (query2 : Int) (query3 : A0) (query4 : I0) (t10 : L0) (t11 : Int) (t12 : Int) : Option (List Int × Bool) :=
 bif decide (t12 < t11) then
  grd (inb t12 t10) <|
  (Z19 N (db2, db3) (query2, query3, query4)).bind fun r =>
  bif r then
   (Z5p N (db2, db3) (at_ [] t10 t12) (query2, query3, query4)).bind fun r2 =>
   bif (!r2) then some ((at_ [] t10 t12), true)
   else
   rec_ db2 db3 query2 query3 query4 t10 t11 (w64 (t12 + 1))
  else
  rec_ db2 db3 query2 query3 query4 t10 t11 (w64 (t12 + 1))
 else
 some ([], false)
def Z5q (N : Nat) : Nat -> R0 -> A0 -> Int -> A0 -> I0 -> L0 -> Int -> Int -> Option (List Int × Bool)
 | 0, _, _, _, _, _, _, _, _ => none
 | k_ + 1, db2, db3, query2, query3, query4, t10, t11, t12 => Z8l N (Z5q N k_) db2 db3 query2 query3 query4 t10 t11 t12
def Z9a (N : Nat) (Z0bf : R0 -> A0 -> Int -> A0 -> I0 -> L0 -> Int -> Int -> Option (List Int × Bool)) (db : D0) (sets : L0) (query : Q0) : Option (List Int × Bool) :=
 Z0bf db.1 db.2 query.1 query.2.1 query.2.2 sets (sets.length : Int) 0
def Z4q (db : D0) (sets : L0) (query : Q0) : Option (List Int × Bool) := Z9a N (Z5q N N) db sets query
def Z4r (db : D0) (sets : L0) (query : Q0) : Option (Bool) :=
 (Z4q N db sets query).bind fun p_r =>
 (Z19 N db query).bind fun r3 =>
 bif r3 then some (!p_r.2)
 else
 some false
def Z1l (db : D0) (constraints : List C0) (query : Q0) : Option (Bool) :=
 (Z1k N db constraints).bind fun r =>
 (Z4r N db r query).bind fun r2 =>
 some r2
def Z4s (N : Nat) (a : ByteArray × Int × Int) (b : ByteArray × Int × Int) : Option (Bool) :=
 bif (!seq a.1 b.1) then some false
 else
 bif (a.2.1 != b.2.1) then some false
 else
 bif (a.2.2 != b.2.2) then some false
 else
 some true
def Z62 (rec_ : R0 -> R0 -> Int -> Option (Bool)) (a2 : R0) (b2 : R0) (i : Int) : Option (Bool) :=
 bif decide (i < (a2.length : Int)) then
  grd (inb i a2) <|
  grd (inb i b2) <|
  (Z4s N ((at_ (⟨#[]⟩, (0, 0)) a2 i).1, ((at_ (⟨#[]⟩, (0, 0)) a2 i).2)) ((at_ (⟨#[]⟩, (0, 0)) b2 i).1, ((at_ (⟨#[]⟩, (0, 0)) b2 i).2))).bind fun r =>
  bif (!r) then some false
  else
  rec_ a2 b2 (w64 (i + 1))
 else
 some true
def Z3y (N : Nat) : Nat -> R0 -> R0 -> Int -> Option (Bool)
 | 0, _, _, _ => none
 | k_ + 1, a2, b2, i => Z62 N (Z3y N k_) a2 b2 i
def Z94 (N : Nat) (Z0bd : R0 -> R0 -> Int -> Option (Bool)) (a : R0) (b : R0) : Option (Bool) :=
 bif ((a.length : Int) != (b.length : Int)) then some false
 else
 Z0bd a b 0
def Z4d (a : R0) (b : R0) : Option (Bool) := Z94 N (Z3y N N) a b
def Z8m (N : Nat) (rec_ : I0 -> I0 -> Int -> Option (Bool)) (a2 : I0) (b2 : I0) (i : Int) : Option (Bool) :=
 bif decide (i < (a2.length : Int)) then
  grd (inb i a2) <|
  grd (inb i b2) <|
  bif ((at_ 0 a2 i) != (at_ 0 b2 i)) then some false
  else
  rec_ a2 b2 (w64 (i + 1))
 else
 some true
def Z6j (N : Nat) : Nat -> I0 -> I0 -> Int -> Option (Bool)
 | 0, _, _, _ => none
 | k_ + 1, a2, b2, i => Z8m N (Z6j N k_) a2 b2 i
def Z0ac (N : Nat) (Z0bz : I0 -> I0 -> Int -> Option (Bool)) (a : I0) (b : I0) : Option (Bool) :=
 bif ((a.length : Int) != (b.length : Int)) then some false
 else
 Z0bz a b 0
def Z43 (a : I0) (b : I0) : Option (Bool) := Z0ac N (Z6j N N) a b
def Z7r (a : Int × List Int) (b : Int × List Int) : Option (Bool) :=
 bif (a.1 != b.1) then some false
 else
 (Z43 N a.2 b.2).bind fun r =>
 bif (!r) then some false
 else
 some true
def Z7z (rec_ : A0 -> A0 -> Int -> Option (Bool)) (a2 : A0) (b2 : A0) (i : Int) : Option (Bool) :=
 bif decide (i < (a2.length : Int)) then
  grd (inb i a2) <|
  grd (inb i b2) <|
  (Z7r N (at_ (0, []) a2 i) (at_ (0, []) b2 i)).bind fun r =>
  bif (!r) then some false
  else
  rec_ a2 b2 (w64 (i + 1))
 else
 some true
def Z63 (N : Nat) : Nat -> A0 -> A0 -> Int -> Option (Bool)
 | 0, _, _, _ => none
 | k_ + 1, a2, b2, i => Z7z N (Z63 N k_) a2 b2 i
def Z9t (N : Nat) (Z0bs : A0 -> A0 -> Int -> Option (Bool)) (a : A0) (b : A0) : Option (Bool) :=
 bif ((a.length : Int) != (b.length : Int)) then some false
 else
 Z0bs a b 0
def Z6x (a : A0) (b : A0) : Option (Bool) := Z9t N (Z63 N N) a b
def Z4t (a : D0) (b : D0) : Option (Bool) :=
 (Z4d N a.1 b.1).bind fun r =>
 bif (!r) then some false
 else
 (Z6x N a.2 b.2).bind fun r2 =>
 bif (!r2) then some false
 else
 some true
def Z1m (N : Nat) (a : C0) (b : C0) : Option (Bool) :=
 bif (a.1 != b.1) then some false
 else
 bif (a.2.1 != b.2.1) then some false
 else
 bif (a.2.2.1 != b.2.2.1) then some false
 else
 bif (a.2.2.2.1 != b.2.2.2.1) then some false
 else
 bif (a.2.2.2.2.1 != b.2.2.2.2.1) then some false
 else
 bif (a.2.2.2.2.2.1 != b.2.2.2.2.2.1) then some false
 else
 bif (a.2.2.2.2.2.2 != b.2.2.2.2.2.2) then some false
 else
 some true
def Z34 (rec_ : (List C0) -> (List C0) -> Int -> Option (Bool)) (a2 : List C0) (b2 : List C0) (i : Int) : Option (Bool) :=
 bif decide (i < (a2.length : Int)) then
  grd (inb i a2) <|
  grd (inb i b2) <|
  (Z1m N ((at_ (0, (0, (0, (0, (0, (0, 0)))))) a2 i).1, ((at_ (0, (0, (0, (0, (0, (0, 0)))))) a2 i).2).1, (((at_ (0, (0, (0, (0, (0, (0, 0)))))) a2 i).2).2).1, ((((at_ (0, (0, (0, (0, (0, (0, 0)))))) a2 i).2).2).2).1, (((((at_ (0, (0, (0, (0, (0, (0, 0)))))) a2 i).2).2).2).2).1, ((((((at_ (0, (0, (0, (0, (0, (0, 0)))))) a2 i).2).2).2).2).2)) ((at_ (0, (0, (0, (0, (0, (0, 0)))))) b2 i).1, ((at_ (0, (0, (0, (0, (0, (0, 0)))))) b2 i).2).1, (((at_ (0, (0, (0, (0, (0, (0, 0)))))) b2 i).2).2).1, ((((at_ (0, (0, (0, (0, (0, (0, 0)))))) b2 i).2).2).2).1, (((((at_ (0, (0, (0, (0, (0, (0, 0)))))) b2 i).2).2).2).2).1, ((((((at_ (0, (0, (0, (0, (0, (0, 0)))))) b2 i).2).2).2).2).2))).bind fun r =>
  bif (!r) then some false
  else
  rec_ a2 b2 (w64 (i + 1))
 else
 some true
def Z1g (N : Nat) : Nat -> (List C0) -> (List C0) -> Int -> Option (Bool)
 | 0, _, _, _ => none
 | k_ + 1, a2, b2, i => Z34 N (Z1g N k_) a2 b2 i
def Z68 (N : Nat) (Z9u : (List C0) -> (List C0) -> Int -> Option (Bool)) (a : List C0) (b : List C0) : Option (Bool) :=
 bif ((a.length : Int) != (b.length : Int)) then some false
 else
 Z9u a b 0
def Z1b (a : List C0) (b : List C0) : Option (Bool) := Z68 N (Z1g N N) a b
def Z7s (a : Int × List Int) (b : Int × List Int) : Option (Bool) :=
 bif (a.1 != b.1) then some false
 else
 (Z43 N a.2 b.2).bind fun r =>
 bif (!r) then some false
 else
 some true
def Z80 (rec_ : A0 -> A0 -> Int -> Option (Bool)) (a2 : A0) (b2 : A0) (i : Int) : Option (Bool) :=
 bif decide (i < (a2.length : Int)) then
  grd (inb i a2) <|
  grd (inb i b2) <|
  (Z7s N (at_ (0, []) a2 i) (at_ (0, []) b2 i)).bind fun r =>
  bif (!r) then some false
  else
  rec_ a2 b2 (w64 (i + 1))
 else
 some true
def Z64 (N : Nat) : Nat -> A0 -> A0 -> Int -> Option (Bool)
 | 0, _, _, _ => none
 | k_ + 1, a2, b2, i => Z80 N (Z64 N k_) a2 b2 i
def Z9v (N : Nat) (Z0bt : A0 -> A0 -> Int -> Option (Bool)) (a : A0) (b : A0) : Option (Bool) :=
 bif ((a.length : Int) != (b.length : Int)) then some false
 else
 Z0bt a b 0
def Z6y (a : A0) (b : A0) : Option (Bool) := Z9v N (Z64 N N) a b
def Z6z (a : Q0) (b : Q0) : Option (Bool) :=
 bif (a.1 != b.1) then some false
 else
 (Z6y N a.2.1 b.2.1).bind fun r =>
 bif (!r) then some false
 else
 (Z43 N a.2.2 b.2.2).bind fun r2 =>
 bif (!r2) then some false
 else
 some true
def laws_FnExactCardinalityCertain (aDb : D0) (aConstraints : List C0) (aQuery : Q0) : Option (Bool) :=
 (Z4j N aDb 1048576).bind fun r =>
 bif decide (r < 0) then some true
 else
 (Z1a N aConstraints r).bind fun r2 =>
 bif decide (r2 < 0) then some true
 else
 (Z6m N aQuery r2).bind fun r3 =>
 bif decide (r3 < 0) then some true
 else
 (Z2r N aDb).bind fun r4 =>
 (Z0k N aConstraints).bind fun r5 =>
 (Z4l N aQuery).bind fun r6 =>
 (Z1i N r4 r5 r6).bind fun r7 =>
 (Z2r N aDb).bind fun r8 =>
 (Z0k N aConstraints).bind fun r9 =>
 (Z4l N aQuery).bind fun r10 =>
 (Z1l N r8 r9 r10).bind fun r11 =>
 bif (!(r11 == r7)) then some false
 else
 (Z2r N aDb).bind fun r12 =>
 (Z4t N r8 r12).bind fun r13 =>
 bif (!r13) then some false
 else
 (Z0k N aConstraints).bind fun r14 =>
 (Z1b N r9 r14).bind fun r15 =>
 bif (!r15) then some false
 else
 (Z4l N aQuery).bind fun r16 =>
 (Z6z N r10 r16).bind fun r17 =>
 bif (!r17) then some false
 else
 some true
end Go.PL
