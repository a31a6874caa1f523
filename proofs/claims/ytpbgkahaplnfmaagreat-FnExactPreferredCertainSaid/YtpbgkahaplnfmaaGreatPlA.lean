/- The functions read plainly. Conditions: none (definitions alone). -/
import GoSem.Core.View
import GoSem.Op.String

set_option linter.unusedVariables false
set_option linter.unusedSimpArgs false
set_option linter.unnecessarySimpa false

namespace Go.PL
def w64 (x : Int) : Int := IntKind.i64.wrap x
def w (k : IntKind) (x : Int) : Int := k.wrap x
def grd {α : Type} (c : Bool) (x : Option α) : Option α := bif c then x else none
def grz {α : Type} (b : Int) (x : Option α) : Option α := bif decide (b = 0) then none else x
def letv {α β : Type} (v : α) (k : α -> β) : β := k v
def at_ {α : Type} (d : α) (xs : List α) (i : Int) : α := xs.getD i.toNat d
def inb {α : Type} (i : Int) (xs : List α) : Bool := decide (0 <= i) && decide (i < (xs.length : Int))
def growOk {α : Type} (i' i : Int) (xs : List α) : Bool := decide (i' = i) && (decide (0 <= i') && decide (i' < (xs.length : Int)))
def appOk {α : Type} (s x : List α) (b : Nat) : Bool := decide ((s.length + x.length) * b <= 140737488355328)
def makeOk (n : Int) (b : Nat) : Bool := decide (n = n) && (decide (0 <= n) && decide (n * b <= 140737488355328))
def byteAt (s : ByteArray) (n : Int) : Option UInt8 := if 0 <= n then s[n.toNat]? else none
def catOk (a b : ByteArray) : Bool := decide (a.size + b.size <= 140737488355328)
def seq (a b : ByteArray) : Bool := a.toList == b.toList
def slt (a b : ByteArray) : Bool := Op.bytesLess a.toList b.toList
def subOk (lo hi : Int) (n : Nat) : Bool := decide (0 <= lo) && (decide (lo <= hi) && decide (hi <= (n : Int)))
def sub (s : ByteArray) (lo hi : Int) : ByteArray := s.extract lo.toNat hi.toNat
def ofBytes (x : List Int) : ByteArray := ⟨(x.map fun n => UInt8.ofNat n.toNat).toArray⟩
def bits (op : BinOp) (k : IntKind) (a b : Int) : Int := match op with
 | .and => k.wrap ((BitVec.ofInt k.bits a &&& BitVec.ofInt k.bits b).toNat : Int)
 | .xor => k.wrap ((BitVec.ofInt k.bits a ^^^ BitVec.ofInt k.bits b).toNat : Int)
 | .or => k.wrap ((BitVec.ofInt k.bits a ||| BitVec.ofInt k.bits b).toNat : Int)
 | .shl => k.wrap (a * 2 ^ (min b.toNat k.bits))
 | .shr => a.fdiv (2 ^ (min b.toNat k.bits))
 | _ => 0
def imax (a b : Int) : Int := if b > a then b else a
def imin (a b : Int) : Int := if b < a then b else a
end Go.PL

namespace Go.PL
abbrev D0 : Type := List (ByteArray × Int × Int) × List (Int × List Int)
abbrev Q0 : Type := Int × List (Int × List Int) × List Int
abbrev C0 : Type := Int × Int × Int × Int × Int × Int × Int
abbrev R0 : Type := List (ByteArray × Int × Int)
abbrev A0 : Type := List (Int × List Int)
abbrev L0 : Type := List (List Int)
abbrev I0 : Type := List Int
abbrev E0 : Type := List (Int × Int)
variable (N : Nat)
def Z1b (N : Nat) (s : I0) : Option I0 := grd (decide (s.length * 8 <= 140737488355328)) (some s)
def Z0a9 (N : Nat) (s : I0) (n : Int) : Option I0 := grd (decide (0 <= n) && decide ((s.length + n.toNat) * 8 <= 140737488355328)) (some s)
def Z0aa (N : Nat) (s : I0) : Option I0 := grd (decide (s.length < 4611686018427387904)) (some (s.mergeSort fun a b => decide (a <= b)))
def Z8v (N : Nat) (s : I0) : Option I0 := some (((List.range s.length).filter fun j => decide (j = 0 \/ s.toArray[j]! ≠ s.toArray[j - 1]!)).map fun j => s.toArray[j]!)
def Z99 (N : Nat) (s : I0) (n : Int) : Option I0 := grd (decide (s.length = 1) && (decide (0 <= n) && decide (n * 8 <= 140737488355328))) (some (List.replicate n.toNat (at_ 0 s 0)))
def Z4o (N : Nat) (a : ByteArray × Int × Int) (left_ : Int) : Option (Int) :=
 bif decide ((w64 (left_ - (a.1.size : Int))) < 0) then some (-1)
 else
 some (w64 (left_ - (a.1.size : Int)))
def Z7c (rec_ : R0 -> Int -> Int -> Option (Int)) (a2 : R0) (left_2 : Int) (i : Int) : Option (Int) :=
 bif decide (i < (a2.length : Int)) then
  grd (inb i a2) <|
  (Z4o N ((at_ (⟨#[]⟩, (0, 0)) a2 i).1, ((at_ (⟨#[]⟩, (0, 0)) a2 i).2)) left_2).bind fun r =>
  bif decide (r < 0) then some (-1)
  else
  rec_ a2 r (w64 (i + 1))
 else
 some left_2
def Z4v (N : Nat) : Nat -> R0 -> Int -> Int -> Option (Int)
 | 0, _, _, _ => none
 | k_ + 1, a2, left_2, i => Z7c N (Z4v N k_) a2 left_2 i
def Z0b0 (N : Nat) (Z0dn : R0 -> Int -> Int -> Option (Int)) (a : R0) (left_ : Int) : Option (Int) :=
 bif decide ((w64 (left_ - (a.length : Int))) < 0) then some (-1)
 else
 Z0dn a (w64 (left_ - (a.length : Int))) 0
def Z5c (a : R0) (left_ : Int) : Option (Int) := Z0b0 N (Z4v N N) a left_
def Z53 (N : Nat) (a : I0) (left_ : Int) : Option (Int) :=
 bif decide ((w64 (left_ - (a.length : Int))) < 0) then some (-1)
 else
 some (w64 (left_ - (a.length : Int)))
def Z85 (a : Int × List Int) (left_ : Int) : Option (Int) :=
 (Z53 N a.2 left_).bind fun r =>
 bif decide (r < 0) then some (-1)
 else
 some r
def Z9s (rec_ : A0 -> Int -> Int -> Option (Int)) (a2 : A0) (left_2 : Int) (i : Int) : Option (Int) :=
 bif decide (i < (a2.length : Int)) then
  grd (inb i a2) <|
  (Z85 N (at_ (0, []) a2 i) left_2).bind fun r =>
  bif decide (r < 0) then some (-1)
  else
  rec_ a2 r (w64 (i + 1))
 else
 some left_2
def Z7d (N : Nat) : Nat -> A0 -> Int -> Int -> Option (Int)
 | 0, _, _, _ => none
 | k_ + 1, a2, left_2, i => Z9s N (Z7d N k_) a2 left_2 i
def Z0bt (N : Nat) (Z0e3 : A0 -> Int -> Int -> Option (Int)) (a : A0) (left_ : Int) : Option (Int) :=
 bif decide ((w64 (left_ - (a.length : Int))) < 0) then some (-1)
 else
 Z0e3 a (w64 (left_ - (a.length : Int))) 0
def Z89 (a : A0) (left_ : Int) : Option (Int) := Z0bt N (Z7d N N) a left_
def Z5t (a : D0) (left_ : Int) : Option (Int) :=
 (Z5c N a.1 left_).bind fun r =>
 bif decide (r < 0) then some (-1)
 else
 (Z89 N a.2 r).bind fun r2 =>
 bif decide (r2 < 0) then some (-1)
 else
 some r2
def Z1s (N : Nat) (a : List C0) (left_ : Int) : Option (Int) :=
 bif decide ((w64 (left_ - (a.length : Int))) < 0) then some (-1)
 else
 some (w64 (left_ - (a.length : Int)))
def Z39 (N : Nat) (a : E0) (left_ : Int) : Option (Int) :=
 bif decide ((w64 (left_ - (a.length : Int))) < 0) then some (-1)
 else
 some (w64 (left_ - (a.length : Int)))
def Z86 (a : Int × List Int) (left_ : Int) : Option (Int) :=
 (Z53 N a.2 left_).bind fun r =>
 bif decide (r < 0) then some (-1)
 else
 some r
def Z9t (rec_ : A0 -> Int -> Int -> Option (Int)) (a2 : A0) (left_2 : Int) (i : Int) : Option (Int) :=
 bif decide (i < (a2.length : Int)) then
  grd (inb i a2) <|
  (Z86 N (at_ (0, []) a2 i) left_2).bind fun r =>
  bif decide (r < 0) then some (-1)
  else
  rec_ a2 r (w64 (i + 1))
 else
 some left_2
def Z7e (N : Nat) : Nat -> A0 -> Int -> Int -> Option (Int)
 | 0, _, _, _ => none
 | k_ + 1, a2, left_2, i => Z9t N (Z7e N k_) a2 left_2 i
def Z0bu (N : Nat) (Z0e4 : A0 -> Int -> Int -> Option (Int)) (a : A0) (left_ : Int) : Option (Int) :=
 bif decide ((w64 (left_ - (a.length : Int))) < 0) then some (-1)
 else
 Z0e4 a (w64 (left_ - (a.length : Int))) 0
def Z8a (a : A0) (left_ : Int) : Option (Int) := Z0bu N (Z7e N N) a left_
def Z8b (a : Q0) (left_ : Int) : Option (Int) :=
 (Z8a N a.2.1 left_).bind fun r =>
 bif decide (r < 0) then some (-1)
 else
 (Z53 N a.2.2 r).bind fun r2 =>
 bif decide (r2 < 0) then some (-1)
 else
 some r2
def Z5u (N : Nat) (a : ByteArray × Int × Int) : Option (ByteArray × Int × Int) :=
 some a
def Z7f (rec_ : R0 -> R0 -> Int -> Option R0) (a2 : R0) (out : R0) (i : Int) : Option R0 :=
 bif decide (i < (a2.length : Int)) then
  grd (inb i a2) <|
  (Z5u N ((at_ (⟨#[]⟩, (0, 0)) a2 i).1, ((at_ (⟨#[]⟩, (0, 0)) a2 i).2))).bind fun r =>
  grd (inb i out) <|
  grd (inb i out) <|
  letv (out.set i.toNat r) fun u =>
  rec_ a2 u (w64 (i + 1))
 else
 some out
def Z4w (N : Nat) : Nat -> R0 -> R0 -> Int -> Option R0
 | 0, _, _, _ => none
 | k_ + 1, a2, out, i => Z7f N (Z4w N k_) a2 out i
def Z0b1 (N : Nat) (Z0do : R0 -> R0 -> Int -> Option R0) (a : R0) : Option R0 :=
 grd (makeOk (a.length : Int) 32) <|
 Z0do a (List.replicate (a.length : Int).toNat (⟨#[]⟩, (0, 0))) 0
def Z5d (a : R0) : Option R0 := Z0b1 N (Z4w N N) a
def Z0ab (N : Nat) (rec_ : I0 -> I0 -> Int -> Option I0) (a2 : I0) (out : I0) (i : Int) : Option I0 :=
 bif decide (i < (a2.length : Int)) then
  grd (inb i a2) <|
  grd (inb i out) <|
  grd (inb i out) <|
  letv (out.set i.toNat (at_ 0 a2 i)) fun u =>
  rec_ a2 u (w64 (i + 1))
 else
 some out
def Z87 (N : Nat) : Nat -> I0 -> I0 -> Int -> Option I0
 | 0, _, _, _ => none
 | k_ + 1, a2, out, i => Z0ab N (Z87 N k_) a2 out i
def Z0c8 (N : Nat) (Z0eg : I0 -> I0 -> Int -> Option I0) (a : I0) : Option I0 :=
 grd (makeOk (a.length : Int) 8) <|
 Z0eg a (List.replicate (a.length : Int).toNat 0) 0
def Z54 (a : I0) : Option I0 := Z0c8 N (Z87 N N) a
def Z9a (a : Int × List Int) : Option (Int × List Int) :=
 (Z54 N a.2).bind fun r =>
 some (a.1, r)
def Z9u (rec_ : A0 -> A0 -> Int -> Option A0) (a2 : A0) (out : A0) (i : Int) : Option A0 :=
 bif decide (i < (a2.length : Int)) then
  grd (inb i a2) <|
  (Z9a N (at_ (0, []) a2 i)).bind fun r =>
  grd (inb i out) <|
  grd (inb i out) <|
  letv (out.set i.toNat r) fun u =>
  rec_ a2 u (w64 (i + 1))
 else
 some out
def Z7g (N : Nat) : Nat -> A0 -> A0 -> Int -> Option A0
 | 0, _, _, _ => none
 | k_ + 1, a2, out, i => Z9u N (Z7g N k_) a2 out i
def Z0bv (N : Nat) (Z0e5 : A0 -> A0 -> Int -> Option A0) (a : A0) : Option A0 :=
 grd (makeOk (a.length : Int) 32) <|
 Z0e5 a (List.replicate (a.length : Int).toNat (0, [])) 0
def Z8c (a : A0) : Option A0 := Z0bv N (Z7g N N) a
def Z3t (a : D0) : Option D0 :=
 (Z5d N a.1).bind fun r =>
 (Z8c N a.2).bind fun r2 =>
 some (r, r2)
def Z31 (N : Nat) (a : C0) : Option C0 :=
 some a
def Z46 (rec_ : (List C0) -> (List C0) -> Int -> Option (List C0)) (a2 : List C0) (out : List C0) (i : Int) : Option (List C0) :=
 bif decide (i < (a2.length : Int)) then
  grd (inb i a2) <|
  (Z31 N ((at_ (0, (0, (0, (0, (0, (0, 0)))))) a2 i).1, ((at_ (0, (0, (0, (0, (0, (0, 0)))))) a2 i).2).1, (((at_ (0, (0, (0, (0, (0, (0, 0)))))) a2 i).2).2).1, ((((at_ (0, (0, (0, (0, (0, (0, 0)))))) a2 i).2).2).2).1, (((((at_ (0, (0, (0, (0, (0, (0, 0)))))) a2 i).2).2).2).2).1, ((((((at_ (0, (0, (0, (0, (0, (0, 0)))))) a2 i).2).2).2).2).2))).bind fun r =>
  grd (inb i out) <|
  grd (inb i out) <|
  letv (out.set i.toNat r) fun u =>
  rec_ a2 u (w64 (i + 1))
 else
 some out
def Z1u (N : Nat) : Nat -> (List C0) -> (List C0) -> Int -> Option (List C0)
 | 0, _, _, _ => none
 | k_ + 1, a2, out, i => Z46 N (Z1u N k_) a2 out i
def Z7u (N : Nat) (Z0bw : (List C0) -> (List C0) -> Int -> Option (List C0)) (a : List C0) : Option (List C0) :=
 grd (makeOk (a.length : Int) 56) <|
 Z0bw a (List.replicate (a.length : Int).toNat (0, (0, (0, (0, (0, (0, 0))))))) 0
def Z0x (a : List C0) : Option (List C0) := Z7u N (Z1u N N) a
def Z4x (N : Nat) (a : Int × Int) : Option (Int × Int) :=
 some a
def Z5n (rec_ : E0 -> E0 -> Int -> Option E0) (a2 : E0) (out : E0) (i : Int) : Option E0 :=
 bif decide (i < (a2.length : Int)) then
  grd (inb i a2) <|
  (Z4x N (at_ (0, 0) a2 i)).bind fun r =>
  grd (inb i out) <|
  grd (inb i out) <|
  letv (out.set i.toNat r) fun u =>
  rec_ a2 u (w64 (i + 1))
 else
 some out
def Z32 (N : Nat) : Nat -> E0 -> E0 -> Int -> Option E0
 | 0, _, _, _ => none
 | k_ + 1, a2, out, i => Z5n N (Z32 N k_) a2 out i
def Z9b (N : Nat) (Z0cs : E0 -> E0 -> Int -> Option E0) (a : E0) : Option E0 :=
 grd (makeOk (a.length : Int) 16) <|
 Z0cs a (List.replicate (a.length : Int).toNat (0, 0)) 0
def Z1j (a : E0) : Option E0 := Z9b N (Z32 N N) a
def Z9c (a : Int × List Int) : Option (Int × List Int) :=
 (Z54 N a.2).bind fun r =>
 some (a.1, r)
def Z9v (rec_ : A0 -> A0 -> Int -> Option A0) (a2 : A0) (out : A0) (i : Int) : Option A0 :=
 bif decide (i < (a2.length : Int)) then
  grd (inb i a2) <|
  (Z9c N (at_ (0, []) a2 i)).bind fun r =>
  grd (inb i out) <|
  grd (inb i out) <|
  letv (out.set i.toNat r) fun u =>
  rec_ a2 u (w64 (i + 1))
 else
 some out
def Z7h (N : Nat) : Nat -> A0 -> A0 -> Int -> Option A0
 | 0, _, _, _ => none
 | k_ + 1, a2, out, i => Z9v N (Z7h N k_) a2 out i
def Z0bx (N : Nat) (Z0e6 : A0 -> A0 -> Int -> Option A0) (a : A0) : Option A0 :=
 grd (makeOk (a.length : Int) 32) <|
 Z0e6 a (List.replicate (a.length : Int).toNat (0, [])) 0
def Z8d (a : A0) : Option A0 := Z0bx N (Z7h N N) a
def Z5v (a : Q0) : Option Q0 :=
 (Z8d N a.2.1).bind fun r =>
 (Z54 N a.2.2).bind fun r2 =>
 some (a.1, r, r2)
def Z9 (N : Nat) (x : Int) (low : Int) (high : Int) : Option (Bool) :=
 bif decide (x >= low) then some (decide (x <= high))
 else
 some false
def Z0e (s : ByteArray × Int × Int) : Option (Bool) :=
 bif ((s.1.size : Int) == 1) then
  (byteAt s.1 0).bind fun b =>
  bif decide ((b.toNat : Int) >= 97) then
   (byteAt s.1 0).bind fun b2 =>
   bif decide ((b2.toNat : Int) <= 122) then
    (Z9 N s.2.1 1 3).bind fun r =>
    bif r then
     (Z9 N s.2.2 0 s.2.1).bind fun r2 =>
     some r2
    else
    some false
   else
   some false
  else
  some false
 else
 some false
def Z1v (rec_ : R0 -> Int -> Option (Bool)) (l2 : R0) (i : Int) : Option (Bool) :=
 bif decide (i < (l2.length : Int)) then
  grd (inb i l2) <|
  (Z0e N ((at_ (⟨#[]⟩, (0, 0)) l2 i).1, ((at_ (⟨#[]⟩, (0, 0)) l2 i).2))).bind fun r =>
  bif (!r) then some false
  else
  bif decide (i > 0) then
   grd (inb (w64 (i - 1)) l2) <|
   grd (inb i l2) <|
   bif (!slt ((at_ (⟨#[]⟩, (0, 0)) l2 (w64 (i - 1))).1) ((at_ (⟨#[]⟩, (0, 0)) l2 i).1)) then some false
   else
   rec_ l2 (w64 (i + 1))
  else
  rec_ l2 (w64 (i + 1))
 else
 some (decide ((l2.length : Int) <= 4))
def Z0r (N : Nat) : Nat -> R0 -> Int -> Option (Bool)
 | 0, _, _ => none
 | k_ + 1, l2, i => Z1v N (Z0r N k_) l2 i
def Z5w (N : Nat) (Z0c9 : R0 -> Int -> Option (Bool)) (l : R0) : Option (Bool) :=
 Z0c9 l 0
def Z0m (l : R0) : Option (Bool) := Z5w N (Z0r N N) l
def Z7i (rec_ : Int -> I0 -> Int -> Option (Bool)) (f2 : Int) (f3 : I0) (i : Int) : Option (Bool) :=
 bif decide (i < (f3.length : Int)) then
  grd (inb i f3) <|
  (Z9 N (at_ 0 f3 i) 0 9).bind fun r3 =>
  bif (!r3) then some false
  else
  rec_ f2 f3 (w64 (i + 1))
 else
 some true
def Z4y (N : Nat) : Nat -> Int -> I0 -> Int -> Option (Bool)
 | 0, _, _, _ => none
 | k_ + 1, f2, f3, i => Z7i N (Z4y N k_) f2 f3 i
def Z0b2 (Z0dp : Int -> I0 -> Int -> Option (Bool)) (l : R0) (f : Int × List Int) : Option (Bool) :=
 (Z0m N l).bind fun r =>
 bif (!r) then some false
 else
 (Z9 N f.1 0 (w64 ((l.length : Int) - 1))).bind fun r2 =>
 bif (!r2) then some false
 else
 grd (inb f.1 l) <|
 bif ((f.2.length : Int) != (((at_ (⟨#[]⟩, (0, 0)) l f.1).2).1)) then some false
 else
 Z0dp f.1 f.2 0
def Z1f (l : R0) (f : Int × List Int) : Option (Bool) := Z0b2 N (Z4y N N) l f
def Z8e (N : Nat) (rec_ : I0 -> I0 -> Int -> Option (Int)) (a2 : I0) (b2 : I0) (i : Int) : Option (Int) :=
 bif decide (i < (a2.length : Int)) then
  bif decide (i < (b2.length : Int)) then
   grd (inb i a2) <|
   grd (inb i b2) <|
   bif decide ((at_ 0 a2 i) < (at_ 0 b2 i)) then some (-1)
   else
   grd (inb i a2) <|
   grd (inb i b2) <|
   bif decide ((at_ 0 a2 i) > (at_ 0 b2 i)) then some 1
   else
   rec_ a2 b2 (w64 (i + 1))
  else
  bif decide ((a2.length : Int) < (b2.length : Int)) then some (-1)
  else
  bif decide ((a2.length : Int) > (b2.length : Int)) then some 1
  else
  some 0
 else
 bif decide ((a2.length : Int) < (b2.length : Int)) then some (-1)
 else
 bif decide ((a2.length : Int) > (b2.length : Int)) then some 1
 else
 some 0
def Z6n (N : Nat) : Nat -> I0 -> I0 -> Int -> Option (Int)
 | 0, _, _, _ => none
 | k_ + 1, a2, b2, i => Z8e N (Z6n N k_) a2 b2 i
def Z0ca (N : Nat) (Z0eh : I0 -> I0 -> Int -> Option (Int)) (a : I0) (b : I0) : Option (Int) :=
 Z0eh a b 0
def Z6t (a : I0) (b : I0) : Option (Int) := Z0ca N (Z6n N N) a b
def Z4j (a : Int × List Int) (b : Int × List Int) : Option (Int) :=
 bif decide (a.1 < b.1) then some (-1)
 else
 bif decide (a.1 > b.1) then some 1
 else
 (Z6t N a.2 b.2).bind fun r =>
 some r
def Z5o (rec_ : R0 -> A0 -> Int -> Option (Bool)) (d2 : R0) (d3 : A0) (i : Int) : Option (Bool) :=
 bif decide (i < (d3.length : Int)) then
  grd (inb i d3) <|
  (Z1f N d2 (at_ (0, []) d3 i)).bind fun r =>
  bif (!r) then some false
  else
  bif decide (i > 0) then
   grd (inb (w64 (i - 1)) d3) <|
   grd (inb i d3) <|
   (Z4j N (at_ (0, []) d3 (w64 (i - 1))) (at_ (0, []) d3 i)).bind fun r2 =>
   bif decide (r2 >= 0) then some false
   else
   rec_ d2 d3 (w64 (i + 1))
  else
  rec_ d2 d3 (w64 (i + 1))
 else
 (Z0m N d2).bind fun r3 =>
 bif r3 then some (decide ((d3.length : Int) <= 14))
 else
 some false
def Z33 (N : Nat) : Nat -> R0 -> A0 -> Int -> Option (Bool)
 | 0, _, _, _ => none
 | k_ + 1, d2, d3, i => Z5o N (Z33 N k_) d2 d3 i
def Z9d (N : Nat) (Z0ct : R0 -> A0 -> Int -> Option (Bool)) (d : D0) : Option (Bool) :=
 Z0ct d.1 d.2 0
def Z1 (d : D0) : Option (Bool) := Z9d N (Z33 N N) d
def Z94 (l : R0) (f : Int × List Int) : Option I0 :=
 (Z1f N l f).bind fun r =>
 bif (!r) then some []
 else
 grd (inb f.1 l) <|
 grd (subOk 0 (((at_ (⟨#[]⟩, (0, 0)) l f.1).2).2) f.2.length) <|
 grd (appOk [] (f.2.take (((at_ (⟨#[]⟩, (0, 0)) l f.1).2).2).toNat) 8) <|
 some (f.2.take (((at_ (⟨#[]⟩, (0, 0)) l f.1).2).2).toNat)
def Z3a (l : R0) (a : Int × List Int) (b : Int × List Int) : Option (Bool) :=
 (Z1f N l a).bind fun r =>
 bif r then
  (Z1f N l b).bind fun r2 =>
  bif r2 then
   bif (a.1 == b.1) then
    (Z94 N l a).bind fun r3 =>
    (Z94 N l b).bind fun r4 =>
    (Z6t N r3 r4).bind fun r5 =>
    some (r5 == 0)
   else
   some false
  else
  some false
 else
 some false
def Z1l (d : D0) (x : C0) : Option (Bool) :=
 (Z1 N d).bind fun r =>
 bif (!r) then some false
 else
 (Z9 N x.1 0 (w64 ((d.1.length : Int) - 1))).bind fun r2 =>
 bif (!r2) then some false
 else
 (Z9 N x.2.1 0 (w64 ((d.1.length : Int) - 1))).bind fun r3 =>
 bif (!r3) then some false
 else
 grd (inb x.1 d.1) <|
 grd (inb x.2.1 d.1) <|
 (Z9 N x.2.2.1 0 (w64 ((((at_ (⟨#[]⟩, (0, 0)) d.1 x.1).2).1) - 1))).bind fun r4 =>
 bif r4 then
  (Z9 N x.2.2.2.2.1 0 (w64 ((((at_ (⟨#[]⟩, (0, 0)) d.1 x.1).2).1) - 1))).bind fun r5 =>
  bif r5 then
   (Z9 N x.2.2.2.1 0 (w64 ((((at_ (⟨#[]⟩, (0, 0)) d.1 x.2.1).2).1) - 1))).bind fun r6 =>
   bif r6 then
    (Z9 N x.2.2.2.2.2.1 0 (w64 ((((at_ (⟨#[]⟩, (0, 0)) d.1 x.2.1).2).1) - 1))).bind fun r7 =>
    bif r7 then
     (Z9 N x.2.2.2.2.2.2 1 2).bind fun r8 =>
     some r8
    else
    some false
   else
   some false
  else
  some false
 else
 some false
def Z1h (d : D0) (x : C0) (i : Int) (k : Int) : Option (Bool) :=
 (Z1l N d x).bind fun r =>
 bif (!r) then some false
 else
 (Z9 N i 0 (w64 ((d.2.length : Int) - 1))).bind fun r2 =>
 bif (!r2) then some false
 else
 (Z9 N k 0 (w64 ((d.2.length : Int) - 1))).bind fun r3 =>
 bif (!r3) then some false
 else
 bif (i == k) then some false
 else
 grd (inb i d.2) <|
 grd (inb k d.2) <|
 bif (((at_ (0, []) d.2 i).1) != x.1) then some false
 else
 bif (((at_ (0, []) d.2 k).1) != x.2.1) then some false
 else
 grd (inb x.2.2.1 ((at_ (0, []) d.2 i).2)) <|
 grd (inb x.2.2.2.1 ((at_ (0, []) d.2 k).2)) <|
 bif ((at_ 0 ((at_ (0, []) d.2 i).2) x.2.2.1) != (at_ 0 ((at_ (0, []) d.2 k).2) x.2.2.2.1)) then some false
 else
 bif (x.2.2.2.2.2.2 == 1) then
  grd (inb x.2.2.2.2.1 ((at_ (0, []) d.2 i).2)) <|
  grd (inb x.2.2.2.2.2.1 ((at_ (0, []) d.2 k).2)) <|
  some ((at_ 0 ((at_ (0, []) d.2 i).2) x.2.2.2.2.1) == (at_ 0 ((at_ (0, []) d.2 k).2) x.2.2.2.2.2.1))
 else
 grd (inb x.2.2.2.2.1 ((at_ (0, []) d.2 i).2)) <|
 grd (inb x.2.2.2.2.2.1 ((at_ (0, []) d.2 k).2)) <|
 some (decide ((at_ 0 ((at_ (0, []) d.2 i).2) x.2.2.2.2.1) < (at_ 0 ((at_ (0, []) d.2 k).2) x.2.2.2.2.2.1)))
def Z6f (Z55 : (List C0) -> R0 -> A0 -> E0 -> Int -> Int -> Option E0) (rec_ : (List C0) -> R0 -> A0 -> E0 -> Int -> Int -> Bool -> Int -> Option E0) (l4 : List C0) (d6 : R0) (d7 : A0) (out3 : E0) (i3 : Int) (k2 : Int) (is_ : Bool) (n : Int) : Option E0 :=
 bif decide (n < (l4.length : Int)) then
  bif is_ then rec_ l4 d6 d7 out3 i3 k2 true (w64 (n + 1))
  else
  grd (inb n l4) <|
  (Z1h N (d6, d7) ((at_ (0, (0, (0, (0, (0, (0, 0)))))) l4 n).1, ((at_ (0, (0, (0, (0, (0, (0, 0)))))) l4 n).2).1, (((at_ (0, (0, (0, (0, (0, (0, 0)))))) l4 n).2).2).1, ((((at_ (0, (0, (0, (0, (0, (0, 0)))))) l4 n).2).2).2).1, (((((at_ (0, (0, (0, (0, (0, (0, 0)))))) l4 n).2).2).2).2).1, ((((((at_ (0, (0, (0, (0, (0, (0, 0)))))) l4 n).2).2).2).2).2)) i3 k2).bind fun r3 =>
  bif r3 then rec_ l4 d6 d7 out3 i3 k2 true (w64 (n + 1))
  else
  grd (inb n l4) <|
  (Z1h N (d6, d7) ((at_ (0, (0, (0, (0, (0, (0, 0)))))) l4 n).1, ((at_ (0, (0, (0, (0, (0, (0, 0)))))) l4 n).2).1, (((at_ (0, (0, (0, (0, (0, (0, 0)))))) l4 n).2).2).1, ((((at_ (0, (0, (0, (0, (0, (0, 0)))))) l4 n).2).2).2).1, (((((at_ (0, (0, (0, (0, (0, (0, 0)))))) l4 n).2).2).2).2).1, ((((((at_ (0, (0, (0, (0, (0, (0, 0)))))) l4 n).2).2).2).2).2)) k2 i3).bind fun r4 =>
  rec_ l4 d6 d7 out3 i3 k2 r4 (w64 (n + 1))
 else
 bif is_ then
  grd (appOk out3 [(i3, k2)] 16) <|
  Z55 l4 d6 d7 (out3 ++ [(i3, k2)]) i3 (w64 (k2 + 1))
 else
 Z55 l4 d6 d7 out3 i3 (w64 (k2 + 1))
def Z3z (Z55 : (List C0) -> R0 -> A0 -> E0 -> Int -> Int -> Option E0) (N : Nat) : Nat -> (List C0) -> R0 -> A0 -> E0 -> Int -> Int -> Bool -> Int -> Option E0
 | 0, _, _, _, _, _, _, _, _ => none
 | k_ + 1, l4, d6, d7, out3, i3, k2, is_, n => Z6f N Z55 (Z3z Z55 N k_) l4 d6 d7 out3 i3 k2 is_ n
def Z6g (Z56 : (List C0) -> R0 -> A0 -> E0 -> Int -> Option E0) (Z0d6 : (List C0) -> R0 -> A0 -> E0 -> Int -> Int -> Bool -> Int -> Option E0) (rec_ : (List C0) -> R0 -> A0 -> E0 -> Int -> Int -> Option E0) (l3 : List C0) (d4 : R0) (d5 : A0) (out2 : E0) (i2 : Int) (k : Int) : Option E0 :=
 bif decide (k < (d5.length : Int)) then
  grd (inb i2 d5) <|
  grd (inb k d5) <|
  (Z3a N d4 (at_ (0, []) d5 i2) (at_ (0, []) d5 k)).bind fun r2 =>
  Z0d6 l3 d4 d5 out2 i2 k r2 0
 else
 Z56 l3 d4 d5 out2 (w64 (i2 + 1))
def Z1c (Z56 : (List C0) -> R0 -> A0 -> E0 -> Int -> Option E0) (N : Nat) : Nat -> (List C0) -> R0 -> A0 -> E0 -> Int -> Int -> Option E0
 | 0, _, _, _, _, _, _ => none
 | k_ + 1, l3, d4, d5, out2, i2, k => Z6g N Z56 (Z3z (Z1c Z56 N k_) N N) (Z1c Z56 N k_) l3 d4 d5 out2 i2 k
def Z4i (Z0d7 : (List C0) -> R0 -> A0 -> E0 -> Int -> Int -> Option E0) (rec_ : (List C0) -> R0 -> A0 -> E0 -> Int -> Option E0) (l2 : List C0) (d2 : R0) (d3 : A0) (out : E0) (i : Int) : Option E0 :=
 bif decide (i < (d3.length : Int)) then
  (Z1 N (d2, d3)).bind fun r =>
  bif r then Z0d7 l2 d2 d3 out i (w64 (i + 1))
  else
  some out
 else
 some out
def Z1w (N : Nat) : Nat -> (List C0) -> R0 -> A0 -> E0 -> Int -> Option E0
 | 0, _, _, _, _, _ => none
 | k_ + 1, l2, d2, d3, out, i => Z4i N (Z1c (Z1w N k_) N N) (Z1w N k_) l2 d2 d3 out i
def Z0ac (N : Nat) (Z0d8 : (List C0) -> R0 -> A0 -> E0 -> Int -> Option E0) (d : D0) (l : List C0) : Option E0 :=
 Z0d8 l d.1 d.2 [] 0
def Z48 (d : D0) (l : List C0) : Option E0 := Z0ac N (Z1w N N) d l
def Z6h (rec_ : Int -> E0 -> Int -> Option (Bool)) (n2 : Int) (l2 : E0) (i : Int) : Option (Bool) :=
 bif decide (i < (l2.length : Int)) then
  grd (inb i l2) <|
  grd (inb i l2) <|
  (Z9 N ((at_ (0, 0) l2 i).1) 0 (w64 (((at_ (0, 0) l2 i).2) - 1))).bind fun r =>
  bif (!r) then some false
  else
  grd (inb i l2) <|
  (Z9 N ((at_ (0, 0) l2 i).2) 0 (w64 (n2 - 1))).bind fun r2 =>
  bif (!r2) then some false
  else
  bif decide (i > 0) then
   grd (inb i l2) <|
   grd (inb (w64 (i - 1)) l2) <|
   bif decide (((at_ (0, 0) l2 i).1) < ((at_ (0, 0) l2 (w64 (i - 1))).1)) then some false
   else
   grd (inb i l2) <|
   grd (inb (w64 (i - 1)) l2) <|
   bif (((at_ (0, 0) l2 i).1) == ((at_ (0, 0) l2 (w64 (i - 1))).1)) then
    grd (inb i l2) <|
    grd (inb (w64 (i - 1)) l2) <|
    bif decide (((at_ (0, 0) l2 i).2) <= ((at_ (0, 0) l2 (w64 (i - 1))).2)) then some false
    else
    rec_ n2 l2 (w64 (i + 1))
   else
   rec_ n2 l2 (w64 (i + 1))
  else
  rec_ n2 l2 (w64 (i + 1))
 else
 (Z9 N n2 0 14).bind fun r3 =>
 some r3
def Z40 (N : Nat) : Nat -> Int -> E0 -> Int -> Option (Bool)
 | 0, _, _, _ => none
 | k_ + 1, n2, l2, i => Z6h N (Z40 N k_) n2 l2 i
def Z0ad (N : Nat) (Z0d9 : Int -> E0 -> Int -> Option (Bool)) (n : Int) (l : E0) : Option (Bool) :=
 Z0d9 n l 0
def Z15 (n : Int) (l : E0) : Option (Bool) := Z0ad N (Z40 N N) n l
def Z0aw (rec_ : Int -> I0 -> Int -> Option (Bool)) (n2 : Int) (s2 : I0) (i : Int) : Option (Bool) :=
 bif decide (i < (s2.length : Int)) then
  grd (inb i s2) <|
  (Z9 N (at_ 0 s2 i) 0 (w64 (n2 - 1))).bind fun r =>
  bif (!r) then some false
  else
  bif decide (i > 0) then
   grd (inb i s2) <|
   grd (inb (w64 (i - 1)) s2) <|
   bif decide ((at_ 0 s2 i) <= (at_ 0 s2 (w64 (i - 1)))) then some false
   else
   rec_ n2 s2 (w64 (i + 1))
  else
  rec_ n2 s2 (w64 (i + 1))
 else
 some true
def Z90 (N : Nat) : Nat -> Int -> I0 -> Int -> Option (Bool)
 | 0, _, _, _ => none
 | k_ + 1, n2, s2, i => Z0aw N (Z90 N k_) n2 s2 i
def Z0cu (N : Nat) (Z0em : Int -> I0 -> Int -> Option (Bool)) (n : Int) (s : I0) : Option (Bool) :=
 Z0em n s 0
def Z0ae (n : Int) (s : I0) : Option (Bool) := Z0cu N (Z90 N N) n s
def Z0ax (N : Nat) (rec_ : I0 -> Int -> Int -> Option (Bool)) (l2 : I0) (x2 : Int) (i : Int) : Option (Bool) :=
 bif decide (i < (l2.length : Int)) then
  grd (inb i l2) <|
  bif ((at_ 0 l2 i) == x2) then some true
  else
  rec_ l2 x2 (w64 (i + 1))
 else
 some false
def Z91 (N : Nat) : Nat -> I0 -> Int -> Int -> Option (Bool)
 | 0, _, _, _ => none
 | k_ + 1, l2, x2, i => Z0ax N (Z91 N k_) l2 x2 i
def Z0cv (N : Nat) (Z0en : I0 -> Int -> Int -> Option (Bool)) (l : I0) (x : Int) : Option (Bool) :=
 Z0en l x 0
def Z3u (l : I0) (x : Int) : Option (Bool) := Z0cv N (Z91 N N) l x
def Z6i (rec_ : E0 -> I0 -> Int -> Option (Bool)) (l2 : E0) (s2 : I0) (i : Int) : Option (Bool) :=
 bif decide (i < (l2.length : Int)) then
  grd (inb i l2) <|
  (Z3u N s2 ((at_ (0, 0) l2 i).1)).bind fun r =>
  bif r then
   grd (inb i l2) <|
   (Z3u N s2 ((at_ (0, 0) l2 i).2)).bind fun r2 =>
   bif r2 then some false
   else
   rec_ l2 s2 (w64 (i + 1))
  else
  rec_ l2 s2 (w64 (i + 1))
 else
 some true
def Z41 (N : Nat) : Nat -> E0 -> I0 -> Int -> Option (Bool)
 | 0, _, _, _ => none
 | k_ + 1, l2, s2, i => Z6i N (Z41 N k_) l2 s2 i
def Z0af (N : Nat) (Z0da : E0 -> I0 -> Int -> Option (Bool)) (l : E0) (s : I0) : Option (Bool) :=
 Z0da l s 0
def Z23 (l : E0) (s : I0) : Option (Bool) := Z0af N (Z41 N N) l s
def Z6u (l : E0) (s : I0) (x : Int) : Option (Bool) :=
 (Z3u N s x).bind fun r =>
 bif (!r) then
  grd (appOk [] s 8) <|
  grd (appOk s [x] 8) <|
  (Z23 N l (s ++ [x])).bind fun r2 =>
  some r2
 else
 some false
def Z3v (rec_ : Int -> E0 -> I0 -> Int -> Option (Bool)) (n2 : Int) (l2 : E0) (s2 : I0) (x : Int) : Option (Bool) :=
 bif decide (x < n2) then
  (Z6u N l2 s2 x).bind fun r4 =>
  bif r4 then some false
  else
  rec_ n2 l2 s2 (w64 (x + 1))
 else
 some true
def Z1m (N : Nat) : Nat -> Int -> E0 -> I0 -> Int -> Option (Bool)
 | 0, _, _, _, _ => none
 | k_ + 1, n2, l2, s2, x => Z3v N (Z1m N k_) n2 l2 s2 x
def Z6z (Z0bn : Int -> E0 -> I0 -> Int -> Option (Bool)) (n : Int) (l : E0) (s : I0) : Option (Bool) :=
 (Z15 N n l).bind fun r =>
 bif (!r) then some false
 else
 (Z0ae N n s).bind fun r2 =>
 bif (!r2) then some false
 else
 (Z23 N l s).bind fun r3 =>
 bif (!r3) then some false
 else
 Z0bn n l s 0
def Z0s (n : Int) (l : E0) (s : I0) : Option (Bool) := Z6z N (Z1m N N) n l s
def Z0ag (N : Nat) (Rf : Int -> E0 -> I0 -> Int -> Option L0) (rec_ : Int -> E0 -> I0 -> Int -> L0 -> Bool -> Int -> Option L0) (n2 : Int) (l2 : E0) (s2 : I0) (x2 : Int) (out : L0) (met : Bool) (i : Int) : Option L0 :=
 bif decide (i < (l2.length : Int)) then
  bif met then rec_ n2 l2 s2 x2 out true (w64 (i + 1))
  else
  grd (inb i l2) <|
  bif (((at_ (0, 0) l2 i).1) == x2) then rec_ n2 l2 s2 x2 out true (w64 (i + 1))
  else
  grd (inb i l2) <|
  rec_ n2 l2 s2 x2 out (((at_ (0, 0) l2 i).2) == x2) (w64 (i + 1))
 else
 bif met then
  (Rf n2 l2 s2 (w64 (x2 + 1))).bind fun r4 =>
  grd (appOk out r4 24) <|
  some (out ++ r4)
 else
 some out
def Z6o (N : Nat) (Rf : Int -> E0 -> I0 -> Int -> Option L0) : Nat -> Int -> E0 -> I0 -> Int -> L0 -> Bool -> Int -> Option L0
 | 0, _, _, _, _, _, _, _ => none
 | k_ + 1, n2, l2, s2, x2, out, met, i => Z0ag N Rf (Z6o N Rf k_) n2 l2 s2 x2 out met i
def Z0bg (Rf : Int -> E0 -> I0 -> Int -> Option L0) (Z0d5 : Int -> E0 -> I0 -> Int -> L0 -> Bool -> Int -> Option L0) (n : Int) (l : E0) (s : I0) (x : Int) : Option L0 :=
 bif (x == n) then
  (Z0s N n l s).bind fun r =>
  bif r then
   grd (appOk [] s 8) <|
   some [s]
  else
  some []
 else
 (Z6u N l s x).bind fun r2 =>
 bif r2 then
  grd (appOk [] s 8) <|
  grd (appOk s [x] 8) <|
  (Rf n l (s ++ [x]) (w64 (x + 1))).bind fun r3 =>
  Z0d5 n l s x r3 false 0
 else
 Z0d5 n l s x [] false 0
def Z4c (N : Nat) : Nat -> Int -> E0 -> I0 -> Int -> Option L0
 | 0, _, _, _, _ => none
 | k_ + 1, n, l, s, x => Z0bg N (Z4c N k_) (Z6o N (Z4c N k_) N) n l s x
def Z0aq (n : Int) (l : E0) (s : I0) (x : Int) : Option L0 := Z4c N N n l s x
def Z16 (n : Int) (l : E0) : Option L0 :=
 (Z15 N n l).bind fun r =>
 bif (!r) then some []
 else
 (Z0aq N n l [] 0).bind fun r2 =>
 some r2
def Z9w (N : Nat) (rec_ : E0 -> Int -> Int -> Int -> Option (Bool)) (l2 : E0) (a2 : Int) (b2 : Int) (i : Int) : Option (Bool) :=
 bif decide (i < (l2.length : Int)) then
  grd (inb i l2) <|
  bif (((at_ (0, 0) l2 i).1) == (imin a2 b2)) then
   grd (inb i l2) <|
   bif (((at_ (0, 0) l2 i).2) == (imax a2 b2)) then some true
   else
   rec_ l2 a2 b2 (w64 (i + 1))
  else
  rec_ l2 a2 b2 (w64 (i + 1))
 else
 some false
def Z7j (N : Nat) : Nat -> E0 -> Int -> Int -> Int -> Option (Bool)
 | 0, _, _, _, _ => none
 | k_ + 1, l2, a2, b2, i => Z9w N (Z7j N k_) l2 a2 b2 i
def Z0by (N : Nat) (Z0e7 : E0 -> Int -> Int -> Int -> Option (Bool)) (l : E0) (a : Int) (b : Int) : Option (Bool) :=
 Z0e7 l a b 0
def Z57 (l : E0) (a : Int) (b : Int) : Option (Bool) := Z0by N (Z7j N N) l a b
def Z70 (N : Nat) (Z3m : Int -> E0 -> (List Bool) -> Int -> Int -> Option (Bool)) (rec_ : Int -> E0 -> (List Bool) -> Int -> Int -> Bool -> Int -> Option (Bool)) (n5 : Int) (p5 : E0) (gone3 : List Bool) (k3 : Int) (x2 : Int) (free : Bool) (i2 : Int) : Option (Bool) :=
 bif decide (i2 < (p5.length : Int)) then
  bif free then
   grd (inb i2 p5) <|
   bif (((at_ (0, 0) p5 i2).2) != x2) then rec_ n5 p5 gone3 k3 x2 true (w64 (i2 + 1))
   else
   grd (inb i2 p5) <|
   grd (inb ((at_ (0, 0) p5 i2).1) gone3) <|
   rec_ n5 p5 gone3 k3 x2 (at_ false gone3 ((at_ (0, 0) p5 i2).1)) (w64 (i2 + 1))
  else
  rec_ n5 p5 gone3 k3 x2 false (w64 (i2 + 1))
 else
 bif free then
  grd (inb x2 gone3) <|
  grd (inb x2 gone3) <|
  letv (gone3.set x2.toNat true) fun u =>
  Z3m n5 p5 u k3 (w64 (x2 + 1))
 else
 Z3m n5 p5 gone3 k3 (w64 (x2 + 1))
def Z2e (Z3m : Int -> E0 -> (List Bool) -> Int -> Int -> Option (Bool)) (N : Nat) : Nat -> Int -> E0 -> (List Bool) -> Int -> Int -> Bool -> Int -> Option (Bool)
 | 0, _, _, _, _, _, _, _ => none
 | k_ + 1, n5, p5, gone3, k3, x2, free, i2 => Z70 N Z3m (Z2e Z3m N k_) n5 p5 gone3 k3 x2 free i2
def Z4p (N : Nat) (Z3n : Int -> E0 -> (List Bool) -> Int -> Option (Bool)) (Z0cb : Int -> E0 -> (List Bool) -> Int -> Int -> Bool -> Int -> Option (Bool)) (rec_ : Int -> E0 -> (List Bool) -> Int -> Int -> Option (Bool)) (n4 : Int) (p4 : E0) (gone2 : List Bool) (k2 : Int) (x : Int) : Option (Bool) :=
 bif decide (x < n4) then Z0cb n4 p4 gone2 k2 x true 0
 else
 Z3n n4 p4 gone2 (w64 (k2 + 1))
def Z1k (Z3n : Int -> E0 -> (List Bool) -> Int -> Option (Bool)) (N : Nat) : Nat -> Int -> E0 -> (List Bool) -> Int -> Int -> Option (Bool)
 | 0, _, _, _, _, _ => none
 | k_ + 1, n4, p4, gone2, k2, x => Z4p N Z3n (Z2e (Z1k Z3n N k_) N N) (Z1k Z3n N k_) n4 p4 gone2 k2 x
def Z4q (N : Nat) (rec_ : Int -> (List Bool) -> Int -> Option (Bool)) (n6 : Int) (gone4 : List Bool) (x3 : Int) : Option (Bool) :=
 bif decide (x3 < n6) then
  grd (inb x3 gone4) <|
  bif (!(at_ false gone4 x3)) then some false
  else
  rec_ n6 gone4 (w64 (x3 + 1))
 else
 some true
def Z2f (N : Nat) : Nat -> Int -> (List Bool) -> Int -> Option (Bool)
 | 0, _, _, _ => none
 | k_ + 1, n6, gone4, x3 => Z4q N (Z2f N k_) n6 gone4 x3
def Z4r (N : Nat) (Z0cc : Int -> E0 -> (List Bool) -> Int -> Int -> Option (Bool)) (Z0cd : Int -> (List Bool) -> Int -> Option (Bool)) (rec_ : Int -> E0 -> (List Bool) -> Int -> Option (Bool)) (n3 : Int) (p3 : E0) (gone : List Bool) (k : Int) : Option (Bool) :=
 bif decide (k < n3) then Z0cc n3 p3 gone k 0
 else
 Z0cd n3 gone 0
def Z0t (N : Nat) : Nat -> Int -> E0 -> (List Bool) -> Int -> Option (Bool)
 | 0, _, _, _, _ => none
 | k_ + 1, n3, p3, gone, k => Z4r N (Z1k (Z0t N k_) N N) (Z2f N N) (Z0t N k_) n3 p3 gone k
def Z4s (Z0ce : Int -> E0 -> (List Bool) -> Int -> Option (Bool)) (rec_ : Int -> E0 -> E0 -> Int -> Option (Bool)) (n2 : Int) (l2 : E0) (p2 : E0) (i : Int) : Option (Bool) :=
 bif decide (i < (p2.length : Int)) then
  grd (inb i p2) <|
  grd (inb i p2) <|
  bif (((at_ (0, 0) p2 i).1) == ((at_ (0, 0) p2 i).2)) then some false
  else
  grd (inb i p2) <|
  grd (inb i p2) <|
  (Z57 N l2 ((at_ (0, 0) p2 i).1) ((at_ (0, 0) p2 i).2)).bind fun r2 =>
  bif (!r2) then some false
  else
  rec_ n2 l2 p2 (w64 (i + 1))
 else
 grd (makeOk n2 1) <|
 Z0ce n2 p2 (List.replicate n2.toNat false) 0
def Z2g (N : Nat) : Nat -> Int -> E0 -> E0 -> Int -> Option (Bool)
 | 0, _, _, _, _ => none
 | k_ + 1, n2, l2, p2, i => Z4s N (Z0t N N) (Z2g N k_) n2 l2 p2 i
def Z8f (Z0cf : Int -> E0 -> E0 -> Int -> Option (Bool)) (n : Int) (l : E0) (p : E0) : Option (Bool) :=
 (Z15 N n l).bind fun r =>
 bif (!r) then some false
 else
 Z0cf n l p 0
def Z2a (n : Int) (l : E0) (p : E0) : Option (Bool) := Z8f N (Z2g N N) n l p
def Z7k (N : Nat) (rec_ : E0 -> Int -> Int -> Int -> Option (Bool)) (p2 : E0) (a2 : Int) (b2 : Int) (i : Int) : Option (Bool) :=
 bif decide (i < (p2.length : Int)) then
  grd (inb i p2) <|
  bif (((at_ (0, 0) p2 i).1) == a2) then
   grd (inb i p2) <|
   bif (((at_ (0, 0) p2 i).2) == b2) then some true
   else
   rec_ p2 a2 b2 (w64 (i + 1))
  else
  rec_ p2 a2 b2 (w64 (i + 1))
 else
 some false
def Z4z (N : Nat) : Nat -> E0 -> Int -> Int -> Int -> Option (Bool)
 | 0, _, _, _, _ => none
 | k_ + 1, p2, a2, b2, i => Z7k N (Z4z N k_) p2 a2 b2 i
def Z0b3 (N : Nat) (Z0dq : E0 -> Int -> Int -> Int -> Option (Bool)) (p : E0) (a : Int) (b : Int) : Option (Bool) :=
 Z0dq p a b 0
def Z5e (p : E0) (a : Int) (b : Int) : Option (Bool) := Z0b3 N (Z4z N N) p a b
def Z80 (Z5x : Int -> E0 -> E0 -> I0 -> Int -> Option (Bool)) (rec_ : Int -> E0 -> E0 -> I0 -> Int -> Bool -> Int -> Option (Bool)) (n3 : Int) (l3 : E0) (p3 : E0) (s3 : I0) (x2 : Int) (all : Bool) (i : Int) : Option (Bool) :=
 bif decide (i < (s3.length : Int)) then
  bif all then
   grd (inb i s3) <|
   (Z57 N l3 x2 (at_ 0 s3 i)).bind fun r4 =>
   bif (!r4) then rec_ n3 l3 p3 s3 x2 true (w64 (i + 1))
   else
   grd (inb i s3) <|
   (Z5e N p3 x2 (at_ 0 s3 i)).bind fun r5 =>
   rec_ n3 l3 p3 s3 x2 r5 (w64 (i + 1))
  else
  rec_ n3 l3 p3 s3 x2 false (w64 (i + 1))
 else
 bif all then some false
 else
 Z5x n3 l3 p3 s3 (w64 (x2 + 1))
def Z34 (Z5x : Int -> E0 -> E0 -> I0 -> Int -> Option (Bool)) (N : Nat) : Nat -> Int -> E0 -> E0 -> I0 -> Int -> Bool -> Int -> Option (Bool)
 | 0, _, _, _, _, _, _, _ => none
 | k_ + 1, n3, l3, p3, s3, x2, all, i => Z80 N Z5x (Z34 Z5x N k_) n3 l3 p3 s3 x2 all i
def Z5p (Z0cw : Int -> E0 -> E0 -> I0 -> Int -> Bool -> Int -> Option (Bool)) (rec_ : Int -> E0 -> E0 -> I0 -> Int -> Option (Bool)) (n2 : Int) (l2 : E0) (p2 : E0) (s2 : I0) (x : Int) : Option (Bool) :=
 bif decide (x < n2) then
  (Z3u N s2 x).bind fun r3 =>
  bif r3 then rec_ n2 l2 p2 s2 (w64 (x + 1))
  else
  Z0cw n2 l2 p2 s2 x true 0
 else
 some true
def Z1z (N : Nat) : Nat -> Int -> E0 -> E0 -> I0 -> Int -> Option (Bool)
 | 0, _, _, _, _, _ => none
 | k_ + 1, n2, l2, p2, s2, x => Z5p N (Z34 (Z1z N k_) N N) (Z1z N k_) n2 l2 p2 s2 x
def Z9e (Z0cx : Int -> E0 -> E0 -> I0 -> Int -> Option (Bool)) (n : Int) (l : E0) (p : E0) (s : I0) : Option (Bool) :=
 (Z2a N n l p).bind fun r =>
 bif (!r) then some false
 else
 (Z0s N n l s).bind fun r2 =>
 bif (!r2) then some false
 else
 Z0cx n l p s 0
def Z24 (n : Int) (l : E0) (p : E0) (s : I0) : Option (Bool) := Z9e N (Z1z N N) n l p s
def Z5y (rec_ : Int -> E0 -> E0 -> L0 -> L0 -> Int -> Option L0) (n3 : Int) (l3 : E0) (p3 : E0) (out2 : L0) (all2 : L0) (i2 : Int) : Option L0 :=
 bif decide (i2 < (all2.length : Int)) then
  grd (inb i2 all2) <|
  (Z24 N n3 l3 p3 (at_ [] all2 i2)).bind fun r3 =>
  bif r3 then
   grd (inb i2 all2) <|
   grd (appOk out2 [(at_ [] all2 i2)] 24) <|
   rec_ n3 l3 p3 (out2 ++ [(at_ [] all2 i2)]) all2 (w64 (i2 + 1))
  else
  rec_ n3 l3 p3 out2 all2 (w64 (i2 + 1))
 else
 some out2
def Z1n (N : Nat) : Nat -> Int -> E0 -> E0 -> L0 -> L0 -> Int -> Option L0
 | 0, _, _, _, _, _, _ => none
 | k_ + 1, n3, l3, p3, out2, all2, i2 => Z5y N (Z1n N k_) n3 l3 p3 out2 all2 i2
def Z5z (Z0bo : Int -> E0 -> E0 -> L0 -> L0 -> Int -> Option L0) (rec_ : Int -> E0 -> E0 -> L0 -> L0 -> Int -> Option L0) (n2 : Int) (l2 : E0) (p2 : E0) (out : L0) (all : L0) (i : Int) : Option L0 :=
 bif decide (i < (all.length : Int)) then
  grd (inb i all) <|
  (Z24 N n2 l2 p2 (at_ [] all i)).bind fun r2 =>
  bif r2 then
   grd (inb i all) <|
   grd (appOk out [(at_ [] all i)] 24) <|
   Z0bo n2 l2 p2 (out ++ [(at_ [] all i)]) all (w64 (i + 1))
  else
  rec_ n2 l2 p2 out all (w64 (i + 1))
 else
 some out
def Z2m (N : Nat) : Nat -> Int -> E0 -> E0 -> L0 -> L0 -> Int -> Option L0
 | 0, _, _, _, _, _, _ => none
 | k_ + 1, n2, l2, p2, out, all, i => Z5z N (Z1n N k_) (Z2m N k_) n2 l2 p2 out all i
def Z71 (Z0bp : Int -> E0 -> E0 -> L0 -> L0 -> Int -> Option L0) (n : Int) (l : E0) (p : E0) : Option L0 :=
 (Z16 N n l).bind fun r =>
 Z0bp n l p [] r 0
def Z2h (n : Int) (l : E0) (p : E0) : Option L0 := Z71 N (Z2m N N) n l p
def Z2n (d : D0) (l : List C0) (p : E0) : Option L0 :=
 (Z1 N d).bind fun r =>
 bif (!r) then some []
 else
 (Z48 N d l).bind fun r2 =>
 (Z2h N (d.2.length : Int) r2 p).bind fun r3 =>
 some r3
def Z9f (Z1d : R0 -> Int -> A0 -> I0 -> (List Bool) -> Int -> Option (Bool)) (rec_ : R0 -> Int -> A0 -> I0 -> (List Bool) -> Int -> Int -> I0 -> Int -> Option (Bool)) (l4 : R0) (q8 : Int) (q9 : A0) (q10 : I0) (met3 : List Bool) (i3 : Int) (a3 : Int) (a4 : I0) (k2 : Int) : Option (Bool) :=
 bif decide (k2 < (a4.length : Int)) then
  grd (inb k2 a4) <|
  (Z9 N (at_ 0 a4 k2) (-10) (w64 (q8 - 1))).bind fun r5 =>
  bif (!r5) then some false
  else
  grd (inb k2 a4) <|
  bif decide ((at_ 0 a4 k2) >= 0) then
   grd (inb k2 a4) <|
   grd (inb (at_ 0 a4 k2) met3) <|
   grd (inb (at_ 0 a4 k2) met3) <|
   letv (met3.set (at_ 0 a4 k2).toNat true) fun u =>
   rec_ l4 q8 q9 q10 u i3 a3 a4 (w64 (k2 + 1))
  else
  rec_ l4 q8 q9 q10 met3 i3 a3 a4 (w64 (k2 + 1))
 else
 Z1d l4 q8 q9 q10 met3 (w64 (i3 + 1))
def Z25 (Z1d : R0 -> Int -> A0 -> I0 -> (List Bool) -> Int -> Option (Bool)) (N : Nat) : Nat -> R0 -> Int -> A0 -> I0 -> (List Bool) -> Int -> Int -> I0 -> Int -> Option (Bool)
 | 0, _, _, _, _, _, _, _, _, _ => none
 | k_ + 1, l4, q8, q9, q10, met3, i3, a3, a4, k2 => Z9f N Z1d (Z25 Z1d N k_) l4 q8 q9 q10 met3 i3 a3 a4 k2
def Z6v (N : Nat) (Z1d : R0 -> Int -> A0 -> I0 -> (List Bool) -> Int -> Option (Bool)) (Z0df : R0 -> Int -> A0 -> I0 -> (List Bool) -> Int -> Int -> I0 -> Int -> Option (Bool)) (rec_ : R0 -> Int -> A0 -> I0 -> (List Bool) -> Int -> Int -> I0 -> Int -> Option (Bool)) (l3 : R0) (q5 : Int) (q6 : A0) (q7 : I0) (met2 : List Bool) (i2 : Int) (a : Int) (a2 : I0) (k : Int) : Option (Bool) :=
 bif decide (k < i2) then
  grd (inb k q6) <|
  bif (((at_ (0, []) q6 k).1) == a) then some false
  else
  rec_ l3 q5 q6 q7 met2 i2 a a2 (w64 (k + 1))
 else
 Z0df l3 q5 q6 q7 met2 i2 a a2 0
def Z3b (Z1d : R0 -> Int -> A0 -> I0 -> (List Bool) -> Int -> Option (Bool)) (N : Nat) : Nat -> R0 -> Int -> A0 -> I0 -> (List Bool) -> Int -> Int -> I0 -> Int -> Option (Bool)
 | 0, _, _, _, _, _, _, _, _, _ => none
 | k_ + 1, l3, q5, q6, q7, met2, i2, a, a2, k => Z6v N Z1d (Z25 Z1d N N) (Z3b Z1d N k_) l3 q5 q6 q7 met2 i2 a a2 k
def Z6w (rec_ : Int -> A0 -> I0 -> Int -> Option (Bool)) (q14 : Int) (q15 : A0) (q16 : I0) (i4 : Int) : Option (Bool) :=
 bif decide (i4 < (q16.length : Int)) then
  grd (inb i4 q16) <|
  (Z9 N (at_ 0 q16 i4) 0 (w64 (q14 - 1))).bind fun r6 =>
  bif (!r6) then some false
  else
  bif decide (i4 > 0) then
   grd (inb i4 q16) <|
   grd (inb (w64 (i4 - 1)) q16) <|
   bif decide ((at_ 0 q16 i4) <= (at_ 0 q16 (w64 (i4 - 1)))) then some false
   else
   rec_ q14 q15 q16 (w64 (i4 + 1))
  else
  rec_ q14 q15 q16 (w64 (i4 + 1))
 else
 some true
def Z3c (N : Nat) : Nat -> Int -> A0 -> I0 -> Int -> Option (Bool)
 | 0, _, _, _, _ => none
 | k_ + 1, q14, q15, q16, i4 => Z6w N (Z3c N k_) q14 q15 q16 i4
def Z6x (N : Nat) (Z0dg : Int -> A0 -> I0 -> Int -> Option (Bool)) (rec_ : Int -> A0 -> I0 -> (List Bool) -> Int -> Option (Bool)) (q11 : Int) (q12 : A0) (q13 : I0) (met4 : List Bool) (v : Int) : Option (Bool) :=
 bif decide (v < q11) then
  grd (inb v met4) <|
  bif (!(at_ false met4 v)) then some false
  else
  rec_ q11 q12 q13 met4 (w64 (v + 1))
 else
 Z0dg q11 q12 q13 0
def Z3d (N : Nat) : Nat -> Int -> A0 -> I0 -> (List Bool) -> Int -> Option (Bool)
 | 0, _, _, _, _, _ => none
 | k_ + 1, q11, q12, q13, met4, v => Z6x N (Z3c N N) (Z3d N k_) q11 q12 q13 met4 v
def Z9g (Z0dh : R0 -> Int -> A0 -> I0 -> (List Bool) -> Int -> Int -> I0 -> Int -> Option (Bool)) (Z0di : Int -> A0 -> I0 -> (List Bool) -> Int -> Option (Bool)) (rec_ : R0 -> Int -> A0 -> I0 -> (List Bool) -> Int -> Option (Bool)) (l2 : R0) (q2 : Int) (q3 : A0) (q4 : I0) (met : List Bool) (i : Int) : Option (Bool) :=
 bif decide (i < (q3.length : Int)) then
  grd (inb i q3) <|
  (Z9 N ((at_ (0, []) q3 i).1) 0 (w64 ((l2.length : Int) - 1))).bind fun r4 =>
  bif (!r4) then some false
  else
  grd (inb ((at_ (0, []) q3 i).1) l2) <|
  bif ((((at_ (0, []) q3 i).2).length : Int) != (((at_ (⟨#[]⟩, (0, 0)) l2 ((at_ (0, []) q3 i).1)).2).1)) then some false
  else
  Z0dh l2 q2 q3 q4 met i ((at_ (0, []) q3 i).1) ((at_ (0, []) q3 i).2) 0
 else
 Z0di q2 q3 q4 met 0
def Z4d (N : Nat) : Nat -> R0 -> Int -> A0 -> I0 -> (List Bool) -> Int -> Option (Bool)
 | 0, _, _, _, _, _, _ => none
 | k_ + 1, l2, q2, q3, q4, met, i => Z9g N (Z3b (Z4d N k_) N N) (Z3d N N) (Z4d N k_) l2 q2 q3 q4 met i
def Z0as (Z0dj : R0 -> Int -> A0 -> I0 -> (List Bool) -> Int -> Option (Bool)) (l : R0) (q : Q0) : Option (Bool) :=
 (Z0m N l).bind fun r =>
 bif (!r) then some false
 else
 (Z9 N q.1 0 4).bind fun r2 =>
 bif (!r2) then some false
 else
 (Z9 N (q.2.1.length : Int) 1 3).bind fun r3 =>
 bif (!r3) then some false
 else
 grd (makeOk 4 1) <|
 Z0dj l q.1 q.2.1 q.2.2 (List.replicate (4 : Int).toNat false) 0
def Z4k (l : R0) (q : Q0) : Option (Bool) := Z0as N (Z4d N N) l q
def Z1q (d : D0) (q : Q0) : Option (Bool) :=
 (Z1 N d).bind fun r =>
 bif r then
  (Z4k N d.1 q).bind fun r2 =>
  some r2
 else
 some false
def Z0ba (N : Nat) (rec_ : Int -> I0 -> Option I0) (n2 : Int) (l : I0) : Option I0 :=
 bif decide ((l.length : Int) < n2) then
  grd (appOk l [(-1)] 8) <|
  rec_ n2 (l ++ [(-1)])
 else
 some l
def Z95 (N : Nat) : Nat -> Int -> I0 -> Option I0
 | 0, _, _ => none
 | k_ + 1, n2, l => Z0ba N (Z95 N k_) n2 l
def Z0bz (N : Nat) (Z0e8 : Int -> I0 -> Option I0) (n : Int) : Option I0 :=
 Z0e8 n []
def Z72 (n : Int) : Option I0 := Z0bz N (Z95 N N) n
def Z0bb (N : Nat) (rec_ : Int -> I0 -> Int -> I0 -> I0 -> Int -> Option (List Int × Bool)) (a2 : Int) (a3 : I0) (f2 : Int) (f3 : I0) (x : I0) (i : Int) : Option (List Int × Bool) :=
 bif decide (i < (a3.length : Int)) then
  grd (inb i a3) <|
  bif decide ((at_ 0 a3 i) < 0) then
   grd (inb i f3) <|
   bif ((w64 ((-1) - (at_ 0 a3 i))) != (at_ 0 f3 i)) then some (x, false)
   else
   rec_ a2 a3 f2 f3 x (w64 (i + 1))
  else
  grd (inb (at_ 0 a3 i) x) <|
  bif decide ((at_ 0 x (at_ 0 a3 i)) >= 0) then
   grd (inb (at_ 0 a3 i) x) <|
   grd (inb i f3) <|
   bif ((at_ 0 x (at_ 0 a3 i)) != (at_ 0 f3 i)) then some (x, false)
   else
   grd (inb i f3) <|
   grd (inb (at_ 0 a3 i) x) <|
   grd (inb (at_ 0 a3 i) x) <|
   letv (x.set (at_ 0 a3 i).toNat (at_ 0 f3 i)) fun u =>
   rec_ a2 a3 f2 f3 u (w64 (i + 1))
  else
  grd (inb i f3) <|
  grd (inb (at_ 0 a3 i) x) <|
  grd (inb (at_ 0 a3 i) x) <|
  letv (x.set (at_ 0 a3 i).toNat (at_ 0 f3 i)) fun u2 =>
  rec_ a2 a3 f2 f3 u2 (w64 (i + 1))
 else
 some (x, true)
def Z96 (N : Nat) : Nat -> Int -> I0 -> Int -> I0 -> I0 -> Int -> Option (List Int × Bool)
 | 0, _, _, _, _, _, _ => none
 | k_ + 1, a2, a3, f2, f3, x, i => Z0bb N (Z96 N k_) a2 a3 f2 f3 x i
def Z0c0 (N : Nat) (Z0e9 : Int -> I0 -> Int -> I0 -> I0 -> Int -> Option (List Int × Bool)) (a : Int × List Int) (f : Int × List Int) (vals : I0) : Option (List Int × Bool) :=
 grd (appOk [] vals 8) <|
 bif (f.1 != a.1) then some (vals, false)
 else
 bif ((f.2.length : Int) != (a.2.length : Int)) then some (vals, false)
 else
 Z0e9 a.1 a.2 f.1 f.2 vals 0
def Z8g (a : Int × List Int) (f : Int × List Int) (vals : I0) : Option (List Int × Bool) := Z0c0 N (Z96 N N) a f vals
def Z0bc (Rf : D0 -> Q0 -> Int -> I0 -> I0 -> Option (List (List Int × List Int))) (rec_ : Int -> I0 -> I0 -> R0 -> A0 -> Int -> A0 -> I0 -> (List (List Int × List Int)) -> Int -> Option (List (List Int × List Int))) (k2 : Int) (vals2 : I0) (facts2 : I0) (d2 : R0) (d3 : A0) (q2 : Int) (q3 : A0) (q4 : I0) (out : List (List Int × List Int)) (i : Int) : Option (List (List Int × List Int)) :=
 bif decide (i < (d3.length : Int)) then
  grd (inb k2 q3) <|
  grd (inb i d3) <|
  (Z8g N (at_ (0, []) q3 k2) (at_ (0, []) d3 i) vals2).bind fun p_r =>
  bif p_r.2 then
   grd (appOk [] facts2 8) <|
   grd (appOk facts2 [i] 8) <|
   (Rf (d2, d3) (q2, q3, q4) (w64 (k2 + 1)) p_r.1 (facts2 ++ [i])).bind fun r3 =>
   grd (appOk out r3 48) <|
   rec_ k2 vals2 facts2 d2 d3 q2 q3 q4 (out ++ r3) (w64 (i + 1))
  else
  rec_ k2 vals2 facts2 d2 d3 q2 q3 q4 out (w64 (i + 1))
 else
 some out
def Z97 (N : Nat) (Rf : D0 -> Q0 -> Int -> I0 -> I0 -> Option (List (List Int × List Int))) : Nat -> Int -> I0 -> I0 -> R0 -> A0 -> Int -> A0 -> I0 -> (List (List Int × List Int)) -> Int -> Option (List (List Int × List Int))
 | 0, _, _, _, _, _, _, _, _, _, _ => none
 | k_ + 1, k2, vals2, facts2, d2, d3, q2, q3, q4, out, i => Z0bc N Rf (Z97 N Rf k_) k2 vals2 facts2 d2 d3 q2 q3 q4 out i
def Z0b9 (N : Nat) (Rf : D0 -> Q0 -> Int -> I0 -> I0 -> Option (List (List Int × List Int))) (Z0ea : Int -> I0 -> I0 -> R0 -> A0 -> Int -> A0 -> I0 -> (List (List Int × List Int)) -> Int -> Option (List (List Int × List Int))) (d : D0) (q : Q0) (k : Int) (vals : I0) (facts : I0) : Option (List (List Int × List Int)) :=
 bif (k == (q.2.1.length : Int)) then
  grd (appOk [] vals 8) <|
  grd (appOk [] facts 8) <|
  some [(vals, facts)]
 else
 Z0ea k vals facts d.1 d.2 q.1 q.2.1 q.2.2 [] 0
def Z4e (N : Nat) : Nat -> D0 -> Q0 -> Int -> I0 -> I0 -> Option (List (List Int × List Int))
 | 0, _, _, _, _, _ => none
 | k_ + 1, d, q, k, vals, facts => Z0b9 N (Z4e N k_) (Z97 N (Z4e N k_) N) d q k vals facts
def Z0a2 (d : D0) (q : Q0) (k : Int) (vals : I0) (facts : I0) : Option (List (List Int × List Int)) := Z4e N N d q k vals facts
def Z3q (d : D0) (q : Q0) : Option (List (List Int × List Int)) :=
 (Z1q N d q).bind fun r =>
 bif (!r) then some []
 else
 (Z72 N q.1).bind fun r2 =>
 (Z0a2 N d q 0 r2 []).bind fun r3 =>
 some r3
def Z98 (N : Nat) (Z7y : I0 -> I0 -> Int -> Option I0) (rec_ : I0 -> I0 -> Int -> Int -> Option I0) (l3 : I0) (out2 : I0) (i2 : Int) (k : Int) : Option I0 :=
 bif decide (k > 0) then
  grd (inb (w64 (k - 1)) out2) <|
  grd (inb i2 l3) <|
  bif decide ((at_ 0 out2 (w64 (k - 1))) > (at_ 0 l3 i2)) then rec_ l3 out2 i2 (w64 (k - 1))
  else
  grd (subOk 0 k out2.length) <|
  grd (appOk [] (out2.take k.toNat) 8) <|
  grd (inb i2 l3) <|
  grd (appOk (out2.take k.toNat) [(at_ 0 l3 i2)] 8) <|
  grd (subOk k (out2.length : Int) out2.length) <|
  grd (appOk ((out2.take k.toNat) ++ [(at_ 0 l3 i2)]) (out2.drop k.toNat) 8) <|
  Z7y l3 (((out2.take k.toNat) ++ [(at_ 0 l3 i2)]) ++ (out2.drop k.toNat)) (w64 (i2 + 1))
 else
 grd (subOk 0 k out2.length) <|
 grd (appOk [] (out2.take k.toNat) 8) <|
 grd (inb i2 l3) <|
 grd (appOk (out2.take k.toNat) [(at_ 0 l3 i2)] 8) <|
 grd (subOk k (out2.length : Int) out2.length) <|
 grd (appOk ((out2.take k.toNat) ++ [(at_ 0 l3 i2)]) (out2.drop k.toNat) 8) <|
 Z7y l3 (((out2.take k.toNat) ++ [(at_ 0 l3 i2)]) ++ (out2.drop k.toNat)) (w64 (i2 + 1))
def Z6p (Z7y : I0 -> I0 -> Int -> Option I0) (N : Nat) : Nat -> I0 -> I0 -> Int -> Int -> Option I0
 | 0, _, _, _, _ => none
 | k_ + 1, l3, out2, i2, k => Z98 N Z7y (Z6p Z7y N k_) l3 out2 i2 k
def Z0b4 (N : Nat) (Z0e1 : I0 -> I0 -> Int -> Int -> Option I0) (rec_ : I0 -> I0 -> Int -> Option I0) (l2 : I0) (out : I0) (i : Int) : Option I0 :=
 bif decide (i < (l2.length : Int)) then Z0e1 l2 out i (out.length : Int)
 else
 some out
def Z49 (N : Nat) : Nat -> I0 -> I0 -> Int -> Option I0
 | 0, _, _, _ => none
 | k_ + 1, l2, out, i => Z0b4 N (Z6p (Z49 N k_) N N) (Z49 N k_) l2 out i
def Z0bl (N : Nat) (Z0e2 : I0 -> I0 -> Int -> Option I0) (l : I0) : Option I0 :=
 Z0e2 l [] 0
def Z7v (l : I0) : Option I0 := Z0bl N (Z49 N N) l
def Z0ay (rec_ : I0 -> R0 -> A0 -> Int -> Option (Bool)) (l2 : I0) (d2 : R0) (d3 : A0) (i : Int) : Option (Bool) :=
 bif decide (i < (l2.length : Int)) then
  grd (inb i l2) <|
  (Z9 N (at_ 0 l2 i) 0 (w64 ((d3.length : Int) - 1))).bind fun r =>
  bif (!r) then some false
  else
  bif decide (i > 0) then
   grd (inb i l2) <|
   grd (inb (w64 (i - 1)) l2) <|
   bif decide ((at_ 0 l2 i) <= (at_ 0 l2 (w64 (i - 1)))) then some false
   else
   rec_ l2 d2 d3 (w64 (i + 1))
  else
  rec_ l2 d2 d3 (w64 (i + 1))
 else
 some true
def Z92 (N : Nat) : Nat -> I0 -> R0 -> A0 -> Int -> Option (Bool)
 | 0, _, _, _, _ => none
 | k_ + 1, l2, d2, d3, i => Z0ay N (Z92 N k_) l2 d2 d3 i
def Z0cy (N : Nat) (Z0eo : I0 -> R0 -> A0 -> Int -> Option (Bool)) (d : D0) (l : I0) : Option (Bool) :=
 Z0eo l d.1 d.2 0
def Z0ah (d : D0) (l : I0) : Option (Bool) := Z0cy N (Z92 N N) d l
def Z0a3 (N : Nat) (rec_ : I0 -> R0 -> A0 -> R0 -> A0 -> R0 -> A0 -> Int -> Option (D0 × Bool)) (l2 : I0) (d2 : R0) (d3 : A0) (t4 : R0) (t42 : A0) (x : R0) (x2 : A0) (i : Int) : Option (D0 × Bool) :=
 bif decide (i < (l2.length : Int)) then
  grd (inb i l2) <|
  grd (inb (at_ 0 l2 i) d3) <|
  grd (appOk [] ((at_ (0, []) d3 (at_ 0 l2 i)).2) 8) <|
  grd (appOk x2 [(at_ (0, []) d3 (at_ 0 l2 i))] 32) <|
  rec_ l2 d2 d3 t4 t42 x (x2 ++ [(at_ (0, []) d3 (at_ 0 l2 i))]) (w64 (i + 1))
 else
 some ((x, x2), true)
def Z6l (N : Nat) : Nat -> I0 -> R0 -> A0 -> R0 -> A0 -> R0 -> A0 -> Int -> Option (D0 × Bool)
 | 0, _, _, _, _, _, _, _, _ => none
 | k_ + 1, l2, d2, d3, t4, t42, x, x2, i => Z0a3 N (Z6l N k_) l2 d2 d3 t4 t42 x x2 i
def Z0b5 (Z0dr : I0 -> R0 -> A0 -> R0 -> A0 -> R0 -> A0 -> Int -> Option (D0 × Bool)) (d : D0) (l : I0) : Option (D0 × Bool) :=
 (Z1 N d).bind fun r =>
 bif (!r) then some (([], []), false)
 else
 (Z0ah N d l).bind fun r2 =>
 bif (!r2) then some (([], []), false)
 else
 grd (appOk [] d.1 32) <|
 Z0dr l d.1 d.2 [] [] d.1 [] 0
def Z5f (d : D0) (l : I0) : Option (D0 × Bool) := Z0b5 N (Z6l N N) d l
def Z9x (rec_ : Int -> R0 -> A0 -> I0 -> Int -> Option I0) (i2 : Int) (d2 : R0) (d3 : A0) (out : I0) (k : Int) : Option I0 :=
 bif decide (k < (d3.length : Int)) then
  (Z1 N (d2, d3)).bind fun r =>
  bif r then
   (Z9 N i2 0 (w64 ((d3.length : Int) - 1))).bind fun r2 =>
   bif r2 then
    grd (inb i2 d3) <|
    grd (inb k d3) <|
    (Z3a N d2 (at_ (0, []) d3 i2) (at_ (0, []) d3 k)).bind fun r3 =>
    bif r3 then
     grd (appOk out [k] 8) <|
     rec_ i2 d2 d3 (out ++ [k]) (w64 (k + 1))
    else
    rec_ i2 d2 d3 out (w64 (k + 1))
   else
   some out
  else
  some out
 else
 some out
def Z7l (N : Nat) : Nat -> Int -> R0 -> A0 -> I0 -> Int -> Option I0
 | 0, _, _, _, _, _ => none
 | k_ + 1, i2, d2, d3, out, k => Z9x N (Z7l N k_) i2 d2 d3 out k
def Z0c1 (N : Nat) (Z0eb : Int -> R0 -> A0 -> I0 -> Int -> Option I0) (d : D0) (i : Int) : Option I0 :=
 Z0eb i d.1 d.2 [] 0
def Z8h (d : D0) (i : Int) : Option I0 := Z0c1 N (Z7l N N) d i
def Z8i (rec_ : R0 -> A0 -> L0 -> Int -> Option L0) (d2 : R0) (d3 : A0) (out : L0) (i : Int) : Option L0 :=
 bif decide (i < (d3.length : Int)) then
  (Z1 N (d2, d3)).bind fun r =>
  bif r then
   (Z8h N (d2, d3) i).bind fun r2 =>
   grd (inb 0 r2) <|
   bif ((at_ 0 r2 0) == i) then
    grd (appOk out [r2] 24) <|
    rec_ d2 d3 (out ++ [r2]) (w64 (i + 1))
   else
   rec_ d2 d3 out (w64 (i + 1))
  else
  some out
 else
 some out
def Z6q (N : Nat) : Nat -> R0 -> A0 -> L0 -> Int -> Option L0
 | 0, _, _, _, _ => none
 | k_ + 1, d2, d3, out, i => Z8i N (Z6q N k_) d2 d3 out i
def Z0cg (N : Nat) (Z0ei : R0 -> A0 -> L0 -> Int -> Option L0) (d : D0) : Option L0 :=
 Z0ei d.1 d.2 [] 0
def Z9h (d : D0) : Option L0 := Z0cg N (Z6q N N) d
def Z6b (d : D0) : Option (Bool) :=
 (Z1 N d).bind fun r =>
 bif r then
  (Z9h N d).bind fun r2 =>
  some ((r2.length : Int) == (d.2.length : Int))
 else
 some false
def Z26 (d : D0) (l : I0) : Option (Bool) :=
 (Z5f N d l).bind fun p_r =>
 bif p_r.2 then
  (Z6b N p_r.1).bind fun r3 =>
  some r3
 else
 some false
def Z0at (rec_ : R0 -> A0 -> L0 -> (List (List Int × List Int)) -> Int -> Option L0) (d2 : R0) (d3 : A0) (out : L0) (l : List (List Int × List Int)) (i : Int) : Option L0 :=
 bif decide (i < (l.length : Int)) then
  grd (inb i l) <|
  (Z7v N ((at_ ([], []) l i).2)).bind fun r2 =>
  (Z26 N (d2, d3) r2).bind fun r3 =>
  bif r3 then
   grd (appOk out [r2] 24) <|
   rec_ d2 d3 (out ++ [r2]) l (w64 (i + 1))
  else
  rec_ d2 d3 out l (w64 (i + 1))
 else
 some out
def Z7z (N : Nat) : Nat -> R0 -> A0 -> L0 -> (List (List Int × List Int)) -> Int -> Option L0
 | 0, _, _, _, _, _ => none
 | k_ + 1, d2, d3, out, l, i => Z0at N (Z7z N k_) d2 d3 out l i
def Z0bh (Z0e0 : R0 -> A0 -> L0 -> (List (List Int × List Int)) -> Int -> Option L0) (d : D0) (q : Q0) : Option L0 :=
 (Z3q N d q).bind fun r =>
 Z0e0 d.1 d.2 [] r 0
def Z6r (d : D0) (q : Q0) : Option L0 := Z0bh N (Z7z N N) d q
def Z0bi (Z0az : L0 -> I0 -> Int -> Option (Bool)) (rec_ : L0 -> I0 -> Int -> Bool -> Int -> Option (Bool)) (l3 : L0) (s3 : I0) (i2 : Int) (all : Bool) (k : Int) : Option (Bool) :=
 grd (inb i2 l3) <|
 bif decide (k < ((at_ [] l3 i2).length : Int)) then
  bif all then
   grd (inb i2 l3) <|
   grd (inb k (at_ [] l3 i2)) <|
   (Z3u N s3 (at_ 0 (at_ [] l3 i2) k)).bind fun r =>
   rec_ l3 s3 i2 r (w64 (k + 1))
  else
  rec_ l3 s3 i2 false (w64 (k + 1))
 else
 bif all then some true
 else
 Z0az l3 s3 (w64 (i2 + 1))
def Z0a4 (Z0az : L0 -> I0 -> Int -> Option (Bool)) (N : Nat) : Nat -> L0 -> I0 -> Int -> Bool -> Int -> Option (Bool)
 | 0, _, _, _, _, _ => none
 | k_ + 1, l3, s3, i2, all, k => Z0bi N Z0az (Z0a4 Z0az N k_) l3 s3 i2 all k
def Z0ai (N : Nat) (Z0ej : L0 -> I0 -> Int -> Bool -> Int -> Option (Bool)) (rec_ : L0 -> I0 -> Int -> Option (Bool)) (l2 : L0) (s2 : I0) (i : Int) : Option (Bool) :=
 bif decide (i < (l2.length : Int)) then Z0ej l2 s2 i true 0
 else
 some false
def Z4f (N : Nat) : Nat -> L0 -> I0 -> Int -> Option (Bool)
 | 0, _, _, _ => none
 | k_ + 1, l2, s2, i => Z0ai N (Z0a4 (Z4f N k_) N N) (Z4f N k_) l2 s2 i
def Z0ch (N : Nat) (Z0ek : L0 -> I0 -> Int -> Option (Bool)) (l : L0) (s : I0) : Option (Bool) :=
 Z0ek l s 0
def Z0ar (l : L0) (s : I0) : Option (Bool) := Z0ch N (Z4f N N) l s
def Z5k (l : L0) (s : I0) : Option (Bool) :=
 (Z0ar N l s).bind fun r =>
 some r
def Z9y (rec_ : L0 -> Bool -> R0 -> A0 -> Int -> A0 -> I0 -> L0 -> Int -> Option (List Int × Bool)) (sets2 : L0) (want2 : Bool) (d2 : R0) (d3 : A0) (q2 : Int) (q3 : A0) (q4 : I0) (need : L0) (i : Int) : Option (List Int × Bool) :=
 bif decide (i < (sets2.length : Int)) then
  (Z1q N (d2, d3) (q2, q3, q4)).bind fun r2 =>
  bif r2 then
   grd (inb i sets2) <|
   (Z5k N need (at_ [] sets2 i)).bind fun r3 =>
   bif (r3 == want2) then
    grd (inb i sets2) <|
    grd (appOk [] (at_ [] sets2 i) 8) <|
    some ((at_ [] sets2 i), true)
   else
   rec_ sets2 want2 d2 d3 q2 q3 q4 need (w64 (i + 1))
  else
  some ([], false)
 else
 some ([], false)
def Z7m (N : Nat) : Nat -> L0 -> Bool -> R0 -> A0 -> Int -> A0 -> I0 -> L0 -> Int -> Option (List Int × Bool)
 | 0, _, _, _, _, _, _, _, _, _ => none
 | k_ + 1, sets2, want2, d2, d3, q2, q3, q4, need, i => Z9y N (Z7m N k_) sets2 want2 d2 d3 q2 q3 q4 need i
def Z0c2 (Z0ec : L0 -> Bool -> R0 -> A0 -> Int -> A0 -> I0 -> L0 -> Int -> Option (List Int × Bool)) (d : D0) (q : Q0) (sets : L0) (want : Bool) : Option (List Int × Bool) :=
 (Z6r N d q).bind fun r =>
 Z0ec sets want d.1 d.2 q.1 q.2.1 q.2.2 r 0
def Z8j (d : D0) (q : Q0) (sets : L0) (want : Bool) : Option (List Int × Bool) := Z0c2 N (Z7m N N) d q sets want
def Z2o (d : D0) (l : List C0) (p : E0) (q : Q0) : Option (Bool) :=
 (Z2n N d l p).bind fun r =>
 (Z8j N d q r false).bind fun p_r2 =>
 (Z1q N d q).bind fun r4 =>
 bif r4 then
  bif decide ((r.length : Int) > 0) then some (!p_r2.2)
  else
  some false
 else
 some false
def Z5 (N : Nat) (n : Int) (low : Int) (high : Int) : Option (Bool) :=
 bif decide (low <= n) then some (decide (n <= high))
 else
 some false
def Z3e (relation : ByteArray × Int × Int) : Option (Bool) :=
 bif ((relation.1.size : Int) == 1) then
  (byteAt relation.1 0).bind fun b =>
  bif decide ((b.toNat : Int) >= 97) then
   (byteAt relation.1 0).bind fun b2 =>
   bif decide ((b2.toNat : Int) <= 122) then
    (Z5 N relation.2.1 1 3).bind fun r =>
    bif r then
     (Z5 N relation.2.2 0 relation.2.1).bind fun r2 =>
     some r2
    else
    some false
   else
   some false
  else
  some false
 else
 some false
def Z4t (rec_ : R0 -> R0 -> Int -> Int -> Option (Bool)) (relations2 : R0) (t5 : R0) (t6 : Int) (t7 : Int) : Option (Bool) :=
 bif decide (t7 < t6) then
  grd (inb t7 t5) <|
  (Z3e N ((at_ (⟨#[]⟩, (0, 0)) t5 t7).1, ((at_ (⟨#[]⟩, (0, 0)) t5 t7).2))).bind fun r =>
  bif (!r) then some false
  else
  bif decide (t7 > 0) then
   grd (inb (w64 (t7 - 1)) relations2) <|
   bif (!slt ((at_ (⟨#[]⟩, (0, 0)) relations2 (w64 (t7 - 1))).1) ((at_ (⟨#[]⟩, (0, 0)) t5 t7).1)) then some false
   else
   rec_ relations2 t5 t6 (w64 (t7 + 1))
  else
  rec_ relations2 t5 t6 (w64 (t7 + 1))
 else
 some (decide ((relations2.length : Int) <= 4))
def Z2i (N : Nat) : Nat -> R0 -> R0 -> Int -> Int -> Option (Bool)
 | 0, _, _, _, _ => none
 | k_ + 1, relations2, t5, t6, t7 => Z4t N (Z2i N k_) relations2 t5 t6 t7
def Z8k (N : Nat) (Z0ci : R0 -> R0 -> Int -> Int -> Option (Bool)) (relations : R0) : Option (Bool) :=
 Z0ci relations relations (relations.length : Int) 0
def Z13 (relations : R0) : Option (Bool) := Z8k N (Z2i N N) relations
def Z6c (v : Int) : Option (Bool) :=
 (Z5 N v 0 9).bind fun r =>
 some (!r)
def Z1a (rec_ : I0 -> Int -> Int -> Option (Int)) (s2 : I0) (t7 : Int) (t8 : Int) : Option (Int) :=
 bif decide (t8 < t7) then
  grd (inb t8 s2) <|
  (Z6c N (at_ 0 s2 t8)).bind fun r =>
  bif r then some t8
  else
  rec_ s2 t7 (w64 (t8 + 1))
 else
 some (-1)
def Z0k (N : Nat) : Nat -> I0 -> Int -> Int -> Option (Int)
 | 0, _, _, _ => none
 | k_ + 1, s2, t7, t8 => Z1a N (Z0k N k_) s2 t7 t8
def Z3f (N : Nat) (Z0a5 : I0 -> Int -> Int -> Option (Int)) (s : I0) : Option (Int) :=
 Z0a5 s (s.length : Int) 0
def Z0p (s : I0) : Option (Int) := Z3f N (Z0k N N) s
def Z0l (s : I0) : Option (Bool) :=
 (Z0p N s).bind fun r =>
 some (decide (r >= 0))
def Z6s (list : I0) : Option (Bool) :=
 (Z0l N list).bind fun r =>
 some (!r)
def Z9i (relations : R0) (fact : Int × List Int) : Option (Bool) :=
 (Z5 N fact.1 0 (w64 ((relations.length : Int) - 1))).bind fun r =>
 bif r then
  grd (inb fact.1 relations) <|
  bif ((fact.2.length : Int) == (((at_ (⟨#[]⟩, (0, 0)) relations fact.1).2).1)) then
   (Z6s N fact.2).bind fun r2 =>
   some r2
  else
  some false
 else
 some false
def Z0a6 (N : Nat) (a : Int) (b : Int) : Option (Int) :=
 bif decide (a < b) then some (-1)
 else
 bif decide (a > b) then some 1
 else
 some 0
def Z7w (N : Nat) (x : Int) : Option (Bool) :=
 some (x != x)
def Z60 (x : Int) (y : Int) : Option (Int) :=
 (Z7w N x).bind fun r =>
 (Z7w N y).bind fun r2 =>
 bif r then
  bif r2 then some 0
  else
  some (-1)
 else
 bif r2 then some 1
 else
 bif decide (x < y) then some (-1)
 else
 bif decide (x > y) then some 1
 else
 some 0
def Z2p (rec_ : I0 -> I0 -> I0 -> Int -> Int -> Option (Int)) (s12 : I0) (s22 : I0) (t9 : I0) (t10 : Int) (t11 : Int) : Option (Int) :=
 bif decide (t11 < t10) then
  grd (inb t11 t9) <|
  bif decide (t11 >= (s22.length : Int)) then some 1
  else
  grd (inb t11 s22) <|
  (Z60 N (at_ 0 t9 t11) (at_ 0 s22 t11)).bind fun r =>
  bif (r != 0) then some r
  else
  rec_ s12 s22 t9 t10 (w64 (t11 + 1))
 else
 bif decide ((s12.length : Int) < (s22.length : Int)) then some (-1)
 else
 some 0
def Z1g (N : Nat) : Nat -> I0 -> I0 -> I0 -> Int -> Int -> Option (Int)
 | 0, _, _, _, _, _ => none
 | k_ + 1, s12, s22, t9, t10, t11 => Z2p N (Z1g N k_) s12 s22 t9 t10 t11
def Z81 (N : Nat) (Z0c7 : I0 -> I0 -> I0 -> Int -> Int -> Option (Int)) (s1 : I0) (s2 : I0) : Option (Int) :=
 Z0c7 s1 s2 s1 (s1.length : Int) 0
def Z20 (s1 : I0) (s2 : I0) : Option (Int) := Z81 N (Z1g N N) s1 s2
def Z4l (a : Int × List Int) (b : Int × List Int) : Option (Int) :=
 bif (a.1 != b.1) then
  (Z0a6 N a.1 b.1).bind fun r =>
  some r
 else
 (Z20 N a.2 b.2).bind fun r2 =>
 some r2
def Z5q (rec_ : R0 -> A0 -> A0 -> Int -> Int -> Option (Bool)) (db2 : R0) (db3 : A0) (t16 : A0) (t17 : Int) (t18 : Int) : Option (Bool) :=
 bif decide (t18 < t17) then
  grd (inb t18 t16) <|
  (Z9i N db2 (at_ (0, []) t16 t18)).bind fun r2 =>
  bif (!r2) then some false
  else
  bif decide (t18 > 0) then
   grd (inb (w64 (t18 - 1)) db3) <|
   (Z4l N (at_ (0, []) db3 (w64 (t18 - 1))) (at_ (0, []) t16 t18)).bind fun r3 =>
   bif decide (r3 >= 0) then some false
   else
   rec_ db2 db3 t16 t17 (w64 (t18 + 1))
  else
  rec_ db2 db3 t16 t17 (w64 (t18 + 1))
 else
 some true
def Z35 (N : Nat) : Nat -> R0 -> A0 -> A0 -> Int -> Int -> Option (Bool)
 | 0, _, _, _, _, _ => none
 | k_ + 1, db2, db3, t16, t17, t18 => Z5q N (Z35 N k_) db2 db3 t16 t17 t18
def Z9j (Z0cz : R0 -> A0 -> A0 -> Int -> Int -> Option (Bool)) (db : D0) : Option (Bool) :=
 (Z13 N db.1).bind fun r =>
 bif (!r) then some false
 else
 bif decide ((db.2.length : Int) > 14) then some false
 else
 Z0cz db.1 db.2 db.2 (db.2.length : Int) 0
def Z0f (db : D0) : Option (Bool) := Z9j N (Z35 N N) db
def Z2b (db : D0) (constraint : C0) : Option (Bool) :=
 (Z0f N db).bind fun r =>
 bif (!r) then some false
 else
 (Z5 N constraint.1 0 (w64 ((db.1.length : Int) - 1))).bind fun r2 =>
 bif (!r2) then some false
 else
 (Z5 N constraint.2.1 0 (w64 ((db.1.length : Int) - 1))).bind fun r3 =>
 bif (!r3) then some false
 else
 grd (inb constraint.1 db.1) <|
 grd (inb constraint.2.1 db.1) <|
 (Z5 N constraint.2.2.1 0 (w64 ((((at_ (⟨#[]⟩, (0, 0)) db.1 constraint.1).2).1) - 1))).bind fun r4 =>
 bif r4 then
  (Z5 N constraint.2.2.2.2.1 0 (w64 ((((at_ (⟨#[]⟩, (0, 0)) db.1 constraint.1).2).1) - 1))).bind fun r5 =>
  bif r5 then
   (Z5 N constraint.2.2.2.1 0 (w64 ((((at_ (⟨#[]⟩, (0, 0)) db.1 constraint.2.1).2).1) - 1))).bind fun r6 =>
   bif r6 then
    (Z5 N constraint.2.2.2.2.2.1 0 (w64 ((((at_ (⟨#[]⟩, (0, 0)) db.1 constraint.2.1).2).1) - 1))).bind fun r7 =>
    bif r7 then
     (Z5 N constraint.2.2.2.2.2.2 1 2).bind fun r8 =>
     some r8
    else
    some false
   else
   some false
  else
  some false
 else
 some false
def Z93 (N : Nat) (c : C0) (a : Int × List Int) (b : Int × List Int) : Option (Bool) :=
 bif (a.1 != c.1) then some false
 else
 bif (b.1 != c.2.1) then some false
 else
 grd (inb c.2.2.1 a.2) <|
 grd (inb c.2.2.2.1 b.2) <|
 bif ((at_ 0 a.2 c.2.2.1) != (at_ 0 b.2 c.2.2.2.1)) then some false
 else
 grd (inb c.2.2.2.2.1 a.2) <|
 grd (inb c.2.2.2.2.2.1 b.2) <|
 bif (c.2.2.2.2.2.2 == 1) then
  bif ((at_ 0 a.2 c.2.2.2.2.1) == (at_ 0 b.2 c.2.2.2.2.2.1)) then some true
  else
  bif (c.2.2.2.2.2.2 == 2) then
   some (decide ((at_ 0 a.2 c.2.2.2.2.1) < (at_ 0 b.2 c.2.2.2.2.2.1)))
  else
  some false
 else
 bif (c.2.2.2.2.2.2 == 2) then
  some (decide ((at_ 0 a.2 c.2.2.2.2.1) < (at_ 0 b.2 c.2.2.2.2.2.1)))
 else
 some false
def Z1i (db : D0) (constraint : C0) (first : Int) (second : Int) : Option (Bool) :=
 (Z2b N db constraint).bind fun r =>
 bif r then
  bif (first != second) then
   (Z5 N first 0 (w64 ((db.2.length : Int) - 1))).bind fun r2 =>
   bif r2 then
    (Z5 N second 0 (w64 ((db.2.length : Int) - 1))).bind fun r3 =>
    bif r3 then
     grd (inb first db.2) <|
     grd (inb second db.2) <|
     (Z93 N constraint (at_ (0, []) db.2 first) (at_ (0, []) db.2 second)).bind fun r4 =>
     some r4
    else
    some false
   else
   some false
  else
  some false
 else
 some false
def Z59 (N : Nat) (rec_ : I0 -> I0 -> Int -> Int -> Option (Bool)) (s12 : I0) (s22 : I0) (t12 : Int) (t13 : Int) : Option (Bool) :=
 bif decide (t13 < t12) then
  grd (inb t13 s12) <|
  grd (inb t13 s22) <|
  bif ((at_ 0 s12 t13) != (at_ 0 s22 t13)) then some false
  else
  rec_ s12 s22 t12 (w64 (t13 + 1))
 else
 some true
def Z2q (N : Nat) : Nat -> I0 -> I0 -> Int -> Int -> Option (Bool)
 | 0, _, _, _, _ => none
 | k_ + 1, s12, s22, t12, t13 => Z59 N (Z2q N k_) s12 s22 t12 t13
def Z8w (N : Nat) (Z0co : I0 -> I0 -> Int -> Int -> Option (Bool)) (s1 : I0) (s2 : I0) : Option (Bool) :=
 bif ((s1.length : Int) != (s2.length : Int)) then some false
 else
 Z0co s1 s2 (s1.length : Int) 0
def Z2r (s1 : I0) (s2 : I0) : Option (Bool) := Z8w N (Z2q N N) s1 s2
def Z8l (relations : R0) (a : Int × List Int) (b : Int × List Int) : Option (Bool) :=
 bif (a.1 != b.1) then some false
 else
 grd (inb a.1 relations) <|
 grd (subOk 0 (((at_ (⟨#[]⟩, (0, 0)) relations a.1).2).2) a.2.length) <|
 grd (subOk 0 (((at_ (⟨#[]⟩, (0, 0)) relations a.1).2).2) b.2.length) <|
 (Z2r N (a.2.take (((at_ (⟨#[]⟩, (0, 0)) relations a.1).2).2).toNat) (b.2.take (((at_ (⟨#[]⟩, (0, 0)) relations a.1).2).2).toNat)).bind fun r =>
 some r
def Z5a (rec_ : Int -> Int -> R0 -> A0 -> (List C0) -> Int -> Int -> Option (Bool)) (a2 : Int) (b2 : Int) (t3 : R0) (t32 : A0) (t9 : List C0) (t10 : Int) (t11 : Int) : Option (Bool) :=
 bif decide (t11 < t10) then
  grd (inb t11 t9) <|
  (Z1i N (t3, t32) ((at_ (0, (0, (0, (0, (0, (0, 0)))))) t9 t11).1, ((at_ (0, (0, (0, (0, (0, (0, 0)))))) t9 t11).2).1, (((at_ (0, (0, (0, (0, (0, (0, 0)))))) t9 t11).2).2).1, ((((at_ (0, (0, (0, (0, (0, (0, 0)))))) t9 t11).2).2).2).1, (((((at_ (0, (0, (0, (0, (0, (0, 0)))))) t9 t11).2).2).2).2).1, ((((((at_ (0, (0, (0, (0, (0, (0, 0)))))) t9 t11).2).2).2).2).2)) a2 b2).bind fun r =>
  bif r then some true
  else
  (Z1i N (t3, t32) ((at_ (0, (0, (0, (0, (0, (0, 0)))))) t9 t11).1, ((at_ (0, (0, (0, (0, (0, (0, 0)))))) t9 t11).2).1, (((at_ (0, (0, (0, (0, (0, (0, 0)))))) t9 t11).2).2).1, ((((at_ (0, (0, (0, (0, (0, (0, 0)))))) t9 t11).2).2).2).1, (((((at_ (0, (0, (0, (0, (0, (0, 0)))))) t9 t11).2).2).2).2).1, ((((((at_ (0, (0, (0, (0, (0, (0, 0)))))) t9 t11).2).2).2).2).2)) b2 a2).bind fun r2 =>
  bif r2 then some true
  else
  rec_ a2 b2 t3 t32 t9 t10 (w64 (t11 + 1))
 else
 grd (inb a2 t32) <|
 grd (inb b2 t32) <|
 (Z8l N t3 (at_ (0, []) t32 a2) (at_ (0, []) t32 b2)).bind fun r3 =>
 some r3
def Z2s (N : Nat) : Nat -> Int -> Int -> R0 -> A0 -> (List C0) -> Int -> Int -> Option (Bool)
 | 0, _, _, _, _, _, _, _ => none
 | k_ + 1, a2, b2, t3, t32, t9, t10, t11 => Z5a N (Z2s N k_) a2 b2 t3 t32 t9 t10 t11
def Z8x (N : Nat) (Z0cp : Int -> Int -> R0 -> A0 -> (List C0) -> Int -> Int -> Option (Bool)) (a : Int) (b : Int) (c2 : List C0) (c3 : D0) : Option (Bool) :=
 Z0cp a b c3.1 c3.2 c2 (c2.length : Int) 0
def Z2t (a : Int) (b : Int) (c2 : List C0) (c3 : D0) : Option (Bool) := Z8x N (Z2s N N) a b c2 c3
def Z3g (Z3o : Int -> (List C0) -> D0 -> E0 -> Int -> Int -> Option E0) (rec_ : Int -> (List C0) -> D0 -> E0 -> Int -> Int -> Int -> Int -> Option E0) (n3 : Int) (holds3 : List C0) (holds4 : D0) (out2 : E0) (a : Int) (b : Int) (t92 : Int) (t102 : Int) : Option E0 :=
 bif decide (b < n3) then
  (Z2t N a b holds3 holds4).bind fun r =>
  bif r then
   grd (appOk out2 [(a, b)] 16) <|
   rec_ n3 holds3 holds4 (out2 ++ [(a, b)]) a (w64 (b + 1)) t92 t102
  else
  rec_ n3 holds3 holds4 out2 a (w64 (b + 1)) t92 t102
 else
 Z3o n3 holds3 holds4 out2 t92 (w64 (t102 + 1))
def Z0y (Z3o : Int -> (List C0) -> D0 -> E0 -> Int -> Int -> Option E0) (N : Nat) : Nat -> Int -> (List C0) -> D0 -> E0 -> Int -> Int -> Int -> Int -> Option E0
 | 0, _, _, _, _, _, _, _, _ => none
 | k_ + 1, n3, holds3, holds4, out2, a, b, t92, t102 => Z3g N Z3o (Z0y Z3o N k_) n3 holds3 holds4 out2 a b t92 t102
def Z3h (N : Nat) (Z0bj : Int -> (List C0) -> D0 -> E0 -> Int -> Int -> Int -> Int -> Option E0) (rec_ : Int -> (List C0) -> D0 -> E0 -> Int -> Int -> Option E0) (n2 : Int) (holds : List C0) (holds2 : D0) (out : E0) (t9 : Int) (t10 : Int) : Option E0 :=
 bif decide (t10 < t9) then
  Z0bj n2 holds holds2 out t10 (w64 (t10 + 1)) t9 t10
 else
 some out
def Z0z (N : Nat) : Nat -> Int -> (List C0) -> D0 -> E0 -> Int -> Int -> Option E0
 | 0, _, _, _, _, _, _ => none
 | k_ + 1, n2, holds, holds2, out, t9, t10 => Z3h N (Z0y (Z0z N k_) N N) (Z0z N k_) n2 holds holds2 out t9 t10
def Z6e (N : Nat) (Z0bk : Int -> (List C0) -> D0 -> E0 -> Int -> Int -> Option E0) (n : Int) (c : List C0) (c2 : D0) : Option E0 :=
 Z0bk n c c2 [] n 0
def Z1x (n : Int) (c : List C0) (c2 : D0) : Option E0 := Z6e N (Z0z N N) n c c2
def Z4a (db : D0) (constraints : List C0) : Option E0 :=
 (Z0f N db).bind fun r =>
 bif (!r) then some []
 else
 (Z1x N (db.2.length : Int) constraints db).bind fun r2 =>
 some r2
def Z6j (N : Nat) (rec_ : Int -> E0 -> E0 -> Int -> Int -> Option (Bool)) (n2 : Int) (edges2 : E0) (t10 : E0) (t11 : Int) (t12 : Int) : Option (Bool) :=
 bif decide (t12 < t11) then
  grd (inb t12 t10) <|
  bif decide (((at_ (0, 0) t10 t12).1) < 0) then some false
  else
  bif decide (((at_ (0, 0) t10 t12).1) >= ((at_ (0, 0) t10 t12).2)) then some false
  else
  bif decide (((at_ (0, 0) t10 t12).2) >= n2) then some false
  else
  bif decide (t12 > 0) then
   grd (inb (w64 (t12 - 1)) edges2) <|
   bif decide (((at_ (0, 0) edges2 (w64 (t12 - 1))).1) > ((at_ (0, 0) t10 t12).1)) then some false
   else
   grd (inb (w64 (t12 - 1)) edges2) <|
   bif (((at_ (0, 0) edges2 (w64 (t12 - 1))).1) == ((at_ (0, 0) t10 t12).1)) then
    grd (inb (w64 (t12 - 1)) edges2) <|
    bif decide (((at_ (0, 0) edges2 (w64 (t12 - 1))).2) >= ((at_ (0, 0) t10 t12).2)) then some false
    else
    rec_ n2 edges2 t10 t11 (w64 (t12 + 1))
   else
   rec_ n2 edges2 t10 t11 (w64 (t12 + 1))
  else
  rec_ n2 edges2 t10 t11 (w64 (t12 + 1))
 else
 some true
def Z42 (N : Nat) : Nat -> Int -> E0 -> E0 -> Int -> Int -> Option (Bool)
 | 0, _, _, _, _, _ => none
 | k_ + 1, n2, edges2, t10, t11, t12 => Z6j N (Z42 N k_) n2 edges2 t10 t11 t12
def Z0aj (Z0db : Int -> E0 -> E0 -> Int -> Int -> Option (Bool)) (n : Int) (edges : E0) : Option (Bool) :=
 (Z5 N n 0 14).bind fun r =>
 bif (!r) then some false
 else
 Z0db n edges edges (edges.length : Int) 0
def Z17 (n : Int) (edges : E0) : Option (Bool) := Z0aj N (Z42 N N) n edges
def Z82 (rec_ : I0 -> Int -> I0 -> Int -> Int -> Option (Bool)) (indices2 : I0) (n2 : Int) (t7 : I0) (t8 : Int) (t9 : Int) : Option (Bool) :=
 bif decide (t9 < t8) then
  grd (inb t9 t7) <|
  (Z5 N (at_ 0 t7 t9) 0 (w64 (n2 - 1))).bind fun r =>
  bif (!r) then some false
  else
  bif decide (t9 > 0) then
   grd (inb (w64 (t9 - 1)) indices2) <|
   bif decide ((at_ 0 indices2 (w64 (t9 - 1))) >= (at_ 0 t7 t9)) then some false
   else
   rec_ indices2 n2 t7 t8 (w64 (t9 + 1))
  else
  rec_ indices2 n2 t7 t8 (w64 (t9 + 1))
 else
 some true
def Z5l (N : Nat) : Nat -> I0 -> Int -> I0 -> Int -> Int -> Option (Bool)
 | 0, _, _, _, _, _ => none
 | k_ + 1, indices2, n2, t7, t8, t9 => Z82 N (Z5l N k_) indices2 n2 t7 t8 t9
def Z0bd (N : Nat) (Z0dw : I0 -> Int -> I0 -> Int -> Int -> Option (Bool)) (indices : I0) (n : Int) : Option (Bool) :=
 Z0dw indices n indices (indices.length : Int) 0
def Z27 (indices : I0) (n : Int) : Option (Bool) := Z0bd N (Z5l N N) indices n
def Z5b (N : Nat) (rec_ : I0 -> Int -> Int -> Int -> Option (Int)) (s2 : I0) (v2 : Int) (t7 : Int) (t8 : Int) : Option (Int) :=
 bif decide (t8 < t7) then
  grd (inb t8 s2) <|
  bif (v2 == (at_ 0 s2 t8)) then some t8
  else
  rec_ s2 v2 t7 (w64 (t8 + 1))
 else
 some (-1)
def Z2u (N : Nat) : Nat -> I0 -> Int -> Int -> Int -> Option (Int)
 | 0, _, _, _, _ => none
 | k_ + 1, s2, v2, t7, t8 => Z5b N (Z2u N k_) s2 v2 t7 t8
def Z8y (N : Nat) (Z0cq : I0 -> Int -> Int -> Int -> Option (Int)) (s : I0) (v : Int) : Option (Int) :=
 Z0cq s v (s.length : Int) 0
def Z43 (s : I0) (v : Int) : Option (Int) := Z8y N (Z2u N N) s v
def Z8 (s : I0) (v : Int) : Option (Bool) :=
 (Z43 N s v).bind fun r =>
 some (decide (r >= 0))
def Z44 (e : Int × Int) (c1 : I0) : Option (Bool) :=
 (Z8 N c1 e.1).bind fun r =>
 bif r then
  (Z8 N c1 e.2).bind fun r2 =>
  some r2
 else
 some false
def Z0c (rec_ : E0 -> I0 -> Int -> Int -> Option (Int)) (s2 : E0) (f : I0) (t7 : Int) (t8 : Int) : Option (Int) :=
 bif decide (t8 < t7) then
  grd (inb t8 s2) <|
  (Z44 N (at_ (0, 0) s2 t8) f).bind fun r =>
  bif r then some t8
  else
  rec_ s2 f t7 (w64 (t8 + 1))
 else
 some (-1)
def Z2 (N : Nat) : Nat -> E0 -> I0 -> Int -> Int -> Option (Int)
 | 0, _, _, _, _ => none
 | k_ + 1, s2, f, t7, t8 => Z0c N (Z2 N k_) s2 f t7 t8
def Z0v (N : Nat) (Z5g : E0 -> I0 -> Int -> Int -> Option (Int)) (s : E0) (c : I0) : Option (Int) :=
 Z5g s c (s.length : Int) 0
def Z4 (s : E0) (c : I0) : Option (Int) := Z0v N (Z2 N N) s c
def Z3 (s : E0) (c : I0) : Option (Bool) :=
 (Z4 N s c).bind fun r =>
 some (decide (r >= 0))
def Z18 (edges : E0) (set : I0) : Option (Bool) :=
 (Z3 N edges set).bind fun r =>
 some (!r)
def Z45 (n : Int) (edges : E0) (set : I0) : Option (Bool) :=
 (Z17 N n edges).bind fun r =>
 bif r then
  (Z27 N set n).bind fun r2 =>
  bif r2 then
   (Z18 N edges set).bind fun r3 =>
   some r3
  else
  some false
 else
 some false
def Z3w (rec_ : E0 -> I0 -> Int -> Int -> Option (Bool)) (edges2 : E0) (set2 : I0) (t13 : Int) (t14 : Int) : Option (Bool) :=
 bif decide (t14 < t13) then
  (Z8 N set2 t14).bind fun r2 =>
  bif (!r2) then
   (Z1b N set2).bind fun r3 =>
   grd (appOk r3 [t14] 8) <|
   (Z18 N edges2 (r3 ++ [t14])).bind fun r4 =>
   bif r4 then some false
   else
   rec_ edges2 set2 t13 (w64 (t14 + 1))
  else
  rec_ edges2 set2 t13 (w64 (t14 + 1))
 else
 some true
def Z1o (N : Nat) : Nat -> E0 -> I0 -> Int -> Int -> Option (Bool)
 | 0, _, _, _, _ => none
 | k_ + 1, edges2, set2, t13, t14 => Z3w N (Z1o N k_) edges2 set2 t13 t14
def Z73 (Z0bq : E0 -> I0 -> Int -> Int -> Option (Bool)) (n : Int) (edges : E0) (set : I0) : Option (Bool) :=
 (Z45 N n edges set).bind fun r =>
 bif (!r) then some false
 else
 Z0bq edges set n 0
def Z0u (n : Int) (edges : E0) (set : I0) : Option (Bool) := Z73 N (Z1o N N) n edges set
def Z3i (Rf : Int -> I0 -> Int -> E0 -> L0 -> Int -> E0 -> Option L0) (v : Int) (set : I0) (c2 : Int) (c3 : E0) (c4 : L0) (sc2 : Int) (sc3 : E0) : Option L0 :=
 bif (v == c2) then
  (Z0u N c2 c3 set).bind fun r =>
  bif r then
   grd (appOk [] set 8) <|
   grd (appOk c4 [set] 24) <|
   some (c4 ++ [set])
  else
  some c4
 else
 (Z1b N set).bind fun r2 =>
 grd (appOk r2 [v] 8) <|
 (Z18 N c3 (r2 ++ [v])).bind fun r3 =>
 bif r3 then
  (Rf (w64 (v + 1)) (r2 ++ [v]) sc2 sc3 c4 sc2 sc3).bind fun m =>
  (Rf (w64 (v + 1)) set sc2 sc3 m sc2 sc3).bind fun m2 =>
  some m2
 else
 (Rf (w64 (v + 1)) set sc2 sc3 c4 sc2 sc3).bind fun m3 =>
 some m3
def Z0q (N : Nat) : Nat -> Int -> I0 -> Int -> E0 -> L0 -> Int -> E0 -> Option L0
 | 0, _, _, _, _, _, _, _ => none
 | k_ + 1, v, set, c2, c3, c4, sc2, sc3 => Z3i N (Z0q N k_) v set c2 c3 c4 sc2 sc3
def Z1e (v : Int) (set : I0) (c2 : Int) (c3 : E0) (c4 : L0) (sc2 : Int) (sc3 : E0) : Option L0 := Z0q N N v set c2 c3 c4 sc2 sc3
def Z19 (n : Int) (edges : E0) : Option L0 :=
 (Z17 N n edges).bind fun r =>
 bif (!r) then some []
 else
 (Z1e N 0 [] n edges [] n edges).bind fun m =>
 some m
def Z14 (N : Nat) (rec_ : E0 -> Int -> Int -> Int -> Int -> Option (Int)) (s2 : E0) (v2 : Int) (v3 : Int) (t7 : Int) (t8 : Int) : Option (Int) :=
 bif decide (t8 < t7) then
  grd (inb t8 s2) <|
  bif ((v2 == ((at_ (0, 0) s2 t8).1)) && (v3 == ((at_ (0, 0) s2 t8).2))) then some t8
  else
  rec_ s2 v2 v3 t7 (w64 (t8 + 1))
 else
 some (-1)
def Z0j (N : Nat) : Nat -> E0 -> Int -> Int -> Int -> Int -> Option (Int)
 | 0, _, _, _, _, _ => none
 | k_ + 1, s2, v2, v3, t7, t8 => Z14 N (Z0j N k_) s2 v2 v3 t7 t8
def Z2z (N : Nat) (Z9r : E0 -> Int -> Int -> Int -> Int -> Option (Int)) (s : E0) (v : Int × Int) : Option (Int) :=
 Z9r s v.1 v.2 (s.length : Int) 0
def Z0o (s : E0) (v : Int × Int) : Option (Int) := Z2z N (Z0j N N) s v
def Z0 (s : E0) (v : Int × Int) : Option (Bool) :=
 (Z0o N s v).bind fun r =>
 some (decide (r >= 0))
def Z3j (preferences : E0) (a : Int) (b : Int) : Option (Bool) :=
 (Z0 N preferences (a, b)).bind fun r =>
 some r
def Z50 (a : Int) (c1 : E0) (c2 : Int) : Option (Bool) :=
 (Z3j N c1 a c2).bind fun r =>
 some r
def Z12 (rec_ : I0 -> E0 -> Int -> Int -> Int -> Option (Int)) (s2 : I0) (f : E0) (f2 : Int) (t7 : Int) (t8 : Int) : Option (Int) :=
 bif decide (t8 < t7) then
  grd (inb t8 s2) <|
  (Z50 N (at_ 0 s2 t8) f f2).bind fun r =>
  bif r then some t8
  else
  rec_ s2 f f2 t7 (w64 (t8 + 1))
 else
 some (-1)
def Z0h (N : Nat) : Nat -> I0 -> E0 -> Int -> Int -> Int -> Option (Int)
 | 0, _, _, _, _, _ => none
 | k_ + 1, s2, f, f2, t7, t8 => Z12 N (Z0h N k_) s2 f f2 t7 t8
def Z2v (N : Nat) (Z9k : I0 -> E0 -> Int -> Int -> Int -> Option (Int)) (s : I0) (c : E0) (c2 : Int) : Option (Int) :=
 Z9k s c c2 (s.length : Int) 0
def Z0n (s : I0) (c : E0) (c2 : Int) : Option (Int) := Z2v N (Z0h N N) s c c2
def Z0a (s : I0) (c : E0) (c2 : Int) : Option (Bool) :=
 (Z0n N s c c2).bind fun r =>
 some (decide (r >= 0))
def Z7n (rec_ : I0 -> E0 -> I0 -> I0 -> Int -> Int -> Option I0) (left_2 : I0) (preferences2 : E0) (out : I0) (t9 : I0) (t10 : Int) (t11 : Int) : Option I0 :=
 bif decide (t11 < t10) then
  grd (inb t11 t9) <|
  (Z0a N left_2 preferences2 (at_ 0 t9 t11)).bind fun r =>
  bif (!r) then
   grd (appOk out [(at_ 0 t9 t11)] 8) <|
   rec_ left_2 preferences2 (out ++ [(at_ 0 t9 t11)]) t9 t10 (w64 (t11 + 1))
  else
  rec_ left_2 preferences2 out t9 t10 (w64 (t11 + 1))
 else
 some out
def Z51 (N : Nat) : Nat -> I0 -> E0 -> I0 -> I0 -> Int -> Int -> Option I0
 | 0, _, _, _, _, _, _ => none
 | k_ + 1, left_2, preferences2, out, t9, t10, t11 => Z7n N (Z51 N k_) left_2 preferences2 out t9 t10 t11
def Z0b6 (N : Nat) (Z0ds : I0 -> E0 -> I0 -> I0 -> Int -> Int -> Option I0) (preferences : E0) (left_ : I0) : Option I0 :=
 Z0ds left_ preferences [] left_ (left_.length : Int) 0
def Z5h (preferences : E0) (left_ : I0) : Option I0 := Z0b6 N (Z51 N N) preferences left_
def Z9z (rec_ : I0 -> I0 -> I0 -> Int -> Int -> Option I0) (b2 : I0) (out : I0) (t9 : I0) (t10 : Int) (t11 : Int) : Option I0 :=
 bif decide (t11 < t10) then
  grd (inb t11 t9) <|
  (Z8 N b2 (at_ 0 t9 t11)).bind fun r =>
  bif (!r) then
   grd (appOk out [(at_ 0 t9 t11)] 8) <|
   rec_ b2 (out ++ [(at_ 0 t9 t11)]) t9 t10 (w64 (t11 + 1))
  else
  rec_ b2 out t9 t10 (w64 (t11 + 1))
 else
 some out
def Z7o (N : Nat) : Nat -> I0 -> I0 -> I0 -> Int -> Int -> Option I0
 | 0, _, _, _, _, _ => none
 | k_ + 1, b2, out, t9, t10, t11 => Z9z N (Z7o N k_) b2 out t9 t10 t11
def Z0c3 (N : Nat) (Z0ed : I0 -> I0 -> I0 -> Int -> Int -> Option I0) (a : I0) (b : I0) : Option I0 :=
 Z0ed b [] a (a.length : Int) 0
def Z8m (a : I0) (b : I0) : Option I0 := Z0c3 N (Z7o N N) a b
def Z83 (rec_ : E0 -> I0 -> Option (Bool)) (preferences3 : E0) (left_2 : I0) : Option (Bool) :=
 bif decide ((left_2.length : Int) > 0) then
  (Z5h N preferences3 left_2).bind fun r =>
  (Z8m N left_2 r).bind fun r2 =>
  bif ((r2.length : Int) == (left_2.length : Int)) then some false
  else
  rec_ preferences3 r2
 else
 some true
def Z30 (N : Nat) : Nat -> E0 -> I0 -> Option (Bool)
 | 0, _, _ => none
 | k_ + 1, preferences3, left_2 => Z83 N (Z30 N k_) preferences3 left_2
def Z0ak (N : Nat) (Z0dx : E0 -> I0 -> Option (Bool)) (rec_ : E0 -> I0 -> Int -> Int -> Option (Bool)) (preferences2 : E0) (left_ : I0) (t9 : Int) (t10 : Int) : Option (Bool) :=
 bif decide (t10 < t9) then
  grd (appOk left_ [t10] 8) <|
  rec_ preferences2 (left_ ++ [t10]) t9 (w64 (t10 + 1))
 else
 Z0dx preferences2 left_
def Z74 (N : Nat) : Nat -> E0 -> I0 -> Int -> Int -> Option (Bool)
 | 0, _, _, _, _ => none
 | k_ + 1, preferences2, left_, t9, t10 => Z0ak N (Z30 N N) (Z74 N k_) preferences2 left_ t9 t10
def Z0be (N : Nat) (Z0dy : E0 -> I0 -> Int -> Int -> Option (Bool)) (n : Int) (preferences : E0) : Option (Bool) :=
 Z0dy preferences [] n 0
def Z61 (n : Int) (preferences : E0) : Option (Bool) := Z0be N (Z74 N N) n preferences
def Z4u (rec_ : Int -> E0 -> E0 -> E0 -> Int -> Int -> Option (Bool)) (n2 : Int) (edges2 : E0) (preferences2 : E0) (t13 : E0) (t14 : Int) (t15 : Int) : Option (Bool) :=
 bif decide (t15 < t14) then
  grd (inb t15 t13) <|
  (Z0 N edges2 (at_ (0, 0) t13 t15)).bind fun r2 =>
  bif (!r2) then
   (Z0 N edges2 ((at_ (0, 0) t13 t15).2, (at_ (0, 0) t13 t15).1)).bind fun r3 =>
   bif (!r3) then some false
   else
   rec_ n2 edges2 preferences2 t13 t14 (w64 (t15 + 1))
  else
  rec_ n2 edges2 preferences2 t13 t14 (w64 (t15 + 1))
 else
 (Z61 N n2 preferences2).bind fun r4 =>
 some r4
def Z2j (N : Nat) : Nat -> Int -> E0 -> E0 -> E0 -> Int -> Int -> Option (Bool)
 | 0, _, _, _, _, _, _ => none
 | k_ + 1, n2, edges2, preferences2, t13, t14, t15 => Z4u N (Z2j N k_) n2 edges2 preferences2 t13 t14 t15
def Z8n (Z0cj : Int -> E0 -> E0 -> E0 -> Int -> Int -> Option (Bool)) (n : Int) (edges : E0) (preferences : E0) : Option (Bool) :=
 (Z17 N n edges).bind fun r =>
 bif (!r) then some false
 else
 Z0cj n edges preferences preferences (preferences.length : Int) 0
def Z2c (n : Int) (edges : E0) (preferences : E0) : Option (Bool) := Z8n N (Z2j N N) n edges preferences
def Z62 (edges : E0) (a : Int) (b : Int) : Option (Bool) :=
 (Z0 N edges (a, b)).bind fun r =>
 bif r then some true
 else
 (Z0 N edges (b, a)).bind fun r2 =>
 some r2
def Z36 (own : Int) (c1 : E0) (c2 : Int) (c3 : E0) : Option (Bool) :=
 (Z62 N c1 c2 own).bind fun r =>
 bif r then
  (Z3j N c3 c2 own).bind fun r2 =>
  some (!r2)
 else
 some false
def Z0w (rec_ : I0 -> E0 -> Int -> E0 -> Int -> Int -> Option (Int)) (s2 : I0) (f : E0) (f2 : Int) (f3 : E0) (t7 : Int) (t8 : Int) : Option (Int) :=
 bif decide (t8 < t7) then
  grd (inb t8 s2) <|
  (Z36 N (at_ 0 s2 t8) f f2 f3).bind fun r =>
  bif r then some t8
  else
  rec_ s2 f f2 f3 t7 (w64 (t8 + 1))
 else
 some (-1)
def Z0b (N : Nat) : Nat -> I0 -> E0 -> Int -> E0 -> Int -> Int -> Option (Int)
 | 0, _, _, _, _, _, _ => none
 | k_ + 1, s2, f, f2, f3, t7, t8 => Z0w N (Z0b N k_) s2 f f2 f3 t7 t8
def Z21 (N : Nat) (Z8o : I0 -> E0 -> Int -> E0 -> Int -> Int -> Option (Int)) (s : I0) (c : E0) (c2 : Int) (c3 : E0) : Option (Int) :=
 Z8o s c c2 c3 (s.length : Int) 0
def Z0g (s : I0) (c : E0) (c2 : Int) (c3 : E0) : Option (Int) := Z21 N (Z0b N N) s c c2 c3
def Z6 (s : I0) (c : E0) (c2 : Int) (c3 : E0) : Option (Bool) :=
 (Z0g N s c c2 c3).bind fun r =>
 some (decide (r >= 0))
def Z5r (rec_ : I0 -> E0 -> E0 -> Int -> Int -> Option (Bool)) (set2 : I0) (edges2 : E0) (preferences2 : E0) (t22 : Int) (t23 : Int) : Option (Bool) :=
 bif decide (t23 < t22) then
  (Z8 N set2 t23).bind fun r3 =>
  bif (!r3) then
   (Z6 N set2 edges2 t23 preferences2).bind fun r4 =>
   bif (!r4) then some false
   else
   rec_ set2 edges2 preferences2 t22 (w64 (t23 + 1))
  else
  rec_ set2 edges2 preferences2 t22 (w64 (t23 + 1))
 else
 some true
def Z37 (N : Nat) : Nat -> I0 -> E0 -> E0 -> Int -> Int -> Option (Bool)
 | 0, _, _, _, _, _ => none
 | k_ + 1, set2, edges2, preferences2, t22, t23 => Z5r N (Z37 N k_) set2 edges2 preferences2 t22 t23
def Z9l (Z0d0 : I0 -> E0 -> E0 -> Int -> Int -> Option (Bool)) (n : Int) (edges : E0) (preferences : E0) (set : I0) : Option (Bool) :=
 (Z2c N n edges preferences).bind fun r =>
 bif (!r) then some false
 else
 (Z0u N n edges set).bind fun r2 =>
 bif (!r2) then some false
 else
 Z0d0 set edges preferences n 0
def Z28 (n : Int) (edges : E0) (preferences : E0) (set : I0) : Option (Bool) := Z9l N (Z37 N N) n edges preferences set
def Z63 (rec_ : Int -> E0 -> E0 -> L0 -> L0 -> Int -> Int -> Option L0) (n3 : Int) (edges3 : E0) (preferences3 : E0) (out2 : L0) (t132 : L0) (t142 : Int) (t152 : Int) : Option L0 :=
 bif decide (t152 < t142) then
  grd (inb t152 t132) <|
  (Z28 N n3 edges3 preferences3 (at_ [] t132 t152)).bind fun r3 =>
  bif r3 then
   grd (appOk out2 [(at_ [] t132 t152)] 24) <|
   rec_ n3 edges3 preferences3 (out2 ++ [(at_ [] t132 t152)]) t132 t142 (w64 (t152 + 1))
  else
  rec_ n3 edges3 preferences3 out2 t132 t142 (w64 (t152 + 1))
 else
 some out2
def Z1p (N : Nat) : Nat -> Int -> E0 -> E0 -> L0 -> L0 -> Int -> Int -> Option L0
 | 0, _, _, _, _, _, _, _ => none
 | k_ + 1, n3, edges3, preferences3, out2, t132, t142, t152 => Z63 N (Z1p N k_) n3 edges3 preferences3 out2 t132 t142 t152
def Z64 (Z0br : Int -> E0 -> E0 -> L0 -> L0 -> Int -> Int -> Option L0) (rec_ : Int -> E0 -> E0 -> L0 -> L0 -> Int -> Int -> Option L0) (n2 : Int) (edges2 : E0) (preferences2 : E0) (out : L0) (t13 : L0) (t14 : Int) (t15 : Int) : Option L0 :=
 bif decide (t15 < t14) then
  grd (inb t15 t13) <|
  (Z28 N n2 edges2 preferences2 (at_ [] t13 t15)).bind fun r2 =>
  bif r2 then
   grd (appOk out [(at_ [] t13 t15)] 24) <|
   Z0br n2 edges2 preferences2 (out ++ [(at_ [] t13 t15)]) t13 t14 (w64 (t15 + 1))
  else
  rec_ n2 edges2 preferences2 out t13 t14 (w64 (t15 + 1))
 else
 some out
def Z2w (N : Nat) : Nat -> Int -> E0 -> E0 -> L0 -> L0 -> Int -> Int -> Option L0
 | 0, _, _, _, _, _, _, _ => none
 | k_ + 1, n2, edges2, preferences2, out, t13, t14, t15 => Z64 N (Z1p N k_) (Z2w N k_) n2 edges2 preferences2 out t13 t14 t15
def Z75 (Z0bs : Int -> E0 -> E0 -> L0 -> L0 -> Int -> Int -> Option L0) (n : Int) (edges : E0) (preferences : E0) : Option L0 :=
 (Z19 N n edges).bind fun r =>
 Z0bs n edges preferences [] r (r.length : Int) 0
def Z2k (n : Int) (edges : E0) (preferences : E0) : Option L0 := Z75 N (Z2w N N) n edges preferences
def Z2x (db : D0) (constraints : List C0) (preferences : E0) : Option L0 :=
 (Z0f N db).bind fun r =>
 bif (!r) then some []
 else
 (Z4a N db constraints).bind fun r2 =>
 (Z2k N (db.2.length : Int) r2 preferences).bind fun r3 =>
 some r3
def Z4g (N : Nat) (own : Int × List Int) (c1 : Int × List Int) : Option (Bool) :=
 some (own.1 == c1.1)
def Z10 (rec_ : A0 -> (Int × List Int) -> Int -> Int -> Option (Int)) (s2 : A0) (f : Int × List Int) (t7 : Int) (t8 : Int) : Option (Int) :=
 bif decide (t8 < t7) then
  grd (inb t8 s2) <|
  (Z4g N (at_ (0, []) s2 t8) f).bind fun r =>
  bif r then some t8
  else
  rec_ s2 f t7 (w64 (t8 + 1))
 else
 some (-1)
def Z0d (N : Nat) : Nat -> A0 -> (Int × List Int) -> Int -> Int -> Option (Int)
 | 0, _, _, _, _ => none
 | k_ + 1, s2, f, t7, t8 => Z10 N (Z0d N k_) s2 f t7 t8
def Z29 (N : Nat) (Z8u : A0 -> (Int × List Int) -> Int -> Int -> Option (Int)) (s : A0) (c : Int × List Int) : Option (Int) :=
 Z8u s c (s.length : Int) 0
def Z0i (s : A0) (c : Int × List Int) : Option (Int) := Z29 N (Z0d N N) s c
def Z7 (s : A0) (c : Int × List Int) : Option (Bool) :=
 (Z0i N s c).bind fun r =>
 some (decide (r >= 0))
def Z76 (N : Nat) (rec_ : I0 -> L0 -> Int -> Int -> Option I0) (newslice : I0) (t25 : L0) (t26 : Int) (t27 : Int) : Option I0 :=
 bif decide (t27 < t26) then
  grd (inb t27 t25) <|
  grd (appOk newslice (at_ [] t25 t27) 8) <|
  rec_ (newslice ++ (at_ [] t25 t27)) t25 t26 (w64 (t27 + 1))
 else
 some newslice
def Z2l (N : Nat) : Nat -> I0 -> L0 -> Int -> Int -> Option I0
 | 0, _, _, _, _ => none
 | k_ + 1, newslice, t25, t26, t27 => Z76 N (Z2l N k_) newslice t25 t26 t27
def Z77 (Z0ck : I0 -> L0 -> Int -> Int -> Option I0) (rec_ : L0 -> Int -> L0 -> Int -> Int -> Option I0) (slices2 : L0) (size : Int) (t9 : L0) (t10 : Int) (t11 : Int) : Option I0 :=
 bif decide (t11 < t10) then
  grd (inb t11 t9) <|
  bif decide ((w64 (size + ((at_ [] t9 t11).length : Int))) < 0) then none
  else
  rec_ slices2 (w64 (size + ((at_ [] t9 t11).length : Int))) t9 t10 (w64 (t11 + 1))
 else
 (Z0a9 N [] size).bind fun r =>
 Z0ck r slices2 (slices2.length : Int) 0
def Z3x (N : Nat) : Nat -> L0 -> Int -> L0 -> Int -> Int -> Option I0
 | 0, _, _, _, _, _ => none
 | k_ + 1, slices2, size, t9, t10, t11 => Z77 N (Z2l N N) (Z3x N k_) slices2 size t9 t10 t11
def Z8p (N : Nat) (Z0cl : L0 -> Int -> L0 -> Int -> Int -> Option I0) (slices : L0) : Option I0 :=
 Z0cl slices 0 slices (slices.length : Int) 0
def Z2d (slices : L0) : Option I0 := Z8p N (Z3x N N) slices
def Z84 (a : I0) (b : I0) : Option I0 :=
 (Z2d N [a, b]).bind fun r =>
 (Z0aa N r).bind fun m =>
 (Z8v N m).bind fun r2 =>
 some r2
def Z8z (rec_ : I0 -> I0 -> Int -> Int -> Option I0) (out : I0) (t8 : I0) (t9 : Int) (t10 : Int) : Option I0 :=
 bif decide (t10 < t9) then
  grd (inb t10 t8) <|
  (Z5 N (at_ 0 t8 t10) 0 3).bind fun r =>
  bif r then
   grd (appOk out [(at_ 0 t8 t10)] 8) <|
   rec_ (out ++ [(at_ 0 t8 t10)]) t8 t9 (w64 (t10 + 1))
  else
  rec_ out t8 t9 (w64 (t10 + 1))
 else
 (Z84 N out []).bind fun r2 =>
 some r2
def Z5m (N : Nat) : Nat -> I0 -> I0 -> Int -> Int -> Option I0
 | 0, _, _, _, _ => none
 | k_ + 1, out, t8, t9, t10 => Z8z N (Z5m N k_) out t8 t9 t10
def Z0al (N : Nat) (Z0dc : I0 -> I0 -> Int -> Int -> Option I0) (atom : Int × List Int) : Option I0 :=
 Z0dc [] atom.2 (atom.2.length : Int) 0
def Z4b (atom : Int × List Int) : Option I0 := Z0al N (Z5m N N) atom
def Z6y (Z7p : R0 -> Int -> A0 -> I0 -> I0 -> A0 -> Int -> Int -> Option (Bool)) (rec_ : R0 -> Int -> A0 -> I0 -> I0 -> Int -> I0 -> A0 -> Int -> Int -> I0 -> Int -> Int -> Option (Bool)) (relations3 : R0) (query5 : Int) (query6 : A0) (query7 : I0) (occurring2 : I0) (atom : Int) (atom2 : I0) (t362 : A0) (t372 : Int) (t382 : Int) (t71 : I0) (t72 : Int) (t73 : Int) : Option (Bool) :=
 bif decide (t73 < t72) then
  grd (inb t73 t71) <|
  (Z5 N (at_ 0 t71 t73) (-10) (w64 (query5 - 1))).bind fun r7 =>
  bif (!r7) then some false
  else
  rec_ relations3 query5 query6 query7 occurring2 atom atom2 t362 t372 t382 t71 t72 (w64 (t73 + 1))
 else
 (Z4b N (atom, atom2)).bind fun r8 =>
 (Z84 N occurring2 r8).bind fun r9 =>
 Z7p relations3 query5 query6 query7 r9 t362 t372 (w64 (t382 + 1))
def Z3k (Z7p : R0 -> Int -> A0 -> I0 -> I0 -> A0 -> Int -> Int -> Option (Bool)) (N : Nat) : Nat -> R0 -> Int -> A0 -> I0 -> I0 -> Int -> I0 -> A0 -> Int -> Int -> I0 -> Int -> Int -> Option (Bool)
 | 0, _, _, _, _, _, _, _, _, _, _, _, _, _ => none
 | k_ + 1, relations3, query5, query6, query7, occurring2, atom, atom2, t362, t372, t382, t71, t72, t73 => Z6y N Z7p (Z3k Z7p N k_) relations3 query5 query6 query7 occurring2 atom atom2 t362 t372 t382 t71 t72 t73
def Z9m (Z0dk : R0 -> Int -> A0 -> I0 -> I0 -> Int -> I0 -> A0 -> Int -> Int -> I0 -> Int -> Int -> Option (Bool)) (rec_ : R0 -> Int -> A0 -> I0 -> I0 -> A0 -> Int -> Int -> Option (Bool)) (relations2 : R0) (query2 : Int) (query3 : A0) (query4 : I0) (occurring : I0) (t36 : A0) (t37 : Int) (t38 : Int) : Option (Bool) :=
 bif decide (t38 < t37) then
  grd (inb t38 t36) <|
  (Z5 N ((at_ (0, []) t36 t38).1) 0 (w64 ((relations2.length : Int) - 1))).bind fun r5 =>
  bif (!r5) then some false
  else
  grd (inb ((at_ (0, []) t36 t38).1) relations2) <|
  bif ((((at_ (0, []) t36 t38).2).length : Int) != (((at_ (⟨#[]⟩, (0, 0)) relations2 ((at_ (0, []) t36 t38).1)).2).1)) then some false
  else
  grd (subOk 0 t38 query3.length) <|
  (Z7 N (query3.take t38.toNat) (at_ (0, []) t36 t38)).bind fun r6 =>
  bif r6 then some false
  else
  Z0dk relations2 query2 query3 query4 occurring ((at_ (0, []) t36 t38).1) ((at_ (0, []) t36 t38).2) t36 t37 t38 ((at_ (0, []) t36 t38).2) (((at_ (0, []) t36 t38).2).length : Int) 0
 else
 some ((occurring.length : Int) == query2)
def Z4h (N : Nat) : Nat -> R0 -> Int -> A0 -> I0 -> I0 -> A0 -> Int -> Int -> Option (Bool)
 | 0, _, _, _, _, _, _, _, _ => none
 | k_ + 1, relations2, query2, query3, query4, occurring, t36, t37, t38 => Z9m N (Z3k (Z4h N k_) N N) (Z4h N k_) relations2 query2 query3 query4 occurring t36 t37 t38
def Z0au (Z0dl : R0 -> Int -> A0 -> I0 -> I0 -> A0 -> Int -> Int -> Option (Bool)) (relations : R0) (query : Q0) : Option (Bool) :=
 (Z13 N relations).bind fun r =>
 bif (!r) then some false
 else
 (Z5 N query.1 0 4).bind fun r2 =>
 bif (!r2) then some false
 else
 (Z5 N (query.2.1.length : Int) 1 3).bind fun r3 =>
 bif (!r3) then some false
 else
 (Z27 N query.2.2 query.1).bind fun r4 =>
 bif (!r4) then some false
 else
 Z0dl relations query.1 query.2.1 query.2.2 [] query.2.1 (query.2.1.length : Int) 0
def Z4m (relations : R0) (query : Q0) : Option (Bool) := Z0au N (Z4h N N) relations query
def Z1r (db : D0) (query : Q0) : Option (Bool) :=
 (Z0f N db).bind fun r =>
 bif r then
  (Z4m N db.1 query).bind fun r2 =>
  some r2
 else
 some false
def Z9n (N : Nat) (rec_ : R0 -> A0 -> R0 -> A0 -> A0 -> Int -> Int -> Option D0) (t2 : R0) (t22 : A0) (out : R0) (out2 : A0) (t13 : A0) (t14 : Int) (t15 : Int) : Option D0 :=
 bif decide (t15 < t14) then
  grd (inb t15 t13) <|
  grd (appOk [] ((at_ (0, []) t13 t15).2) 8) <|
  grd (appOk out2 [(at_ (0, []) t13 t15)] 32) <|
  rec_ t2 t22 out (out2 ++ [(at_ (0, []) t13 t15)]) t13 t14 (w64 (t15 + 1))
 else
 some (out, out2)
def Z65 (N : Nat) : Nat -> R0 -> A0 -> R0 -> A0 -> A0 -> Int -> Int -> Option D0
 | 0, _, _, _, _, _, _, _ => none
 | k_ + 1, t2, t22, out, out2, t13, t14, t15 => Z9n N (Z65 N k_) t2 t22 out out2 t13 t14 t15
def Z0av (N : Nat) (Z0dm : R0 -> A0 -> R0 -> A0 -> A0 -> Int -> Int -> Option D0) (db : D0) : Option D0 :=
 grd (appOk [] db.1 32) <|
 Z0dm [] [] db.1 [] db.2 (db.2.length : Int) 0
def Z4n (db : D0) : Option D0 := Z0av N (Z65 N N) db
def Z0a7 (N : Nat) (rec_ : R0 -> A0 -> R0 -> A0 -> R0 -> A0 -> I0 -> Int -> Int -> Option (D0 × Bool)) (t43 : R0) (t44 : A0) (all3 : R0) (all4 : A0) (out3 : R0) (out4 : A0) (t272 : I0) (t282 : Int) (t292 : Int) : Option (D0 × Bool) :=
 bif decide (t292 < t282) then
  grd (inb t292 t272) <|
  grd (inb (at_ 0 t272 t292) all4) <|
  grd (appOk out4 [(at_ (0, []) all4 (at_ 0 t272 t292))] 32) <|
  rec_ t43 t44 all3 all4 out3 (out4 ++ [(at_ (0, []) all4 (at_ 0 t272 t292))]) t272 t282 (w64 (t292 + 1))
 else
 some ((out3, out4), true)
def Z6m (N : Nat) : Nat -> R0 -> A0 -> R0 -> A0 -> R0 -> A0 -> I0 -> Int -> Int -> Option (D0 × Bool)
 | 0, _, _, _, _, _, _, _, _, _ => none
 | k_ + 1, t43, t44, all3, all4, out3, out4, t272, t282, t292 => Z0a7 N (Z6m N k_) t43 t44 all3 all4 out3 out4 t272 t282 t292
def Z0a8 (N : Nat) (Z0dt : R0 -> A0 -> R0 -> A0 -> R0 -> A0 -> I0 -> Int -> Int -> Option (D0 × Bool)) (rec_ : R0 -> A0 -> R0 -> A0 -> R0 -> A0 -> I0 -> Int -> Int -> Option (D0 × Bool)) (t4 : R0) (t42 : A0) (all : R0) (all2 : A0) (out : R0) (out2 : A0) (t27 : I0) (t28 : Int) (t29 : Int) : Option (D0 × Bool) :=
 bif decide (t29 < t28) then
  grd (inb t29 t27) <|
  grd (inb (at_ 0 t27 t29) all2) <|
  grd (appOk out2 [(at_ (0, []) all2 (at_ 0 t27 t29))] 32) <|
  Z0dt t4 t42 all all2 out (out2 ++ [(at_ (0, []) all2 (at_ 0 t27 t29))]) t27 t28 (w64 (t29 + 1))
 else
 some ((out, out2), true)
def Z8t (N : Nat) : Nat -> R0 -> A0 -> R0 -> A0 -> R0 -> A0 -> I0 -> Int -> Int -> Option (D0 × Bool)
 | 0, _, _, _, _, _, _, _, _, _ => none
 | k_ + 1, t4, t42, all, all2, out, out2, t27, t28, t29 => Z0a8 N (Z6m N k_) (Z8t N k_) t4 t42 all all2 out out2 t27 t28 t29
def Z0b7 (Z0du : R0 -> A0 -> R0 -> A0 -> R0 -> A0 -> I0 -> Int -> Int -> Option (D0 × Bool)) (db : D0) (indices : I0) : Option (D0 × Bool) :=
 (Z0f N db).bind fun r =>
 bif (!r) then some (([], []), false)
 else
 (Z27 N indices (db.2.length : Int)).bind fun r2 =>
 bif (!r2) then some (([], []), false)
 else
 (Z4n N db).bind fun r3 =>
 Z0du [] [] r3.1 r3.2 r3.1 [] indices (indices.length : Int) 0
def Z5i (db : D0) (indices : I0) : Option (D0 × Bool) := Z0b7 N (Z8t N N) db indices
def Z78 (n : Int) : Option I0 :=
 (Z99 N [(-1)] n).bind fun r =>
 some r
def Z7q (N : Nat) (t : Int) : Option (Bool) :=
 some (decide (t >= 0))
def Z6d (N : Nat) (v : Int) : Option (Int) :=
 some (w64 ((-1) - v))
def Z0bm (rec_ : I0 -> I0 -> I0 -> Int -> Int -> Option (List Int × Bool)) (from_2 : I0) (out : I0) (t13 : I0) (t14 : Int) (t15 : Int) : Option (List Int × Bool) :=
 bif decide (t15 < t14) then
  grd (inb t15 t13) <|
  (Z7q N (at_ 0 t13 t15)).bind fun r2 =>
  bif (!r2) then
   (Z6d N (at_ 0 t13 t15)).bind fun r3 =>
   grd (inb t15 from_2) <|
   bif (r3 != (at_ 0 from_2 t15)) then some ([], false)
   else
   rec_ from_2 out t13 t14 (w64 (t15 + 1))
  else
  grd (inb (at_ 0 t13 t15) out) <|
  bif decide ((at_ 0 out (at_ 0 t13 t15)) < 0) then
   grd (inb t15 from_2) <|
   grd (inb (at_ 0 t13 t15) out) <|
   grd (inb (at_ 0 t13 t15) out) <|
   letv (out.set (at_ 0 t13 t15).toNat (at_ 0 from_2 t15)) fun u =>
   rec_ from_2 u t13 t14 (w64 (t15 + 1))
  else
  grd (inb (at_ 0 t13 t15) out) <|
  grd (inb t15 from_2) <|
  bif ((at_ 0 out (at_ 0 t13 t15)) != (at_ 0 from_2 t15)) then some ([], false)
  else
  rec_ from_2 out t13 t14 (w64 (t15 + 1))
 else
 some (out, true)
def Z0ap (N : Nat) : Nat -> I0 -> I0 -> I0 -> Int -> Int -> Option (List Int × Bool)
 | 0, _, _, _, _, _ => none
 | k_ + 1, from_2, out, t13, t14, t15 => Z0bm N (Z0ap N k_) from_2 out t13 t14 t15
def Z0d1 (Z0ep : I0 -> I0 -> I0 -> Int -> Int -> Option (List Int × Bool)) (values : I0) (terms : I0) (from_ : I0) : Option (List Int × Bool) :=
 (Z1b N values).bind fun r =>
 Z0ep from_ r terms (terms.length : Int) 0
def Z0am (values : I0) (terms : I0) (from_ : I0) : Option (List Int × Bool) := Z0d1 N (Z0ap N N) values terms from_
def Z79 (Rf : I0 -> I0 -> Q0 -> (List (List Int × List Int)) -> D0 -> Q0 -> D0 -> Option (List (List Int × List Int))) (rec_ : I0 -> I0 -> (List (List Int × List Int)) -> Q0 -> D0 -> Int -> I0 -> A0 -> Int -> Int -> Option (List (List Int × List Int))) (values2 : I0) (facts2 : I0) (t3 : List (List Int × List Int)) (t5c : Q0) (t5c2 : D0) (atom : Int) (atom2 : I0) (t34 : A0) (t35 : Int) (t36 : Int) : Option (List (List Int × List Int)) :=
 bif decide (t36 < t35) then
  grd (inb t36 t34) <|
  bif (((at_ (0, []) t34 t36).1) != atom) then
   rec_ values2 facts2 t3 t5c t5c2 atom atom2 t34 t35 (w64 (t36 + 1))
  else
  (Z0am N values2 atom2 ((at_ (0, []) t34 t36).2)).bind fun p_r3 =>
  bif p_r3.2 then
   (Z1b N facts2).bind fun r5 =>
   grd (appOk r5 [t36] 8) <|
   (Rf p_r3.1 (r5 ++ [t36]) t5c t3 t5c2 t5c t5c2).bind fun m =>
   rec_ values2 facts2 m t5c t5c2 atom atom2 t34 t35 (w64 (t36 + 1))
  else
  rec_ values2 facts2 t3 t5c t5c2 atom atom2 t34 t35 (w64 (t36 + 1))
 else
 some t3
def Z3y (N : Nat) (Rf : I0 -> I0 -> Q0 -> (List (List Int × List Int)) -> D0 -> Q0 -> D0 -> Option (List (List Int × List Int))) : Nat -> I0 -> I0 -> (List (List Int × List Int)) -> Q0 -> D0 -> Int -> I0 -> A0 -> Int -> Int -> Option (List (List Int × List Int))
 | 0, _, _, _, _, _, _, _, _, _, _ => none
 | k_ + 1, values2, facts2, t3, t5c, t5c2, atom, atom2, t34, t35, t36 => Z79 N Rf (Z3y N Rf k_) values2 facts2 t3 t5c t5c2 atom atom2 t34 t35 t36
def Z66 (Rf : I0 -> I0 -> Q0 -> (List (List Int × List Int)) -> D0 -> Q0 -> D0 -> Option (List (List Int × List Int))) (Z0cm : I0 -> I0 -> (List (List Int × List Int)) -> Q0 -> D0 -> Int -> I0 -> A0 -> Int -> Int -> Option (List (List Int × List Int))) (values : I0) (facts : I0) (c2 : Q0) (c3 : List (List Int × List Int)) (c4 : D0) (sc2 : Q0) (sc4 : D0) : Option (List (List Int × List Int)) :=
 bif ((facts.length : Int) == (c2.2.1.length : Int)) then
  (Z1b N values).bind fun r =>
  (Z1b N facts).bind fun r2 =>
  grd (appOk c3 [(r, r2)] 48) <|
  some (c3 ++ [(r, r2)])
 else
 grd (inb (facts.length : Int) c2.2.1) <|
 Z0cm values facts c3 sc2 sc4 ((at_ (0, []) c2.2.1 (facts.length : Int)).1) ((at_ (0, []) c2.2.1 (facts.length : Int)).2) c4.2 (c4.2.length : Int) 0
def Z11 (N : Nat) : Nat -> I0 -> I0 -> Q0 -> (List (List Int × List Int)) -> D0 -> Q0 -> D0 -> Option (List (List Int × List Int))
 | 0, _, _, _, _, _, _, _ => none
 | k_ + 1, values, facts, c2, c3, c4, sc2, sc4 => Z66 N (Z11 N k_) (Z3y N (Z11 N k_) N) values facts c2 c3 c4 sc2 sc4
def Z3p (values : I0) (facts : I0) (c2 : Q0) (c3 : List (List Int × List Int)) (c4 : D0) (sc2 : Q0) (sc4 : D0) : Option (List (List Int × List Int)) := Z11 N N values facts c2 c3 c4 sc2 sc4
def Z3r (db : D0) (query : Q0) : Option (List (List Int × List Int)) :=
 (Z1r N db query).bind fun r =>
 bif (!r) then some []
 else
 (Z78 N query.1).bind fun r2 =>
 (Z3p N r2 [] query [] db query db).bind fun m =>
 some m
def Z7a (db : D0) (indices : I0) (query : Q0) : Option (Bool) :=
 (Z5i N db indices).bind fun p_r =>
 bif p_r.2 then
  (Z3r N p_r.1 query).bind fun r3 =>
  some (decide ((r3.length : Int) > 0))
 else
 some false
def Z0an (rec_ : R0 -> A0 -> Int -> A0 -> I0 -> L0 -> Int -> Int -> Option (List Int × Bool)) (db2 : R0) (db3 : A0) (query2 : Int) (query3 : A0) (query4 : I0) (t10 : L0) (t11 : Int) (t12 : Int) : Option (List Int × Bool) :=
 bif decide (t12 < t11) then
  grd (inb t12 t10) <|
  (Z1r N (db2, db3) (query2, query3, query4)).bind fun r =>
  bif r then
   (Z7a N (db2, db3) (at_ [] t10 t12) (query2, query3, query4)).bind fun r2 =>
   bif (!r2) then some ((at_ [] t10 t12), true)
   else
   rec_ db2 db3 query2 query3 query4 t10 t11 (w64 (t12 + 1))
  else
  rec_ db2 db3 query2 query3 query4 t10 t11 (w64 (t12 + 1))
 else
 some ([], false)
def Z7b (N : Nat) : Nat -> R0 -> A0 -> Int -> A0 -> I0 -> L0 -> Int -> Int -> Option (List Int × Bool)
 | 0, _, _, _, _, _, _, _, _ => none
 | k_ + 1, db2, db3, query2, query3, query4, t10, t11, t12 => Z0an N (Z7b N k_) db2 db3 query2 query3 query4 t10 t11 t12
def Z0bf (N : Nat) (Z0dz : R0 -> A0 -> Int -> A0 -> I0 -> L0 -> Int -> Int -> Option (List Int × Bool)) (db : D0) (sets : L0) (query : Q0) : Option (List Int × Bool) :=
 Z0dz db.1 db.2 query.1 query.2.1 query.2.2 sets (sets.length : Int) 0
def Z67 (db : D0) (sets : L0) (query : Q0) : Option (List Int × Bool) := Z0bf N (Z7b N N) db sets query
def Z68 (db : D0) (sets : L0) (query : Q0) : Option (Bool) :=
 (Z67 N db sets query).bind fun p_r =>
 (Z1r N db query).bind fun r3 =>
 bif r3 then some (!p_r.2)
 else
 some false
def Z2y (db : D0) (constraints : List C0) (preferences : E0) (query : Q0) : Option (Bool) :=
 (Z2x N db constraints preferences).bind fun r =>
 bif decide ((r.length : Int) > 0) then
  (Z68 N db r query).bind fun r2 =>
  some r2
 else
 some false
def Z69 (N : Nat) (a : ByteArray × Int × Int) (b : ByteArray × Int × Int) : Option (Bool) :=
 bif (!seq a.1 b.1) then some false
 else
 bif (a.2.1 != b.2.1) then some false
 else
 bif (a.2.2 != b.2.2) then some false
 else
 some true
def Z7r (rec_ : R0 -> R0 -> Int -> Option (Bool)) (a2 : R0) (b2 : R0) (i : Int) : Option (Bool) :=
 bif decide (i < (a2.length : Int)) then
  grd (inb i a2) <|
  grd (inb i b2) <|
  (Z69 N ((at_ (⟨#[]⟩, (0, 0)) a2 i).1, ((at_ (⟨#[]⟩, (0, 0)) a2 i).2)) ((at_ (⟨#[]⟩, (0, 0)) b2 i).1, ((at_ (⟨#[]⟩, (0, 0)) b2 i).2))).bind fun r =>
  bif (!r) then some false
  else
  rec_ a2 b2 (w64 (i + 1))
 else
 some true
def Z52 (N : Nat) : Nat -> R0 -> R0 -> Int -> Option (Bool)
 | 0, _, _, _ => none
 | k_ + 1, a2, b2, i => Z7r N (Z52 N k_) a2 b2 i
def Z0b8 (N : Nat) (Z0dv : R0 -> R0 -> Int -> Option (Bool)) (a : R0) (b : R0) : Option (Bool) :=
 bif ((a.length : Int) != (b.length : Int)) then some false
 else
 Z0dv a b 0
def Z5j (a : R0) (b : R0) : Option (Bool) := Z0b8 N (Z52 N N) a b
def Z0ao (N : Nat) (rec_ : I0 -> I0 -> Int -> Option (Bool)) (a2 : I0) (b2 : I0) (i : Int) : Option (Bool) :=
 bif decide (i < (a2.length : Int)) then
  grd (inb i a2) <|
  grd (inb i b2) <|
  bif ((at_ 0 a2 i) != (at_ 0 b2 i)) then some false
  else
  rec_ a2 b2 (w64 (i + 1))
 else
 some true
def Z88 (N : Nat) : Nat -> I0 -> I0 -> Int -> Option (Bool)
 | 0, _, _, _ => none
 | k_ + 1, a2, b2, i => Z0ao N (Z88 N k_) a2 b2 i
def Z0cn (N : Nat) (Z0el : I0 -> I0 -> Int -> Option (Bool)) (a : I0) (b : I0) : Option (Bool) :=
 bif ((a.length : Int) != (b.length : Int)) then some false
 else
 Z0el a b 0
def Z58 (a : I0) (b : I0) : Option (Bool) := Z0cn N (Z88 N N) a b
def Z9o (a : Int × List Int) (b : Int × List Int) : Option (Bool) :=
 bif (a.1 != b.1) then some false
 else
 (Z58 N a.2 b.2).bind fun r =>
 bif (!r) then some false
 else
 some true
def Z0a0 (rec_ : A0 -> A0 -> Int -> Option (Bool)) (a2 : A0) (b2 : A0) (i : Int) : Option (Bool) :=
 bif decide (i < (a2.length : Int)) then
  grd (inb i a2) <|
  grd (inb i b2) <|
  (Z9o N (at_ (0, []) a2 i) (at_ (0, []) b2 i)).bind fun r =>
  bif (!r) then some false
  else
  rec_ a2 b2 (w64 (i + 1))
 else
 some true
def Z7s (N : Nat) : Nat -> A0 -> A0 -> Int -> Option (Bool)
 | 0, _, _, _ => none
 | k_ + 1, a2, b2, i => Z0a0 N (Z7s N k_) a2 b2 i
def Z0c4 (N : Nat) (Z0ee : A0 -> A0 -> Int -> Option (Bool)) (a : A0) (b : A0) : Option (Bool) :=
 bif ((a.length : Int) != (b.length : Int)) then some false
 else
 Z0ee a b 0
def Z8q (a : A0) (b : A0) : Option (Bool) := Z0c4 N (Z7s N N) a b
def Z6a (a : D0) (b : D0) : Option (Bool) :=
 (Z5j N a.1 b.1).bind fun r =>
 bif (!r) then some false
 else
 (Z8q N a.2 b.2).bind fun r2 =>
 bif (!r2) then some false
 else
 some true
def Z22 (N : Nat) (a : C0) (b : C0) : Option (Bool) :=
 bif (a.1 != b.1) then some false
 else
 bif (a.2.1 != b.2.1) then some false
 else
 bif (a.2.2.1 != b.2.2.1) then some false
 else
 bif (a.2.2.2.1 != b.2.2.2.1) then some false
 else
 bif (a.2.2.2.2.1 != b.2.2.2.2.1) then some false
 else
 bif (a.2.2.2.2.2.1 != b.2.2.2.2.2.1) then some false
 else
 bif (a.2.2.2.2.2.2 != b.2.2.2.2.2.2) then some false
 else
 some true
def Z47 (rec_ : (List C0) -> (List C0) -> Int -> Option (Bool)) (a2 : List C0) (b2 : List C0) (i : Int) : Option (Bool) :=
 bif decide (i < (a2.length : Int)) then
  grd (inb i a2) <|
  grd (inb i b2) <|
  (Z22 N ((at_ (0, (0, (0, (0, (0, (0, 0)))))) a2 i).1, ((at_ (0, (0, (0, (0, (0, (0, 0)))))) a2 i).2).1, (((at_ (0, (0, (0, (0, (0, (0, 0)))))) a2 i).2).2).1, ((((at_ (0, (0, (0, (0, (0, (0, 0)))))) a2 i).2).2).2).1, (((((at_ (0, (0, (0, (0, (0, (0, 0)))))) a2 i).2).2).2).2).1, ((((((at_ (0, (0, (0, (0, (0, (0, 0)))))) a2 i).2).2).2).2).2)) ((at_ (0, (0, (0, (0, (0, (0, 0)))))) b2 i).1, ((at_ (0, (0, (0, (0, (0, (0, 0)))))) b2 i).2).1, (((at_ (0, (0, (0, (0, (0, (0, 0)))))) b2 i).2).2).1, ((((at_ (0, (0, (0, (0, (0, (0, 0)))))) b2 i).2).2).2).1, (((((at_ (0, (0, (0, (0, (0, (0, 0)))))) b2 i).2).2).2).2).1, ((((((at_ (0, (0, (0, (0, (0, (0, 0)))))) b2 i).2).2).2).2).2))).bind fun r =>
  bif (!r) then some false
  else
  rec_ a2 b2 (w64 (i + 1))
 else
 some true
def Z1y (N : Nat) : Nat -> (List C0) -> (List C0) -> Int -> Option (Bool)
 | 0, _, _, _ => none
 | k_ + 1, a2, b2, i => Z47 N (Z1y N k_) a2 b2 i
def Z7x (N : Nat) (Z0c5 : (List C0) -> (List C0) -> Int -> Option (Bool)) (a : List C0) (b : List C0) : Option (Bool) :=
 bif ((a.length : Int) != (b.length : Int)) then some false
 else
 Z0c5 a b 0
def Z1t (a : List C0) (b : List C0) : Option (Bool) := Z7x N (Z1y N N) a b
def Z3s (N : Nat) (a : Int × Int) (b : Int × Int) : Option (Bool) :=
 bif (a.1 != b.1) then some false
 else
 bif (a.2 != b.2) then some false
 else
 some true
def Z5s (rec_ : E0 -> E0 -> Int -> Option (Bool)) (a2 : E0) (b2 : E0) (i : Int) : Option (Bool) :=
 bif decide (i < (a2.length : Int)) then
  grd (inb i a2) <|
  grd (inb i b2) <|
  (Z3s N (at_ (0, 0) a2 i) (at_ (0, 0) b2 i)).bind fun r =>
  bif (!r) then some false
  else
  rec_ a2 b2 (w64 (i + 1))
 else
 some true
def Z38 (N : Nat) : Nat -> E0 -> E0 -> Int -> Option (Bool)
 | 0, _, _, _ => none
 | k_ + 1, a2, b2, i => Z5s N (Z38 N k_) a2 b2 i
def Z9p (N : Nat) (Z0d2 : E0 -> E0 -> Int -> Option (Bool)) (a : E0) (b : E0) : Option (Bool) :=
 bif ((a.length : Int) != (b.length : Int)) then some false
 else
 Z0d2 a b 0
def Z3l (a : E0) (b : E0) : Option (Bool) := Z9p N (Z38 N N) a b
def Z9q (a : Int × List Int) (b : Int × List Int) : Option (Bool) :=
 bif (a.1 != b.1) then some false
 else
 (Z58 N a.2 b.2).bind fun r =>
 bif (!r) then some false
 else
 some true
def Z0a1 (rec_ : A0 -> A0 -> Int -> Option (Bool)) (a2 : A0) (b2 : A0) (i : Int) : Option (Bool) :=
 bif decide (i < (a2.length : Int)) then
  grd (inb i a2) <|
  grd (inb i b2) <|
  (Z9q N (at_ (0, []) a2 i) (at_ (0, []) b2 i)).bind fun r =>
  bif (!r) then some false
  else
  rec_ a2 b2 (w64 (i + 1))
 else
 some true
def Z7t (N : Nat) : Nat -> A0 -> A0 -> Int -> Option (Bool)
 | 0, _, _, _ => none
 | k_ + 1, a2, b2, i => Z0a1 N (Z7t N k_) a2 b2 i
def Z0c6 (N : Nat) (Z0ef : A0 -> A0 -> Int -> Option (Bool)) (a : A0) (b : A0) : Option (Bool) :=
 bif ((a.length : Int) != (b.length : Int)) then some false
 else
 Z0ef a b 0
def Z8r (a : A0) (b : A0) : Option (Bool) := Z0c6 N (Z7t N N) a b
def Z8s (a : Q0) (b : Q0) : Option (Bool) :=
 bif (a.1 != b.1) then some false
 else
 (Z8r N a.2.1 b.2.1).bind fun r =>
 bif (!r) then some false
 else
 (Z58 N a.2.2 b.2.2).bind fun r2 =>
 bif (!r2) then some false
 else
 some true
def laws_FnExactPreferredCertain (aDb : D0) (aConstraints : List C0) (aPreferences : E0) (aQuery : Q0) : Option (Bool) :=
 (Z5t N aDb 1048576).bind fun r =>
 bif decide (r < 0) then some true
 else
 (Z1s N aConstraints r).bind fun r2 =>
 bif decide (r2 < 0) then some true
 else
 (Z39 N aPreferences r2).bind fun r3 =>
 bif decide (r3 < 0) then some true
 else
 (Z8b N aQuery r3).bind fun r4 =>
 bif decide (r4 < 0) then some true
 else
 (Z3t N aDb).bind fun r5 =>
 (Z0x N aConstraints).bind fun r6 =>
 (Z1j N aPreferences).bind fun r7 =>
 (Z5v N aQuery).bind fun r8 =>
 (Z2o N r5 r6 r7 r8).bind fun r9 =>
 (Z3t N aDb).bind fun r10 =>
 (Z0x N aConstraints).bind fun r11 =>
 (Z1j N aPreferences).bind fun r12 =>
 (Z5v N aQuery).bind fun r13 =>
 (Z2y N r10 r11 r12 r13).bind fun r14 =>
 bif (!(r14 == r9)) then some false
 else
 (Z3t N aDb).bind fun r15 =>
 (Z6a N r10 r15).bind fun r16 =>
 bif (!r16) then some false
 else
 (Z0x N aConstraints).bind fun r17 =>
 (Z1t N r11 r17).bind fun r18 =>
 bif (!r18) then some false
 else
 (Z1j N aPreferences).bind fun r19 =>
 (Z3l N r12 r19).bind fun r20 =>
 bif (!r20) then some false
 else
 (Z5v N aQuery).bind fun r21 =>
 (Z8s N r13 r21).bind fun r22 =>
 bif (!r22) then some false
 else
 some true
end Go.PL
