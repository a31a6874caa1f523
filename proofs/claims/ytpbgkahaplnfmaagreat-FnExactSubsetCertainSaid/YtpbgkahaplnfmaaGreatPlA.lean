/- The functions read plainly. Conditions: none (definitions alone). -/
import GoSem.Core.View
import GoSem.Op.String

set_option linter.unusedVariables false
set_option linter.unusedSimpArgs false
set_option linter.unnecessarySimpa false

namespace Go.PL
def w64 (x : Int) : Int := IntKind.i64.wrap x
def w (k : IntKind) (x : Int) : Int := k.wrap x
def grd {α : Type} (c : Bool) (x : Option α) : Option α := bif c then x else none
def grz {α : Type} (b : Int) (x : Option α) : Option α := bif decide (b = 0) then none else x
def letv {α β : Type} (v : α) (k : α -> β) : β := k v
def at_ {α : Type} (d : α) (xs : List α) (i : Int) : α := xs.getD i.toNat d
def inb {α : Type} (i : Int) (xs : List α) : Bool := decide (0 <= i) && decide (i < (xs.length : Int))
def growOk {α : Type} (i' i : Int) (xs : List α) : Bool := decide (i' = i) && (decide (0 <= i') && decide (i' < (xs.length : Int)))
def appOk {α : Type} (s x : List α) (b : Nat) : Bool := decide ((s.length + x.length) * b <= 140737488355328)
def makeOk (n : Int) (b : Nat) : Bool := decide (n = n) && (decide (0 <= n) && decide (n * b <= 140737488355328))
def byteAt (s : ByteArray) (n : Int) : Option UInt8 := if 0 <= n then s[n.toNat]? else none
def catOk (a b : ByteArray) : Bool := decide (a.size + b.size <= 140737488355328)
def seq (a b : ByteArray) : Bool := a.toList == b.toList
def slt (a b : ByteArray) : Bool := Op.bytesLess a.toList b.toList
def subOk (lo hi : Int) (n : Nat) : Bool := decide (0 <= lo) && (decide (lo <= hi) && decide (hi <= (n : Int)))
def sub (s : ByteArray) (lo hi : Int) : ByteArray := s.extract lo.toNat hi.toNat
def ofBytes (x : List Int) : ByteArray := ⟨(x.map fun n => UInt8.ofNat n.toNat).toArray⟩
def bits (op : BinOp) (k : IntKind) (a b : Int) : Int := match op with
 | .and => k.wrap ((BitVec.ofInt k.bits a &&& BitVec.ofInt k.bits b).toNat : Int)
 | .xor => k.wrap ((BitVec.ofInt k.bits a ^^^ BitVec.ofInt k.bits b).toNat : Int)
 | .or => k.wrap ((BitVec.ofInt k.bits a ||| BitVec.ofInt k.bits b).toNat : Int)
 | .shl => k.wrap (a * 2 ^ (min b.toNat k.bits))
 | .shr => a.fdiv (2 ^ (min b.toNat k.bits))
 | _ => 0
def imax (a b : Int) : Int := if b > a then b else a
def imin (a b : Int) : Int := if b < a then b else a
end Go.PL

namespace Go.PL
abbrev D0 : Type := List (ByteArray × Int × Int) × List (Int × List Int)
abbrev Q0 : Type := Int × List (Int × List Int) × List Int
abbrev C0 : Type := Int × Int × Int × Int × Int × Int × Int
abbrev R0 : Type := List (ByteArray × Int × Int)
abbrev A0 : Type := List (Int × List Int)
abbrev L0 : Type := List (List Int)
abbrev I0 : Type := List Int
abbrev E0 : Type := List (Int × Int)
variable (N : Nat)
def Z0u (N : Nat) (s : I0) : Option I0 := grd (decide (s.length * 8 <= 140737488355328)) (some s)
def Z7s (N : Nat) (s : I0) (n : Int) : Option I0 := grd (decide (0 <= n) && decide ((s.length + n.toNat) * 8 <= 140737488355328)) (some s)
def Z7t (N : Nat) (s : I0) : Option I0 := grd (decide (s.length < 4611686018427387904)) (some (s.mergeSort fun a b => decide (a <= b)))
def Z6l (N : Nat) (s : I0) : Option I0 := some (((List.range s.length).filter fun j => decide (j = 0 \/ s.toArray[j]! ≠ s.toArray[j - 1]!)).map fun j => s.toArray[j]!)
def Z6z (N : Nat) (s : I0) (n : Int) : Option I0 := grd (decide (s.length = 1) && (decide (0 <= n) && decide (n * 8 <= 140737488355328))) (some (List.replicate n.toNat (at_ 0 s 0)))
def Z3f (N : Nat) (a : ByteArray × Int × Int) (left_ : Int) : Option (Int) :=
 bif decide ((w64 (left_ - (a.1.size : Int))) < 0) then some (-1)
 else
 some (w64 (left_ - (a.1.size : Int)))
def Z5c (rec_ : R0 -> Int -> Int -> Option (Int)) (a2 : R0) (left_2 : Int) (i : Int) : Option (Int) :=
 bif decide (i < (a2.length : Int)) then
  grd (inb i a2) <|
  (Z3f N ((at_ (⟨#[]⟩, (0, 0)) a2 i).1, ((at_ (⟨#[]⟩, (0, 0)) a2 i).2)) left_2).bind fun r =>
  bif decide (r < 0) then some (-1)
  else
  rec_ a2 r (w64 (i + 1))
 else
 some left_2
def Z3h (N : Nat) : Nat -> R0 -> Int -> Int -> Option (Int)
 | 0, _, _, _ => none
 | k_ + 1, a2, left_2, i => Z5c N (Z3h N k_) a2 left_2 i
def Z8i (N : Nat) (Z0al : R0 -> Int -> Int -> Option (Int)) (a : R0) (left_ : Int) : Option (Int) :=
 bif decide ((w64 (left_ - (a.length : Int))) < 0) then some (-1)
 else
 Z0al a (w64 (left_ - (a.length : Int))) 0
def Z3u (a : R0) (left_ : Int) : Option (Int) := Z8i N (Z3h N N) a left_
def Z3l (N : Nat) (a : I0) (left_ : Int) : Option (Int) :=
 bif decide ((w64 (left_ - (a.length : Int))) < 0) then some (-1)
 else
 some (w64 (left_ - (a.length : Int)))
def Z60 (a : Int × List Int) (left_ : Int) : Option (Int) :=
 (Z3l N a.2 left_).bind fun r =>
 bif decide (r < 0) then some (-1)
 else
 some r
def Z7c (rec_ : A0 -> Int -> Int -> Option (Int)) (a2 : A0) (left_2 : Int) (i : Int) : Option (Int) :=
 bif decide (i < (a2.length : Int)) then
  grd (inb i a2) <|
  (Z60 N (at_ (0, []) a2 i) left_2).bind fun r =>
  bif decide (r < 0) then some (-1)
  else
  rec_ a2 r (w64 (i + 1))
 else
 some left_2
def Z5d (N : Nat) : Nat -> A0 -> Int -> Int -> Option (Int)
 | 0, _, _, _ => none
 | k_ + 1, a2, left_2, i => Z7c N (Z5d N k_) a2 left_2 i
def Z94 (N : Nat) (Z0ax : A0 -> Int -> Int -> Option (Int)) (a : A0) (left_ : Int) : Option (Int) :=
 bif decide ((w64 (left_ - (a.length : Int))) < 0) then some (-1)
 else
 Z0ax a (w64 (left_ - (a.length : Int))) 0
def Z64 (a : A0) (left_ : Int) : Option (Int) := Z94 N (Z5d N N) a left_
def Z46 (a : D0) (left_ : Int) : Option (Int) :=
 (Z3u N a.1 left_).bind fun r =>
 bif decide (r < 0) then some (-1)
 else
 (Z64 N a.2 r).bind fun r2 =>
 bif decide (r2 < 0) then some (-1)
 else
 some r2
def Z19 (N : Nat) (a : List C0) (left_ : Int) : Option (Int) :=
 bif decide ((w64 (left_ - (a.length : Int))) < 0) then some (-1)
 else
 some (w64 (left_ - (a.length : Int)))
def Z61 (a : Int × List Int) (left_ : Int) : Option (Int) :=
 (Z3l N a.2 left_).bind fun r =>
 bif decide (r < 0) then some (-1)
 else
 some r
def Z7d (rec_ : A0 -> Int -> Int -> Option (Int)) (a2 : A0) (left_2 : Int) (i : Int) : Option (Int) :=
 bif decide (i < (a2.length : Int)) then
  grd (inb i a2) <|
  (Z61 N (at_ (0, []) a2 i) left_2).bind fun r =>
  bif decide (r < 0) then some (-1)
  else
  rec_ a2 r (w64 (i + 1))
 else
 some left_2
def Z5e (N : Nat) : Nat -> A0 -> Int -> Int -> Option (Int)
 | 0, _, _, _ => none
 | k_ + 1, a2, left_2, i => Z7d N (Z5e N k_) a2 left_2 i
def Z95 (N : Nat) (Z0ay : A0 -> Int -> Int -> Option (Int)) (a : A0) (left_ : Int) : Option (Int) :=
 bif decide ((w64 (left_ - (a.length : Int))) < 0) then some (-1)
 else
 Z0ay a (w64 (left_ - (a.length : Int))) 0
def Z65 (a : A0) (left_ : Int) : Option (Int) := Z95 N (Z5e N N) a left_
def Z66 (a : Q0) (left_ : Int) : Option (Int) :=
 (Z65 N a.2.1 left_).bind fun r =>
 bif decide (r < 0) then some (-1)
 else
 (Z3l N a.2.2 r).bind fun r2 =>
 bif decide (r2 < 0) then some (-1)
 else
 some r2
def Z47 (N : Nat) (a : ByteArray × Int × Int) : Option (ByteArray × Int × Int) :=
 some a
def Z5f (rec_ : R0 -> R0 -> Int -> Option R0) (a2 : R0) (out : R0) (i : Int) : Option R0 :=
 bif decide (i < (a2.length : Int)) then
  grd (inb i a2) <|
  (Z47 N ((at_ (⟨#[]⟩, (0, 0)) a2 i).1, ((at_ (⟨#[]⟩, (0, 0)) a2 i).2))).bind fun r =>
  grd (inb i out) <|
  grd (inb i out) <|
  letv (out.set i.toNat r) fun u =>
  rec_ a2 u (w64 (i + 1))
 else
 some out
def Z3i (N : Nat) : Nat -> R0 -> R0 -> Int -> Option R0
 | 0, _, _, _ => none
 | k_ + 1, a2, out, i => Z5f N (Z3i N k_) a2 out i
def Z8j (N : Nat) (Z0am : R0 -> R0 -> Int -> Option R0) (a : R0) : Option R0 :=
 grd (makeOk (a.length : Int) 32) <|
 Z0am a (List.replicate (a.length : Int).toNat (⟨#[]⟩, (0, 0))) 0
def Z3v (a : R0) : Option R0 := Z8j N (Z3i N N) a
def Z7u (N : Nat) (rec_ : I0 -> I0 -> Int -> Option I0) (a2 : I0) (out : I0) (i : Int) : Option I0 :=
 bif decide (i < (a2.length : Int)) then
  grd (inb i a2) <|
  grd (inb i out) <|
  grd (inb i out) <|
  letv (out.set i.toNat (at_ 0 a2 i)) fun u =>
  rec_ a2 u (w64 (i + 1))
 else
 some out
def Z62 (N : Nat) : Nat -> I0 -> I0 -> Int -> Option I0
 | 0, _, _, _ => none
 | k_ + 1, a2, out, i => Z7u N (Z62 N k_) a2 out i
def Z9h (N : Nat) (Z0b8 : I0 -> I0 -> Int -> Option I0) (a : I0) : Option I0 :=
 grd (makeOk (a.length : Int) 8) <|
 Z0b8 a (List.replicate (a.length : Int).toNat 0) 0
def Z3m (a : I0) : Option I0 := Z9h N (Z62 N N) a
def Z70 (a : Int × List Int) : Option (Int × List Int) :=
 (Z3m N a.2).bind fun r =>
 some (a.1, r)
def Z7e (rec_ : A0 -> A0 -> Int -> Option A0) (a2 : A0) (out : A0) (i : Int) : Option A0 :=
 bif decide (i < (a2.length : Int)) then
  grd (inb i a2) <|
  (Z70 N (at_ (0, []) a2 i)).bind fun r =>
  grd (inb i out) <|
  grd (inb i out) <|
  letv (out.set i.toNat r) fun u =>
  rec_ a2 u (w64 (i + 1))
 else
 some out
def Z5g (N : Nat) : Nat -> A0 -> A0 -> Int -> Option A0
 | 0, _, _, _ => none
 | k_ + 1, a2, out, i => Z7e N (Z5g N k_) a2 out i
def Z96 (N : Nat) (Z0az : A0 -> A0 -> Int -> Option A0) (a : A0) : Option A0 :=
 grd (makeOk (a.length : Int) 32) <|
 Z0az a (List.replicate (a.length : Int).toNat (0, [])) 0
def Z67 (a : A0) : Option A0 := Z96 N (Z5g N N) a
def Z2h (a : D0) : Option D0 :=
 (Z3v N a.1).bind fun r =>
 (Z67 N a.2).bind fun r2 =>
 some (r, r2)
def Z20 (N : Nat) (a : C0) : Option C0 :=
 some a
def Z2t (rec_ : (List C0) -> (List C0) -> Int -> Option (List C0)) (a2 : List C0) (out : List C0) (i : Int) : Option (List C0) :=
 bif decide (i < (a2.length : Int)) then
  grd (inb i a2) <|
  (Z20 N ((at_ (0, (0, (0, (0, (0, (0, 0)))))) a2 i).1, ((at_ (0, (0, (0, (0, (0, (0, 0)))))) a2 i).2).1, (((at_ (0, (0, (0, (0, (0, (0, 0)))))) a2 i).2).2).1, ((((at_ (0, (0, (0, (0, (0, (0, 0)))))) a2 i).2).2).2).1, (((((at_ (0, (0, (0, (0, (0, (0, 0)))))) a2 i).2).2).2).2).1, ((((((at_ (0, (0, (0, (0, (0, (0, 0)))))) a2 i).2).2).2).2).2))).bind fun r =>
  grd (inb i out) <|
  grd (inb i out) <|
  letv (out.set i.toNat r) fun u =>
  rec_ a2 u (w64 (i + 1))
 else
 some out
def Z1b (N : Nat) : Nat -> (List C0) -> (List C0) -> Int -> Option (List C0)
 | 0, _, _, _ => none
 | k_ + 1, a2, out, i => Z2t N (Z1b N k_) a2 out i
def Z5r (N : Nat) (Z97 : (List C0) -> (List C0) -> Int -> Option (List C0)) (a : List C0) : Option (List C0) :=
 grd (makeOk (a.length : Int) 56) <|
 Z97 a (List.replicate (a.length : Int).toNat (0, (0, (0, (0, (0, (0, 0))))))) 0
def Z0k (a : List C0) : Option (List C0) := Z5r N (Z1b N N) a
def Z71 (a : Int × List Int) : Option (Int × List Int) :=
 (Z3m N a.2).bind fun r =>
 some (a.1, r)
def Z7f (rec_ : A0 -> A0 -> Int -> Option A0) (a2 : A0) (out : A0) (i : Int) : Option A0 :=
 bif decide (i < (a2.length : Int)) then
  grd (inb i a2) <|
  (Z71 N (at_ (0, []) a2 i)).bind fun r =>
  grd (inb i out) <|
  grd (inb i out) <|
  letv (out.set i.toNat r) fun u =>
  rec_ a2 u (w64 (i + 1))
 else
 some out
def Z5h (N : Nat) : Nat -> A0 -> A0 -> Int -> Option A0
 | 0, _, _, _ => none
 | k_ + 1, a2, out, i => Z7f N (Z5h N k_) a2 out i
def Z98 (N : Nat) (Z0b0 : A0 -> A0 -> Int -> Option A0) (a : A0) : Option A0 :=
 grd (makeOk (a.length : Int) 32) <|
 Z0b0 a (List.replicate (a.length : Int).toNat (0, [])) 0
def Z68 (a : A0) : Option A0 := Z98 N (Z5h N N) a
def Z48 (a : Q0) : Option Q0 :=
 (Z68 N a.2.1).bind fun r =>
 (Z3m N a.2.2).bind fun r2 =>
 some (a.1, r, r2)
def Z6 (N : Nat) (x : Int) (low : Int) (high : Int) : Option (Bool) :=
 bif decide (x >= low) then some (decide (x <= high))
 else
 some false
def Z9 (s : ByteArray × Int × Int) : Option (Bool) :=
 bif ((s.1.size : Int) == 1) then
  (byteAt s.1 0).bind fun b =>
  bif decide ((b.toNat : Int) >= 97) then
   (byteAt s.1 0).bind fun b2 =>
   bif decide ((b2.toNat : Int) <= 122) then
    (Z6 N s.2.1 1 3).bind fun r =>
    bif r then
     (Z6 N s.2.2 0 s.2.1).bind fun r2 =>
     some r2
    else
    some false
   else
   some false
  else
  some false
 else
 some false
def Z1c (rec_ : R0 -> Int -> Option (Bool)) (l2 : R0) (i : Int) : Option (Bool) :=
 bif decide (i < (l2.length : Int)) then
  grd (inb i l2) <|
  (Z9 N ((at_ (⟨#[]⟩, (0, 0)) l2 i).1, ((at_ (⟨#[]⟩, (0, 0)) l2 i).2))).bind fun r =>
  bif (!r) then some false
  else
  bif decide (i > 0) then
   grd (inb (w64 (i - 1)) l2) <|
   grd (inb i l2) <|
   bif (!slt ((at_ (⟨#[]⟩, (0, 0)) l2 (w64 (i - 1))).1) ((at_ (⟨#[]⟩, (0, 0)) l2 i).1)) then some false
   else
   rec_ l2 (w64 (i + 1))
  else
  rec_ l2 (w64 (i + 1))
 else
 some (decide ((l2.length : Int) <= 4))
def Z0i (N : Nat) : Nat -> R0 -> Int -> Option (Bool)
 | 0, _, _ => none
 | k_ + 1, l2, i => Z1c N (Z0i N k_) l2 i
def Z49 (N : Nat) (Z9i : R0 -> Int -> Option (Bool)) (l : R0) : Option (Bool) :=
 Z9i l 0
def Z0e (l : R0) : Option (Bool) := Z49 N (Z0i N N) l
def Z5i (rec_ : Int -> I0 -> Int -> Option (Bool)) (f2 : Int) (f3 : I0) (i : Int) : Option (Bool) :=
 bif decide (i < (f3.length : Int)) then
  grd (inb i f3) <|
  (Z6 N (at_ 0 f3 i) 0 9).bind fun r3 =>
  bif (!r3) then some false
  else
  rec_ f2 f3 (w64 (i + 1))
 else
 some true
def Z3j (N : Nat) : Nat -> Int -> I0 -> Int -> Option (Bool)
 | 0, _, _, _ => none
 | k_ + 1, f2, f3, i => Z5i N (Z3j N k_) f2 f3 i
def Z8k (Z0an : Int -> I0 -> Int -> Option (Bool)) (l : R0) (f : Int × List Int) : Option (Bool) :=
 (Z0e N l).bind fun r =>
 bif (!r) then some false
 else
 (Z6 N f.1 0 (w64 ((l.length : Int) - 1))).bind fun r2 =>
 bif (!r2) then some false
 else
 grd (inb f.1 l) <|
 bif ((f.2.length : Int) != (((at_ (⟨#[]⟩, (0, 0)) l f.1).2).1)) then some false
 else
 Z0an f.1 f.2 0
def Z0y (l : R0) (f : Int × List Int) : Option (Bool) := Z8k N (Z3j N N) l f
def Z69 (N : Nat) (rec_ : I0 -> I0 -> Int -> Option (Int)) (a2 : I0) (b2 : I0) (i : Int) : Option (Int) :=
 bif decide (i < (a2.length : Int)) then
  bif decide (i < (b2.length : Int)) then
   grd (inb i a2) <|
   grd (inb i b2) <|
   bif decide ((at_ 0 a2 i) < (at_ 0 b2 i)) then some (-1)
   else
   grd (inb i a2) <|
   grd (inb i b2) <|
   bif decide ((at_ 0 a2 i) > (at_ 0 b2 i)) then some 1
   else
   rec_ a2 b2 (w64 (i + 1))
  else
  bif decide ((a2.length : Int) < (b2.length : Int)) then some (-1)
  else
  bif decide ((a2.length : Int) > (b2.length : Int)) then some 1
  else
  some 0
 else
 bif decide ((a2.length : Int) < (b2.length : Int)) then some (-1)
 else
 bif decide ((a2.length : Int) > (b2.length : Int)) then some 1
 else
 some 0
def Z4s (N : Nat) : Nat -> I0 -> I0 -> Int -> Option (Int)
 | 0, _, _, _ => none
 | k_ + 1, a2, b2, i => Z69 N (Z4s N k_) a2 b2 i
def Z9j (N : Nat) (Z0b9 : I0 -> I0 -> Int -> Option (Int)) (a : I0) (b : I0) : Option (Int) :=
 Z0b9 a b 0
def Z4y (a : I0) (b : I0) : Option (Int) := Z9j N (Z4s N N) a b
def Z3a (a : Int × List Int) (b : Int × List Int) : Option (Int) :=
 bif decide (a.1 < b.1) then some (-1)
 else
 bif decide (a.1 > b.1) then some 1
 else
 (Z4y N a.2 b.2).bind fun r =>
 some r
def Z44 (rec_ : R0 -> A0 -> Int -> Option (Bool)) (d2 : R0) (d3 : A0) (i : Int) : Option (Bool) :=
 bif decide (i < (d3.length : Int)) then
  grd (inb i d3) <|
  (Z0y N d2 (at_ (0, []) d3 i)).bind fun r =>
  bif (!r) then some false
  else
  bif decide (i > 0) then
   grd (inb (w64 (i - 1)) d3) <|
   grd (inb i d3) <|
   (Z3a N (at_ (0, []) d3 (w64 (i - 1))) (at_ (0, []) d3 i)).bind fun r2 =>
   bif decide (r2 >= 0) then some false
   else
   rec_ d2 d3 (w64 (i + 1))
  else
  rec_ d2 d3 (w64 (i + 1))
 else
 (Z0e N d2).bind fun r3 =>
 bif r3 then some (decide ((d3.length : Int) <= 14))
 else
 some false
def Z21 (N : Nat) : Nat -> R0 -> A0 -> Int -> Option (Bool)
 | 0, _, _, _ => none
 | k_ + 1, d2, d3, i => Z44 N (Z21 N k_) d2 d3 i
def Z72 (N : Nat) (Z9v : R0 -> A0 -> Int -> Option (Bool)) (d : D0) : Option (Bool) :=
 Z9v d.1 d.2 0
def Z0 (d : D0) : Option (Bool) := Z72 N (Z21 N N) d
def Z6u (l : R0) (f : Int × List Int) : Option I0 :=
 (Z0y N l f).bind fun r =>
 bif (!r) then some []
 else
 grd (inb f.1 l) <|
 grd (subOk 0 (((at_ (⟨#[]⟩, (0, 0)) l f.1).2).2) f.2.length) <|
 grd (appOk [] (f.2.take (((at_ (⟨#[]⟩, (0, 0)) l f.1).2).2).toNat) 8) <|
 some (f.2.take (((at_ (⟨#[]⟩, (0, 0)) l f.1).2).2).toNat)
def Z23 (l : R0) (a : Int × List Int) (b : Int × List Int) : Option (Bool) :=
 (Z0y N l a).bind fun r =>
 bif r then
  (Z0y N l b).bind fun r2 =>
  bif r2 then
   bif (a.1 == b.1) then
    (Z6u N l a).bind fun r3 =>
    (Z6u N l b).bind fun r4 =>
    (Z4y N r3 r4).bind fun r5 =>
    some (r5 == 0)
   else
   some false
  else
  some false
 else
 some false
def Z14 (d : D0) (x : C0) : Option (Bool) :=
 (Z0 N d).bind fun r =>
 bif (!r) then some false
 else
 (Z6 N x.1 0 (w64 ((d.1.length : Int) - 1))).bind fun r2 =>
 bif (!r2) then some false
 else
 (Z6 N x.2.1 0 (w64 ((d.1.length : Int) - 1))).bind fun r3 =>
 bif (!r3) then some false
 else
 grd (inb x.1 d.1) <|
 grd (inb x.2.1 d.1) <|
 (Z6 N x.2.2.1 0 (w64 ((((at_ (⟨#[]⟩, (0, 0)) d.1 x.1).2).1) - 1))).bind fun r4 =>
 bif r4 then
  (Z6 N x.2.2.2.2.1 0 (w64 ((((at_ (⟨#[]⟩, (0, 0)) d.1 x.1).2).1) - 1))).bind fun r5 =>
  bif r5 then
   (Z6 N x.2.2.2.1 0 (w64 ((((at_ (⟨#[]⟩, (0, 0)) d.1 x.2.1).2).1) - 1))).bind fun r6 =>
   bif r6 then
    (Z6 N x.2.2.2.2.2.1 0 (w64 ((((at_ (⟨#[]⟩, (0, 0)) d.1 x.2.1).2).1) - 1))).bind fun r7 =>
    bif r7 then
     (Z6 N x.2.2.2.2.2.2 1 2).bind fun r8 =>
     some r8
    else
    some false
   else
   some false
  else
  some false
 else
 some false
def Z10 (d : D0) (x : C0) (i : Int) (k : Int) : Option (Bool) :=
 (Z14 N d x).bind fun r =>
 bif (!r) then some false
 else
 (Z6 N i 0 (w64 ((d.2.length : Int) - 1))).bind fun r2 =>
 bif (!r2) then some false
 else
 (Z6 N k 0 (w64 ((d.2.length : Int) - 1))).bind fun r3 =>
 bif (!r3) then some false
 else
 bif (i == k) then some false
 else
 grd (inb i d.2) <|
 grd (inb k d.2) <|
 bif (((at_ (0, []) d.2 i).1) != x.1) then some false
 else
 bif (((at_ (0, []) d.2 k).1) != x.2.1) then some false
 else
 grd (inb x.2.2.1 ((at_ (0, []) d.2 i).2)) <|
 grd (inb x.2.2.2.1 ((at_ (0, []) d.2 k).2)) <|
 bif ((at_ 0 ((at_ (0, []) d.2 i).2) x.2.2.1) != (at_ 0 ((at_ (0, []) d.2 k).2) x.2.2.2.1)) then some false
 else
 bif (x.2.2.2.2.2.2 == 1) then
  grd (inb x.2.2.2.2.1 ((at_ (0, []) d.2 i).2)) <|
  grd (inb x.2.2.2.2.2.1 ((at_ (0, []) d.2 k).2)) <|
  some ((at_ 0 ((at_ (0, []) d.2 i).2) x.2.2.2.2.1) == (at_ 0 ((at_ (0, []) d.2 k).2) x.2.2.2.2.2.1))
 else
 grd (inb x.2.2.2.2.1 ((at_ (0, []) d.2 i).2)) <|
 grd (inb x.2.2.2.2.2.1 ((at_ (0, []) d.2 k).2)) <|
 some (decide ((at_ 0 ((at_ (0, []) d.2 i).2) x.2.2.2.2.1) < (at_ 0 ((at_ (0, []) d.2 k).2) x.2.2.2.2.2.1)))
def Z4k (Z3n : (List C0) -> R0 -> A0 -> E0 -> Int -> Int -> Option E0) (rec_ : (List C0) -> R0 -> A0 -> E0 -> Int -> Int -> Bool -> Int -> Option E0) (l4 : List C0) (d6 : R0) (d7 : A0) (out3 : E0) (i3 : Int) (k2 : Int) (is_ : Bool) (n : Int) : Option E0 :=
 bif decide (n < (l4.length : Int)) then
  bif is_ then rec_ l4 d6 d7 out3 i3 k2 true (w64 (n + 1))
  else
  grd (inb n l4) <|
  (Z10 N (d6, d7) ((at_ (0, (0, (0, (0, (0, (0, 0)))))) l4 n).1, ((at_ (0, (0, (0, (0, (0, (0, 0)))))) l4 n).2).1, (((at_ (0, (0, (0, (0, (0, (0, 0)))))) l4 n).2).2).1, ((((at_ (0, (0, (0, (0, (0, (0, 0)))))) l4 n).2).2).2).1, (((((at_ (0, (0, (0, (0, (0, (0, 0)))))) l4 n).2).2).2).2).1, ((((((at_ (0, (0, (0, (0, (0, (0, 0)))))) l4 n).2).2).2).2).2)) i3 k2).bind fun r3 =>
  bif r3 then rec_ l4 d6 d7 out3 i3 k2 true (w64 (n + 1))
  else
  grd (inb n l4) <|
  (Z10 N (d6, d7) ((at_ (0, (0, (0, (0, (0, (0, 0)))))) l4 n).1, ((at_ (0, (0, (0, (0, (0, (0, 0)))))) l4 n).2).1, (((at_ (0, (0, (0, (0, (0, (0, 0)))))) l4 n).2).2).1, ((((at_ (0, (0, (0, (0, (0, (0, 0)))))) l4 n).2).2).2).1, (((((at_ (0, (0, (0, (0, (0, (0, 0)))))) l4 n).2).2).2).2).1, ((((((at_ (0, (0, (0, (0, (0, (0, 0)))))) l4 n).2).2).2).2).2)) k2 i3).bind fun r4 =>
  rec_ l4 d6 d7 out3 i3 k2 r4 (w64 (n + 1))
 else
 bif is_ then
  grd (appOk out3 [(i3, k2)] 16) <|
  Z3n l4 d6 d7 (out3 ++ [(i3, k2)]) i3 (w64 (k2 + 1))
 else
 Z3n l4 d6 d7 out3 i3 (w64 (k2 + 1))
def Z2m (Z3n : (List C0) -> R0 -> A0 -> E0 -> Int -> Int -> Option E0) (N : Nat) : Nat -> (List C0) -> R0 -> A0 -> E0 -> Int -> Int -> Bool -> Int -> Option E0
 | 0, _, _, _, _, _, _, _, _ => none
 | k_ + 1, l4, d6, d7, out3, i3, k2, is_, n => Z4k N Z3n (Z2m Z3n N k_) l4 d6 d7 out3 i3 k2 is_ n
def Z4l (Z3o : (List C0) -> R0 -> A0 -> E0 -> Int -> Option E0) (Z0a4 : (List C0) -> R0 -> A0 -> E0 -> Int -> Int -> Bool -> Int -> Option E0) (rec_ : (List C0) -> R0 -> A0 -> E0 -> Int -> Int -> Option E0) (l3 : List C0) (d4 : R0) (d5 : A0) (out2 : E0) (i2 : Int) (k : Int) : Option E0 :=
 bif decide (k < (d5.length : Int)) then
  grd (inb i2 d5) <|
  grd (inb k d5) <|
  (Z23 N d4 (at_ (0, []) d5 i2) (at_ (0, []) d5 k)).bind fun r2 =>
  Z0a4 l3 d4 d5 out2 i2 k r2 0
 else
 Z3o l3 d4 d5 out2 (w64 (i2 + 1))
def Z0v (Z3o : (List C0) -> R0 -> A0 -> E0 -> Int -> Option E0) (N : Nat) : Nat -> (List C0) -> R0 -> A0 -> E0 -> Int -> Int -> Option E0
 | 0, _, _, _, _, _, _ => none
 | k_ + 1, l3, d4, d5, out2, i2, k => Z4l N Z3o (Z2m (Z0v Z3o N k_) N N) (Z0v Z3o N k_) l3 d4 d5 out2 i2 k
def Z39 (Z0a5 : (List C0) -> R0 -> A0 -> E0 -> Int -> Int -> Option E0) (rec_ : (List C0) -> R0 -> A0 -> E0 -> Int -> Option E0) (l2 : List C0) (d2 : R0) (d3 : A0) (out : E0) (i : Int) : Option E0 :=
 bif decide (i < (d3.length : Int)) then
  (Z0 N (d2, d3)).bind fun r =>
  bif r then Z0a5 l2 d2 d3 out i (w64 (i + 1))
  else
  some out
 else
 some out
def Z1d (N : Nat) : Nat -> (List C0) -> R0 -> A0 -> E0 -> Int -> Option E0
 | 0, _, _, _, _, _ => none
 | k_ + 1, l2, d2, d3, out, i => Z39 N (Z0v (Z1d N k_) N N) (Z1d N k_) l2 d2 d3 out i
def Z7v (N : Nat) (Z0a6 : (List C0) -> R0 -> A0 -> E0 -> Int -> Option E0) (d : D0) (l : List C0) : Option E0 :=
 Z0a6 l d.1 d.2 [] 0
def Z2v (d : D0) (l : List C0) : Option E0 := Z7v N (Z1d N N) d l
def Z4m (rec_ : Int -> E0 -> Int -> Option (Bool)) (n2 : Int) (l2 : E0) (i : Int) : Option (Bool) :=
 bif decide (i < (l2.length : Int)) then
  grd (inb i l2) <|
  grd (inb i l2) <|
  (Z6 N ((at_ (0, 0) l2 i).1) 0 (w64 (((at_ (0, 0) l2 i).2) - 1))).bind fun r =>
  bif (!r) then some false
  else
  grd (inb i l2) <|
  (Z6 N ((at_ (0, 0) l2 i).2) 0 (w64 (n2 - 1))).bind fun r2 =>
  bif (!r2) then some false
  else
  bif decide (i > 0) then
   grd (inb i l2) <|
   grd (inb (w64 (i - 1)) l2) <|
   bif decide (((at_ (0, 0) l2 i).1) < ((at_ (0, 0) l2 (w64 (i - 1))).1)) then some false
   else
   grd (inb i l2) <|
   grd (inb (w64 (i - 1)) l2) <|
   bif (((at_ (0, 0) l2 i).1) == ((at_ (0, 0) l2 (w64 (i - 1))).1)) then
    grd (inb i l2) <|
    grd (inb (w64 (i - 1)) l2) <|
    bif decide (((at_ (0, 0) l2 i).2) <= ((at_ (0, 0) l2 (w64 (i - 1))).2)) then some false
    else
    rec_ n2 l2 (w64 (i + 1))
   else
   rec_ n2 l2 (w64 (i + 1))
  else
  rec_ n2 l2 (w64 (i + 1))
 else
 (Z6 N n2 0 14).bind fun r3 =>
 some r3
def Z2n (N : Nat) : Nat -> Int -> E0 -> Int -> Option (Bool)
 | 0, _, _, _ => none
 | k_ + 1, n2, l2, i => Z4m N (Z2n N k_) n2 l2 i
def Z7w (N : Nat) (Z0a7 : Int -> E0 -> Int -> Option (Bool)) (n : Int) (l : E0) : Option (Bool) :=
 Z0a7 n l 0
def Z1j (n : Int) (l : E0) : Option (Bool) := Z7w N (Z2n N N) n l
def Z8e (rec_ : Int -> I0 -> Int -> Option (Bool)) (n2 : Int) (s2 : I0) (i : Int) : Option (Bool) :=
 bif decide (i < (s2.length : Int)) then
  grd (inb i s2) <|
  (Z6 N (at_ 0 s2 i) 0 (w64 (n2 - 1))).bind fun r =>
  bif (!r) then some false
  else
  bif decide (i > 0) then
   grd (inb i s2) <|
   grd (inb (w64 (i - 1)) s2) <|
   bif decide ((at_ 0 s2 i) <= (at_ 0 s2 (w64 (i - 1)))) then some false
   else
   rec_ n2 s2 (w64 (i + 1))
  else
  rec_ n2 s2 (w64 (i + 1))
 else
 some true
def Z6q (N : Nat) : Nat -> Int -> I0 -> Int -> Option (Bool)
 | 0, _, _, _ => none
 | k_ + 1, n2, s2, i => Z8e N (Z6q N k_) n2 s2 i
def Z9w (N : Nat) (Z0be : Int -> I0 -> Int -> Option (Bool)) (n : Int) (s : I0) : Option (Bool) :=
 Z0be n s 0
def Z7x (n : Int) (s : I0) : Option (Bool) := Z9w N (Z6q N N) n s
def Z8f (N : Nat) (rec_ : I0 -> Int -> Int -> Option (Bool)) (l2 : I0) (x2 : Int) (i : Int) : Option (Bool) :=
 bif decide (i < (l2.length : Int)) then
  grd (inb i l2) <|
  bif ((at_ 0 l2 i) == x2) then some true
  else
  rec_ l2 x2 (w64 (i + 1))
 else
 some false
def Z6r (N : Nat) : Nat -> I0 -> Int -> Int -> Option (Bool)
 | 0, _, _, _ => none
 | k_ + 1, l2, x2, i => Z8f N (Z6r N k_) l2 x2 i
def Z9x (N : Nat) (Z0bf : I0 -> Int -> Int -> Option (Bool)) (l : I0) (x : Int) : Option (Bool) :=
 Z0bf l x 0
def Z3q (l : I0) (x : Int) : Option (Bool) := Z9x N (Z6r N N) l x
def Z4n (rec_ : E0 -> I0 -> Int -> Option (Bool)) (l2 : E0) (s2 : I0) (i : Int) : Option (Bool) :=
 bif decide (i < (l2.length : Int)) then
  grd (inb i l2) <|
  (Z3q N s2 ((at_ (0, 0) l2 i).1)).bind fun r =>
  bif r then
   grd (inb i l2) <|
   (Z3q N s2 ((at_ (0, 0) l2 i).2)).bind fun r2 =>
   bif r2 then some false
   else
   rec_ l2 s2 (w64 (i + 1))
  else
  rec_ l2 s2 (w64 (i + 1))
 else
 some true
def Z2o (N : Nat) : Nat -> E0 -> I0 -> Int -> Option (Bool)
 | 0, _, _, _ => none
 | k_ + 1, l2, s2, i => Z4n N (Z2o N k_) l2 s2 i
def Z7y (N : Nat) (Z0a8 : E0 -> I0 -> Int -> Option (Bool)) (l : E0) (s : I0) : Option (Bool) :=
 Z0a8 l s 0
def Z1k (l : E0) (s : I0) : Option (Bool) := Z7y N (Z2o N N) l s
def Z4z (l : E0) (s : I0) (x : Int) : Option (Bool) :=
 (Z3q N s x).bind fun r =>
 bif (!r) then
  grd (appOk [] s 8) <|
  grd (appOk s [x] 8) <|
  (Z1k N l (s ++ [x])).bind fun r2 =>
  some r2
 else
 some false
def Z2i (rec_ : Int -> E0 -> I0 -> Int -> Option (Bool)) (n2 : Int) (l2 : E0) (s2 : I0) (x : Int) : Option (Bool) :=
 bif decide (x < n2) then
  (Z4z N l2 s2 x).bind fun r4 =>
  bif r4 then some false
  else
  rec_ n2 l2 s2 (w64 (x + 1))
 else
 some true
def Z15 (N : Nat) : Nat -> Int -> E0 -> I0 -> Int -> Option (Bool)
 | 0, _, _, _, _ => none
 | k_ + 1, n2, l2, s2, x => Z2i N (Z15 N k_) n2 l2 s2 x
def Z54 (Z92 : Int -> E0 -> I0 -> Int -> Option (Bool)) (n : Int) (l : E0) (s : I0) : Option (Bool) :=
 (Z1j N n l).bind fun r =>
 bif (!r) then some false
 else
 (Z7x N n s).bind fun r2 =>
 bif (!r2) then some false
 else
 (Z1k N l s).bind fun r3 =>
 bif (!r3) then some false
 else
 Z92 n l s 0
def Z12 (n : Int) (l : E0) (s : I0) : Option (Bool) := Z54 N (Z15 N N) n l s
def Z7z (N : Nat) (Rf : Int -> E0 -> I0 -> Int -> Option L0) (rec_ : Int -> E0 -> I0 -> Int -> L0 -> Bool -> Int -> Option L0) (n2 : Int) (l2 : E0) (s2 : I0) (x2 : Int) (out : L0) (met : Bool) (i : Int) : Option L0 :=
 bif decide (i < (l2.length : Int)) then
  bif met then rec_ n2 l2 s2 x2 out true (w64 (i + 1))
  else
  grd (inb i l2) <|
  bif (((at_ (0, 0) l2 i).1) == x2) then rec_ n2 l2 s2 x2 out true (w64 (i + 1))
  else
  grd (inb i l2) <|
  rec_ n2 l2 s2 x2 out (((at_ (0, 0) l2 i).2) == x2) (w64 (i + 1))
 else
 bif met then
  (Rf n2 l2 s2 (w64 (x2 + 1))).bind fun r4 =>
  grd (appOk out r4 24) <|
  some (out ++ r4)
 else
 some out
def Z4t (N : Nat) (Rf : Int -> E0 -> I0 -> Int -> Option L0) : Nat -> Int -> E0 -> I0 -> Int -> L0 -> Bool -> Int -> Option L0
 | 0, _, _, _, _, _, _, _ => none
 | k_ + 1, n2, l2, s2, x2, out, met, i => Z7z N Rf (Z4t N Rf k_) n2 l2 s2 x2 out met i
def Z8v (Rf : Int -> E0 -> I0 -> Int -> Option L0) (Z0a3 : Int -> E0 -> I0 -> Int -> L0 -> Bool -> Int -> Option L0) (n : Int) (l : E0) (s : I0) (x : Int) : Option L0 :=
 bif (x == n) then
  (Z12 N n l s).bind fun r =>
  bif r then
   grd (appOk [] s 8) <|
   some [s]
  else
  some []
 else
 (Z4z N l s x).bind fun r2 =>
 bif r2 then
  grd (appOk [] s 8) <|
  grd (appOk s [x] 8) <|
  (Rf n l (s ++ [x]) (w64 (x + 1))).bind fun r3 =>
  Z0a3 n l s x r3 false 0
 else
 Z0a3 n l s x [] false 0
def Z33 (N : Nat) : Nat -> Int -> E0 -> I0 -> Int -> Option L0
 | 0, _, _, _, _ => none
 | k_ + 1, n, l, s, x => Z8v N (Z33 N k_) (Z4t N (Z33 N k_) N) n l s x
def Z88 (n : Int) (l : E0) (s : I0) (x : Int) : Option L0 := Z33 N N n l s x
def Z0q (n : Int) (l : E0) : Option L0 :=
 (Z1j N n l).bind fun r =>
 bif (!r) then some []
 else
 (Z88 N n l [] 0).bind fun r2 =>
 some r2
def Z2w (d : D0) (l : List C0) : Option L0 :=
 (Z0 N d).bind fun r =>
 bif (!r) then some []
 else
 (Z2v N d l).bind fun r2 =>
 (Z0q N (d.2.length : Int) r2).bind fun r3 =>
 some r3
def Z73 (Z0w : R0 -> Int -> A0 -> I0 -> (List Bool) -> Int -> Option (Bool)) (rec_ : R0 -> Int -> A0 -> I0 -> (List Bool) -> Int -> Int -> I0 -> Int -> Option (Bool)) (l4 : R0) (q8 : Int) (q9 : A0) (q10 : I0) (met3 : List Bool) (i3 : Int) (a3 : Int) (a4 : I0) (k2 : Int) : Option (Bool) :=
 bif decide (k2 < (a4.length : Int)) then
  grd (inb k2 a4) <|
  (Z6 N (at_ 0 a4 k2) (-10) (w64 (q8 - 1))).bind fun r5 =>
  bif (!r5) then some false
  else
  grd (inb k2 a4) <|
  bif decide ((at_ 0 a4 k2) >= 0) then
   grd (inb k2 a4) <|
   grd (inb (at_ 0 a4 k2) met3) <|
   grd (inb (at_ 0 a4 k2) met3) <|
   letv (met3.set (at_ 0 a4 k2).toNat true) fun u =>
   rec_ l4 q8 q9 q10 u i3 a3 a4 (w64 (k2 + 1))
  else
  rec_ l4 q8 q9 q10 met3 i3 a3 a4 (w64 (k2 + 1))
 else
 Z0w l4 q8 q9 q10 met3 (w64 (i3 + 1))
def Z1l (Z0w : R0 -> Int -> A0 -> I0 -> (List Bool) -> Int -> Option (Bool)) (N : Nat) : Nat -> R0 -> Int -> A0 -> I0 -> (List Bool) -> Int -> Int -> I0 -> Int -> Option (Bool)
 | 0, _, _, _, _, _, _, _, _, _ => none
 | k_ + 1, l4, q8, q9, q10, met3, i3, a3, a4, k2 => Z73 N Z0w (Z1l Z0w N k_) l4 q8 q9 q10 met3 i3 a3 a4 k2
def Z50 (N : Nat) (Z0w : R0 -> Int -> A0 -> I0 -> (List Bool) -> Int -> Option (Bool)) (Z0ad : R0 -> Int -> A0 -> I0 -> (List Bool) -> Int -> Int -> I0 -> Int -> Option (Bool)) (rec_ : R0 -> Int -> A0 -> I0 -> (List Bool) -> Int -> Int -> I0 -> Int -> Option (Bool)) (l3 : R0) (q5 : Int) (q6 : A0) (q7 : I0) (met2 : List Bool) (i2 : Int) (a : Int) (a2 : I0) (k : Int) : Option (Bool) :=
 bif decide (k < i2) then
  grd (inb k q6) <|
  bif (((at_ (0, []) q6 k).1) == a) then some false
  else
  rec_ l3 q5 q6 q7 met2 i2 a a2 (w64 (k + 1))
 else
 Z0ad l3 q5 q6 q7 met2 i2 a a2 0
def Z24 (Z0w : R0 -> Int -> A0 -> I0 -> (List Bool) -> Int -> Option (Bool)) (N : Nat) : Nat -> R0 -> Int -> A0 -> I0 -> (List Bool) -> Int -> Int -> I0 -> Int -> Option (Bool)
 | 0, _, _, _, _, _, _, _, _, _ => none
 | k_ + 1, l3, q5, q6, q7, met2, i2, a, a2, k => Z50 N Z0w (Z1l Z0w N N) (Z24 Z0w N k_) l3 q5 q6 q7 met2 i2 a a2 k
def Z51 (rec_ : Int -> A0 -> I0 -> Int -> Option (Bool)) (q14 : Int) (q15 : A0) (q16 : I0) (i4 : Int) : Option (Bool) :=
 bif decide (i4 < (q16.length : Int)) then
  grd (inb i4 q16) <|
  (Z6 N (at_ 0 q16 i4) 0 (w64 (q14 - 1))).bind fun r6 =>
  bif (!r6) then some false
  else
  bif decide (i4 > 0) then
   grd (inb i4 q16) <|
   grd (inb (w64 (i4 - 1)) q16) <|
   bif decide ((at_ 0 q16 i4) <= (at_ 0 q16 (w64 (i4 - 1)))) then some false
   else
   rec_ q14 q15 q16 (w64 (i4 + 1))
  else
  rec_ q14 q15 q16 (w64 (i4 + 1))
 else
 some true
def Z25 (N : Nat) : Nat -> Int -> A0 -> I0 -> Int -> Option (Bool)
 | 0, _, _, _, _ => none
 | k_ + 1, q14, q15, q16, i4 => Z51 N (Z25 N k_) q14 q15 q16 i4
def Z52 (N : Nat) (Z0ae : Int -> A0 -> I0 -> Int -> Option (Bool)) (rec_ : Int -> A0 -> I0 -> (List Bool) -> Int -> Option (Bool)) (q11 : Int) (q12 : A0) (q13 : I0) (met4 : List Bool) (v : Int) : Option (Bool) :=
 bif decide (v < q11) then
  grd (inb v met4) <|
  bif (!(at_ false met4 v)) then some false
  else
  rec_ q11 q12 q13 met4 (w64 (v + 1))
 else
 Z0ae q11 q12 q13 0
def Z26 (N : Nat) : Nat -> Int -> A0 -> I0 -> (List Bool) -> Int -> Option (Bool)
 | 0, _, _, _, _, _ => none
 | k_ + 1, q11, q12, q13, met4, v => Z52 N (Z25 N N) (Z26 N k_) q11 q12 q13 met4 v
def Z74 (Z0af : R0 -> Int -> A0 -> I0 -> (List Bool) -> Int -> Int -> I0 -> Int -> Option (Bool)) (Z0ag : Int -> A0 -> I0 -> (List Bool) -> Int -> Option (Bool)) (rec_ : R0 -> Int -> A0 -> I0 -> (List Bool) -> Int -> Option (Bool)) (l2 : R0) (q2 : Int) (q3 : A0) (q4 : I0) (met : List Bool) (i : Int) : Option (Bool) :=
 bif decide (i < (q3.length : Int)) then
  grd (inb i q3) <|
  (Z6 N ((at_ (0, []) q3 i).1) 0 (w64 ((l2.length : Int) - 1))).bind fun r4 =>
  bif (!r4) then some false
  else
  grd (inb ((at_ (0, []) q3 i).1) l2) <|
  bif ((((at_ (0, []) q3 i).2).length : Int) != (((at_ (⟨#[]⟩, (0, 0)) l2 ((at_ (0, []) q3 i).1)).2).1)) then some false
  else
  Z0af l2 q2 q3 q4 met i ((at_ (0, []) q3 i).1) ((at_ (0, []) q3 i).2) 0
 else
 Z0ag q2 q3 q4 met 0
def Z34 (N : Nat) : Nat -> R0 -> Int -> A0 -> I0 -> (List Bool) -> Int -> Option (Bool)
 | 0, _, _, _, _, _, _ => none
 | k_ + 1, l2, q2, q3, q4, met, i => Z74 N (Z24 (Z34 N k_) N N) (Z26 N N) (Z34 N k_) l2 q2 q3 q4 met i
def Z8a (Z0ah : R0 -> Int -> A0 -> I0 -> (List Bool) -> Int -> Option (Bool)) (l : R0) (q : Q0) : Option (Bool) :=
 (Z0e N l).bind fun r =>
 bif (!r) then some false
 else
 (Z6 N q.1 0 4).bind fun r2 =>
 bif (!r2) then some false
 else
 (Z6 N (q.2.1.length : Int) 1 3).bind fun r3 =>
 bif (!r3) then some false
 else
 grd (makeOk 4 1) <|
 Z0ah l q.1 q.2.1 q.2.2 (List.replicate (4 : Int).toNat false) 0
def Z3b (l : R0) (q : Q0) : Option (Bool) := Z8a N (Z34 N N) l q
def Z17 (d : D0) (q : Q0) : Option (Bool) :=
 (Z0 N d).bind fun r =>
 bif r then
  (Z3b N d.1 q).bind fun r2 =>
  some r2
 else
 some false
def Z8q (N : Nat) (rec_ : Int -> I0 -> Option I0) (n2 : Int) (l : I0) : Option I0 :=
 bif decide ((l.length : Int) < n2) then
  grd (appOk l [(-1)] 8) <|
  rec_ n2 (l ++ [(-1)])
 else
 some l
def Z6v (N : Nat) : Nat -> Int -> I0 -> Option I0
 | 0, _, _ => none
 | k_ + 1, n2, l => Z8q N (Z6v N k_) n2 l
def Z99 (N : Nat) (Z0b1 : Int -> I0 -> Option I0) (n : Int) : Option I0 :=
 Z0b1 n []
def Z55 (n : Int) : Option I0 := Z99 N (Z6v N N) n
def Z8r (N : Nat) (rec_ : Int -> I0 -> Int -> I0 -> I0 -> Int -> Option (List Int × Bool)) (a2 : Int) (a3 : I0) (f2 : Int) (f3 : I0) (x : I0) (i : Int) : Option (List Int × Bool) :=
 bif decide (i < (a3.length : Int)) then
  grd (inb i a3) <|
  bif decide ((at_ 0 a3 i) < 0) then
   grd (inb i f3) <|
   bif ((w64 ((-1) - (at_ 0 a3 i))) != (at_ 0 f3 i)) then some (x, false)
   else
   rec_ a2 a3 f2 f3 x (w64 (i + 1))
  else
  grd (inb (at_ 0 a3 i) x) <|
  bif decide ((at_ 0 x (at_ 0 a3 i)) >= 0) then
   grd (inb (at_ 0 a3 i) x) <|
   grd (inb i f3) <|
   bif ((at_ 0 x (at_ 0 a3 i)) != (at_ 0 f3 i)) then some (x, false)
   else
   grd (inb i f3) <|
   grd (inb (at_ 0 a3 i) x) <|
   grd (inb (at_ 0 a3 i) x) <|
   letv (x.set (at_ 0 a3 i).toNat (at_ 0 f3 i)) fun u =>
   rec_ a2 a3 f2 f3 u (w64 (i + 1))
  else
  grd (inb i f3) <|
  grd (inb (at_ 0 a3 i) x) <|
  grd (inb (at_ 0 a3 i) x) <|
  letv (x.set (at_ 0 a3 i).toNat (at_ 0 f3 i)) fun u2 =>
  rec_ a2 a3 f2 f3 u2 (w64 (i + 1))
 else
 some (x, true)
def Z6w (N : Nat) : Nat -> Int -> I0 -> Int -> I0 -> I0 -> Int -> Option (List Int × Bool)
 | 0, _, _, _, _, _, _ => none
 | k_ + 1, a2, a3, f2, f3, x, i => Z8r N (Z6w N k_) a2 a3 f2 f3 x i
def Z9a (N : Nat) (Z0b2 : Int -> I0 -> Int -> I0 -> I0 -> Int -> Option (List Int × Bool)) (a : Int × List Int) (f : Int × List Int) (vals : I0) : Option (List Int × Bool) :=
 grd (appOk [] vals 8) <|
 bif (f.1 != a.1) then some (vals, false)
 else
 bif ((f.2.length : Int) != (a.2.length : Int)) then some (vals, false)
 else
 Z0b2 a.1 a.2 f.1 f.2 vals 0
def Z6a (a : Int × List Int) (f : Int × List Int) (vals : I0) : Option (List Int × Bool) := Z9a N (Z6w N N) a f vals
def Z8s (Rf : D0 -> Q0 -> Int -> I0 -> I0 -> Option (List (List Int × List Int))) (rec_ : Int -> I0 -> I0 -> R0 -> A0 -> Int -> A0 -> I0 -> (List (List Int × List Int)) -> Int -> Option (List (List Int × List Int))) (k2 : Int) (vals2 : I0) (facts2 : I0) (d2 : R0) (d3 : A0) (q2 : Int) (q3 : A0) (q4 : I0) (out : List (List Int × List Int)) (i : Int) : Option (List (List Int × List Int)) :=
 bif decide (i < (d3.length : Int)) then
  grd (inb k2 q3) <|
  grd (inb i d3) <|
  (Z6a N (at_ (0, []) q3 k2) (at_ (0, []) d3 i) vals2).bind fun p_r =>
  bif p_r.2 then
   grd (appOk [] facts2 8) <|
   grd (appOk facts2 [i] 8) <|
   (Rf (d2, d3) (q2, q3, q4) (w64 (k2 + 1)) p_r.1 (facts2 ++ [i])).bind fun r3 =>
   grd (appOk out r3 48) <|
   rec_ k2 vals2 facts2 d2 d3 q2 q3 q4 (out ++ r3) (w64 (i + 1))
  else
  rec_ k2 vals2 facts2 d2 d3 q2 q3 q4 out (w64 (i + 1))
 else
 some out
def Z6x (N : Nat) (Rf : D0 -> Q0 -> Int -> I0 -> I0 -> Option (List (List Int × List Int))) : Nat -> Int -> I0 -> I0 -> R0 -> A0 -> Int -> A0 -> I0 -> (List (List Int × List Int)) -> Int -> Option (List (List Int × List Int))
 | 0, _, _, _, _, _, _, _, _, _, _ => none
 | k_ + 1, k2, vals2, facts2, d2, d3, q2, q3, q4, out, i => Z8s N Rf (Z6x N Rf k_) k2 vals2 facts2 d2 d3 q2 q3 q4 out i
def Z8p (N : Nat) (Rf : D0 -> Q0 -> Int -> I0 -> I0 -> Option (List (List Int × List Int))) (Z0b3 : Int -> I0 -> I0 -> R0 -> A0 -> Int -> A0 -> I0 -> (List (List Int × List Int)) -> Int -> Option (List (List Int × List Int))) (d : D0) (q : Q0) (k : Int) (vals : I0) (facts : I0) : Option (List (List Int × List Int)) :=
 bif (k == (q.2.1.length : Int)) then
  grd (appOk [] vals 8) <|
  grd (appOk [] facts 8) <|
  some [(vals, facts)]
 else
 Z0b3 k vals facts d.1 d.2 q.1 q.2.1 q.2.2 [] 0
def Z35 (N : Nat) : Nat -> D0 -> Q0 -> Int -> I0 -> I0 -> Option (List (List Int × List Int))
 | 0, _, _, _, _, _ => none
 | k_ + 1, d, q, k, vals, facts => Z8p N (Z35 N k_) (Z6x N (Z35 N k_) N) d q k vals facts
def Z7k (d : D0) (q : Q0) (k : Int) (vals : I0) (facts : I0) : Option (List (List Int × List Int)) := Z35 N N d q k vals facts
def Z2f (d : D0) (q : Q0) : Option (List (List Int × List Int)) :=
 (Z17 N d q).bind fun r =>
 bif (!r) then some []
 else
 (Z55 N q.1).bind fun r2 =>
 (Z7k N d q 0 r2 []).bind fun r3 =>
 some r3
def Z6y (N : Nat) (Z5v : I0 -> I0 -> Int -> Option I0) (rec_ : I0 -> I0 -> Int -> Int -> Option I0) (l3 : I0) (out2 : I0) (i2 : Int) (k : Int) : Option I0 :=
 bif decide (k > 0) then
  grd (inb (w64 (k - 1)) out2) <|
  grd (inb i2 l3) <|
  bif decide ((at_ 0 out2 (w64 (k - 1))) > (at_ 0 l3 i2)) then rec_ l3 out2 i2 (w64 (k - 1))
  else
  grd (subOk 0 k out2.length) <|
  grd (appOk [] (out2.take k.toNat) 8) <|
  grd (inb i2 l3) <|
  grd (appOk (out2.take k.toNat) [(at_ 0 l3 i2)] 8) <|
  grd (subOk k (out2.length : Int) out2.length) <|
  grd (appOk ((out2.take k.toNat) ++ [(at_ 0 l3 i2)]) (out2.drop k.toNat) 8) <|
  Z5v l3 (((out2.take k.toNat) ++ [(at_ 0 l3 i2)]) ++ (out2.drop k.toNat)) (w64 (i2 + 1))
 else
 grd (subOk 0 k out2.length) <|
 grd (appOk [] (out2.take k.toNat) 8) <|
 grd (inb i2 l3) <|
 grd (appOk (out2.take k.toNat) [(at_ 0 l3 i2)] 8) <|
 grd (subOk k (out2.length : Int) out2.length) <|
 grd (appOk ((out2.take k.toNat) ++ [(at_ 0 l3 i2)]) (out2.drop k.toNat) 8) <|
 Z5v l3 (((out2.take k.toNat) ++ [(at_ 0 l3 i2)]) ++ (out2.drop k.toNat)) (w64 (i2 + 1))
def Z4u (Z5v : I0 -> I0 -> Int -> Option I0) (N : Nat) : Nat -> I0 -> I0 -> Int -> Int -> Option I0
 | 0, _, _, _, _ => none
 | k_ + 1, l3, out2, i2, k => Z6y N Z5v (Z4u Z5v N k_) l3 out2 i2 k
def Z8l (N : Nat) (Z0av : I0 -> I0 -> Int -> Int -> Option I0) (rec_ : I0 -> I0 -> Int -> Option I0) (l2 : I0) (out : I0) (i : Int) : Option I0 :=
 bif decide (i < (l2.length : Int)) then Z0av l2 out i (out.length : Int)
 else
 some out
def Z2x (N : Nat) : Nat -> I0 -> I0 -> Int -> Option I0
 | 0, _, _, _ => none
 | k_ + 1, l2, out, i => Z8l N (Z4u (Z2x N k_) N N) (Z2x N k_) l2 out i
def Z90 (N : Nat) (Z0aw : I0 -> I0 -> Int -> Option I0) (l : I0) : Option I0 :=
 Z0aw l [] 0
def Z5s (l : I0) : Option I0 := Z90 N (Z2x N N) l
def Z8g (rec_ : I0 -> R0 -> A0 -> Int -> Option (Bool)) (l2 : I0) (d2 : R0) (d3 : A0) (i : Int) : Option (Bool) :=
 bif decide (i < (l2.length : Int)) then
  grd (inb i l2) <|
  (Z6 N (at_ 0 l2 i) 0 (w64 ((d3.length : Int) - 1))).bind fun r =>
  bif (!r) then some false
  else
  bif decide (i > 0) then
   grd (inb i l2) <|
   grd (inb (w64 (i - 1)) l2) <|
   bif decide ((at_ 0 l2 i) <= (at_ 0 l2 (w64 (i - 1)))) then some false
   else
   rec_ l2 d2 d3 (w64 (i + 1))
  else
  rec_ l2 d2 d3 (w64 (i + 1))
 else
 some true
def Z6s (N : Nat) : Nat -> I0 -> R0 -> A0 -> Int -> Option (Bool)
 | 0, _, _, _, _ => none
 | k_ + 1, l2, d2, d3, i => Z8g N (Z6s N k_) l2 d2 d3 i
def Z9y (N : Nat) (Z0bg : I0 -> R0 -> A0 -> Int -> Option (Bool)) (d : D0) (l : I0) : Option (Bool) :=
 Z0bg l d.1 d.2 0
def Z80 (d : D0) (l : I0) : Option (Bool) := Z9y N (Z6s N N) d l
def Z7l (N : Nat) (rec_ : I0 -> R0 -> A0 -> R0 -> A0 -> R0 -> A0 -> Int -> Option (D0 × Bool)) (l2 : I0) (d2 : R0) (d3 : A0) (t4 : R0) (t42 : A0) (x : R0) (x2 : A0) (i : Int) : Option (D0 × Bool) :=
 bif decide (i < (l2.length : Int)) then
  grd (inb i l2) <|
  grd (inb (at_ 0 l2 i) d3) <|
  grd (appOk [] ((at_ (0, []) d3 (at_ 0 l2 i)).2) 8) <|
  grd (appOk x2 [(at_ (0, []) d3 (at_ 0 l2 i))] 32) <|
  rec_ l2 d2 d3 t4 t42 x (x2 ++ [(at_ (0, []) d3 (at_ 0 l2 i))]) (w64 (i + 1))
 else
 some ((x, x2), true)
def Z4q (N : Nat) : Nat -> I0 -> R0 -> A0 -> R0 -> A0 -> R0 -> A0 -> Int -> Option (D0 × Bool)
 | 0, _, _, _, _, _, _, _, _ => none
 | k_ + 1, l2, d2, d3, t4, t42, x, x2, i => Z7l N (Z4q N k_) l2 d2 d3 t4 t42 x x2 i
def Z8m (Z0ao : I0 -> R0 -> A0 -> R0 -> A0 -> R0 -> A0 -> Int -> Option (D0 × Bool)) (d : D0) (l : I0) : Option (D0 × Bool) :=
 (Z0 N d).bind fun r =>
 bif (!r) then some (([], []), false)
 else
 (Z80 N d l).bind fun r2 =>
 bif (!r2) then some (([], []), false)
 else
 grd (appOk [] d.1 32) <|
 Z0ao l d.1 d.2 [] [] d.1 [] 0
def Z3w (d : D0) (l : I0) : Option (D0 × Bool) := Z8m N (Z4q N N) d l
def Z7g (rec_ : Int -> R0 -> A0 -> I0 -> Int -> Option I0) (i2 : Int) (d2 : R0) (d3 : A0) (out : I0) (k : Int) : Option I0 :=
 bif decide (k < (d3.length : Int)) then
  (Z0 N (d2, d3)).bind fun r =>
  bif r then
   (Z6 N i2 0 (w64 ((d3.length : Int) - 1))).bind fun r2 =>
   bif r2 then
    grd (inb i2 d3) <|
    grd (inb k d3) <|
    (Z23 N d2 (at_ (0, []) d3 i2) (at_ (0, []) d3 k)).bind fun r3 =>
    bif r3 then
     grd (appOk out [k] 8) <|
     rec_ i2 d2 d3 (out ++ [k]) (w64 (k + 1))
    else
    rec_ i2 d2 d3 out (w64 (k + 1))
   else
   some out
  else
  some out
 else
 some out
def Z5j (N : Nat) : Nat -> Int -> R0 -> A0 -> I0 -> Int -> Option I0
 | 0, _, _, _, _, _ => none
 | k_ + 1, i2, d2, d3, out, k => Z7g N (Z5j N k_) i2 d2 d3 out k
def Z9b (N : Nat) (Z0b4 : Int -> R0 -> A0 -> I0 -> Int -> Option I0) (d : D0) (i : Int) : Option I0 :=
 Z0b4 i d.1 d.2 [] 0
def Z6b (d : D0) (i : Int) : Option I0 := Z9b N (Z5j N N) d i
def Z6c (rec_ : R0 -> A0 -> L0 -> Int -> Option L0) (d2 : R0) (d3 : A0) (out : L0) (i : Int) : Option L0 :=
 bif decide (i < (d3.length : Int)) then
  (Z0 N (d2, d3)).bind fun r =>
  bif r then
   (Z6b N (d2, d3) i).bind fun r2 =>
   grd (inb 0 r2) <|
   bif ((at_ 0 r2 0) == i) then
    grd (appOk out [r2] 24) <|
    rec_ d2 d3 (out ++ [r2]) (w64 (i + 1))
   else
   rec_ d2 d3 out (w64 (i + 1))
  else
  some out
 else
 some out
def Z4v (N : Nat) : Nat -> R0 -> A0 -> L0 -> Int -> Option L0
 | 0, _, _, _, _ => none
 | k_ + 1, d2, d3, out, i => Z6c N (Z4v N k_) d2 d3 out i
def Z9k (N : Nat) (Z0ba : R0 -> A0 -> L0 -> Int -> Option L0) (d : D0) : Option L0 :=
 Z0ba d.1 d.2 [] 0
def Z75 (d : D0) : Option L0 := Z9k N (Z4v N N) d
def Z4g (d : D0) : Option (Bool) :=
 (Z0 N d).bind fun r =>
 bif r then
  (Z75 N d).bind fun r2 =>
  some ((r2.length : Int) == (d.2.length : Int))
 else
 some false
def Z1m (d : D0) (l : I0) : Option (Bool) :=
 (Z3w N d l).bind fun p_r =>
 bif p_r.2 then
  (Z4g N p_r.1).bind fun r3 =>
  some r3
 else
 some false
def Z8b (rec_ : R0 -> A0 -> L0 -> (List (List Int × List Int)) -> Int -> Option L0) (d2 : R0) (d3 : A0) (out : L0) (l : List (List Int × List Int)) (i : Int) : Option L0 :=
 bif decide (i < (l.length : Int)) then
  grd (inb i l) <|
  (Z5s N ((at_ ([], []) l i).2)).bind fun r2 =>
  (Z1m N (d2, d3) r2).bind fun r3 =>
  bif r3 then
   grd (appOk out [r2] 24) <|
   rec_ d2 d3 (out ++ [r2]) l (w64 (i + 1))
  else
  rec_ d2 d3 out l (w64 (i + 1))
 else
 some out
def Z5w (N : Nat) : Nat -> R0 -> A0 -> L0 -> (List (List Int × List Int)) -> Int -> Option L0
 | 0, _, _, _, _, _ => none
 | k_ + 1, d2, d3, out, l, i => Z8b N (Z5w N k_) d2 d3 out l i
def Z8w (Z0au : R0 -> A0 -> L0 -> (List (List Int × List Int)) -> Int -> Option L0) (d : D0) (q : Q0) : Option L0 :=
 (Z2f N d q).bind fun r =>
 Z0au d.1 d.2 [] r 0
def Z4w (d : D0) (q : Q0) : Option L0 := Z8w N (Z5w N N) d q
def Z8x (Z8h : L0 -> I0 -> Int -> Option (Bool)) (rec_ : L0 -> I0 -> Int -> Bool -> Int -> Option (Bool)) (l3 : L0) (s3 : I0) (i2 : Int) (all : Bool) (k : Int) : Option (Bool) :=
 grd (inb i2 l3) <|
 bif decide (k < ((at_ [] l3 i2).length : Int)) then
  bif all then
   grd (inb i2 l3) <|
   grd (inb k (at_ [] l3 i2)) <|
   (Z3q N s3 (at_ 0 (at_ [] l3 i2) k)).bind fun r =>
   rec_ l3 s3 i2 r (w64 (k + 1))
  else
  rec_ l3 s3 i2 false (w64 (k + 1))
 else
 bif all then some true
 else
 Z8h l3 s3 (w64 (i2 + 1))
def Z7m (Z8h : L0 -> I0 -> Int -> Option (Bool)) (N : Nat) : Nat -> L0 -> I0 -> Int -> Bool -> Int -> Option (Bool)
 | 0, _, _, _, _, _ => none
 | k_ + 1, l3, s3, i2, all, k => Z8x N Z8h (Z7m Z8h N k_) l3 s3 i2 all k
def Z81 (N : Nat) (Z0bb : L0 -> I0 -> Int -> Bool -> Int -> Option (Bool)) (rec_ : L0 -> I0 -> Int -> Option (Bool)) (l2 : L0) (s2 : I0) (i : Int) : Option (Bool) :=
 bif decide (i < (l2.length : Int)) then Z0bb l2 s2 i true 0
 else
 some false
def Z36 (N : Nat) : Nat -> L0 -> I0 -> Int -> Option (Bool)
 | 0, _, _, _ => none
 | k_ + 1, l2, s2, i => Z81 N (Z7m (Z36 N k_) N N) (Z36 N k_) l2 s2 i
def Z9l (N : Nat) (Z0bc : L0 -> I0 -> Int -> Option (Bool)) (l : L0) (s : I0) : Option (Bool) :=
 Z0bc l s 0
def Z89 (l : L0) (s : I0) : Option (Bool) := Z9l N (Z36 N N) l s
def Z40 (l : L0) (s : I0) : Option (Bool) :=
 (Z89 N l s).bind fun r =>
 some r
def Z7h (rec_ : L0 -> Bool -> R0 -> A0 -> Int -> A0 -> I0 -> L0 -> Int -> Option (List Int × Bool)) (sets2 : L0) (want2 : Bool) (d2 : R0) (d3 : A0) (q2 : Int) (q3 : A0) (q4 : I0) (need : L0) (i : Int) : Option (List Int × Bool) :=
 bif decide (i < (sets2.length : Int)) then
  (Z17 N (d2, d3) (q2, q3, q4)).bind fun r2 =>
  bif r2 then
   grd (inb i sets2) <|
   (Z40 N need (at_ [] sets2 i)).bind fun r3 =>
   bif (r3 == want2) then
    grd (inb i sets2) <|
    grd (appOk [] (at_ [] sets2 i) 8) <|
    some ((at_ [] sets2 i), true)
   else
   rec_ sets2 want2 d2 d3 q2 q3 q4 need (w64 (i + 1))
  else
  some ([], false)
 else
 some ([], false)
def Z4a (N : Nat) : Nat -> L0 -> Bool -> R0 -> A0 -> Int -> A0 -> I0 -> L0 -> Int -> Option (List Int × Bool)
 | 0, _, _, _, _, _, _, _, _, _ => none
 | k_ + 1, sets2, want2, d2, d3, q2, q3, q4, need, i => Z7h N (Z4a N k_) sets2 want2 d2 d3 q2 q3 q4 need i
def Z9c (Z0b5 : L0 -> Bool -> R0 -> A0 -> Int -> A0 -> I0 -> L0 -> Int -> Option (List Int × Bool)) (d : D0) (q : Q0) (sets : L0) (want : Bool) : Option (List Int × Bool) :=
 (Z4w N d q).bind fun r =>
 Z0b5 sets want d.1 d.2 q.1 q.2.1 q.2.2 r 0
def Z7n (d : D0) (q : Q0) (sets : L0) (want : Bool) : Option (List Int × Bool) := Z9c N (Z4a N N) d q sets want
def Z1e (d : D0) (l : List C0) (q : Q0) : Option (List Int × Bool) :=
 (Z2w N d l).bind fun r =>
 (Z7n N d q r false).bind fun p_r2 =>
 some (p_r2.1, p_r2.2)
def Z2y (d : D0) (l : List C0) (q : Q0) : Option (Bool) :=
 (Z1e N d l q).bind fun p_r =>
 (Z17 N d q).bind fun r3 =>
 bif r3 then some (!p_r.2)
 else
 some false
def Z4 (N : Nat) (n : Int) (low : Int) (high : Int) : Option (Bool) :=
 bif decide (low <= n) then some (decide (n <= high))
 else
 some false
def Z27 (relation : ByteArray × Int × Int) : Option (Bool) :=
 bif ((relation.1.size : Int) == 1) then
  (byteAt relation.1 0).bind fun b =>
  bif decide ((b.toNat : Int) >= 97) then
   (byteAt relation.1 0).bind fun b2 =>
   bif decide ((b2.toNat : Int) <= 122) then
    (Z4 N relation.2.1 1 3).bind fun r =>
    bif r then
     (Z4 N relation.2.2 0 relation.2.1).bind fun r2 =>
     some r2
    else
    some false
   else
   some false
  else
  some false
 else
 some false
def Z3g (rec_ : R0 -> R0 -> Int -> Int -> Option (Bool)) (relations2 : R0) (t5 : R0) (t6 : Int) (t7 : Int) : Option (Bool) :=
 bif decide (t7 < t6) then
  grd (inb t7 t5) <|
  (Z27 N ((at_ (⟨#[]⟩, (0, 0)) t5 t7).1, ((at_ (⟨#[]⟩, (0, 0)) t5 t7).2))).bind fun r =>
  bif (!r) then some false
  else
  bif decide (t7 > 0) then
   grd (inb (w64 (t7 - 1)) relations2) <|
   bif (!slt ((at_ (⟨#[]⟩, (0, 0)) relations2 (w64 (t7 - 1))).1) ((at_ (⟨#[]⟩, (0, 0)) t5 t7).1)) then some false
   else
   rec_ relations2 t5 t6 (w64 (t7 + 1))
  else
  rec_ relations2 t5 t6 (w64 (t7 + 1))
 else
 some (decide ((relations2.length : Int) <= 4))
def Z1s (N : Nat) : Nat -> R0 -> R0 -> Int -> Int -> Option (Bool)
 | 0, _, _, _, _ => none
 | k_ + 1, relations2, t5, t6, t7 => Z3g N (Z1s N k_) relations2 t5 t6 t7
def Z6d (N : Nat) (Z9m : R0 -> R0 -> Int -> Int -> Option (Bool)) (relations : R0) : Option (Bool) :=
 Z9m relations relations (relations.length : Int) 0
def Z0p (relations : R0) : Option (Bool) := Z6d N (Z1s N N) relations
def Z4h (v : Int) : Option (Bool) :=
 (Z4 N v 0 9).bind fun r =>
 some (!r)
def Z0t (rec_ : I0 -> Int -> Int -> Option (Int)) (s2 : I0) (t7 : Int) (t8 : Int) : Option (Int) :=
 bif decide (t8 < t7) then
  grd (inb t8 s2) <|
  (Z4h N (at_ 0 s2 t8)).bind fun r =>
  bif r then some t8
  else
  rec_ s2 t7 (w64 (t8 + 1))
 else
 some (-1)
def Z0c (N : Nat) : Nat -> I0 -> Int -> Int -> Option (Int)
 | 0, _, _, _ => none
 | k_ + 1, s2, t7, t8 => Z0t N (Z0c N k_) s2 t7 t8
def Z28 (N : Nat) (Z7o : I0 -> Int -> Int -> Option (Int)) (s : I0) : Option (Int) :=
 Z7o s (s.length : Int) 0
def Z0f (s : I0) : Option (Int) := Z28 N (Z0c N N) s
def Z0d (s : I0) : Option (Bool) :=
 (Z0f N s).bind fun r =>
 some (decide (r >= 0))
def Z4x (list : I0) : Option (Bool) :=
 (Z0d N list).bind fun r =>
 some (!r)
def Z76 (relations : R0) (fact : Int × List Int) : Option (Bool) :=
 (Z4 N fact.1 0 (w64 ((relations.length : Int) - 1))).bind fun r =>
 bif r then
  grd (inb fact.1 relations) <|
  bif ((fact.2.length : Int) == (((at_ (⟨#[]⟩, (0, 0)) relations fact.1).2).1)) then
   (Z4x N fact.2).bind fun r2 =>
   some r2
  else
  some false
 else
 some false
def Z7p (N : Nat) (a : Int) (b : Int) : Option (Int) :=
 bif decide (a < b) then some (-1)
 else
 bif decide (a > b) then some 1
 else
 some 0
def Z5t (N : Nat) (x : Int) : Option (Bool) :=
 some (x != x)
def Z4b (x : Int) (y : Int) : Option (Int) :=
 (Z5t N x).bind fun r =>
 (Z5t N y).bind fun r2 =>
 bif r then
  bif r2 then some 0
  else
  some (-1)
 else
 bif r2 then some 1
 else
 bif decide (x < y) then some (-1)
 else
 bif decide (x > y) then some 1
 else
 some 0
def Z1u (rec_ : I0 -> I0 -> I0 -> Int -> Int -> Option (Int)) (s12 : I0) (s22 : I0) (t9 : I0) (t10 : Int) (t11 : Int) : Option (Int) :=
 bif decide (t11 < t10) then
  grd (inb t11 t9) <|
  bif decide (t11 >= (s22.length : Int)) then some 1
  else
  grd (inb t11 s22) <|
  (Z4b N (at_ 0 t9 t11) (at_ 0 s22 t11)).bind fun r =>
  bif (r != 0) then some r
  else
  rec_ s12 s22 t9 t10 (w64 (t11 + 1))
 else
 bif decide ((s12.length : Int) < (s22.length : Int)) then some (-1)
 else
 some 0
def Z0z (N : Nat) : Nat -> I0 -> I0 -> I0 -> Int -> Int -> Option (Int)
 | 0, _, _, _, _, _ => none
 | k_ + 1, s12, s22, t9, t10, t11 => Z1u N (Z0z N k_) s12 s22 t9 t10 t11
def Z5x (N : Nat) (Z9g : I0 -> I0 -> I0 -> Int -> Int -> Option (Int)) (s1 : I0) (s2 : I0) : Option (Int) :=
 Z9g s1 s2 s1 (s1.length : Int) 0
def Z1h (s1 : I0) (s2 : I0) : Option (Int) := Z5x N (Z0z N N) s1 s2
def Z3c (a : Int × List Int) (b : Int × List Int) : Option (Int) :=
 bif (a.1 != b.1) then
  (Z7p N a.1 b.1).bind fun r =>
  some r
 else
 (Z1h N a.2 b.2).bind fun r2 =>
 some r2
def Z45 (rec_ : R0 -> A0 -> A0 -> Int -> Int -> Option (Bool)) (db2 : R0) (db3 : A0) (t16 : A0) (t17 : Int) (t18 : Int) : Option (Bool) :=
 bif decide (t18 < t17) then
  grd (inb t18 t16) <|
  (Z76 N db2 (at_ (0, []) t16 t18)).bind fun r2 =>
  bif (!r2) then some false
  else
  bif decide (t18 > 0) then
   grd (inb (w64 (t18 - 1)) db3) <|
   (Z3c N (at_ (0, []) db3 (w64 (t18 - 1))) (at_ (0, []) t16 t18)).bind fun r3 =>
   bif decide (r3 >= 0) then some false
   else
   rec_ db2 db3 t16 t17 (w64 (t18 + 1))
  else
  rec_ db2 db3 t16 t17 (w64 (t18 + 1))
 else
 some true
def Z22 (N : Nat) : Nat -> R0 -> A0 -> A0 -> Int -> Int -> Option (Bool)
 | 0, _, _, _, _, _ => none
 | k_ + 1, db2, db3, t16, t17, t18 => Z45 N (Z22 N k_) db2 db3 t16 t17 t18
def Z77 (Z9z : R0 -> A0 -> A0 -> Int -> Int -> Option (Bool)) (db : D0) : Option (Bool) :=
 (Z0p N db.1).bind fun r =>
 bif (!r) then some false
 else
 bif decide ((db.2.length : Int) > 14) then some false
 else
 Z9z db.1 db.2 db.2 (db.2.length : Int) 0
def Z0a (db : D0) : Option (Bool) := Z77 N (Z22 N N) db
def Z1q (db : D0) (constraint : C0) : Option (Bool) :=
 (Z0a N db).bind fun r =>
 bif (!r) then some false
 else
 (Z4 N constraint.1 0 (w64 ((db.1.length : Int) - 1))).bind fun r2 =>
 bif (!r2) then some false
 else
 (Z4 N constraint.2.1 0 (w64 ((db.1.length : Int) - 1))).bind fun r3 =>
 bif (!r3) then some false
 else
 grd (inb constraint.1 db.1) <|
 grd (inb constraint.2.1 db.1) <|
 (Z4 N constraint.2.2.1 0 (w64 ((((at_ (⟨#[]⟩, (0, 0)) db.1 constraint.1).2).1) - 1))).bind fun r4 =>
 bif r4 then
  (Z4 N constraint.2.2.2.2.1 0 (w64 ((((at_ (⟨#[]⟩, (0, 0)) db.1 constraint.1).2).1) - 1))).bind fun r5 =>
  bif r5 then
   (Z4 N constraint.2.2.2.1 0 (w64 ((((at_ (⟨#[]⟩, (0, 0)) db.1 constraint.2.1).2).1) - 1))).bind fun r6 =>
   bif r6 then
    (Z4 N constraint.2.2.2.2.2.1 0 (w64 ((((at_ (⟨#[]⟩, (0, 0)) db.1 constraint.2.1).2).1) - 1))).bind fun r7 =>
    bif r7 then
     (Z4 N constraint.2.2.2.2.2.2 1 2).bind fun r8 =>
     some r8
    else
    some false
   else
   some false
  else
  some false
 else
 some false
def Z6t (N : Nat) (c : C0) (a : Int × List Int) (b : Int × List Int) : Option (Bool) :=
 bif (a.1 != c.1) then some false
 else
 bif (b.1 != c.2.1) then some false
 else
 grd (inb c.2.2.1 a.2) <|
 grd (inb c.2.2.2.1 b.2) <|
 bif ((at_ 0 a.2 c.2.2.1) != (at_ 0 b.2 c.2.2.2.1)) then some false
 else
 grd (inb c.2.2.2.2.1 a.2) <|
 grd (inb c.2.2.2.2.2.1 b.2) <|
 bif (c.2.2.2.2.2.2 == 1) then
  bif ((at_ 0 a.2 c.2.2.2.2.1) == (at_ 0 b.2 c.2.2.2.2.2.1)) then some true
  else
  bif (c.2.2.2.2.2.2 == 2) then
   some (decide ((at_ 0 a.2 c.2.2.2.2.1) < (at_ 0 b.2 c.2.2.2.2.2.1)))
  else
  some false
 else
 bif (c.2.2.2.2.2.2 == 2) then
  some (decide ((at_ 0 a.2 c.2.2.2.2.1) < (at_ 0 b.2 c.2.2.2.2.2.1)))
 else
 some false
def Z11 (db : D0) (constraint : C0) (first : Int) (second : Int) : Option (Bool) :=
 (Z1q N db constraint).bind fun r =>
 bif r then
  bif (first != second) then
   (Z4 N first 0 (w64 ((db.2.length : Int) - 1))).bind fun r2 =>
   bif r2 then
    (Z4 N second 0 (w64 ((db.2.length : Int) - 1))).bind fun r3 =>
    bif r3 then
     grd (inb first db.2) <|
     grd (inb second db.2) <|
     (Z6t N constraint (at_ (0, []) db.2 first) (at_ (0, []) db.2 second)).bind fun r4 =>
     some r4
    else
    some false
   else
   some false
  else
  some false
 else
 some false
def Z3r (N : Nat) (rec_ : I0 -> I0 -> Int -> Int -> Option (Bool)) (s12 : I0) (s22 : I0) (t12 : Int) (t13 : Int) : Option (Bool) :=
 bif decide (t13 < t12) then
  grd (inb t13 s12) <|
  grd (inb t13 s22) <|
  bif ((at_ 0 s12 t13) != (at_ 0 s22 t13)) then some false
  else
  rec_ s12 s22 t12 (w64 (t13 + 1))
 else
 some true
def Z1v (N : Nat) : Nat -> I0 -> I0 -> Int -> Int -> Option (Bool)
 | 0, _, _, _, _ => none
 | k_ + 1, s12, s22, t12, t13 => Z3r N (Z1v N k_) s12 s22 t12 t13
def Z6m (N : Nat) (Z9r : I0 -> I0 -> Int -> Int -> Option (Bool)) (s1 : I0) (s2 : I0) : Option (Bool) :=
 bif ((s1.length : Int) != (s2.length : Int)) then some false
 else
 Z9r s1 s2 (s1.length : Int) 0
def Z1w (s1 : I0) (s2 : I0) : Option (Bool) := Z6m N (Z1v N N) s1 s2
def Z6e (relations : R0) (a : Int × List Int) (b : Int × List Int) : Option (Bool) :=
 bif (a.1 != b.1) then some false
 else
 grd (inb a.1 relations) <|
 grd (subOk 0 (((at_ (⟨#[]⟩, (0, 0)) relations a.1).2).2) a.2.length) <|
 grd (subOk 0 (((at_ (⟨#[]⟩, (0, 0)) relations a.1).2).2) b.2.length) <|
 (Z1w N (a.2.take (((at_ (⟨#[]⟩, (0, 0)) relations a.1).2).2).toNat) (b.2.take (((at_ (⟨#[]⟩, (0, 0)) relations a.1).2).2).toNat)).bind fun r =>
 some r
def Z3s (rec_ : Int -> Int -> R0 -> A0 -> (List C0) -> Int -> Int -> Option (Bool)) (a2 : Int) (b2 : Int) (t3 : R0) (t32 : A0) (t9 : List C0) (t10 : Int) (t11 : Int) : Option (Bool) :=
 bif decide (t11 < t10) then
  grd (inb t11 t9) <|
  (Z11 N (t3, t32) ((at_ (0, (0, (0, (0, (0, (0, 0)))))) t9 t11).1, ((at_ (0, (0, (0, (0, (0, (0, 0)))))) t9 t11).2).1, (((at_ (0, (0, (0, (0, (0, (0, 0)))))) t9 t11).2).2).1, ((((at_ (0, (0, (0, (0, (0, (0, 0)))))) t9 t11).2).2).2).1, (((((at_ (0, (0, (0, (0, (0, (0, 0)))))) t9 t11).2).2).2).2).1, ((((((at_ (0, (0, (0, (0, (0, (0, 0)))))) t9 t11).2).2).2).2).2)) a2 b2).bind fun r =>
  bif r then some true
  else
  (Z11 N (t3, t32) ((at_ (0, (0, (0, (0, (0, (0, 0)))))) t9 t11).1, ((at_ (0, (0, (0, (0, (0, (0, 0)))))) t9 t11).2).1, (((at_ (0, (0, (0, (0, (0, (0, 0)))))) t9 t11).2).2).1, ((((at_ (0, (0, (0, (0, (0, (0, 0)))))) t9 t11).2).2).2).1, (((((at_ (0, (0, (0, (0, (0, (0, 0)))))) t9 t11).2).2).2).2).1, ((((((at_ (0, (0, (0, (0, (0, (0, 0)))))) t9 t11).2).2).2).2).2)) b2 a2).bind fun r2 =>
  bif r2 then some true
  else
  rec_ a2 b2 t3 t32 t9 t10 (w64 (t11 + 1))
 else
 grd (inb a2 t32) <|
 grd (inb b2 t32) <|
 (Z6e N t3 (at_ (0, []) t32 a2) (at_ (0, []) t32 b2)).bind fun r3 =>
 some r3
def Z1x (N : Nat) : Nat -> Int -> Int -> R0 -> A0 -> (List C0) -> Int -> Int -> Option (Bool)
 | 0, _, _, _, _, _, _, _ => none
 | k_ + 1, a2, b2, t3, t32, t9, t10, t11 => Z3s N (Z1x N k_) a2 b2 t3 t32 t9 t10 t11
def Z6n (N : Nat) (Z9s : Int -> Int -> R0 -> A0 -> (List C0) -> Int -> Int -> Option (Bool)) (a : Int) (b : Int) (c2 : List C0) (c3 : D0) : Option (Bool) :=
 Z9s a b c3.1 c3.2 c2 (c2.length : Int) 0
def Z1y (a : Int) (b : Int) (c2 : List C0) (c3 : D0) : Option (Bool) := Z6n N (Z1x N N) a b c2 c3
def Z29 (Z2d : Int -> (List C0) -> D0 -> E0 -> Int -> Int -> Option E0) (rec_ : Int -> (List C0) -> D0 -> E0 -> Int -> Int -> Int -> Int -> Option E0) (n3 : Int) (holds3 : List C0) (holds4 : D0) (out2 : E0) (a : Int) (b : Int) (t92 : Int) (t102 : Int) : Option E0 :=
 bif decide (b < n3) then
  (Z1y N a b holds3 holds4).bind fun r =>
  bif r then
   grd (appOk out2 [(a, b)] 16) <|
   rec_ n3 holds3 holds4 (out2 ++ [(a, b)]) a (w64 (b + 1)) t92 t102
  else
  rec_ n3 holds3 holds4 out2 a (w64 (b + 1)) t92 t102
 else
 Z2d n3 holds3 holds4 out2 t92 (w64 (t102 + 1))
def Z0l (Z2d : Int -> (List C0) -> D0 -> E0 -> Int -> Int -> Option E0) (N : Nat) : Nat -> Int -> (List C0) -> D0 -> E0 -> Int -> Int -> Int -> Int -> Option E0
 | 0, _, _, _, _, _, _, _, _ => none
 | k_ + 1, n3, holds3, holds4, out2, a, b, t92, t102 => Z29 N Z2d (Z0l Z2d N k_) n3 holds3 holds4 out2 a b t92 t102
def Z2a (N : Nat) (Z8y : Int -> (List C0) -> D0 -> E0 -> Int -> Int -> Int -> Int -> Option E0) (rec_ : Int -> (List C0) -> D0 -> E0 -> Int -> Int -> Option E0) (n2 : Int) (holds : List C0) (holds2 : D0) (out : E0) (t9 : Int) (t10 : Int) : Option E0 :=
 bif decide (t10 < t9) then
  Z8y n2 holds holds2 out t10 (w64 (t10 + 1)) t9 t10
 else
 some out
def Z0m (N : Nat) : Nat -> Int -> (List C0) -> D0 -> E0 -> Int -> Int -> Option E0
 | 0, _, _, _, _, _, _ => none
 | k_ + 1, n2, holds, holds2, out, t9, t10 => Z2a N (Z0l (Z0m N k_) N N) (Z0m N k_) n2 holds holds2 out t9 t10
def Z4j (N : Nat) (Z8z : Int -> (List C0) -> D0 -> E0 -> Int -> Int -> Option E0) (n : Int) (c : List C0) (c2 : D0) : Option E0 :=
 Z8z n c c2 [] n 0
def Z1f (n : Int) (c : List C0) (c2 : D0) : Option E0 := Z4j N (Z0m N N) n c c2
def Z2z (db : D0) (constraints : List C0) : Option E0 :=
 (Z0a N db).bind fun r =>
 bif (!r) then some []
 else
 (Z1f N (db.2.length : Int) constraints db).bind fun r2 =>
 some r2
def Z4o (N : Nat) (rec_ : Int -> E0 -> E0 -> Int -> Int -> Option (Bool)) (n2 : Int) (edges2 : E0) (t10 : E0) (t11 : Int) (t12 : Int) : Option (Bool) :=
 bif decide (t12 < t11) then
  grd (inb t12 t10) <|
  bif decide (((at_ (0, 0) t10 t12).1) < 0) then some false
  else
  bif decide (((at_ (0, 0) t10 t12).1) >= ((at_ (0, 0) t10 t12).2)) then some false
  else
  bif decide (((at_ (0, 0) t10 t12).2) >= n2) then some false
  else
  bif decide (t12 > 0) then
   grd (inb (w64 (t12 - 1)) edges2) <|
   bif decide (((at_ (0, 0) edges2 (w64 (t12 - 1))).1) > ((at_ (0, 0) t10 t12).1)) then some false
   else
   grd (inb (w64 (t12 - 1)) edges2) <|
   bif (((at_ (0, 0) edges2 (w64 (t12 - 1))).1) == ((at_ (0, 0) t10 t12).1)) then
    grd (inb (w64 (t12 - 1)) edges2) <|
    bif decide (((at_ (0, 0) edges2 (w64 (t12 - 1))).2) >= ((at_ (0, 0) t10 t12).2)) then some false
    else
    rec_ n2 edges2 t10 t11 (w64 (t12 + 1))
   else
   rec_ n2 edges2 t10 t11 (w64 (t12 + 1))
  else
  rec_ n2 edges2 t10 t11 (w64 (t12 + 1))
 else
 some true
def Z2p (N : Nat) : Nat -> Int -> E0 -> E0 -> Int -> Int -> Option (Bool)
 | 0, _, _, _, _, _ => none
 | k_ + 1, n2, edges2, t10, t11, t12 => Z4o N (Z2p N k_) n2 edges2 t10 t11 t12
def Z82 (Z0a9 : Int -> E0 -> E0 -> Int -> Int -> Option (Bool)) (n : Int) (edges : E0) : Option (Bool) :=
 (Z4 N n 0 14).bind fun r =>
 bif (!r) then some false
 else
 Z0a9 n edges edges (edges.length : Int) 0
def Z1n (n : Int) (edges : E0) : Option (Bool) := Z82 N (Z2p N N) n edges
def Z5y (rec_ : I0 -> Int -> I0 -> Int -> Int -> Option (Bool)) (indices2 : I0) (n2 : Int) (t7 : I0) (t8 : Int) (t9 : Int) : Option (Bool) :=
 bif decide (t9 < t8) then
  grd (inb t9 t7) <|
  (Z4 N (at_ 0 t7 t9) 0 (w64 (n2 - 1))).bind fun r =>
  bif (!r) then some false
  else
  bif decide (t9 > 0) then
   grd (inb (w64 (t9 - 1)) indices2) <|
   bif decide ((at_ 0 indices2 (w64 (t9 - 1))) >= (at_ 0 t7 t9)) then some false
   else
   rec_ indices2 n2 t7 t8 (w64 (t9 + 1))
  else
  rec_ indices2 n2 t7 t8 (w64 (t9 + 1))
 else
 some true
def Z41 (N : Nat) : Nat -> I0 -> Int -> I0 -> Int -> Int -> Option (Bool)
 | 0, _, _, _, _, _ => none
 | k_ + 1, indices2, n2, t7, t8, t9 => Z5y N (Z41 N k_) indices2 n2 t7 t8 t9
def Z8t (N : Nat) (Z0as : I0 -> Int -> I0 -> Int -> Int -> Option (Bool)) (indices : I0) (n : Int) : Option (Bool) :=
 Z0as indices n indices (indices.length : Int) 0
def Z1o (indices : I0) (n : Int) : Option (Bool) := Z8t N (Z41 N N) indices n
def Z3t (N : Nat) (rec_ : I0 -> Int -> Int -> Int -> Option (Int)) (s2 : I0) (v2 : Int) (t7 : Int) (t8 : Int) : Option (Int) :=
 bif decide (t8 < t7) then
  grd (inb t8 s2) <|
  bif (v2 == (at_ 0 s2 t8)) then some t8
  else
  rec_ s2 v2 t7 (w64 (t8 + 1))
 else
 some (-1)
def Z1z (N : Nat) : Nat -> I0 -> Int -> Int -> Int -> Option (Int)
 | 0, _, _, _, _ => none
 | k_ + 1, s2, v2, t7, t8 => Z3t N (Z1z N k_) s2 v2 t7 t8
def Z6o (N : Nat) (Z9t : I0 -> Int -> Int -> Int -> Option (Int)) (s : I0) (v : Int) : Option (Int) :=
 Z9t s v (s.length : Int) 0
def Z2q (s : I0) (v : Int) : Option (Int) := Z6o N (Z1z N N) s v
def Z0g (s : I0) (v : Int) : Option (Bool) :=
 (Z2q N s v).bind fun r =>
 some (decide (r >= 0))
def Z2r (e : Int × Int) (c1 : I0) : Option (Bool) :=
 (Z0g N c1 e.1).bind fun r =>
 bif r then
  (Z0g N c1 e.2).bind fun r2 =>
  some r2
 else
 some false
def Z7 (rec_ : E0 -> I0 -> Int -> Int -> Option (Int)) (s2 : E0) (f : I0) (t7 : Int) (t8 : Int) : Option (Int) :=
 bif decide (t8 < t7) then
  grd (inb t8 s2) <|
  (Z2r N (at_ (0, 0) s2 t8) f).bind fun r =>
  bif r then some t8
  else
  rec_ s2 f t7 (w64 (t8 + 1))
 else
 some (-1)
def Z1 (N : Nat) : Nat -> E0 -> I0 -> Int -> Int -> Option (Int)
 | 0, _, _, _, _ => none
 | k_ + 1, s2, f, t7, t8 => Z7 N (Z1 N k_) s2 f t7 t8
def Z0j (N : Nat) (Z3x : E0 -> I0 -> Int -> Int -> Option (Int)) (s : E0) (c : I0) : Option (Int) :=
 Z3x s c (s.length : Int) 0
def Z3 (s : E0) (c : I0) : Option (Int) := Z0j N (Z1 N N) s c
def Z2 (s : E0) (c : I0) : Option (Bool) :=
 (Z3 N s c).bind fun r =>
 some (decide (r >= 0))
def Z0r (edges : E0) (set : I0) : Option (Bool) :=
 (Z2 N edges set).bind fun r =>
 some (!r)
def Z2s (n : Int) (edges : E0) (set : I0) : Option (Bool) :=
 (Z1n N n edges).bind fun r =>
 bif r then
  (Z1o N set n).bind fun r2 =>
  bif r2 then
   (Z0r N edges set).bind fun r3 =>
   some r3
  else
  some false
 else
 some false
def Z2j (rec_ : E0 -> I0 -> Int -> Int -> Option (Bool)) (edges2 : E0) (set2 : I0) (t13 : Int) (t14 : Int) : Option (Bool) :=
 bif decide (t14 < t13) then
  (Z0g N set2 t14).bind fun r2 =>
  bif (!r2) then
   (Z0u N set2).bind fun r3 =>
   grd (appOk r3 [t14] 8) <|
   (Z0r N edges2 (r3 ++ [t14])).bind fun r4 =>
   bif r4 then some false
   else
   rec_ edges2 set2 t13 (w64 (t14 + 1))
  else
  rec_ edges2 set2 t13 (w64 (t14 + 1))
 else
 some true
def Z16 (N : Nat) : Nat -> E0 -> I0 -> Int -> Int -> Option (Bool)
 | 0, _, _, _, _ => none
 | k_ + 1, edges2, set2, t13, t14 => Z2j N (Z16 N k_) edges2 set2 t13 t14
def Z56 (Z93 : E0 -> I0 -> Int -> Int -> Option (Bool)) (n : Int) (edges : E0) (set : I0) : Option (Bool) :=
 (Z2s N n edges set).bind fun r =>
 bif (!r) then some false
 else
 Z93 edges set n 0
def Z13 (n : Int) (edges : E0) (set : I0) : Option (Bool) := Z56 N (Z16 N N) n edges set
def Z2b (Rf : Int -> I0 -> Int -> E0 -> L0 -> Int -> E0 -> Option L0) (v : Int) (set : I0) (c2 : Int) (c3 : E0) (c4 : L0) (sc2 : Int) (sc3 : E0) : Option L0 :=
 bif (v == c2) then
  (Z13 N c2 c3 set).bind fun r =>
  bif r then
   grd (appOk [] set 8) <|
   grd (appOk c4 [set] 24) <|
   some (c4 ++ [set])
  else
  some c4
 else
 (Z0u N set).bind fun r2 =>
 grd (appOk r2 [v] 8) <|
 (Z0r N c3 (r2 ++ [v])).bind fun r3 =>
 bif r3 then
  (Rf (w64 (v + 1)) (r2 ++ [v]) sc2 sc3 c4 sc2 sc3).bind fun m =>
  (Rf (w64 (v + 1)) set sc2 sc3 m sc2 sc3).bind fun m2 =>
  some m2
 else
 (Rf (w64 (v + 1)) set sc2 sc3 c4 sc2 sc3).bind fun m3 =>
 some m3
def Z0h (N : Nat) : Nat -> Int -> I0 -> Int -> E0 -> L0 -> Int -> E0 -> Option L0
 | 0, _, _, _, _, _, _, _ => none
 | k_ + 1, v, set, c2, c3, c4, sc2, sc3 => Z2b N (Z0h N k_) v set c2 c3 c4 sc2 sc3
def Z0x (v : Int) (set : I0) (c2 : Int) (c3 : E0) (c4 : L0) (sc2 : Int) (sc3 : E0) : Option L0 := Z0h N N v set c2 c3 c4 sc2 sc3
def Z0s (n : Int) (edges : E0) : Option L0 :=
 (Z1n N n edges).bind fun r =>
 bif (!r) then some []
 else
 (Z0x N 0 [] n edges [] n edges).bind fun m =>
 some m
def Z30 (db : D0) (constraints : List C0) : Option L0 :=
 (Z0a N db).bind fun r =>
 bif (!r) then some []
 else
 (Z2z N db constraints).bind fun r2 =>
 (Z0s N (db.2.length : Int) r2).bind fun r3 =>
 some r3
def Z37 (N : Nat) (own : Int × List Int) (c1 : Int × List Int) : Option (Bool) :=
 some (own.1 == c1.1)
def Z0n (rec_ : A0 -> (Int × List Int) -> Int -> Int -> Option (Int)) (s2 : A0) (f : Int × List Int) (t7 : Int) (t8 : Int) : Option (Int) :=
 bif decide (t8 < t7) then
  grd (inb t8 s2) <|
  (Z37 N (at_ (0, []) s2 t8) f).bind fun r =>
  bif r then some t8
  else
  rec_ s2 f t7 (w64 (t8 + 1))
 else
 some (-1)
def Z8 (N : Nat) : Nat -> A0 -> (Int × List Int) -> Int -> Int -> Option (Int)
 | 0, _, _, _, _ => none
 | k_ + 1, s2, f, t7, t8 => Z0n N (Z8 N k_) s2 f t7 t8
def Z1p (N : Nat) (Z6k : A0 -> (Int × List Int) -> Int -> Int -> Option (Int)) (s : A0) (c : Int × List Int) : Option (Int) :=
 Z6k s c (s.length : Int) 0
def Z0b (s : A0) (c : Int × List Int) : Option (Int) := Z1p N (Z8 N N) s c
def Z5 (s : A0) (c : Int × List Int) : Option (Bool) :=
 (Z0b N s c).bind fun r =>
 some (decide (r >= 0))
def Z57 (N : Nat) (rec_ : I0 -> L0 -> Int -> Int -> Option I0) (newslice : I0) (t25 : L0) (t26 : Int) (t27 : Int) : Option I0 :=
 bif decide (t27 < t26) then
  grd (inb t27 t25) <|
  grd (appOk newslice (at_ [] t25 t27) 8) <|
  rec_ (newslice ++ (at_ [] t25 t27)) t25 t26 (w64 (t27 + 1))
 else
 some newslice
def Z1t (N : Nat) : Nat -> I0 -> L0 -> Int -> Int -> Option I0
 | 0, _, _, _, _ => none
 | k_ + 1, newslice, t25, t26, t27 => Z57 N (Z1t N k_) newslice t25 t26 t27
def Z58 (Z9n : I0 -> L0 -> Int -> Int -> Option I0) (rec_ : L0 -> Int -> L0 -> Int -> Int -> Option I0) (slices2 : L0) (size : Int) (t9 : L0) (t10 : Int) (t11 : Int) : Option I0 :=
 bif decide (t11 < t10) then
  grd (inb t11 t9) <|
  bif decide ((w64 (size + ((at_ [] t9 t11).length : Int))) < 0) then none
  else
  rec_ slices2 (w64 (size + ((at_ [] t9 t11).length : Int))) t9 t10 (w64 (t11 + 1))
 else
 (Z7s N [] size).bind fun r =>
 Z9n r slices2 (slices2.length : Int) 0
def Z2k (N : Nat) : Nat -> L0 -> Int -> L0 -> Int -> Int -> Option I0
 | 0, _, _, _, _, _ => none
 | k_ + 1, slices2, size, t9, t10, t11 => Z58 N (Z1t N N) (Z2k N k_) slices2 size t9 t10 t11
def Z6f (N : Nat) (Z9o : L0 -> Int -> L0 -> Int -> Int -> Option I0) (slices : L0) : Option I0 :=
 Z9o slices 0 slices (slices.length : Int) 0
def Z1r (slices : L0) : Option I0 := Z6f N (Z2k N N) slices
def Z5z (a : I0) (b : I0) : Option I0 :=
 (Z1r N [a, b]).bind fun r =>
 (Z7t N r).bind fun m =>
 (Z6l N m).bind fun r2 =>
 some r2
def Z6p (rec_ : I0 -> I0 -> Int -> Int -> Option I0) (out : I0) (t8 : I0) (t9 : Int) (t10 : Int) : Option I0 :=
 bif decide (t10 < t9) then
  grd (inb t10 t8) <|
  (Z4 N (at_ 0 t8 t10) 0 3).bind fun r =>
  bif r then
   grd (appOk out [(at_ 0 t8 t10)] 8) <|
   rec_ (out ++ [(at_ 0 t8 t10)]) t8 t9 (w64 (t10 + 1))
  else
  rec_ out t8 t9 (w64 (t10 + 1))
 else
 (Z5z N out []).bind fun r2 =>
 some r2
def Z42 (N : Nat) : Nat -> I0 -> I0 -> Int -> Int -> Option I0
 | 0, _, _, _, _ => none
 | k_ + 1, out, t8, t9, t10 => Z6p N (Z42 N k_) out t8 t9 t10
def Z83 (N : Nat) (Z0aa : I0 -> I0 -> Int -> Int -> Option I0) (atom : Int × List Int) : Option I0 :=
 Z0aa [] atom.2 (atom.2.length : Int) 0
def Z31 (atom : Int × List Int) : Option I0 := Z83 N (Z42 N N) atom
def Z53 (Z5k : R0 -> Int -> A0 -> I0 -> I0 -> A0 -> Int -> Int -> Option (Bool)) (rec_ : R0 -> Int -> A0 -> I0 -> I0 -> Int -> I0 -> A0 -> Int -> Int -> I0 -> Int -> Int -> Option (Bool)) (relations3 : R0) (query5 : Int) (query6 : A0) (query7 : I0) (occurring2 : I0) (atom : Int) (atom2 : I0) (t362 : A0) (t372 : Int) (t382 : Int) (t71 : I0) (t72 : Int) (t73 : Int) : Option (Bool) :=
 bif decide (t73 < t72) then
  grd (inb t73 t71) <|
  (Z4 N (at_ 0 t71 t73) (-10) (w64 (query5 - 1))).bind fun r7 =>
  bif (!r7) then some false
  else
  rec_ relations3 query5 query6 query7 occurring2 atom atom2 t362 t372 t382 t71 t72 (w64 (t73 + 1))
 else
 (Z31 N (atom, atom2)).bind fun r8 =>
 (Z5z N occurring2 r8).bind fun r9 =>
 Z5k relations3 query5 query6 query7 r9 t362 t372 (w64 (t382 + 1))
def Z2c (Z5k : R0 -> Int -> A0 -> I0 -> I0 -> A0 -> Int -> Int -> Option (Bool)) (N : Nat) : Nat -> R0 -> Int -> A0 -> I0 -> I0 -> Int -> I0 -> A0 -> Int -> Int -> I0 -> Int -> Int -> Option (Bool)
 | 0, _, _, _, _, _, _, _, _, _, _, _, _, _ => none
 | k_ + 1, relations3, query5, query6, query7, occurring2, atom, atom2, t362, t372, t382, t71, t72, t73 => Z53 N Z5k (Z2c Z5k N k_) relations3 query5 query6 query7 occurring2 atom atom2 t362 t372 t382 t71 t72 t73
def Z78 (Z0ai : R0 -> Int -> A0 -> I0 -> I0 -> Int -> I0 -> A0 -> Int -> Int -> I0 -> Int -> Int -> Option (Bool)) (rec_ : R0 -> Int -> A0 -> I0 -> I0 -> A0 -> Int -> Int -> Option (Bool)) (relations2 : R0) (query2 : Int) (query3 : A0) (query4 : I0) (occurring : I0) (t36 : A0) (t37 : Int) (t38 : Int) : Option (Bool) :=
 bif decide (t38 < t37) then
  grd (inb t38 t36) <|
  (Z4 N ((at_ (0, []) t36 t38).1) 0 (w64 ((relations2.length : Int) - 1))).bind fun r5 =>
  bif (!r5) then some false
  else
  grd (inb ((at_ (0, []) t36 t38).1) relations2) <|
  bif ((((at_ (0, []) t36 t38).2).length : Int) != (((at_ (⟨#[]⟩, (0, 0)) relations2 ((at_ (0, []) t36 t38).1)).2).1)) then some false
  else
  grd (subOk 0 t38 query3.length) <|
  (Z5 N (query3.take t38.toNat) (at_ (0, []) t36 t38)).bind fun r6 =>
  bif r6 then some false
  else
  Z0ai relations2 query2 query3 query4 occurring ((at_ (0, []) t36 t38).1) ((at_ (0, []) t36 t38).2) t36 t37 t38 ((at_ (0, []) t36 t38).2) (((at_ (0, []) t36 t38).2).length : Int) 0
 else
 some ((occurring.length : Int) == query2)
def Z38 (N : Nat) : Nat -> R0 -> Int -> A0 -> I0 -> I0 -> A0 -> Int -> Int -> Option (Bool)
 | 0, _, _, _, _, _, _, _, _ => none
 | k_ + 1, relations2, query2, query3, query4, occurring, t36, t37, t38 => Z78 N (Z2c (Z38 N k_) N N) (Z38 N k_) relations2 query2 query3 query4 occurring t36 t37 t38
def Z8c (Z0aj : R0 -> Int -> A0 -> I0 -> I0 -> A0 -> Int -> Int -> Option (Bool)) (relations : R0) (query : Q0) : Option (Bool) :=
 (Z0p N relations).bind fun r =>
 bif (!r) then some false
 else
 (Z4 N query.1 0 4).bind fun r2 =>
 bif (!r2) then some false
 else
 (Z4 N (query.2.1.length : Int) 1 3).bind fun r3 =>
 bif (!r3) then some false
 else
 (Z1o N query.2.2 query.1).bind fun r4 =>
 bif (!r4) then some false
 else
 Z0aj relations query.1 query.2.1 query.2.2 [] query.2.1 (query.2.1.length : Int) 0
def Z3d (relations : R0) (query : Q0) : Option (Bool) := Z8c N (Z38 N N) relations query
def Z18 (db : D0) (query : Q0) : Option (Bool) :=
 (Z0a N db).bind fun r =>
 bif r then
  (Z3d N db.1 query).bind fun r2 =>
  some r2
 else
 some false
def Z79 (N : Nat) (rec_ : R0 -> A0 -> R0 -> A0 -> A0 -> Int -> Int -> Option D0) (t2 : R0) (t22 : A0) (out : R0) (out2 : A0) (t13 : A0) (t14 : Int) (t15 : Int) : Option D0 :=
 bif decide (t15 < t14) then
  grd (inb t15 t13) <|
  grd (appOk [] ((at_ (0, []) t13 t15).2) 8) <|
  grd (appOk out2 [(at_ (0, []) t13 t15)] 32) <|
  rec_ t2 t22 out (out2 ++ [(at_ (0, []) t13 t15)]) t13 t14 (w64 (t15 + 1))
 else
 some (out, out2)
def Z4c (N : Nat) : Nat -> R0 -> A0 -> R0 -> A0 -> A0 -> Int -> Int -> Option D0
 | 0, _, _, _, _, _, _, _ => none
 | k_ + 1, t2, t22, out, out2, t13, t14, t15 => Z79 N (Z4c N k_) t2 t22 out out2 t13 t14 t15
def Z8d (N : Nat) (Z0ak : R0 -> A0 -> R0 -> A0 -> A0 -> Int -> Int -> Option D0) (db : D0) : Option D0 :=
 grd (appOk [] db.1 32) <|
 Z0ak [] [] db.1 [] db.2 (db.2.length : Int) 0
def Z3e (db : D0) : Option D0 := Z8d N (Z4c N N) db
def Z7q (N : Nat) (rec_ : R0 -> A0 -> R0 -> A0 -> R0 -> A0 -> I0 -> Int -> Int -> Option (D0 × Bool)) (t43 : R0) (t44 : A0) (all3 : R0) (all4 : A0) (out3 : R0) (out4 : A0) (t272 : I0) (t282 : Int) (t292 : Int) : Option (D0 × Bool) :=
 bif decide (t292 < t282) then
  grd (inb t292 t272) <|
  grd (inb (at_ 0 t272 t292) all4) <|
  grd (appOk out4 [(at_ (0, []) all4 (at_ 0 t272 t292))] 32) <|
  rec_ t43 t44 all3 all4 out3 (out4 ++ [(at_ (0, []) all4 (at_ 0 t272 t292))]) t272 t282 (w64 (t292 + 1))
 else
 some ((out3, out4), true)
def Z4r (N : Nat) : Nat -> R0 -> A0 -> R0 -> A0 -> R0 -> A0 -> I0 -> Int -> Int -> Option (D0 × Bool)
 | 0, _, _, _, _, _, _, _, _, _ => none
 | k_ + 1, t43, t44, all3, all4, out3, out4, t272, t282, t292 => Z7q N (Z4r N k_) t43 t44 all3 all4 out3 out4 t272 t282 t292
def Z7r (N : Nat) (Z0ap : R0 -> A0 -> R0 -> A0 -> R0 -> A0 -> I0 -> Int -> Int -> Option (D0 × Bool)) (rec_ : R0 -> A0 -> R0 -> A0 -> R0 -> A0 -> I0 -> Int -> Int -> Option (D0 × Bool)) (t4 : R0) (t42 : A0) (all : R0) (all2 : A0) (out : R0) (out2 : A0) (t27 : I0) (t28 : Int) (t29 : Int) : Option (D0 × Bool) :=
 bif decide (t29 < t28) then
  grd (inb t29 t27) <|
  grd (inb (at_ 0 t27 t29) all2) <|
  grd (appOk out2 [(at_ (0, []) all2 (at_ 0 t27 t29))] 32) <|
  Z0ap t4 t42 all all2 out (out2 ++ [(at_ (0, []) all2 (at_ 0 t27 t29))]) t27 t28 (w64 (t29 + 1))
 else
 some ((out, out2), true)
def Z6j (N : Nat) : Nat -> R0 -> A0 -> R0 -> A0 -> R0 -> A0 -> I0 -> Int -> Int -> Option (D0 × Bool)
 | 0, _, _, _, _, _, _, _, _, _ => none
 | k_ + 1, t4, t42, all, all2, out, out2, t27, t28, t29 => Z7r N (Z4r N k_) (Z6j N k_) t4 t42 all all2 out out2 t27 t28 t29
def Z8n (Z0aq : R0 -> A0 -> R0 -> A0 -> R0 -> A0 -> I0 -> Int -> Int -> Option (D0 × Bool)) (db : D0) (indices : I0) : Option (D0 × Bool) :=
 (Z0a N db).bind fun r =>
 bif (!r) then some (([], []), false)
 else
 (Z1o N indices (db.2.length : Int)).bind fun r2 =>
 bif (!r2) then some (([], []), false)
 else
 (Z3e N db).bind fun r3 =>
 Z0aq [] [] r3.1 r3.2 r3.1 [] indices (indices.length : Int) 0
def Z3y (db : D0) (indices : I0) : Option (D0 × Bool) := Z8n N (Z6j N N) db indices
def Z59 (n : Int) : Option I0 :=
 (Z6z N [(-1)] n).bind fun r =>
 some r
def Z5l (N : Nat) (t : Int) : Option (Bool) :=
 some (decide (t >= 0))
def Z4i (N : Nat) (v : Int) : Option (Int) :=
 some (w64 ((-1) - v))
def Z91 (rec_ : I0 -> I0 -> I0 -> Int -> Int -> Option (List Int × Bool)) (from_2 : I0) (out : I0) (t13 : I0) (t14 : Int) (t15 : Int) : Option (List Int × Bool) :=
 bif decide (t15 < t14) then
  grd (inb t15 t13) <|
  (Z5l N (at_ 0 t13 t15)).bind fun r2 =>
  bif (!r2) then
   (Z4i N (at_ 0 t13 t15)).bind fun r3 =>
   grd (inb t15 from_2) <|
   bif (r3 != (at_ 0 from_2 t15)) then some ([], false)
   else
   rec_ from_2 out t13 t14 (w64 (t15 + 1))
  else
  grd (inb (at_ 0 t13 t15) out) <|
  bif decide ((at_ 0 out (at_ 0 t13 t15)) < 0) then
   grd (inb t15 from_2) <|
   grd (inb (at_ 0 t13 t15) out) <|
   grd (inb (at_ 0 t13 t15) out) <|
   letv (out.set (at_ 0 t13 t15).toNat (at_ 0 from_2 t15)) fun u =>
   rec_ from_2 u t13 t14 (w64 (t15 + 1))
  else
  grd (inb (at_ 0 t13 t15) out) <|
  grd (inb t15 from_2) <|
  bif ((at_ 0 out (at_ 0 t13 t15)) != (at_ 0 from_2 t15)) then some ([], false)
  else
  rec_ from_2 out t13 t14 (w64 (t15 + 1))
 else
 some (out, true)
def Z87 (N : Nat) : Nat -> I0 -> I0 -> I0 -> Int -> Int -> Option (List Int × Bool)
 | 0, _, _, _, _, _ => none
 | k_ + 1, from_2, out, t13, t14, t15 => Z91 N (Z87 N k_) from_2 out t13 t14 t15
def Z0a0 (Z0bh : I0 -> I0 -> I0 -> Int -> Int -> Option (List Int × Bool)) (values : I0) (terms : I0) (from_ : I0) : Option (List Int × Bool) :=
 (Z0u N values).bind fun r =>
 Z0bh from_ r terms (terms.length : Int) 0
def Z84 (values : I0) (terms : I0) (from_ : I0) : Option (List Int × Bool) := Z0a0 N (Z87 N N) values terms from_
def Z5a (Rf : I0 -> I0 -> Q0 -> (List (List Int × List Int)) -> D0 -> Q0 -> D0 -> Option (List (List Int × List Int))) (rec_ : I0 -> I0 -> (List (List Int × List Int)) -> Q0 -> D0 -> Int -> I0 -> A0 -> Int -> Int -> Option (List (List Int × List Int))) (values2 : I0) (facts2 : I0) (t3 : List (List Int × List Int)) (t5c : Q0) (t5c2 : D0) (atom : Int) (atom2 : I0) (t34 : A0) (t35 : Int) (t36 : Int) : Option (List (List Int × List Int)) :=
 bif decide (t36 < t35) then
  grd (inb t36 t34) <|
  bif (((at_ (0, []) t34 t36).1) != atom) then
   rec_ values2 facts2 t3 t5c t5c2 atom atom2 t34 t35 (w64 (t36 + 1))
  else
  (Z84 N values2 atom2 ((at_ (0, []) t34 t36).2)).bind fun p_r3 =>
  bif p_r3.2 then
   (Z0u N facts2).bind fun r5 =>
   grd (appOk r5 [t36] 8) <|
   (Rf p_r3.1 (r5 ++ [t36]) t5c t3 t5c2 t5c t5c2).bind fun m =>
   rec_ values2 facts2 m t5c t5c2 atom atom2 t34 t35 (w64 (t36 + 1))
  else
  rec_ values2 facts2 t3 t5c t5c2 atom atom2 t34 t35 (w64 (t36 + 1))
 else
 some t3
def Z2l (N : Nat) (Rf : I0 -> I0 -> Q0 -> (List (List Int × List Int)) -> D0 -> Q0 -> D0 -> Option (List (List Int × List Int))) : Nat -> I0 -> I0 -> (List (List Int × List Int)) -> Q0 -> D0 -> Int -> I0 -> A0 -> Int -> Int -> Option (List (List Int × List Int))
 | 0, _, _, _, _, _, _, _, _, _, _ => none
 | k_ + 1, values2, facts2, t3, t5c, t5c2, atom, atom2, t34, t35, t36 => Z5a N Rf (Z2l N Rf k_) values2 facts2 t3 t5c t5c2 atom atom2 t34 t35 t36
def Z4d (Rf : I0 -> I0 -> Q0 -> (List (List Int × List Int)) -> D0 -> Q0 -> D0 -> Option (List (List Int × List Int))) (Z9p : I0 -> I0 -> (List (List Int × List Int)) -> Q0 -> D0 -> Int -> I0 -> A0 -> Int -> Int -> Option (List (List Int × List Int))) (values : I0) (facts : I0) (c2 : Q0) (c3 : List (List Int × List Int)) (c4 : D0) (sc2 : Q0) (sc4 : D0) : Option (List (List Int × List Int)) :=
 bif ((facts.length : Int) == (c2.2.1.length : Int)) then
  (Z0u N values).bind fun r =>
  (Z0u N facts).bind fun r2 =>
  grd (appOk c3 [(r, r2)] 48) <|
  some (c3 ++ [(r, r2)])
 else
 grd (inb (facts.length : Int) c2.2.1) <|
 Z9p values facts c3 sc2 sc4 ((at_ (0, []) c2.2.1 (facts.length : Int)).1) ((at_ (0, []) c2.2.1 (facts.length : Int)).2) c4.2 (c4.2.length : Int) 0
def Z0o (N : Nat) : Nat -> I0 -> I0 -> Q0 -> (List (List Int × List Int)) -> D0 -> Q0 -> D0 -> Option (List (List Int × List Int))
 | 0, _, _, _, _, _, _, _ => none
 | k_ + 1, values, facts, c2, c3, c4, sc2, sc4 => Z4d N (Z0o N k_) (Z2l N (Z0o N k_) N) values facts c2 c3 c4 sc2 sc4
def Z2e (values : I0) (facts : I0) (c2 : Q0) (c3 : List (List Int × List Int)) (c4 : D0) (sc2 : Q0) (sc4 : D0) : Option (List (List Int × List Int)) := Z0o N N values facts c2 c3 c4 sc2 sc4
def Z2g (db : D0) (query : Q0) : Option (List (List Int × List Int)) :=
 (Z18 N db query).bind fun r =>
 bif (!r) then some []
 else
 (Z59 N query.1).bind fun r2 =>
 (Z2e N r2 [] query [] db query db).bind fun m =>
 some m
def Z5b (db : D0) (indices : I0) (query : Q0) : Option (Bool) :=
 (Z3y N db indices).bind fun p_r =>
 bif p_r.2 then
  (Z2g N p_r.1 query).bind fun r3 =>
  some (decide ((r3.length : Int) > 0))
 else
 some false
def Z85 (rec_ : R0 -> A0 -> Int -> A0 -> I0 -> L0 -> Int -> Int -> Option (List Int × Bool)) (db2 : R0) (db3 : A0) (query2 : Int) (query3 : A0) (query4 : I0) (t10 : L0) (t11 : Int) (t12 : Int) : Option (List Int × Bool) :=
 bif decide (t12 < t11) then
  grd (inb t12 t10) <|
  (Z18 N (db2, db3) (query2, query3, query4)).bind fun r =>
  bif r then
   (Z5b N (db2, db3) (at_ [] t10 t12) (query2, query3, query4)).bind fun r2 =>
   bif (!r2) then some ((at_ [] t10 t12), true)
   else
   rec_ db2 db3 query2 query3 query4 t10 t11 (w64 (t12 + 1))
  else
  rec_ db2 db3 query2 query3 query4 t10 t11 (w64 (t12 + 1))
 else
 some ([], false)
def Z43 (N : Nat) : Nat -> R0 -> A0 -> Int -> A0 -> I0 -> L0 -> Int -> Int -> Option (List Int × Bool)
 | 0, _, _, _, _, _, _, _, _ => none
 | k_ + 1, db2, db3, query2, query3, query4, t10, t11, t12 => Z85 N (Z43 N k_) db2 db3 query2 query3 query4 t10 t11 t12
def Z8u (N : Nat) (Z0at : R0 -> A0 -> Int -> A0 -> I0 -> L0 -> Int -> Int -> Option (List Int × Bool)) (db : D0) (sets : L0) (query : Q0) : Option (List Int × Bool) :=
 Z0at db.1 db.2 query.1 query.2.1 query.2.2 sets (sets.length : Int) 0
def Z5m (db : D0) (sets : L0) (query : Q0) : Option (List Int × Bool) := Z8u N (Z43 N N) db sets query
def Z5n (db : D0) (sets : L0) (query : Q0) : Option (Bool) :=
 (Z5m N db sets query).bind fun p_r =>
 (Z18 N db query).bind fun r3 =>
 bif r3 then some (!p_r.2)
 else
 some false
def Z32 (db : D0) (constraints : List C0) (query : Q0) : Option (Bool) :=
 (Z30 N db constraints).bind fun r =>
 (Z5n N db r query).bind fun r2 =>
 some r2
def Z4e (N : Nat) (a : ByteArray × Int × Int) (b : ByteArray × Int × Int) : Option (Bool) :=
 bif (!seq a.1 b.1) then some false
 else
 bif (a.2.1 != b.2.1) then some false
 else
 bif (a.2.2 != b.2.2) then some false
 else
 some true
def Z5o (rec_ : R0 -> R0 -> Int -> Option (Bool)) (a2 : R0) (b2 : R0) (i : Int) : Option (Bool) :=
 bif decide (i < (a2.length : Int)) then
  grd (inb i a2) <|
  grd (inb i b2) <|
  (Z4e N ((at_ (⟨#[]⟩, (0, 0)) a2 i).1, ((at_ (⟨#[]⟩, (0, 0)) a2 i).2)) ((at_ (⟨#[]⟩, (0, 0)) b2 i).1, ((at_ (⟨#[]⟩, (0, 0)) b2 i).2))).bind fun r =>
  bif (!r) then some false
  else
  rec_ a2 b2 (w64 (i + 1))
 else
 some true
def Z3k (N : Nat) : Nat -> R0 -> R0 -> Int -> Option (Bool)
 | 0, _, _, _ => none
 | k_ + 1, a2, b2, i => Z5o N (Z3k N k_) a2 b2 i
def Z8o (N : Nat) (Z0ar : R0 -> R0 -> Int -> Option (Bool)) (a : R0) (b : R0) : Option (Bool) :=
 bif ((a.length : Int) != (b.length : Int)) then some false
 else
 Z0ar a b 0
def Z3z (a : R0) (b : R0) : Option (Bool) := Z8o N (Z3k N N) a b
def Z86 (N : Nat) (rec_ : I0 -> I0 -> Int -> Option (Bool)) (a2 : I0) (b2 : I0) (i : Int) : Option (Bool) :=
 bif decide (i < (a2.length : Int)) then
  grd (inb i a2) <|
  grd (inb i b2) <|
  bif ((at_ 0 a2 i) != (at_ 0 b2 i)) then some false
  else
  rec_ a2 b2 (w64 (i + 1))
 else
 some true
def Z63 (N : Nat) : Nat -> I0 -> I0 -> Int -> Option (Bool)
 | 0, _, _, _ => none
 | k_ + 1, a2, b2, i => Z86 N (Z63 N k_) a2 b2 i
def Z9q (N : Nat) (Z0bd : I0 -> I0 -> Int -> Option (Bool)) (a : I0) (b : I0) : Option (Bool) :=
 bif ((a.length : Int) != (b.length : Int)) then some false
 else
 Z0bd a b 0
def Z3p (a : I0) (b : I0) : Option (Bool) := Z9q N (Z63 N N) a b
def Z7a (a : Int × List Int) (b : Int × List Int) : Option (Bool) :=
 bif (a.1 != b.1) then some false
 else
 (Z3p N a.2 b.2).bind fun r =>
 bif (!r) then some false
 else
 some true
def Z7i (rec_ : A0 -> A0 -> Int -> Option (Bool)) (a2 : A0) (b2 : A0) (i : Int) : Option (Bool) :=
 bif decide (i < (a2.length : Int)) then
  grd (inb i a2) <|
  grd (inb i b2) <|
  (Z7a N (at_ (0, []) a2 i) (at_ (0, []) b2 i)).bind fun r =>
  bif (!r) then some false
  else
  rec_ a2 b2 (w64 (i + 1))
 else
 some true
def Z5p (N : Nat) : Nat -> A0 -> A0 -> Int -> Option (Bool)
 | 0, _, _, _ => none
 | k_ + 1, a2, b2, i => Z7i N (Z5p N k_) a2 b2 i
def Z9d (N : Nat) (Z0b6 : A0 -> A0 -> Int -> Option (Bool)) (a : A0) (b : A0) : Option (Bool) :=
 bif ((a.length : Int) != (b.length : Int)) then some false
 else
 Z0b6 a b 0
def Z6g (a : A0) (b : A0) : Option (Bool) := Z9d N (Z5p N N) a b
def Z4f (a : D0) (b : D0) : Option (Bool) :=
 (Z3z N a.1 b.1).bind fun r =>
 bif (!r) then some false
 else
 (Z6g N a.2 b.2).bind fun r2 =>
 bif (!r2) then some false
 else
 some true
def Z1i (N : Nat) (a : C0) (b : C0) : Option (Bool) :=
 bif (a.1 != b.1) then some false
 else
 bif (a.2.1 != b.2.1) then some false
 else
 bif (a.2.2.1 != b.2.2.1) then some false
 else
 bif (a.2.2.2.1 != b.2.2.2.1) then some false
 else
 bif (a.2.2.2.2.1 != b.2.2.2.2.1) then some false
 else
 bif (a.2.2.2.2.2.1 != b.2.2.2.2.2.1) then some false
 else
 bif (a.2.2.2.2.2.2 != b.2.2.2.2.2.2) then some false
 else
 some true
def Z2u (rec_ : (List C0) -> (List C0) -> Int -> Option (Bool)) (a2 : List C0) (b2 : List C0) (i : Int) : Option (Bool) :=
 bif decide (i < (a2.length : Int)) then
  grd (inb i a2) <|
  grd (inb i b2) <|
  (Z1i N ((at_ (0, (0, (0, (0, (0, (0, 0)))))) a2 i).1, ((at_ (0, (0, (0, (0, (0, (0, 0)))))) a2 i).2).1, (((at_ (0, (0, (0, (0, (0, (0, 0)))))) a2 i).2).2).1, ((((at_ (0, (0, (0, (0, (0, (0, 0)))))) a2 i).2).2).2).1, (((((at_ (0, (0, (0, (0, (0, (0, 0)))))) a2 i).2).2).2).2).1, ((((((at_ (0, (0, (0, (0, (0, (0, 0)))))) a2 i).2).2).2).2).2)) ((at_ (0, (0, (0, (0, (0, (0, 0)))))) b2 i).1, ((at_ (0, (0, (0, (0, (0, (0, 0)))))) b2 i).2).1, (((at_ (0, (0, (0, (0, (0, (0, 0)))))) b2 i).2).2).1, ((((at_ (0, (0, (0, (0, (0, (0, 0)))))) b2 i).2).2).2).1, (((((at_ (0, (0, (0, (0, (0, (0, 0)))))) b2 i).2).2).2).2).1, ((((((at_ (0, (0, (0, (0, (0, (0, 0)))))) b2 i).2).2).2).2).2))).bind fun r =>
  bif (!r) then some false
  else
  rec_ a2 b2 (w64 (i + 1))
 else
 some true
def Z1g (N : Nat) : Nat -> (List C0) -> (List C0) -> Int -> Option (Bool)
 | 0, _, _, _ => none
 | k_ + 1, a2, b2, i => Z2u N (Z1g N k_) a2 b2 i
def Z5u (N : Nat) (Z9e : (List C0) -> (List C0) -> Int -> Option (Bool)) (a : List C0) (b : List C0) : Option (Bool) :=
 bif ((a.length : Int) != (b.length : Int)) then some false
 else
 Z9e a b 0
def Z1a (a : List C0) (b : List C0) : Option (Bool) := Z5u N (Z1g N N) a b
def Z7b (a : Int × List Int) (b : Int × List Int) : Option (Bool) :=
 bif (a.1 != b.1) then some false
 else
 (Z3p N a.2 b.2).bind fun r =>
 bif (!r) then some false
 else
 some true
def Z7j (rec_ : A0 -> A0 -> Int -> Option (Bool)) (a2 : A0) (b2 : A0) (i : Int) : Option (Bool) :=
 bif decide (i < (a2.length : Int)) then
  grd (inb i a2) <|
  grd (inb i b2) <|
  (Z7b N (at_ (0, []) a2 i) (at_ (0, []) b2 i)).bind fun r =>
  bif (!r) then some false
  else
  rec_ a2 b2 (w64 (i + 1))
 else
 some true
def Z5q (N : Nat) : Nat -> A0 -> A0 -> Int -> Option (Bool)
 | 0, _, _, _ => none
 | k_ + 1, a2, b2, i => Z7j N (Z5q N k_) a2 b2 i
def Z9f (N : Nat) (Z0b7 : A0 -> A0 -> Int -> Option (Bool)) (a : A0) (b : A0) : Option (Bool) :=
 bif ((a.length : Int) != (b.length : Int)) then some false
 else
 Z0b7 a b 0
def Z6h (a : A0) (b : A0) : Option (Bool) := Z9f N (Z5q N N) a b
def Z6i (a : Q0) (b : Q0) : Option (Bool) :=
 bif (a.1 != b.1) then some false
 else
 (Z6h N a.2.1 b.2.1).bind fun r =>
 bif (!r) then some false
 else
 (Z3p N a.2.2 b.2.2).bind fun r2 =>
 bif (!r2) then some false
 else
 some true
def laws_FnExactSubsetCertain (aDb : D0) (aConstraints : List C0) (aQuery : Q0) : Option (Bool) :=
 (Z46 N aDb 1048576).bind fun r =>
 bif decide (r < 0) then some true
 else
 (Z19 N aConstraints r).bind fun r2 =>
 bif decide (r2 < 0) then some true
 else
 (Z66 N aQuery r2).bind fun r3 =>
 bif decide (r3 < 0) then some true
 else
 (Z2h N aDb).bind fun r4 =>
 (Z0k N aConstraints).bind fun r5 =>
 (Z48 N aQuery).bind fun r6 =>
 (Z2y N r4 r5 r6).bind fun r7 =>
 (Z2h N aDb).bind fun r8 =>
 (Z0k N aConstraints).bind fun r9 =>
 (Z48 N aQuery).bind fun r10 =>
 (Z32 N r8 r9 r10).bind fun r11 =>
 bif (!(r11 == r7)) then some false
 else
 (Z2h N aDb).bind fun r12 =>
 (Z4f N r8 r12).bind fun r13 =>
 bif (!r13) then some false
 else
 (Z0k N aConstraints).bind fun r14 =>
 (Z1a N r9 r14).bind fun r15 =>
 bif (!r15) then some false
 else
 (Z48 N aQuery).bind fun r16 =>
 (Z6i N r10 r16).bind fun r17 =>
 bif (!r17) then some false
 else
 some true
end Go.PL
