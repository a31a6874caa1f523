/- The functions read plainly. Conditions: none (definitions alone). -/
import GoSem.Core.View
import GoSem.Op.String

set_option linter.unusedVariables false
set_option linter.unusedSimpArgs false
set_option linter.unnecessarySimpa false

namespace Go.PL
def w64 (x : Int) : Int := IntKind.i64.wrap x
def w (k : IntKind) (x : Int) : Int := k.wrap x
def grd {α : Type} (c : Bool) (x : Option α) : Option α := bif c then x else none
def grz {α : Type} (b : Int) (x : Option α) : Option α := bif decide (b = 0) then none else x
def letv {α β : Type} (v : α) (k : α -> β) : β := k v
def at_ {α : Type} (d : α) (xs : List α) (i : Int) : α := xs.getD i.toNat d
def inb {α : Type} (i : Int) (xs : List α) : Bool := decide (0 <= i) && decide (i < (xs.length : Int))
def growOk {α : Type} (i' i : Int) (xs : List α) : Bool := decide (i' = i) && (decide (0 <= i') && decide (i' < (xs.length : Int)))
def appOk {α : Type} (s x : List α) (b : Nat) : Bool := decide ((s.length + x.length) * b <= 140737488355328)
def selOk {α : Type} (ix : List Int) (i : Int) (x : List α) (b : Nat) : Bool := ix.all (fun k => decide (k < i)) && decide ((x.length + 1) * b <= 140737488355328)
def selOk0 {α : Type} (x : List α) (b : Nat) : Bool := x.isEmpty && decide ((0 + 1) * b <= 140737488355328)
def makeOk (n : Int) (b : Nat) : Bool := decide (n = n) && (decide (0 <= n) && decide (n * b <= 140737488355328))
def byteAt (s : ByteArray) (n : Int) : Option UInt8 := if 0 <= n then s[n.toNat]? else none
def catOk (a b : ByteArray) : Bool := decide (a.size + b.size <= 140737488355328)
def seq (a b : ByteArray) : Bool := a.toList == b.toList
def slt (a b : ByteArray) : Bool := Op.bytesLess a.toList b.toList
def subOk (lo hi : Int) (n : Nat) : Bool := decide (0 <= lo) && (decide (lo <= hi) && decide (hi <= (n : Int)))
def sub (s : ByteArray) (lo hi : Int) : ByteArray := s.extract lo.toNat hi.toNat
def ofBytes (x : List Int) : ByteArray := ⟨(x.map fun n => UInt8.ofNat n.toNat).toArray⟩
def bits (op : BinOp) (k : IntKind) (a b : Int) : Int := match op with
 | .and => k.wrap ((BitVec.ofInt k.bits a &&& BitVec.ofInt k.bits b).toNat : Int)
 | .xor => k.wrap ((BitVec.ofInt k.bits a ^^^ BitVec.ofInt k.bits b).toNat : Int)
 | .or => k.wrap ((BitVec.ofInt k.bits a ||| BitVec.ofInt k.bits b).toNat : Int)
 | .shl => k.wrap (a * 2 ^ (min b.toNat k.bits))
 | .shr => a.fdiv (2 ^ (min b.toNat k.bits))
 | _ => 0
def imax (a b : Int) : Int := if b > a then b else a
def imin (a b : Int) : Int := if b < a then b else a
end Go.PL

namespace Go.PL
abbrev D0 : Type := List (ByteArray × Int × Int) × List (Int × List Int)
abbrev Q0 : Type := Int × List (Int × List Int) × List Int
abbrev C0 : Type := Int × Int × Int × Int × Int × Int × Int
abbrev R0 : Type := List (ByteArray × Int × Int)
abbrev A0 : Type := List (Int × List Int)
abbrev L0 : Type := List (List Int)
abbrev I0 : Type := List Int
abbrev E0 : Type := List (Int × Int)
variable (N : Nat)
def Z0w (N : Nat) (s : I0) : Option I0 := grd (decide (s.length * 8 <= 140737488355328)) (some s)
def Z8v (N : Nat) (s : I0) (n : Int) : Option I0 := grd (decide (0 <= n) && decide ((s.length + n.toNat) * 8 <= 140737488355328)) (some s)
def Z8w (N : Nat) (s : I0) : Option I0 := grd (decide (s.length < 4611686018427387904)) (some (s.mergeSort fun a b => decide (a <= b)))
def Z7m (N : Nat) (s : I0) : Option I0 := some (((List.range s.length).filter fun j => decide (j = 0 \/ s.toArray[j]! ≠ s.toArray[j - 1]!)).map fun j => s.toArray[j]!)
def Z82 (N : Nat) (s : I0) (n : Int) : Option I0 := grd (decide (s.length = 1) && (decide (0 <= n) && decide (n * 8 <= 140737488355328))) (some (List.replicate n.toNat (at_ 0 s 0)))
def Z42 (N : Nat) (a : ByteArray × Int × Int) (left_ : Int) : Option (Int) :=
 bif decide ((w64 (left_ - (a.1.size : Int))) < 0) then some (-1)
 else
 some (w64 (left_ - (a.1.size : Int)))
def Z69 (rec_ : R0 -> Int -> Int -> Option (Int)) (a2 : R0) (left_2 : Int) (i : Int) : Option (Int) :=
 bif decide (i < (a2.length : Int)) then
  grd (inb i a2) <|
  (Z42 N ((at_ (⟨#[]⟩, (0, 0)) a2 i).1, ((at_ (⟨#[]⟩, (0, 0)) a2 i).2)) left_2).bind fun r =>
  bif decide (r < 0) then some (-1)
  else
  rec_ a2 r (w64 (i + 1))
 else
 some left_2
def Z44 (N : Nat) : Nat -> R0 -> Int -> Int -> Option (Int)
 | 0, _, _, _ => none
 | k_ + 1, a2, left_2, i => Z69 N (Z44 N k_) a2 left_2 i
def Z9m (N : Nat) (Z0c2 : R0 -> Int -> Int -> Option (Int)) (a : R0) (left_ : Int) : Option (Int) :=
 bif decide ((w64 (left_ - (a.length : Int))) < 0) then some (-1)
 else
 Z0c2 a (w64 (left_ - (a.length : Int))) 0
def Z4h (a : R0) (left_ : Int) : Option (Int) := Z9m N (Z44 N N) a left_
def Z48 (N : Nat) (a : I0) (left_ : Int) : Option (Int) :=
 bif decide ((w64 (left_ - (a.length : Int))) < 0) then some (-1)
 else
 some (w64 (left_ - (a.length : Int)))
def Z6y (a : Int × List Int) (left_ : Int) : Option (Int) :=
 (Z48 N a.2 left_).bind fun r =>
 bif decide (r < 0) then some (-1)
 else
 some r
def Z8g (rec_ : A0 -> Int -> Int -> Option (Int)) (a2 : A0) (left_2 : Int) (i : Int) : Option (Int) :=
 bif decide (i < (a2.length : Int)) then
  grd (inb i a2) <|
  (Z6y N (at_ (0, []) a2 i) left_2).bind fun r =>
  bif decide (r < 0) then some (-1)
  else
  rec_ a2 r (w64 (i + 1))
 else
 some left_2
def Z6a (N : Nat) : Nat -> A0 -> Int -> Int -> Option (Int)
 | 0, _, _, _ => none
 | k_ + 1, a2, left_2, i => Z8g N (Z6a N k_) a2 left_2 i
def Z0ad (N : Nat) (Z0ci : A0 -> Int -> Int -> Option (Int)) (a : A0) (left_ : Int) : Option (Int) :=
 bif decide ((w64 (left_ - (a.length : Int))) < 0) then some (-1)
 else
 Z0ci a (w64 (left_ - (a.length : Int))) 0
def Z72 (a : A0) (left_ : Int) : Option (Int) := Z0ad N (Z6a N N) a left_
def Z4u (a : D0) (left_ : Int) : Option (Int) :=
 (Z4h N a.1 left_).bind fun r =>
 bif decide (r < 0) then some (-1)
 else
 (Z72 N a.2 r).bind fun r2 =>
 bif decide (r2 < 0) then some (-1)
 else
 some r2
def Z1b (N : Nat) (a : List C0) (left_ : Int) : Option (Int) :=
 bif decide ((w64 (left_ - (a.length : Int))) < 0) then some (-1)
 else
 some (w64 (left_ - (a.length : Int)))
def Z6z (a : Int × List Int) (left_ : Int) : Option (Int) :=
 (Z48 N a.2 left_).bind fun r =>
 bif decide (r < 0) then some (-1)
 else
 some r
def Z8h (rec_ : A0 -> Int -> Int -> Option (Int)) (a2 : A0) (left_2 : Int) (i : Int) : Option (Int) :=
 bif decide (i < (a2.length : Int)) then
  grd (inb i a2) <|
  (Z6z N (at_ (0, []) a2 i) left_2).bind fun r =>
  bif decide (r < 0) then some (-1)
  else
  rec_ a2 r (w64 (i + 1))
 else
 some left_2
def Z6b (N : Nat) : Nat -> A0 -> Int -> Int -> Option (Int)
 | 0, _, _, _ => none
 | k_ + 1, a2, left_2, i => Z8h N (Z6b N k_) a2 left_2 i
def Z0ae (N : Nat) (Z0cj : A0 -> Int -> Int -> Option (Int)) (a : A0) (left_ : Int) : Option (Int) :=
 bif decide ((w64 (left_ - (a.length : Int))) < 0) then some (-1)
 else
 Z0cj a (w64 (left_ - (a.length : Int))) 0
def Z73 (a : A0) (left_ : Int) : Option (Int) := Z0ae N (Z6b N N) a left_
def Z74 (a : Q0) (left_ : Int) : Option (Int) :=
 (Z73 N a.2.1 left_).bind fun r =>
 bif decide (r < 0) then some (-1)
 else
 (Z48 N a.2.2 r).bind fun r2 =>
 bif decide (r2 < 0) then some (-1)
 else
 some r2
def Z4v (N : Nat) (a : ByteArray × Int × Int) : Option (ByteArray × Int × Int) :=
 some a
def Z6c (rec_ : R0 -> R0 -> Int -> Option R0) (a2 : R0) (out : R0) (i : Int) : Option R0 :=
 bif decide (i < (a2.length : Int)) then
  grd (inb i a2) <|
  (Z4v N ((at_ (⟨#[]⟩, (0, 0)) a2 i).1, ((at_ (⟨#[]⟩, (0, 0)) a2 i).2))).bind fun r =>
  grd (inb i out) <|
  grd (inb i out) <|
  letv (out.set i.toNat r) fun u =>
  rec_ a2 u (w64 (i + 1))
 else
 some out
def Z45 (N : Nat) : Nat -> R0 -> R0 -> Int -> Option R0
 | 0, _, _, _ => none
 | k_ + 1, a2, out, i => Z6c N (Z45 N k_) a2 out i
def Z9n (N : Nat) (Z0c3 : R0 -> R0 -> Int -> Option R0) (a : R0) : Option R0 :=
 grd (makeOk (a.length : Int) 32) <|
 Z0c3 a (List.replicate (a.length : Int).toNat (⟨#[]⟩, (0, 0))) 0
def Z4i (a : R0) : Option R0 := Z9n N (Z45 N N) a
def Z8x (N : Nat) (rec_ : I0 -> I0 -> Int -> Option I0) (a2 : I0) (out : I0) (i : Int) : Option I0 :=
 bif decide (i < (a2.length : Int)) then
  grd (inb i a2) <|
  grd (inb i out) <|
  grd (inb i out) <|
  letv (out.set i.toNat (at_ 0 a2 i)) fun u =>
  rec_ a2 u (w64 (i + 1))
 else
 some out
def Z70 (N : Nat) : Nat -> I0 -> I0 -> Int -> Option I0
 | 0, _, _, _ => none
 | k_ + 1, a2, out, i => Z8x N (Z70 N k_) a2 out i
def Z0aw (N : Nat) (Z0ct : I0 -> I0 -> Int -> Option I0) (a : I0) : Option I0 :=
 grd (makeOk (a.length : Int) 8) <|
 Z0ct a (List.replicate (a.length : Int).toNat 0) 0
def Z49 (a : I0) : Option I0 := Z0aw N (Z70 N N) a
def Z83 (a : Int × List Int) : Option (Int × List Int) :=
 (Z49 N a.2).bind fun r =>
 some (a.1, r)
def Z8i (rec_ : A0 -> A0 -> Int -> Option A0) (a2 : A0) (out : A0) (i : Int) : Option A0 :=
 bif decide (i < (a2.length : Int)) then
  grd (inb i a2) <|
  (Z83 N (at_ (0, []) a2 i)).bind fun r =>
  grd (inb i out) <|
  grd (inb i out) <|
  letv (out.set i.toNat r) fun u =>
  rec_ a2 u (w64 (i + 1))
 else
 some out
def Z6d (N : Nat) : Nat -> A0 -> A0 -> Int -> Option A0
 | 0, _, _, _ => none
 | k_ + 1, a2, out, i => Z8i N (Z6d N k_) a2 out i
def Z0af (N : Nat) (Z0ck : A0 -> A0 -> Int -> Option A0) (a : A0) : Option A0 :=
 grd (makeOk (a.length : Int) 32) <|
 Z0ck a (List.replicate (a.length : Int).toNat (0, [])) 0
def Z75 (a : A0) : Option A0 := Z0af N (Z6d N N) a
def Z2b (a : D0) : Option D0 :=
 (Z4i N a.1).bind fun r =>
 (Z75 N a.2).bind fun r2 =>
 some (r, r2)
def Z2e (N : Nat) (a : C0) : Option C0 :=
 some a
def Z39 (rec_ : (List C0) -> (List C0) -> Int -> Option (List C0)) (a2 : List C0) (out : List C0) (i : Int) : Option (List C0) :=
 bif decide (i < (a2.length : Int)) then
  grd (inb i a2) <|
  (Z2e N ((at_ (0, (0, (0, (0, (0, (0, 0)))))) a2 i).1, ((at_ (0, (0, (0, (0, (0, (0, 0)))))) a2 i).2).1, (((at_ (0, (0, (0, (0, (0, (0, 0)))))) a2 i).2).2).1, ((((at_ (0, (0, (0, (0, (0, (0, 0)))))) a2 i).2).2).2).1, (((((at_ (0, (0, (0, (0, (0, (0, 0)))))) a2 i).2).2).2).2).1, ((((((at_ (0, (0, (0, (0, (0, (0, 0)))))) a2 i).2).2).2).2).2))).bind fun r =>
  grd (inb i out) <|
  grd (inb i out) <|
  letv (out.set i.toNat r) fun u =>
  rec_ a2 u (w64 (i + 1))
 else
 some out
def Z1d (N : Nat) : Nat -> (List C0) -> (List C0) -> Int -> Option (List C0)
 | 0, _, _, _ => none
 | k_ + 1, a2, out, i => Z39 N (Z1d N k_) a2 out i
def Z6n (N : Nat) (Z0ag : (List C0) -> (List C0) -> Int -> Option (List C0)) (a : List C0) : Option (List C0) :=
 grd (makeOk (a.length : Int) 56) <|
 Z0ag a (List.replicate (a.length : Int).toNat (0, (0, (0, (0, (0, (0, 0))))))) 0
def Z0h (a : List C0) : Option (List C0) := Z6n N (Z1d N N) a
def Z84 (a : Int × List Int) : Option (Int × List Int) :=
 (Z49 N a.2).bind fun r =>
 some (a.1, r)
def Z8j (rec_ : A0 -> A0 -> Int -> Option A0) (a2 : A0) (out : A0) (i : Int) : Option A0 :=
 bif decide (i < (a2.length : Int)) then
  grd (inb i a2) <|
  (Z84 N (at_ (0, []) a2 i)).bind fun r =>
  grd (inb i out) <|
  grd (inb i out) <|
  letv (out.set i.toNat r) fun u =>
  rec_ a2 u (w64 (i + 1))
 else
 some out
def Z6e (N : Nat) : Nat -> A0 -> A0 -> Int -> Option A0
 | 0, _, _, _ => none
 | k_ + 1, a2, out, i => Z8j N (Z6e N k_) a2 out i
def Z0ah (N : Nat) (Z0cl : A0 -> A0 -> Int -> Option A0) (a : A0) : Option A0 :=
 grd (makeOk (a.length : Int) 32) <|
 Z0cl a (List.replicate (a.length : Int).toNat (0, [])) 0
def Z76 (a : A0) : Option A0 := Z0ah N (Z6e N N) a
def Z4a (a : Q0) : Option Q0 :=
 (Z76 N a.2.1).bind fun r =>
 (Z49 N a.2.2).bind fun r2 =>
 some (a.1, r, r2)
def Z6 (N : Nat) (x : Int) (low : Int) (high : Int) : Option (Bool) :=
 bif decide (x >= low) then some (decide (x <= high))
 else
 some false
def Z9 (s : ByteArray × Int × Int) : Option (Bool) :=
 bif ((s.1.size : Int) == 1) then
  (byteAt s.1 0).bind fun b =>
  bif decide ((b.toNat : Int) >= 97) then
   (byteAt s.1 0).bind fun b2 =>
   bif decide ((b2.toNat : Int) <= 122) then
    (Z6 N s.2.1 1 3).bind fun r =>
    bif r then
     (Z6 N s.2.2 0 s.2.1).bind fun r2 =>
     some r2
    else
    some false
   else
   some false
  else
  some false
 else
 some false
def Z1e (rec_ : R0 -> Int -> Option (Bool)) (l2 : R0) (i : Int) : Option (Bool) :=
 bif decide (i < (l2.length : Int)) then
  grd (inb i l2) <|
  (Z9 N ((at_ (⟨#[]⟩, (0, 0)) l2 i).1, ((at_ (⟨#[]⟩, (0, 0)) l2 i).2))).bind fun r =>
  bif (!r) then some false
  else
  bif decide (i > 0) then
   grd (inb (w64 (i - 1)) l2) <|
   grd (inb i l2) <|
   bif (!slt ((at_ (⟨#[]⟩, (0, 0)) l2 (w64 (i - 1))).1) ((at_ (⟨#[]⟩, (0, 0)) l2 i).1)) then some false
   else
   rec_ l2 (w64 (i + 1))
  else
  rec_ l2 (w64 (i + 1))
 else
 some (decide ((l2.length : Int) <= 4))
def Z0l (N : Nat) : Nat -> R0 -> Int -> Option (Bool)
 | 0, _, _ => none
 | k_ + 1, l2, i => Z1e N (Z0l N k_) l2 i
def Z4w (N : Nat) (Z0ax : R0 -> Int -> Option (Bool)) (l : R0) : Option (Bool) :=
 Z0ax l 0
def Z0f (l : R0) : Option (Bool) := Z4w N (Z0l N N) l
def Z6f (rec_ : Int -> I0 -> Int -> Option (Bool)) (f2 : Int) (f3 : I0) (i : Int) : Option (Bool) :=
 bif decide (i < (f3.length : Int)) then
  grd (inb i f3) <|
  (Z6 N (at_ 0 f3 i) 0 9).bind fun r3 =>
  bif (!r3) then some false
  else
  rec_ f2 f3 (w64 (i + 1))
 else
 some true
def Z46 (N : Nat) : Nat -> Int -> I0 -> Int -> Option (Bool)
 | 0, _, _, _ => none
 | k_ + 1, f2, f3, i => Z6f N (Z46 N k_) f2 f3 i
def Z9o (Z0c4 : Int -> I0 -> Int -> Option (Bool)) (l : R0) (f : Int × List Int) : Option (Bool) :=
 (Z0f N l).bind fun r =>
 bif (!r) then some false
 else
 (Z6 N f.1 0 (w64 ((l.length : Int) - 1))).bind fun r2 =>
 bif (!r2) then some false
 else
 grd (inb f.1 l) <|
 bif ((f.2.length : Int) != (((at_ (⟨#[]⟩, (0, 0)) l f.1).2).1)) then some false
 else
 Z0c4 f.1 f.2 0
def Z10 (l : R0) (f : Int × List Int) : Option (Bool) := Z9o N (Z46 N N) l f
def Z77 (N : Nat) (rec_ : I0 -> I0 -> Int -> Option (Int)) (a2 : I0) (b2 : I0) (i : Int) : Option (Int) :=
 bif decide (i < (a2.length : Int)) then
  bif decide (i < (b2.length : Int)) then
   grd (inb i a2) <|
   grd (inb i b2) <|
   bif decide ((at_ 0 a2 i) < (at_ 0 b2 i)) then some (-1)
   else
   grd (inb i a2) <|
   grd (inb i b2) <|
   bif decide ((at_ 0 a2 i) > (at_ 0 b2 i)) then some 1
   else
   rec_ a2 b2 (w64 (i + 1))
  else
  bif decide ((a2.length : Int) < (b2.length : Int)) then some (-1)
  else
  bif decide ((a2.length : Int) > (b2.length : Int)) then some 1
  else
  some 0
 else
 bif decide ((a2.length : Int) < (b2.length : Int)) then some (-1)
 else
 bif decide ((a2.length : Int) > (b2.length : Int)) then some 1
 else
 some 0
def Z5j (N : Nat) : Nat -> I0 -> I0 -> Int -> Option (Int)
 | 0, _, _, _ => none
 | k_ + 1, a2, b2, i => Z77 N (Z5j N k_) a2 b2 i
def Z0ay (N : Nat) (Z0cu : I0 -> I0 -> Int -> Option (Int)) (a : I0) (b : I0) : Option (Int) :=
 Z0cu a b 0
def Z5u (a : I0) (b : I0) : Option (Int) := Z0ay N (Z5j N N) a b
def Z3w (a : Int × List Int) (b : Int × List Int) : Option (Int) :=
 bif decide (a.1 < b.1) then some (-1)
 else
 bif decide (a.1 > b.1) then some 1
 else
 (Z5u N a.2 b.2).bind fun r =>
 some r
def Z4s (rec_ : R0 -> A0 -> Int -> Option (Bool)) (d2 : R0) (d3 : A0) (i : Int) : Option (Bool) :=
 bif decide (i < (d3.length : Int)) then
  grd (inb i d3) <|
  (Z10 N d2 (at_ (0, []) d3 i)).bind fun r =>
  bif (!r) then some false
  else
  bif decide (i > 0) then
   grd (inb (w64 (i - 1)) d3) <|
   grd (inb i d3) <|
   (Z3w N (at_ (0, []) d3 (w64 (i - 1))) (at_ (0, []) d3 i)).bind fun r2 =>
   bif decide (r2 >= 0) then some false
   else
   rec_ d2 d3 (w64 (i + 1))
  else
  rec_ d2 d3 (w64 (i + 1))
 else
 (Z0f N d2).bind fun r3 =>
 bif r3 then some (decide ((d3.length : Int) <= 14))
 else
 some false
def Z2f (N : Nat) : Nat -> R0 -> A0 -> Int -> Option (Bool)
 | 0, _, _, _ => none
 | k_ + 1, d2, d3, i => Z4s N (Z2f N k_) d2 d3 i
def Z85 (N : Nat) (Z0ba : R0 -> A0 -> Int -> Option (Bool)) (d : D0) : Option (Bool) :=
 Z0ba d.1 d.2 0
def Z0 (d : D0) : Option (Bool) := Z85 N (Z2f N N) d
def Z7v (l : R0) (f : Int × List Int) : Option I0 :=
 (Z10 N l f).bind fun r =>
 bif (!r) then some []
 else
 grd (inb f.1 l) <|
 grd (subOk 0 (((at_ (⟨#[]⟩, (0, 0)) l f.1).2).2) f.2.length) <|
 grd (appOk [] (f.2.take (((at_ (⟨#[]⟩, (0, 0)) l f.1).2).2).toNat) 8) <|
 some (f.2.take (((at_ (⟨#[]⟩, (0, 0)) l f.1).2).2).toNat)
def Z2h (l : R0) (a : Int × List Int) (b : Int × List Int) : Option (Bool) :=
 (Z10 N l a).bind fun r =>
 bif r then
  (Z10 N l b).bind fun r2 =>
  bif r2 then
   bif (a.1 == b.1) then
    (Z7v N l a).bind fun r3 =>
    (Z7v N l b).bind fun r4 =>
    (Z5u N r3 r4).bind fun r5 =>
    some (r5 == 0)
   else
   some false
  else
  some false
 else
 some false
def Z18 (d : D0) (x : C0) : Option (Bool) :=
 (Z0 N d).bind fun r =>
 bif (!r) then some false
 else
 (Z6 N x.1 0 (w64 ((d.1.length : Int) - 1))).bind fun r2 =>
 bif (!r2) then some false
 else
 (Z6 N x.2.1 0 (w64 ((d.1.length : Int) - 1))).bind fun r3 =>
 bif (!r3) then some false
 else
 grd (inb x.1 d.1) <|
 grd (inb x.2.1 d.1) <|
 (Z6 N x.2.2.1 0 (w64 ((((at_ (⟨#[]⟩, (0, 0)) d.1 x.1).2).1) - 1))).bind fun r4 =>
 bif r4 then
  (Z6 N x.2.2.2.2.1 0 (w64 ((((at_ (⟨#[]⟩, (0, 0)) d.1 x.1).2).1) - 1))).bind fun r5 =>
  bif r5 then
   (Z6 N x.2.2.2.1 0 (w64 ((((at_ (⟨#[]⟩, (0, 0)) d.1 x.2.1).2).1) - 1))).bind fun r6 =>
   bif r6 then
    (Z6 N x.2.2.2.2.2.1 0 (w64 ((((at_ (⟨#[]⟩, (0, 0)) d.1 x.2.1).2).1) - 1))).bind fun r7 =>
    bif r7 then
     (Z6 N x.2.2.2.2.2.2 1 2).bind fun r8 =>
     some r8
    else
    some false
   else
   some false
  else
  some false
 else
 some false
def Z13 (d : D0) (x : C0) (i : Int) (k : Int) : Option (Bool) :=
 (Z18 N d x).bind fun r =>
 bif (!r) then some false
 else
 (Z6 N i 0 (w64 ((d.2.length : Int) - 1))).bind fun r2 =>
 bif (!r2) then some false
 else
 (Z6 N k 0 (w64 ((d.2.length : Int) - 1))).bind fun r3 =>
 bif (!r3) then some false
 else
 bif (i == k) then some false
 else
 grd (inb i d.2) <|
 grd (inb k d.2) <|
 bif (((at_ (0, []) d.2 i).1) != x.1) then some false
 else
 bif (((at_ (0, []) d.2 k).1) != x.2.1) then some false
 else
 grd (inb x.2.2.1 ((at_ (0, []) d.2 i).2)) <|
 grd (inb x.2.2.2.1 ((at_ (0, []) d.2 k).2)) <|
 bif ((at_ 0 ((at_ (0, []) d.2 i).2) x.2.2.1) != (at_ 0 ((at_ (0, []) d.2 k).2) x.2.2.2.1)) then some false
 else
 bif (x.2.2.2.2.2.2 == 1) then
  grd (inb x.2.2.2.2.1 ((at_ (0, []) d.2 i).2)) <|
  grd (inb x.2.2.2.2.2.1 ((at_ (0, []) d.2 k).2)) <|
  some ((at_ 0 ((at_ (0, []) d.2 i).2) x.2.2.2.2.1) == (at_ 0 ((at_ (0, []) d.2 k).2) x.2.2.2.2.2.1))
 else
 grd (inb x.2.2.2.2.1 ((at_ (0, []) d.2 i).2)) <|
 grd (inb x.2.2.2.2.2.1 ((at_ (0, []) d.2 k).2)) <|
 some (decide ((at_ 0 ((at_ (0, []) d.2 i).2) x.2.2.2.2.1) < (at_ 0 ((at_ (0, []) d.2 k).2) x.2.2.2.2.2.1)))
def Z5a (Z4b : (List C0) -> R0 -> A0 -> E0 -> Int -> Int -> Option E0) (rec_ : (List C0) -> R0 -> A0 -> E0 -> Int -> Int -> Bool -> Int -> Option E0) (l4 : List C0) (d6 : R0) (d7 : A0) (out3 : E0) (i3 : Int) (k2 : Int) (is_ : Bool) (n : Int) : Option E0 :=
 bif decide (n < (l4.length : Int)) then
  bif is_ then rec_ l4 d6 d7 out3 i3 k2 true (w64 (n + 1))
  else
  grd (inb n l4) <|
  (Z13 N (d6, d7) ((at_ (0, (0, (0, (0, (0, (0, 0)))))) l4 n).1, ((at_ (0, (0, (0, (0, (0, (0, 0)))))) l4 n).2).1, (((at_ (0, (0, (0, (0, (0, (0, 0)))))) l4 n).2).2).1, ((((at_ (0, (0, (0, (0, (0, (0, 0)))))) l4 n).2).2).2).1, (((((at_ (0, (0, (0, (0, (0, (0, 0)))))) l4 n).2).2).2).2).1, ((((((at_ (0, (0, (0, (0, (0, (0, 0)))))) l4 n).2).2).2).2).2)) i3 k2).bind fun r3 =>
  bif r3 then rec_ l4 d6 d7 out3 i3 k2 true (w64 (n + 1))
  else
  grd (inb n l4) <|
  (Z13 N (d6, d7) ((at_ (0, (0, (0, (0, (0, (0, 0)))))) l4 n).1, ((at_ (0, (0, (0, (0, (0, (0, 0)))))) l4 n).2).1, (((at_ (0, (0, (0, (0, (0, (0, 0)))))) l4 n).2).2).1, ((((at_ (0, (0, (0, (0, (0, (0, 0)))))) l4 n).2).2).2).1, (((((at_ (0, (0, (0, (0, (0, (0, 0)))))) l4 n).2).2).2).2).1, ((((((at_ (0, (0, (0, (0, (0, (0, 0)))))) l4 n).2).2).2).2).2)) k2 i3).bind fun r4 =>
  rec_ l4 d6 d7 out3 i3 k2 r4 (w64 (n + 1))
 else
 bif is_ then
  grd (appOk out3 [(i3, k2)] 16) <|
  Z4b l4 d6 d7 (out3 ++ [(i3, k2)]) i3 (w64 (k2 + 1))
 else
 Z4b l4 d6 d7 out3 i3 (w64 (k2 + 1))
def Z31 (Z4b : (List C0) -> R0 -> A0 -> E0 -> Int -> Int -> Option E0) (N : Nat) : Nat -> (List C0) -> R0 -> A0 -> E0 -> Int -> Int -> Bool -> Int -> Option E0
 | 0, _, _, _, _, _, _, _, _ => none
 | k_ + 1, l4, d6, d7, out3, i3, k2, is_, n => Z5a N Z4b (Z31 Z4b N k_) l4 d6 d7 out3 i3 k2 is_ n
def Z5b (Z4c : (List C0) -> R0 -> A0 -> E0 -> Int -> Option E0) (Z0bj : (List C0) -> R0 -> A0 -> E0 -> Int -> Int -> Bool -> Int -> Option E0) (rec_ : (List C0) -> R0 -> A0 -> E0 -> Int -> Int -> Option E0) (l3 : List C0) (d4 : R0) (d5 : A0) (out2 : E0) (i2 : Int) (k : Int) : Option E0 :=
 bif decide (k < (d5.length : Int)) then
  grd (inb i2 d5) <|
  grd (inb k d5) <|
  (Z2h N d4 (at_ (0, []) d5 i2) (at_ (0, []) d5 k)).bind fun r2 =>
  Z0bj l3 d4 d5 out2 i2 k r2 0
 else
 Z4c l3 d4 d5 out2 (w64 (i2 + 1))
def Z0x (Z4c : (List C0) -> R0 -> A0 -> E0 -> Int -> Option E0) (N : Nat) : Nat -> (List C0) -> R0 -> A0 -> E0 -> Int -> Int -> Option E0
 | 0, _, _, _, _, _, _ => none
 | k_ + 1, l3, d4, d5, out2, i2, k => Z5b N Z4c (Z31 (Z0x Z4c N k_) N N) (Z0x Z4c N k_) l3 d4 d5 out2 i2 k
def Z3v (Z0bk : (List C0) -> R0 -> A0 -> E0 -> Int -> Int -> Option E0) (rec_ : (List C0) -> R0 -> A0 -> E0 -> Int -> Option E0) (l2 : List C0) (d2 : R0) (d3 : A0) (out : E0) (i : Int) : Option E0 :=
 bif decide (i < (d3.length : Int)) then
  (Z0 N (d2, d3)).bind fun r =>
  bif r then Z0bk l2 d2 d3 out i (w64 (i + 1))
  else
  some out
 else
 some out
def Z1f (N : Nat) : Nat -> (List C0) -> R0 -> A0 -> E0 -> Int -> Option E0
 | 0, _, _, _, _, _ => none
 | k_ + 1, l2, d2, d3, out, i => Z3v N (Z0x (Z1f N k_) N N) (Z1f N k_) l2 d2 d3 out i
def Z8y (N : Nat) (Z0bl : (List C0) -> R0 -> A0 -> E0 -> Int -> Option E0) (d : D0) (l : List C0) : Option E0 :=
 Z0bl l d.1 d.2 [] 0
def Z3b (d : D0) (l : List C0) : Option E0 := Z8y N (Z1f N N) d l
def Z5c (rec_ : Int -> E0 -> Int -> Option (Bool)) (n2 : Int) (l2 : E0) (i : Int) : Option (Bool) :=
 bif decide (i < (l2.length : Int)) then
  grd (inb i l2) <|
  grd (inb i l2) <|
  (Z6 N ((at_ (0, 0) l2 i).1) 0 (w64 (((at_ (0, 0) l2 i).2) - 1))).bind fun r =>
  bif (!r) then some false
  else
  grd (inb i l2) <|
  (Z6 N ((at_ (0, 0) l2 i).2) 0 (w64 (n2 - 1))).bind fun r2 =>
  bif (!r2) then some false
  else
  bif decide (i > 0) then
   grd (inb i l2) <|
   grd (inb (w64 (i - 1)) l2) <|
   bif decide (((at_ (0, 0) l2 i).1) < ((at_ (0, 0) l2 (w64 (i - 1))).1)) then some false
   else
   grd (inb i l2) <|
   grd (inb (w64 (i - 1)) l2) <|
   bif (((at_ (0, 0) l2 i).1) == ((at_ (0, 0) l2 (w64 (i - 1))).1)) then
    grd (inb i l2) <|
    grd (inb (w64 (i - 1)) l2) <|
    bif decide (((at_ (0, 0) l2 i).2) <= ((at_ (0, 0) l2 (w64 (i - 1))).2)) then some false
    else
    rec_ n2 l2 (w64 (i + 1))
   else
   rec_ n2 l2 (w64 (i + 1))
  else
  rec_ n2 l2 (w64 (i + 1))
 else
 (Z6 N n2 0 14).bind fun r3 =>
 some r3
def Z32 (N : Nat) : Nat -> Int -> E0 -> Int -> Option (Bool)
 | 0, _, _, _ => none
 | k_ + 1, n2, l2, i => Z5c N (Z32 N k_) n2 l2 i
def Z8z (N : Nat) (Z0bm : Int -> E0 -> Int -> Option (Bool)) (n : Int) (l : E0) : Option (Bool) :=
 Z0bm n l 0
def Z1t (n : Int) (l : E0) : Option (Bool) := Z8z N (Z32 N N) n l
def Z9i (rec_ : Int -> I0 -> Int -> Option (Bool)) (n2 : Int) (s2 : I0) (i : Int) : Option (Bool) :=
 bif decide (i < (s2.length : Int)) then
  grd (inb i s2) <|
  (Z6 N (at_ 0 s2 i) 0 (w64 (n2 - 1))).bind fun r =>
  bif (!r) then some false
  else
  bif decide (i > 0) then
   grd (inb i s2) <|
   grd (inb (w64 (i - 1)) s2) <|
   bif decide ((at_ 0 s2 i) <= (at_ 0 s2 (w64 (i - 1)))) then some false
   else
   rec_ n2 s2 (w64 (i + 1))
  else
  rec_ n2 s2 (w64 (i + 1))
 else
 some true
def Z7r (N : Nat) : Nat -> Int -> I0 -> Int -> Option (Bool)
 | 0, _, _, _ => none
 | k_ + 1, n2, s2, i => Z9i N (Z7r N k_) n2 s2 i
def Z0bb (N : Nat) (Z0cz : Int -> I0 -> Int -> Option (Bool)) (n : Int) (s : I0) : Option (Bool) :=
 Z0cz n s 0
def Z90 (n : Int) (s : I0) : Option (Bool) := Z0bb N (Z7r N N) n s
def Z9j (N : Nat) (rec_ : I0 -> Int -> Int -> Option (Bool)) (l2 : I0) (x2 : Int) (i : Int) : Option (Bool) :=
 bif decide (i < (l2.length : Int)) then
  grd (inb i l2) <|
  bif ((at_ 0 l2 i) == x2) then some true
  else
  rec_ l2 x2 (w64 (i + 1))
 else
 some false
def Z7s (N : Nat) : Nat -> I0 -> Int -> Int -> Option (Bool)
 | 0, _, _, _ => none
 | k_ + 1, l2, x2, i => Z9j N (Z7s N k_) l2 x2 i
def Z0bc (N : Nat) (Z0d0 : I0 -> Int -> Int -> Option (Bool)) (l : I0) (x : Int) : Option (Bool) :=
 Z0d0 l x 0
def Z4d (l : I0) (x : Int) : Option (Bool) := Z0bc N (Z7s N N) l x
def Z5d (rec_ : E0 -> I0 -> Int -> Option (Bool)) (l2 : E0) (s2 : I0) (i : Int) : Option (Bool) :=
 bif decide (i < (l2.length : Int)) then
  grd (inb i l2) <|
  (Z4d N s2 ((at_ (0, 0) l2 i).1)).bind fun r =>
  bif r then
   grd (inb i l2) <|
   (Z4d N s2 ((at_ (0, 0) l2 i).2)).bind fun r2 =>
   bif r2 then some false
   else
   rec_ l2 s2 (w64 (i + 1))
  else
  rec_ l2 s2 (w64 (i + 1))
 else
 some true
def Z33 (N : Nat) : Nat -> E0 -> I0 -> Int -> Option (Bool)
 | 0, _, _, _ => none
 | k_ + 1, l2, s2, i => Z5d N (Z33 N k_) l2 s2 i
def Z91 (N : Nat) (Z0bn : E0 -> I0 -> Int -> Option (Bool)) (l : E0) (s : I0) : Option (Bool) :=
 Z0bn l s 0
def Z1u (l : E0) (s : I0) : Option (Bool) := Z91 N (Z33 N N) l s
def Z5v (l : E0) (s : I0) (x : Int) : Option (Bool) :=
 (Z4d N s x).bind fun r =>
 bif (!r) then
  grd (appOk [] s 8) <|
  grd (appOk s [x] 8) <|
  (Z1u N l (s ++ [x])).bind fun r2 =>
  some r2
 else
 some false
def Z2x (rec_ : Int -> E0 -> I0 -> Int -> Option (Bool)) (n2 : Int) (l2 : E0) (s2 : I0) (x : Int) : Option (Bool) :=
 bif decide (x < n2) then
  (Z5v N l2 s2 x).bind fun r4 =>
  bif r4 then some false
  else
  rec_ n2 l2 s2 (w64 (x + 1))
 else
 some true
def Z19 (N : Nat) : Nat -> Int -> E0 -> I0 -> Int -> Option (Bool)
 | 0, _, _, _, _ => none
 | k_ + 1, n2, l2, s2, x => Z2x N (Z19 N k_) n2 l2 s2 x
def Z60 (Z0ab : Int -> E0 -> I0 -> Int -> Option (Bool)) (n : Int) (l : E0) (s : I0) : Option (Bool) :=
 (Z1t N n l).bind fun r =>
 bif (!r) then some false
 else
 (Z90 N n s).bind fun r2 =>
 bif (!r2) then some false
 else
 (Z1u N l s).bind fun r3 =>
 bif (!r3) then some false
 else
 Z0ab n l s 0
def Z16 (n : Int) (l : E0) (s : I0) : Option (Bool) := Z60 N (Z19 N N) n l s
def Z92 (N : Nat) (Rf : Int -> E0 -> I0 -> Int -> Option L0) (rec_ : Int -> E0 -> I0 -> Int -> L0 -> Bool -> Int -> Option L0) (n2 : Int) (l2 : E0) (s2 : I0) (x2 : Int) (out : L0) (met : Bool) (i : Int) : Option L0 :=
 bif decide (i < (l2.length : Int)) then
  bif met then rec_ n2 l2 s2 x2 out true (w64 (i + 1))
  else
  grd (inb i l2) <|
  bif (((at_ (0, 0) l2 i).1) == x2) then rec_ n2 l2 s2 x2 out true (w64 (i + 1))
  else
  grd (inb i l2) <|
  rec_ n2 l2 s2 x2 out (((at_ (0, 0) l2 i).2) == x2) (w64 (i + 1))
 else
 bif met then
  (Rf n2 l2 s2 (w64 (x2 + 1))).bind fun r4 =>
  grd (appOk out r4 24) <|
  some (out ++ r4)
 else
 some out
def Z5k (N : Nat) (Rf : Int -> E0 -> I0 -> Int -> Option L0) : Nat -> Int -> E0 -> I0 -> Int -> L0 -> Bool -> Int -> Option L0
 | 0, _, _, _, _, _, _, _ => none
 | k_ + 1, n2, l2, s2, x2, out, met, i => Z92 N Rf (Z5k N Rf k_) n2 l2 s2 x2 out met i
def Z9y (Rf : Int -> E0 -> I0 -> Int -> Option L0) (Z0bi : Int -> E0 -> I0 -> Int -> L0 -> Bool -> Int -> Option L0) (n : Int) (l : E0) (s : I0) (x : Int) : Option L0 :=
 bif (x == n) then
  (Z16 N n l s).bind fun r =>
  bif r then
   grd (appOk [] s 8) <|
   some [s]
  else
  some []
 else
 (Z5v N l s x).bind fun r2 =>
 bif r2 then
  grd (appOk [] s 8) <|
  grd (appOk s [x] 8) <|
  (Rf n l (s ++ [x]) (w64 (x + 1))).bind fun r3 =>
  Z0bi n l s x r3 false 0
 else
 Z0bi n l s x [] false 0
def Z3i (N : Nat) : Nat -> Int -> E0 -> I0 -> Int -> Option L0
 | 0, _, _, _, _ => none
 | k_ + 1, n, l, s, x => Z9y N (Z3i N k_) (Z5k N (Z3i N k_) N) n l s x
def Z9b (n : Int) (l : E0) (s : I0) (x : Int) : Option L0 := Z3i N N n l s x
def Z0s (n : Int) (l : E0) : Option L0 :=
 (Z1t N n l).bind fun r =>
 bif (!r) then some []
 else
 (Z9b N n l [] 0).bind fun r2 =>
 some r2
def Z3c (d : D0) (l : List C0) : Option L0 :=
 (Z0 N d).bind fun r =>
 bif (!r) then some []
 else
 (Z3b N d l).bind fun r2 =>
 (Z0s N (d.2.length : Int) r2).bind fun r3 =>
 some r3
def Z3k (N : Nat) (rec_ : I0 -> L0 -> L0 -> Int -> Int -> Option L0) (outx : I0) (out3 : L0) (all3 : L0) (n3 : Int) (i3 : Int) : Option L0 :=
 bif decide (i3 < (all3.length : Int)) then
  grd (inb i3 all3) <|
  bif (((at_ [] all3 i3).length : Int) == n3) then
   grd (inb i3 all3) <|
   grd (selOk outx i3 out3 24) <|
   rec_ (outx ++ [i3]) (out3 ++ [(at_ [] all3 i3)]) all3 n3 (w64 (i3 + 1))
  else
  rec_ outx out3 all3 n3 (w64 (i3 + 1))
 else
 some out3
def Z1m (N : Nat) : Nat -> I0 -> L0 -> L0 -> Int -> Int -> Option L0
 | 0, _, _, _, _, _ => none
 | k_ + 1, outx, out3, all3, n3, i3 => Z3k N (Z1m N k_) outx out3 all3 n3 i3
def Z3l (N : Nat) (Z0ap : I0 -> L0 -> L0 -> Int -> Int -> Option L0) (rec_ : L0 -> L0 -> Int -> Int -> Option L0) (out2 : L0) (all2 : L0) (n2 : Int) (i2 : Int) : Option L0 :=
 bif decide (i2 < (all2.length : Int)) then
  grd (inb i2 all2) <|
  bif (((at_ [] all2 i2).length : Int) == n2) then
   grd (inb i2 all2) <|
   grd (selOk0 out2 24) <|
   Z0ap [i2] [(at_ [] all2 i2)] all2 n2 (w64 (i2 + 1))
  else
  rec_ out2 all2 n2 (w64 (i2 + 1))
 else
 some out2
def Z1n (N : Nat) : Nat -> L0 -> L0 -> Int -> Int -> Option L0
 | 0, _, _, _, _ => none
 | k_ + 1, out2, all2, n2, i2 => Z3l N (Z1m N k_) (Z1n N k_) out2 all2 n2 i2
def Z3m (N : Nat) (Z0aq : L0 -> L0 -> Int -> Int -> Option L0) (rec_ : L0 -> L0 -> Int -> Int -> Option L0) (out : L0) (all : L0) (n : Int) (i : Int) : Option L0 :=
 bif decide (i < (all.length : Int)) then
  grd (inb i all) <|
  rec_ out all (imax n ((at_ [] all i).length : Int)) (w64 (i + 1))
 else
 Z0aq out all n 0
def Z1o (N : Nat) : Nat -> L0 -> L0 -> Int -> Int -> Option L0
 | 0, _, _, _, _ => none
 | k_ + 1, out, all, n, i => Z3m N (Z1n N N) (Z1o N k_) out all n i
def Z6t (Z0ar : L0 -> L0 -> Int -> Int -> Option L0) (d : D0) (l : List C0) : Option L0 :=
 (Z3c N d l).bind fun r =>
 Z0ar [] r 0 0
def Z1i (d : D0) (l : List C0) : Option L0 := Z6t N (Z1o N N) d l
def Z86 (Z0y : R0 -> Int -> A0 -> I0 -> (List Bool) -> Int -> Option (Bool)) (rec_ : R0 -> Int -> A0 -> I0 -> (List Bool) -> Int -> Int -> I0 -> Int -> Option (Bool)) (l4 : R0) (q8 : Int) (q9 : A0) (q10 : I0) (met3 : List Bool) (i3 : Int) (a3 : Int) (a4 : I0) (k2 : Int) : Option (Bool) :=
 bif decide (k2 < (a4.length : Int)) then
  grd (inb k2 a4) <|
  (Z6 N (at_ 0 a4 k2) (-10) (w64 (q8 - 1))).bind fun r5 =>
  bif (!r5) then some false
  else
  grd (inb k2 a4) <|
  bif decide ((at_ 0 a4 k2) >= 0) then
   grd (inb k2 a4) <|
   grd (inb (at_ 0 a4 k2) met3) <|
   grd (inb (at_ 0 a4 k2) met3) <|
   letv (met3.set (at_ 0 a4 k2).toNat true) fun u =>
   rec_ l4 q8 q9 q10 u i3 a3 a4 (w64 (k2 + 1))
  else
  rec_ l4 q8 q9 q10 met3 i3 a3 a4 (w64 (k2 + 1))
 else
 Z0y l4 q8 q9 q10 met3 (w64 (i3 + 1))
def Z1v (Z0y : R0 -> Int -> A0 -> I0 -> (List Bool) -> Int -> Option (Bool)) (N : Nat) : Nat -> R0 -> Int -> A0 -> I0 -> (List Bool) -> Int -> Int -> I0 -> Int -> Option (Bool)
 | 0, _, _, _, _, _, _, _, _, _ => none
 | k_ + 1, l4, q8, q9, q10, met3, i3, a3, a4, k2 => Z86 N Z0y (Z1v Z0y N k_) l4 q8 q9 q10 met3 i3 a3 a4 k2
def Z5w (N : Nat) (Z0y : R0 -> Int -> A0 -> I0 -> (List Bool) -> Int -> Option (Bool)) (Z0bt : R0 -> Int -> A0 -> I0 -> (List Bool) -> Int -> Int -> I0 -> Int -> Option (Bool)) (rec_ : R0 -> Int -> A0 -> I0 -> (List Bool) -> Int -> Int -> I0 -> Int -> Option (Bool)) (l3 : R0) (q5 : Int) (q6 : A0) (q7 : I0) (met2 : List Bool) (i2 : Int) (a : Int) (a2 : I0) (k : Int) : Option (Bool) :=
 bif decide (k < i2) then
  grd (inb k q6) <|
  bif (((at_ (0, []) q6 k).1) == a) then some false
  else
  rec_ l3 q5 q6 q7 met2 i2 a a2 (w64 (k + 1))
 else
 Z0bt l3 q5 q6 q7 met2 i2 a a2 0
def Z2i (Z0y : R0 -> Int -> A0 -> I0 -> (List Bool) -> Int -> Option (Bool)) (N : Nat) : Nat -> R0 -> Int -> A0 -> I0 -> (List Bool) -> Int -> Int -> I0 -> Int -> Option (Bool)
 | 0, _, _, _, _, _, _, _, _, _ => none
 | k_ + 1, l3, q5, q6, q7, met2, i2, a, a2, k => Z5w N Z0y (Z1v Z0y N N) (Z2i Z0y N k_) l3 q5 q6 q7 met2 i2 a a2 k
def Z5x (rec_ : Int -> A0 -> I0 -> Int -> Option (Bool)) (q14 : Int) (q15 : A0) (q16 : I0) (i4 : Int) : Option (Bool) :=
 bif decide (i4 < (q16.length : Int)) then
  grd (inb i4 q16) <|
  (Z6 N (at_ 0 q16 i4) 0 (w64 (q14 - 1))).bind fun r6 =>
  bif (!r6) then some false
  else
  bif decide (i4 > 0) then
   grd (inb i4 q16) <|
   grd (inb (w64 (i4 - 1)) q16) <|
   bif decide ((at_ 0 q16 i4) <= (at_ 0 q16 (w64 (i4 - 1)))) then some false
   else
   rec_ q14 q15 q16 (w64 (i4 + 1))
  else
  rec_ q14 q15 q16 (w64 (i4 + 1))
 else
 some true
def Z2j (N : Nat) : Nat -> Int -> A0 -> I0 -> Int -> Option (Bool)
 | 0, _, _, _, _ => none
 | k_ + 1, q14, q15, q16, i4 => Z5x N (Z2j N k_) q14 q15 q16 i4
def Z5y (N : Nat) (Z0bu : Int -> A0 -> I0 -> Int -> Option (Bool)) (rec_ : Int -> A0 -> I0 -> (List Bool) -> Int -> Option (Bool)) (q11 : Int) (q12 : A0) (q13 : I0) (met4 : List Bool) (v : Int) : Option (Bool) :=
 bif decide (v < q11) then
  grd (inb v met4) <|
  bif (!(at_ false met4 v)) then some false
  else
  rec_ q11 q12 q13 met4 (w64 (v + 1))
 else
 Z0bu q11 q12 q13 0
def Z2k (N : Nat) : Nat -> Int -> A0 -> I0 -> (List Bool) -> Int -> Option (Bool)
 | 0, _, _, _, _, _ => none
 | k_ + 1, q11, q12, q13, met4, v => Z5y N (Z2j N N) (Z2k N k_) q11 q12 q13 met4 v
def Z87 (Z0bv : R0 -> Int -> A0 -> I0 -> (List Bool) -> Int -> Int -> I0 -> Int -> Option (Bool)) (Z0bw : Int -> A0 -> I0 -> (List Bool) -> Int -> Option (Bool)) (rec_ : R0 -> Int -> A0 -> I0 -> (List Bool) -> Int -> Option (Bool)) (l2 : R0) (q2 : Int) (q3 : A0) (q4 : I0) (met : List Bool) (i : Int) : Option (Bool) :=
 bif decide (i < (q3.length : Int)) then
  grd (inb i q3) <|
  (Z6 N ((at_ (0, []) q3 i).1) 0 (w64 ((l2.length : Int) - 1))).bind fun r4 =>
  bif (!r4) then some false
  else
  grd (inb ((at_ (0, []) q3 i).1) l2) <|
  bif ((((at_ (0, []) q3 i).2).length : Int) != (((at_ (⟨#[]⟩, (0, 0)) l2 ((at_ (0, []) q3 i).1)).2).1)) then some false
  else
  Z0bv l2 q2 q3 q4 met i ((at_ (0, []) q3 i).1) ((at_ (0, []) q3 i).2) 0
 else
 Z0bw q2 q3 q4 met 0
def Z3n (N : Nat) : Nat -> R0 -> Int -> A0 -> I0 -> (List Bool) -> Int -> Option (Bool)
 | 0, _, _, _, _, _, _ => none
 | k_ + 1, l2, q2, q3, q4, met, i => Z87 N (Z2i (Z3n N k_) N N) (Z2k N N) (Z3n N k_) l2 q2 q3 q4 met i
def Z9d (Z0bx : R0 -> Int -> A0 -> I0 -> (List Bool) -> Int -> Option (Bool)) (l : R0) (q : Q0) : Option (Bool) :=
 (Z0f N l).bind fun r =>
 bif (!r) then some false
 else
 (Z6 N q.1 0 4).bind fun r2 =>
 bif (!r2) then some false
 else
 (Z6 N (q.2.1.length : Int) 1 3).bind fun r3 =>
 bif (!r3) then some false
 else
 grd (makeOk 4 1) <|
 Z0bx l q.1 q.2.1 q.2.2 (List.replicate (4 : Int).toNat false) 0
def Z3x (l : R0) (q : Q0) : Option (Bool) := Z9d N (Z3n N N) l q
def Z2c (d : D0) (q : Q0) : Option (Bool) :=
 (Z0 N d).bind fun r =>
 bif r then
  (Z3x N d.1 q).bind fun r2 =>
  some r2
 else
 some false
def Z9u (N : Nat) (rec_ : Int -> I0 -> Option I0) (n2 : Int) (l : I0) : Option I0 :=
 bif decide ((l.length : Int) < n2) then
  grd (appOk l [(-1)] 8) <|
  rec_ n2 (l ++ [(-1)])
 else
 some l
def Z7w (N : Nat) : Nat -> Int -> I0 -> Option I0
 | 0, _, _ => none
 | k_ + 1, n2, l => Z9u N (Z7w N k_) n2 l
def Z0ai (N : Nat) (Z0cm : Int -> I0 -> Option I0) (n : Int) : Option I0 :=
 Z0cm n []
def Z61 (n : Int) : Option I0 := Z0ai N (Z7w N N) n
def Z9v (N : Nat) (rec_ : Int -> I0 -> Int -> I0 -> I0 -> Int -> Option (List Int × Bool)) (a2 : Int) (a3 : I0) (f2 : Int) (f3 : I0) (x : I0) (i : Int) : Option (List Int × Bool) :=
 bif decide (i < (a3.length : Int)) then
  grd (inb i a3) <|
  bif decide ((at_ 0 a3 i) < 0) then
   grd (inb i f3) <|
   bif ((w64 ((-1) - (at_ 0 a3 i))) != (at_ 0 f3 i)) then some (x, false)
   else
   rec_ a2 a3 f2 f3 x (w64 (i + 1))
  else
  grd (inb (at_ 0 a3 i) x) <|
  bif decide ((at_ 0 x (at_ 0 a3 i)) >= 0) then
   grd (inb (at_ 0 a3 i) x) <|
   grd (inb i f3) <|
   bif ((at_ 0 x (at_ 0 a3 i)) != (at_ 0 f3 i)) then some (x, false)
   else
   grd (inb i f3) <|
   grd (inb (at_ 0 a3 i) x) <|
   grd (inb (at_ 0 a3 i) x) <|
   letv (x.set (at_ 0 a3 i).toNat (at_ 0 f3 i)) fun u =>
   rec_ a2 a3 f2 f3 u (w64 (i + 1))
  else
  grd (inb i f3) <|
  grd (inb (at_ 0 a3 i) x) <|
  grd (inb (at_ 0 a3 i) x) <|
  letv (x.set (at_ 0 a3 i).toNat (at_ 0 f3 i)) fun u2 =>
  rec_ a2 a3 f2 f3 u2 (w64 (i + 1))
 else
 some (x, true)
def Z7x (N : Nat) : Nat -> Int -> I0 -> Int -> I0 -> I0 -> Int -> Option (List Int × Bool)
 | 0, _, _, _, _, _, _ => none
 | k_ + 1, a2, a3, f2, f3, x, i => Z9v N (Z7x N k_) a2 a3 f2 f3 x i
def Z0aj (N : Nat) (Z0cn : Int -> I0 -> Int -> I0 -> I0 -> Int -> Option (List Int × Bool)) (a : Int × List Int) (f : Int × List Int) (vals : I0) : Option (List Int × Bool) :=
 grd (appOk [] vals 8) <|
 bif (f.1 != a.1) then some (vals, false)
 else
 bif ((f.2.length : Int) != (a.2.length : Int)) then some (vals, false)
 else
 Z0cn a.1 a.2 f.1 f.2 vals 0
def Z78 (a : Int × List Int) (f : Int × List Int) (vals : I0) : Option (List Int × Bool) := Z0aj N (Z7x N N) a f vals
def Z9w (Rf : D0 -> Q0 -> Int -> I0 -> I0 -> Option (List (List Int × List Int))) (rec_ : Int -> I0 -> I0 -> R0 -> A0 -> Int -> A0 -> I0 -> (List (List Int × List Int)) -> Int -> Option (List (List Int × List Int))) (k2 : Int) (vals2 : I0) (facts2 : I0) (d2 : R0) (d3 : A0) (q2 : Int) (q3 : A0) (q4 : I0) (out : List (List Int × List Int)) (i : Int) : Option (List (List Int × List Int)) :=
 bif decide (i < (d3.length : Int)) then
  grd (inb k2 q3) <|
  grd (inb i d3) <|
  (Z78 N (at_ (0, []) q3 k2) (at_ (0, []) d3 i) vals2).bind fun p_r =>
  bif p_r.2 then
   grd (appOk [] facts2 8) <|
   grd (appOk facts2 [i] 8) <|
   (Rf (d2, d3) (q2, q3, q4) (w64 (k2 + 1)) p_r.1 (facts2 ++ [i])).bind fun r3 =>
   grd (appOk out r3 48) <|
   rec_ k2 vals2 facts2 d2 d3 q2 q3 q4 (out ++ r3) (w64 (i + 1))
  else
  rec_ k2 vals2 facts2 d2 d3 q2 q3 q4 out (w64 (i + 1))
 else
 some out
def Z7y (N : Nat) (Rf : D0 -> Q0 -> Int -> I0 -> I0 -> Option (List (List Int × List Int))) : Nat -> Int -> I0 -> I0 -> R0 -> A0 -> Int -> A0 -> I0 -> (List (List Int × List Int)) -> Int -> Option (List (List Int × List Int))
 | 0, _, _, _, _, _, _, _, _, _, _ => none
 | k_ + 1, k2, vals2, facts2, d2, d3, q2, q3, q4, out, i => Z9w N Rf (Z7y N Rf k_) k2 vals2 facts2 d2 d3 q2 q3 q4 out i
def Z9t (N : Nat) (Rf : D0 -> Q0 -> Int -> I0 -> I0 -> Option (List (List Int × List Int))) (Z0co : Int -> I0 -> I0 -> R0 -> A0 -> Int -> A0 -> I0 -> (List (List Int × List Int)) -> Int -> Option (List (List Int × List Int))) (d : D0) (q : Q0) (k : Int) (vals : I0) (facts : I0) : Option (List (List Int × List Int)) :=
 bif (k == (q.2.1.length : Int)) then
  grd (appOk [] vals 8) <|
  grd (appOk [] facts 8) <|
  some [(vals, facts)]
 else
 Z0co k vals facts d.1 d.2 q.1 q.2.1 q.2.2 [] 0
def Z3o (N : Nat) : Nat -> D0 -> Q0 -> Int -> I0 -> I0 -> Option (List (List Int × List Int))
 | 0, _, _, _, _, _ => none
 | k_ + 1, d, q, k, vals, facts => Z9t N (Z3o N k_) (Z7y N (Z3o N k_) N) d q k vals facts
def Z8o (d : D0) (q : Q0) (k : Int) (vals : I0) (facts : I0) : Option (List (List Int × List Int)) := Z3o N N d q k vals facts
def Z2v (d : D0) (q : Q0) : Option (List (List Int × List Int)) :=
 (Z2c N d q).bind fun r =>
 bif (!r) then some []
 else
 (Z61 N q.1).bind fun r2 =>
 (Z8o N d q 0 r2 []).bind fun r3 =>
 some r3
def Z7z (N : Nat) (Z6r : I0 -> I0 -> Int -> Option I0) (rec_ : I0 -> I0 -> Int -> Int -> Option I0) (l3 : I0) (out2 : I0) (i2 : Int) (k : Int) : Option I0 :=
 bif decide (k > 0) then
  grd (inb (w64 (k - 1)) out2) <|
  grd (inb i2 l3) <|
  bif decide ((at_ 0 out2 (w64 (k - 1))) > (at_ 0 l3 i2)) then rec_ l3 out2 i2 (w64 (k - 1))
  else
  grd (subOk 0 k out2.length) <|
  grd (appOk [] (out2.take k.toNat) 8) <|
  grd (inb i2 l3) <|
  grd (appOk (out2.take k.toNat) [(at_ 0 l3 i2)] 8) <|
  grd (subOk k (out2.length : Int) out2.length) <|
  grd (appOk ((out2.take k.toNat) ++ [(at_ 0 l3 i2)]) (out2.drop k.toNat) 8) <|
  Z6r l3 (((out2.take k.toNat) ++ [(at_ 0 l3 i2)]) ++ (out2.drop k.toNat)) (w64 (i2 + 1))
 else
 grd (subOk 0 k out2.length) <|
 grd (appOk [] (out2.take k.toNat) 8) <|
 grd (inb i2 l3) <|
 grd (appOk (out2.take k.toNat) [(at_ 0 l3 i2)] 8) <|
 grd (subOk k (out2.length : Int) out2.length) <|
 grd (appOk ((out2.take k.toNat) ++ [(at_ 0 l3 i2)]) (out2.drop k.toNat) 8) <|
 Z6r l3 (((out2.take k.toNat) ++ [(at_ 0 l3 i2)]) ++ (out2.drop k.toNat)) (w64 (i2 + 1))
def Z5l (Z6r : I0 -> I0 -> Int -> Option I0) (N : Nat) : Nat -> I0 -> I0 -> Int -> Int -> Option I0
 | 0, _, _, _, _ => none
 | k_ + 1, l3, out2, i2, k => Z7z N Z6r (Z5l Z6r N k_) l3 out2 i2 k
def Z9p (N : Nat) (Z0cd : I0 -> I0 -> Int -> Int -> Option I0) (rec_ : I0 -> I0 -> Int -> Option I0) (l2 : I0) (out : I0) (i : Int) : Option I0 :=
 bif decide (i < (l2.length : Int)) then Z0cd l2 out i (out.length : Int)
 else
 some out
def Z3d (N : Nat) : Nat -> I0 -> I0 -> Int -> Option I0
 | 0, _, _, _ => none
 | k_ + 1, l2, out, i => Z9p N (Z5l (Z3d N k_) N N) (Z3d N k_) l2 out i
def Z0a5 (N : Nat) (Z0ce : I0 -> I0 -> Int -> Option I0) (l : I0) : Option I0 :=
 Z0ce l [] 0
def Z6o (l : I0) : Option I0 := Z0a5 N (Z3d N N) l
def Z9k (rec_ : I0 -> R0 -> A0 -> Int -> Option (Bool)) (l2 : I0) (d2 : R0) (d3 : A0) (i : Int) : Option (Bool) :=
 bif decide (i < (l2.length : Int)) then
  grd (inb i l2) <|
  (Z6 N (at_ 0 l2 i) 0 (w64 ((d3.length : Int) - 1))).bind fun r =>
  bif (!r) then some false
  else
  bif decide (i > 0) then
   grd (inb i l2) <|
   grd (inb (w64 (i - 1)) l2) <|
   bif decide ((at_ 0 l2 i) <= (at_ 0 l2 (w64 (i - 1)))) then some false
   else
   rec_ l2 d2 d3 (w64 (i + 1))
  else
  rec_ l2 d2 d3 (w64 (i + 1))
 else
 some true
def Z7t (N : Nat) : Nat -> I0 -> R0 -> A0 -> Int -> Option (Bool)
 | 0, _, _, _, _ => none
 | k_ + 1, l2, d2, d3, i => Z9k N (Z7t N k_) l2 d2 d3 i
def Z0bd (N : Nat) (Z0d1 : I0 -> R0 -> A0 -> Int -> Option (Bool)) (d : D0) (l : I0) : Option (Bool) :=
 Z0d1 l d.1 d.2 0
def Z93 (d : D0) (l : I0) : Option (Bool) := Z0bd N (Z7t N N) d l
def Z8p (N : Nat) (rec_ : I0 -> R0 -> A0 -> R0 -> A0 -> R0 -> A0 -> Int -> Option (D0 × Bool)) (l2 : I0) (d2 : R0) (d3 : A0) (t4 : R0) (t42 : A0) (x : R0) (x2 : A0) (i : Int) : Option (D0 × Bool) :=
 bif decide (i < (l2.length : Int)) then
  grd (inb i l2) <|
  grd (inb (at_ 0 l2 i) d3) <|
  grd (appOk [] ((at_ (0, []) d3 (at_ 0 l2 i)).2) 8) <|
  grd (appOk x2 [(at_ (0, []) d3 (at_ 0 l2 i))] 32) <|
  rec_ l2 d2 d3 t4 t42 x (x2 ++ [(at_ (0, []) d3 (at_ 0 l2 i))]) (w64 (i + 1))
 else
 some ((x, x2), true)
def Z5h (N : Nat) : Nat -> I0 -> R0 -> A0 -> R0 -> A0 -> R0 -> A0 -> Int -> Option (D0 × Bool)
 | 0, _, _, _, _, _, _, _, _ => none
 | k_ + 1, l2, d2, d3, t4, t42, x, x2, i => Z8p N (Z5h N k_) l2 d2 d3 t4 t42 x x2 i
def Z9q (Z0c5 : I0 -> R0 -> A0 -> R0 -> A0 -> R0 -> A0 -> Int -> Option (D0 × Bool)) (d : D0) (l : I0) : Option (D0 × Bool) :=
 (Z0 N d).bind fun r =>
 bif (!r) then some (([], []), false)
 else
 (Z93 N d l).bind fun r2 =>
 bif (!r2) then some (([], []), false)
 else
 grd (appOk [] d.1 32) <|
 Z0c5 l d.1 d.2 [] [] d.1 [] 0
def Z4j (d : D0) (l : I0) : Option (D0 × Bool) := Z9q N (Z5h N N) d l
def Z8k (rec_ : Int -> R0 -> A0 -> I0 -> Int -> Option I0) (i2 : Int) (d2 : R0) (d3 : A0) (out : I0) (k : Int) : Option I0 :=
 bif decide (k < (d3.length : Int)) then
  (Z0 N (d2, d3)).bind fun r =>
  bif r then
   (Z6 N i2 0 (w64 ((d3.length : Int) - 1))).bind fun r2 =>
   bif r2 then
    grd (inb i2 d3) <|
    grd (inb k d3) <|
    (Z2h N d2 (at_ (0, []) d3 i2) (at_ (0, []) d3 k)).bind fun r3 =>
    bif r3 then
     grd (appOk out [k] 8) <|
     rec_ i2 d2 d3 (out ++ [k]) (w64 (k + 1))
    else
    rec_ i2 d2 d3 out (w64 (k + 1))
   else
   some out
  else
  some out
 else
 some out
def Z6g (N : Nat) : Nat -> Int -> R0 -> A0 -> I0 -> Int -> Option I0
 | 0, _, _, _, _, _ => none
 | k_ + 1, i2, d2, d3, out, k => Z8k N (Z6g N k_) i2 d2 d3 out k
def Z0ak (N : Nat) (Z0cp : Int -> R0 -> A0 -> I0 -> Int -> Option I0) (d : D0) (i : Int) : Option I0 :=
 Z0cp i d.1 d.2 [] 0
def Z79 (d : D0) (i : Int) : Option I0 := Z0ak N (Z6g N N) d i
def Z7a (rec_ : R0 -> A0 -> L0 -> Int -> Option L0) (d2 : R0) (d3 : A0) (out : L0) (i : Int) : Option L0 :=
 bif decide (i < (d3.length : Int)) then
  (Z0 N (d2, d3)).bind fun r =>
  bif r then
   (Z79 N (d2, d3) i).bind fun r2 =>
   grd (inb 0 r2) <|
   bif ((at_ 0 r2 0) == i) then
    grd (appOk out [r2] 24) <|
    rec_ d2 d3 (out ++ [r2]) (w64 (i + 1))
   else
   rec_ d2 d3 out (w64 (i + 1))
  else
  some out
 else
 some out
def Z5m (N : Nat) : Nat -> R0 -> A0 -> L0 -> Int -> Option L0
 | 0, _, _, _, _ => none
 | k_ + 1, d2, d3, out, i => Z7a N (Z5m N k_) d2 d3 out i
def Z0az (N : Nat) (Z0cv : R0 -> A0 -> L0 -> Int -> Option L0) (d : D0) : Option L0 :=
 Z0cv d.1 d.2 [] 0
def Z88 (d : D0) : Option L0 := Z0az N (Z5m N N) d
def Z53 (d : D0) : Option (Bool) :=
 (Z0 N d).bind fun r =>
 bif r then
  (Z88 N d).bind fun r2 =>
  some ((r2.length : Int) == (d.2.length : Int))
 else
 some false
def Z1w (d : D0) (l : I0) : Option (Bool) :=
 (Z4j N d l).bind fun p_r =>
 bif p_r.2 then
  (Z53 N p_r.1).bind fun r3 =>
  some r3
 else
 some false
def Z9e (rec_ : R0 -> A0 -> L0 -> (List (List Int × List Int)) -> Int -> Option L0) (d2 : R0) (d3 : A0) (out : L0) (l : List (List Int × List Int)) (i : Int) : Option L0 :=
 bif decide (i < (l.length : Int)) then
  grd (inb i l) <|
  (Z6o N ((at_ ([], []) l i).2)).bind fun r2 =>
  (Z1w N (d2, d3) r2).bind fun r3 =>
  bif r3 then
   grd (appOk out [r2] 24) <|
   rec_ d2 d3 (out ++ [r2]) l (w64 (i + 1))
  else
  rec_ d2 d3 out l (w64 (i + 1))
 else
 some out
def Z6s (N : Nat) : Nat -> R0 -> A0 -> L0 -> (List (List Int × List Int)) -> Int -> Option L0
 | 0, _, _, _, _, _ => none
 | k_ + 1, d2, d3, out, l, i => Z9e N (Z6s N k_) d2 d3 out l i
def Z9z (Z0ca : R0 -> A0 -> L0 -> (List (List Int × List Int)) -> Int -> Option L0) (d : D0) (q : Q0) : Option L0 :=
 (Z2v N d q).bind fun r =>
 Z0ca d.1 d.2 [] r 0
def Z5n (d : D0) (q : Q0) : Option L0 := Z9z N (Z6s N N) d q
def Z0a0 (Z9l : L0 -> I0 -> Int -> Option (Bool)) (rec_ : L0 -> I0 -> Int -> Bool -> Int -> Option (Bool)) (l3 : L0) (s3 : I0) (i2 : Int) (all : Bool) (k : Int) : Option (Bool) :=
 grd (inb i2 l3) <|
 bif decide (k < ((at_ [] l3 i2).length : Int)) then
  bif all then
   grd (inb i2 l3) <|
   grd (inb k (at_ [] l3 i2)) <|
   (Z4d N s3 (at_ 0 (at_ [] l3 i2) k)).bind fun r =>
   rec_ l3 s3 i2 r (w64 (k + 1))
  else
  rec_ l3 s3 i2 false (w64 (k + 1))
 else
 bif all then some true
 else
 Z9l l3 s3 (w64 (i2 + 1))
def Z8q (Z9l : L0 -> I0 -> Int -> Option (Bool)) (N : Nat) : Nat -> L0 -> I0 -> Int -> Bool -> Int -> Option (Bool)
 | 0, _, _, _, _, _ => none
 | k_ + 1, l3, s3, i2, all, k => Z0a0 N Z9l (Z8q Z9l N k_) l3 s3 i2 all k
def Z94 (N : Nat) (Z0cw : L0 -> I0 -> Int -> Bool -> Int -> Option (Bool)) (rec_ : L0 -> I0 -> Int -> Option (Bool)) (l2 : L0) (s2 : I0) (i : Int) : Option (Bool) :=
 bif decide (i < (l2.length : Int)) then Z0cw l2 s2 i true 0
 else
 some false
def Z3p (N : Nat) : Nat -> L0 -> I0 -> Int -> Option (Bool)
 | 0, _, _, _ => none
 | k_ + 1, l2, s2, i => Z94 N (Z8q (Z3p N k_) N N) (Z3p N k_) l2 s2 i
def Z0b0 (N : Nat) (Z0cx : L0 -> I0 -> Int -> Option (Bool)) (l : L0) (s : I0) : Option (Bool) :=
 Z0cx l s 0
def Z9c (l : L0) (s : I0) : Option (Bool) := Z0b0 N (Z3p N N) l s
def Z4o (l : L0) (s : I0) : Option (Bool) :=
 (Z9c N l s).bind fun r =>
 some r
def Z8l (rec_ : L0 -> Bool -> R0 -> A0 -> Int -> A0 -> I0 -> L0 -> Int -> Option (List Int × Bool)) (sets2 : L0) (want2 : Bool) (d2 : R0) (d3 : A0) (q2 : Int) (q3 : A0) (q4 : I0) (need : L0) (i : Int) : Option (List Int × Bool) :=
 bif decide (i < (sets2.length : Int)) then
  (Z2c N (d2, d3) (q2, q3, q4)).bind fun r2 =>
  bif r2 then
   grd (inb i sets2) <|
   (Z4o N need (at_ [] sets2 i)).bind fun r3 =>
   bif (r3 == want2) then
    grd (inb i sets2) <|
    grd (appOk [] (at_ [] sets2 i) 8) <|
    some ((at_ [] sets2 i), true)
   else
   rec_ sets2 want2 d2 d3 q2 q3 q4 need (w64 (i + 1))
  else
  some ([], false)
 else
 some ([], false)
def Z6h (N : Nat) : Nat -> L0 -> Bool -> R0 -> A0 -> Int -> A0 -> I0 -> L0 -> Int -> Option (List Int × Bool)
 | 0, _, _, _, _, _, _, _, _, _ => none
 | k_ + 1, sets2, want2, d2, d3, q2, q3, q4, need, i => Z8l N (Z6h N k_) sets2 want2 d2 d3 q2 q3 q4 need i
def Z0al (Z0cq : L0 -> Bool -> R0 -> A0 -> Int -> A0 -> I0 -> L0 -> Int -> Option (List Int × Bool)) (d : D0) (q : Q0) (sets : L0) (want : Bool) : Option (List Int × Bool) :=
 (Z5n N d q).bind fun r =>
 Z0cq sets want d.1 d.2 q.1 q.2.1 q.2.2 r 0
def Z7b (d : D0) (q : Q0) (sets : L0) (want : Bool) : Option (List Int × Bool) := Z0al N (Z6h N N) d q sets want
def Z0j (d : D0) (l : List C0) (q : Q0) : Option (List Int × Bool) :=
 (Z1i N d l).bind fun r =>
 (Z7b N d q r false).bind fun p_r2 =>
 some (p_r2.1, p_r2.2)
def Z4 (N : Nat) (n : Int) (low : Int) (high : Int) : Option (Bool) :=
 bif decide (low <= n) then some (decide (n <= high))
 else
 some false
def Z2l (relation : ByteArray × Int × Int) : Option (Bool) :=
 bif ((relation.1.size : Int) == 1) then
  (byteAt relation.1 0).bind fun b =>
  bif decide ((b.toNat : Int) >= 97) then
   (byteAt relation.1 0).bind fun b2 =>
   bif decide ((b2.toNat : Int) <= 122) then
    (Z4 N relation.2.1 1 3).bind fun r =>
    bif r then
     (Z4 N relation.2.2 0 relation.2.1).bind fun r2 =>
     some r2
    else
    some false
   else
   some false
  else
  some false
 else
 some false
def Z43 (rec_ : R0 -> R0 -> Int -> Int -> Option (Bool)) (relations2 : R0) (t5 : R0) (t6 : Int) (t7 : Int) : Option (Bool) :=
 bif decide (t7 < t6) then
  grd (inb t7 t5) <|
  (Z2l N ((at_ (⟨#[]⟩, (0, 0)) t5 t7).1, ((at_ (⟨#[]⟩, (0, 0)) t5 t7).2))).bind fun r =>
  bif (!r) then some false
  else
  bif decide (t7 > 0) then
   grd (inb (w64 (t7 - 1)) relations2) <|
   bif (!slt ((at_ (⟨#[]⟩, (0, 0)) relations2 (w64 (t7 - 1))).1) ((at_ (⟨#[]⟩, (0, 0)) t5 t7).1)) then some false
   else
   rec_ relations2 t5 t6 (w64 (t7 + 1))
  else
  rec_ relations2 t5 t6 (w64 (t7 + 1))
 else
 some (decide ((relations2.length : Int) <= 4))
def Z23 (N : Nat) : Nat -> R0 -> R0 -> Int -> Int -> Option (Bool)
 | 0, _, _, _, _ => none
 | k_ + 1, relations2, t5, t6, t7 => Z43 N (Z23 N k_) relations2 t5 t6 t7
def Z7c (N : Nat) (Z0b1 : R0 -> R0 -> Int -> Int -> Option (Bool)) (relations : R0) : Option (Bool) :=
 Z0b1 relations relations (relations.length : Int) 0
def Z0r (relations : R0) : Option (Bool) := Z7c N (Z23 N N) relations
def Z54 (v : Int) : Option (Bool) :=
 (Z4 N v 0 9).bind fun r =>
 some (!r)
def Z0v (rec_ : I0 -> Int -> Int -> Option (Int)) (s2 : I0) (t7 : Int) (t8 : Int) : Option (Int) :=
 bif decide (t8 < t7) then
  grd (inb t8 s2) <|
  (Z54 N (at_ 0 s2 t8)).bind fun r =>
  bif r then some t8
  else
  rec_ s2 t7 (w64 (t8 + 1))
 else
 some (-1)
def Z0d (N : Nat) : Nat -> I0 -> Int -> Int -> Option (Int)
 | 0, _, _, _ => none
 | k_ + 1, s2, t7, t8 => Z0v N (Z0d N k_) s2 t7 t8
def Z2m (N : Nat) (Z8r : I0 -> Int -> Int -> Option (Int)) (s : I0) : Option (Int) :=
 Z8r s (s.length : Int) 0
def Z0g (s : I0) : Option (Int) := Z2m N (Z0d N N) s
def Z0e (s : I0) : Option (Bool) :=
 (Z0g N s).bind fun r =>
 some (decide (r >= 0))
def Z5o (list : I0) : Option (Bool) :=
 (Z0e N list).bind fun r =>
 some (!r)
def Z89 (relations : R0) (fact : Int × List Int) : Option (Bool) :=
 (Z4 N fact.1 0 (w64 ((relations.length : Int) - 1))).bind fun r =>
 bif r then
  grd (inb fact.1 relations) <|
  bif ((fact.2.length : Int) == (((at_ (⟨#[]⟩, (0, 0)) relations fact.1).2).1)) then
   (Z5o N fact.2).bind fun r2 =>
   some r2
  else
  some false
 else
 some false
def Z8s (N : Nat) (a : Int) (b : Int) : Option (Int) :=
 bif decide (a < b) then some (-1)
 else
 bif decide (a > b) then some 1
 else
 some 0
def Z6p (N : Nat) (x : Int) : Option (Bool) :=
 some (x != x)
def Z4x (x : Int) (y : Int) : Option (Int) :=
 (Z6p N x).bind fun r =>
 (Z6p N y).bind fun r2 =>
 bif r then
  bif r2 then some 0
  else
  some (-1)
 else
 bif r2 then some 1
 else
 bif decide (x < y) then some (-1)
 else
 bif decide (x > y) then some 1
 else
 some 0
def Z25 (rec_ : I0 -> I0 -> I0 -> Int -> Int -> Option (Int)) (s12 : I0) (s22 : I0) (t9 : I0) (t10 : Int) (t11 : Int) : Option (Int) :=
 bif decide (t11 < t10) then
  grd (inb t11 t9) <|
  bif decide (t11 >= (s22.length : Int)) then some 1
  else
  grd (inb t11 s22) <|
  (Z4x N (at_ 0 t9 t11) (at_ 0 s22 t11)).bind fun r =>
  bif (r != 0) then some r
  else
  rec_ s12 s22 t9 t10 (w64 (t11 + 1))
 else
 bif decide ((s12.length : Int) < (s22.length : Int)) then some (-1)
 else
 some 0
def Z11 (N : Nat) : Nat -> I0 -> I0 -> I0 -> Int -> Int -> Option (Int)
 | 0, _, _, _, _, _ => none
 | k_ + 1, s12, s22, t9, t10, t11 => Z25 N (Z11 N k_) s12 s22 t9 t10 t11
def Z6u (N : Nat) (Z0as : I0 -> I0 -> I0 -> Int -> Int -> Option (Int)) (s1 : I0) (s2 : I0) : Option (Int) :=
 Z0as s1 s2 s1 (s1.length : Int) 0
def Z1j (s1 : I0) (s2 : I0) : Option (Int) := Z6u N (Z11 N N) s1 s2
def Z3y (a : Int × List Int) (b : Int × List Int) : Option (Int) :=
 bif (a.1 != b.1) then
  (Z8s N a.1 b.1).bind fun r =>
  some r
 else
 (Z1j N a.2 b.2).bind fun r2 =>
 some r2
def Z4t (rec_ : R0 -> A0 -> A0 -> Int -> Int -> Option (Bool)) (db2 : R0) (db3 : A0) (t16 : A0) (t17 : Int) (t18 : Int) : Option (Bool) :=
 bif decide (t18 < t17) then
  grd (inb t18 t16) <|
  (Z89 N db2 (at_ (0, []) t16 t18)).bind fun r2 =>
  bif (!r2) then some false
  else
  bif decide (t18 > 0) then
   grd (inb (w64 (t18 - 1)) db3) <|
   (Z3y N (at_ (0, []) db3 (w64 (t18 - 1))) (at_ (0, []) t16 t18)).bind fun r3 =>
   bif decide (r3 >= 0) then some false
   else
   rec_ db2 db3 t16 t17 (w64 (t18 + 1))
  else
  rec_ db2 db3 t16 t17 (w64 (t18 + 1))
 else
 some true
def Z2g (N : Nat) : Nat -> R0 -> A0 -> A0 -> Int -> Int -> Option (Bool)
 | 0, _, _, _, _, _ => none
 | k_ + 1, db2, db3, t16, t17, t18 => Z4t N (Z2g N k_) db2 db3 t16 t17 t18
def Z8a (Z0be : R0 -> A0 -> A0 -> Int -> Int -> Option (Bool)) (db : D0) : Option (Bool) :=
 (Z0r N db.1).bind fun r =>
 bif (!r) then some false
 else
 bif decide ((db.2.length : Int) > 14) then some false
 else
 Z0be db.1 db.2 db.2 (db.2.length : Int) 0
def Z0a (db : D0) : Option (Bool) := Z8a N (Z2g N N) db
def Z20 (db : D0) (constraint : C0) : Option (Bool) :=
 (Z0a N db).bind fun r =>
 bif (!r) then some false
 else
 (Z4 N constraint.1 0 (w64 ((db.1.length : Int) - 1))).bind fun r2 =>
 bif (!r2) then some false
 else
 (Z4 N constraint.2.1 0 (w64 ((db.1.length : Int) - 1))).bind fun r3 =>
 bif (!r3) then some false
 else
 grd (inb constraint.1 db.1) <|
 grd (inb constraint.2.1 db.1) <|
 (Z4 N constraint.2.2.1 0 (w64 ((((at_ (⟨#[]⟩, (0, 0)) db.1 constraint.1).2).1) - 1))).bind fun r4 =>
 bif r4 then
  (Z4 N constraint.2.2.2.2.1 0 (w64 ((((at_ (⟨#[]⟩, (0, 0)) db.1 constraint.1).2).1) - 1))).bind fun r5 =>
  bif r5 then
   (Z4 N constraint.2.2.2.1 0 (w64 ((((at_ (⟨#[]⟩, (0, 0)) db.1 constraint.2.1).2).1) - 1))).bind fun r6 =>
   bif r6 then
    (Z4 N constraint.2.2.2.2.2.1 0 (w64 ((((at_ (⟨#[]⟩, (0, 0)) db.1 constraint.2.1).2).1) - 1))).bind fun r7 =>
    bif r7 then
     (Z4 N constraint.2.2.2.2.2.2 1 2).bind fun r8 =>
     some r8
    else
    some false
   else
   some false
  else
  some false
 else
 some false
def Z7u (N : Nat) (c : C0) (a : Int × List Int) (b : Int × List Int) : Option (Bool) :=
 bif (a.1 != c.1) then some false
 else
 bif (b.1 != c.2.1) then some false
 else
 grd (inb c.2.2.1 a.2) <|
 grd (inb c.2.2.2.1 b.2) <|
 bif ((at_ 0 a.2 c.2.2.1) != (at_ 0 b.2 c.2.2.2.1)) then some false
 else
 grd (inb c.2.2.2.2.1 a.2) <|
 grd (inb c.2.2.2.2.2.1 b.2) <|
 bif (c.2.2.2.2.2.2 == 1) then
  bif ((at_ 0 a.2 c.2.2.2.2.1) == (at_ 0 b.2 c.2.2.2.2.2.1)) then some true
  else
  bif (c.2.2.2.2.2.2 == 2) then
   some (decide ((at_ 0 a.2 c.2.2.2.2.1) < (at_ 0 b.2 c.2.2.2.2.2.1)))
  else
  some false
 else
 bif (c.2.2.2.2.2.2 == 2) then
  some (decide ((at_ 0 a.2 c.2.2.2.2.1) < (at_ 0 b.2 c.2.2.2.2.2.1)))
 else
 some false
def Z14 (db : D0) (constraint : C0) (first : Int) (second : Int) : Option (Bool) :=
 (Z20 N db constraint).bind fun r =>
 bif r then
  bif (first != second) then
   (Z4 N first 0 (w64 ((db.2.length : Int) - 1))).bind fun r2 =>
   bif r2 then
    (Z4 N second 0 (w64 ((db.2.length : Int) - 1))).bind fun r3 =>
    bif r3 then
     grd (inb first db.2) <|
     grd (inb second db.2) <|
     (Z7u N constraint (at_ (0, []) db.2 first) (at_ (0, []) db.2 second)).bind fun r4 =>
     some r4
    else
    some false
   else
   some false
  else
  some false
 else
 some false
def Z4e (N : Nat) (rec_ : I0 -> I0 -> Int -> Int -> Option (Bool)) (s12 : I0) (s22 : I0) (t12 : Int) (t13 : Int) : Option (Bool) :=
 bif decide (t13 < t12) then
  grd (inb t13 s12) <|
  grd (inb t13 s22) <|
  bif ((at_ 0 s12 t13) != (at_ 0 s22 t13)) then some false
  else
  rec_ s12 s22 t12 (w64 (t13 + 1))
 else
 some true
def Z26 (N : Nat) : Nat -> I0 -> I0 -> Int -> Int -> Option (Bool)
 | 0, _, _, _, _ => none
 | k_ + 1, s12, s22, t12, t13 => Z4e N (Z26 N k_) s12 s22 t12 t13
def Z7n (N : Nat) (Z0b6 : I0 -> I0 -> Int -> Int -> Option (Bool)) (s1 : I0) (s2 : I0) : Option (Bool) :=
 bif ((s1.length : Int) != (s2.length : Int)) then some false
 else
 Z0b6 s1 s2 (s1.length : Int) 0
def Z27 (s1 : I0) (s2 : I0) : Option (Bool) := Z7n N (Z26 N N) s1 s2
def Z7d (relations : R0) (a : Int × List Int) (b : Int × List Int) : Option (Bool) :=
 bif (a.1 != b.1) then some false
 else
 grd (inb a.1 relations) <|
 grd (subOk 0 (((at_ (⟨#[]⟩, (0, 0)) relations a.1).2).2) a.2.length) <|
 grd (subOk 0 (((at_ (⟨#[]⟩, (0, 0)) relations a.1).2).2) b.2.length) <|
 (Z27 N (a.2.take (((at_ (⟨#[]⟩, (0, 0)) relations a.1).2).2).toNat) (b.2.take (((at_ (⟨#[]⟩, (0, 0)) relations a.1).2).2).toNat)).bind fun r =>
 some r
def Z4f (rec_ : Int -> Int -> R0 -> A0 -> (List C0) -> Int -> Int -> Option (Bool)) (a2 : Int) (b2 : Int) (t3 : R0) (t32 : A0) (t9 : List C0) (t10 : Int) (t11 : Int) : Option (Bool) :=
 bif decide (t11 < t10) then
  grd (inb t11 t9) <|
  (Z14 N (t3, t32) ((at_ (0, (0, (0, (0, (0, (0, 0)))))) t9 t11).1, ((at_ (0, (0, (0, (0, (0, (0, 0)))))) t9 t11).2).1, (((at_ (0, (0, (0, (0, (0, (0, 0)))))) t9 t11).2).2).1, ((((at_ (0, (0, (0, (0, (0, (0, 0)))))) t9 t11).2).2).2).1, (((((at_ (0, (0, (0, (0, (0, (0, 0)))))) t9 t11).2).2).2).2).1, ((((((at_ (0, (0, (0, (0, (0, (0, 0)))))) t9 t11).2).2).2).2).2)) a2 b2).bind fun r =>
  bif r then some true
  else
  (Z14 N (t3, t32) ((at_ (0, (0, (0, (0, (0, (0, 0)))))) t9 t11).1, ((at_ (0, (0, (0, (0, (0, (0, 0)))))) t9 t11).2).1, (((at_ (0, (0, (0, (0, (0, (0, 0)))))) t9 t11).2).2).1, ((((at_ (0, (0, (0, (0, (0, (0, 0)))))) t9 t11).2).2).2).1, (((((at_ (0, (0, (0, (0, (0, (0, 0)))))) t9 t11).2).2).2).2).1, ((((((at_ (0, (0, (0, (0, (0, (0, 0)))))) t9 t11).2).2).2).2).2)) b2 a2).bind fun r2 =>
  bif r2 then some true
  else
  rec_ a2 b2 t3 t32 t9 t10 (w64 (t11 + 1))
 else
 grd (inb a2 t32) <|
 grd (inb b2 t32) <|
 (Z7d N t3 (at_ (0, []) t32 a2) (at_ (0, []) t32 b2)).bind fun r3 =>
 some r3
def Z28 (N : Nat) : Nat -> Int -> Int -> R0 -> A0 -> (List C0) -> Int -> Int -> Option (Bool)
 | 0, _, _, _, _, _, _, _ => none
 | k_ + 1, a2, b2, t3, t32, t9, t10, t11 => Z4f N (Z28 N k_) a2 b2 t3 t32 t9 t10 t11
def Z7o (N : Nat) (Z0b7 : Int -> Int -> R0 -> A0 -> (List C0) -> Int -> Int -> Option (Bool)) (a : Int) (b : Int) (c2 : List C0) (c3 : D0) : Option (Bool) :=
 Z0b7 a b c3.1 c3.2 c2 (c2.length : Int) 0
def Z29 (a : Int) (b : Int) (c2 : List C0) (c3 : D0) : Option (Bool) := Z7o N (Z28 N N) a b c2 c3
def Z2n (Z2r : Int -> (List C0) -> D0 -> E0 -> Int -> Int -> Option E0) (rec_ : Int -> (List C0) -> D0 -> E0 -> Int -> Int -> Int -> Int -> Option E0) (n3 : Int) (holds3 : List C0) (holds4 : D0) (out2 : E0) (a : Int) (b : Int) (t92 : Int) (t102 : Int) : Option E0 :=
 bif decide (b < n3) then
  (Z29 N a b holds3 holds4).bind fun r =>
  bif r then
   grd (appOk out2 [(a, b)] 16) <|
   rec_ n3 holds3 holds4 (out2 ++ [(a, b)]) a (w64 (b + 1)) t92 t102
  else
  rec_ n3 holds3 holds4 out2 a (w64 (b + 1)) t92 t102
 else
 Z2r n3 holds3 holds4 out2 t92 (w64 (t102 + 1))
def Z0n (Z2r : Int -> (List C0) -> D0 -> E0 -> Int -> Int -> Option E0) (N : Nat) : Nat -> Int -> (List C0) -> D0 -> E0 -> Int -> Int -> Int -> Int -> Option E0
 | 0, _, _, _, _, _, _, _, _ => none
 | k_ + 1, n3, holds3, holds4, out2, a, b, t92, t102 => Z2n N Z2r (Z0n Z2r N k_) n3 holds3 holds4 out2 a b t92 t102
def Z2o (N : Nat) (Z0a3 : Int -> (List C0) -> D0 -> E0 -> Int -> Int -> Int -> Int -> Option E0) (rec_ : Int -> (List C0) -> D0 -> E0 -> Int -> Int -> Option E0) (n2 : Int) (holds : List C0) (holds2 : D0) (out : E0) (t9 : Int) (t10 : Int) : Option E0 :=
 bif decide (t10 < t9) then
  Z0a3 n2 holds holds2 out t10 (w64 (t10 + 1)) t9 t10
 else
 some out
def Z0o (N : Nat) : Nat -> Int -> (List C0) -> D0 -> E0 -> Int -> Int -> Option E0
 | 0, _, _, _, _, _, _ => none
 | k_ + 1, n2, holds, holds2, out, t9, t10 => Z2o N (Z0n (Z0o N k_) N N) (Z0o N k_) n2 holds holds2 out t9 t10
def Z59 (N : Nat) (Z0a4 : Int -> (List C0) -> D0 -> E0 -> Int -> Int -> Option E0) (n : Int) (c : List C0) (c2 : D0) : Option E0 :=
 Z0a4 n c c2 [] n 0
def Z1g (n : Int) (c : List C0) (c2 : D0) : Option E0 := Z59 N (Z0o N N) n c c2
def Z3e (db : D0) (constraints : List C0) : Option E0 :=
 (Z0a N db).bind fun r =>
 bif (!r) then some []
 else
 (Z1g N (db.2.length : Int) constraints db).bind fun r2 =>
 some r2
def Z5e (N : Nat) (rec_ : Int -> E0 -> E0 -> Int -> Int -> Option (Bool)) (n2 : Int) (edges2 : E0) (t10 : E0) (t11 : Int) (t12 : Int) : Option (Bool) :=
 bif decide (t12 < t11) then
  grd (inb t12 t10) <|
  bif decide (((at_ (0, 0) t10 t12).1) < 0) then some false
  else
  bif decide (((at_ (0, 0) t10 t12).1) >= ((at_ (0, 0) t10 t12).2)) then some false
  else
  bif decide (((at_ (0, 0) t10 t12).2) >= n2) then some false
  else
  bif decide (t12 > 0) then
   grd (inb (w64 (t12 - 1)) edges2) <|
   bif decide (((at_ (0, 0) edges2 (w64 (t12 - 1))).1) > ((at_ (0, 0) t10 t12).1)) then some false
   else
   grd (inb (w64 (t12 - 1)) edges2) <|
   bif (((at_ (0, 0) edges2 (w64 (t12 - 1))).1) == ((at_ (0, 0) t10 t12).1)) then
    grd (inb (w64 (t12 - 1)) edges2) <|
    bif decide (((at_ (0, 0) edges2 (w64 (t12 - 1))).2) >= ((at_ (0, 0) t10 t12).2)) then some false
    else
    rec_ n2 edges2 t10 t11 (w64 (t12 + 1))
   else
   rec_ n2 edges2 t10 t11 (w64 (t12 + 1))
  else
  rec_ n2 edges2 t10 t11 (w64 (t12 + 1))
 else
 some true
def Z34 (N : Nat) : Nat -> Int -> E0 -> E0 -> Int -> Int -> Option (Bool)
 | 0, _, _, _, _, _ => none
 | k_ + 1, n2, edges2, t10, t11, t12 => Z5e N (Z34 N k_) n2 edges2 t10 t11 t12
def Z95 (Z0bo : Int -> E0 -> E0 -> Int -> Int -> Option (Bool)) (n : Int) (edges : E0) : Option (Bool) :=
 (Z4 N n 0 14).bind fun r =>
 bif (!r) then some false
 else
 Z0bo n edges edges (edges.length : Int) 0
def Z1x (n : Int) (edges : E0) : Option (Bool) := Z95 N (Z34 N N) n edges
def Z6v (rec_ : I0 -> Int -> I0 -> Int -> Int -> Option (Bool)) (indices2 : I0) (n2 : Int) (t7 : I0) (t8 : Int) (t9 : Int) : Option (Bool) :=
 bif decide (t9 < t8) then
  grd (inb t9 t7) <|
  (Z4 N (at_ 0 t7 t9) 0 (w64 (n2 - 1))).bind fun r =>
  bif (!r) then some false
  else
  bif decide (t9 > 0) then
   grd (inb (w64 (t9 - 1)) indices2) <|
   bif decide ((at_ 0 indices2 (w64 (t9 - 1))) >= (at_ 0 t7 t9)) then some false
   else
   rec_ indices2 n2 t7 t8 (w64 (t9 + 1))
  else
  rec_ indices2 n2 t7 t8 (w64 (t9 + 1))
 else
 some true
def Z4p (N : Nat) : Nat -> I0 -> Int -> I0 -> Int -> Int -> Option (Bool)
 | 0, _, _, _, _, _ => none
 | k_ + 1, indices2, n2, t7, t8, t9 => Z6v N (Z4p N k_) indices2 n2 t7 t8 t9
def Z9x (N : Nat) (Z0c9 : I0 -> Int -> I0 -> Int -> Int -> Option (Bool)) (indices : I0) (n : Int) : Option (Bool) :=
 Z0c9 indices n indices (indices.length : Int) 0
def Z1y (indices : I0) (n : Int) : Option (Bool) := Z9x N (Z4p N N) indices n
def Z4g (N : Nat) (rec_ : I0 -> Int -> Int -> Int -> Option (Int)) (s2 : I0) (v2 : Int) (t7 : Int) (t8 : Int) : Option (Int) :=
 bif decide (t8 < t7) then
  grd (inb t8 s2) <|
  bif (v2 == (at_ 0 s2 t8)) then some t8
  else
  rec_ s2 v2 t7 (w64 (t8 + 1))
 else
 some (-1)
def Z2a (N : Nat) : Nat -> I0 -> Int -> Int -> Int -> Option (Int)
 | 0, _, _, _, _ => none
 | k_ + 1, s2, v2, t7, t8 => Z4g N (Z2a N k_) s2 v2 t7 t8
def Z7p (N : Nat) (Z0b8 : I0 -> Int -> Int -> Int -> Option (Int)) (s : I0) (v : Int) : Option (Int) :=
 Z0b8 s v (s.length : Int) 0
def Z35 (s : I0) (v : Int) : Option (Int) := Z7p N (Z2a N N) s v
def Z0i (s : I0) (v : Int) : Option (Bool) :=
 (Z35 N s v).bind fun r =>
 some (decide (r >= 0))
def Z36 (e : Int × Int) (c1 : I0) : Option (Bool) :=
 (Z0i N c1 e.1).bind fun r =>
 bif r then
  (Z0i N c1 e.2).bind fun r2 =>
  some r2
 else
 some false
def Z7 (rec_ : E0 -> I0 -> Int -> Int -> Option (Int)) (s2 : E0) (f : I0) (t7 : Int) (t8 : Int) : Option (Int) :=
 bif decide (t8 < t7) then
  grd (inb t8 s2) <|
  (Z36 N (at_ (0, 0) s2 t8) f).bind fun r =>
  bif r then some t8
  else
  rec_ s2 f t7 (w64 (t8 + 1))
 else
 some (-1)
def Z1 (N : Nat) : Nat -> E0 -> I0 -> Int -> Int -> Option (Int)
 | 0, _, _, _, _ => none
 | k_ + 1, s2, f, t7, t8 => Z7 N (Z1 N k_) s2 f t7 t8
def Z0m (N : Nat) (Z4k : E0 -> I0 -> Int -> Int -> Option (Int)) (s : E0) (c : I0) : Option (Int) :=
 Z4k s c (s.length : Int) 0
def Z3 (s : E0) (c : I0) : Option (Int) := Z0m N (Z1 N N) s c
def Z2 (s : E0) (c : I0) : Option (Bool) :=
 (Z3 N s c).bind fun r =>
 some (decide (r >= 0))
def Z0t (edges : E0) (set : I0) : Option (Bool) :=
 (Z2 N edges set).bind fun r =>
 some (!r)
def Z37 (n : Int) (edges : E0) (set : I0) : Option (Bool) :=
 (Z1x N n edges).bind fun r =>
 bif r then
  (Z1y N set n).bind fun r2 =>
  bif r2 then
   (Z0t N edges set).bind fun r3 =>
   some r3
  else
  some false
 else
 some false
def Z2y (rec_ : E0 -> I0 -> Int -> Int -> Option (Bool)) (edges2 : E0) (set2 : I0) (t13 : Int) (t14 : Int) : Option (Bool) :=
 bif decide (t14 < t13) then
  (Z0i N set2 t14).bind fun r2 =>
  bif (!r2) then
   (Z0w N set2).bind fun r3 =>
   grd (appOk r3 [t14] 8) <|
   (Z0t N edges2 (r3 ++ [t14])).bind fun r4 =>
   bif r4 then some false
   else
   rec_ edges2 set2 t13 (w64 (t14 + 1))
  else
  rec_ edges2 set2 t13 (w64 (t14 + 1))
 else
 some true
def Z1a (N : Nat) : Nat -> E0 -> I0 -> Int -> Int -> Option (Bool)
 | 0, _, _, _, _ => none
 | k_ + 1, edges2, set2, t13, t14 => Z2y N (Z1a N k_) edges2 set2 t13 t14
def Z62 (Z0ac : E0 -> I0 -> Int -> Int -> Option (Bool)) (n : Int) (edges : E0) (set : I0) : Option (Bool) :=
 (Z37 N n edges set).bind fun r =>
 bif (!r) then some false
 else
 Z0ac edges set n 0
def Z17 (n : Int) (edges : E0) (set : I0) : Option (Bool) := Z62 N (Z1a N N) n edges set
def Z2p (Rf : Int -> I0 -> Int -> E0 -> L0 -> Int -> E0 -> Option L0) (v : Int) (set : I0) (c2 : Int) (c3 : E0) (c4 : L0) (sc2 : Int) (sc3 : E0) : Option L0 :=
 bif (v == c2) then
  (Z17 N c2 c3 set).bind fun r =>
  bif r then
   grd (appOk [] set 8) <|
   grd (appOk c4 [set] 24) <|
   some (c4 ++ [set])
  else
  some c4
 else
 (Z0w N set).bind fun r2 =>
 grd (appOk r2 [v] 8) <|
 (Z0t N c3 (r2 ++ [v])).bind fun r3 =>
 bif r3 then
  (Rf (w64 (v + 1)) (r2 ++ [v]) sc2 sc3 c4 sc2 sc3).bind fun m =>
  (Rf (w64 (v + 1)) set sc2 sc3 m sc2 sc3).bind fun m2 =>
  some m2
 else
 (Rf (w64 (v + 1)) set sc2 sc3 c4 sc2 sc3).bind fun m3 =>
 some m3
def Z0k (N : Nat) : Nat -> Int -> I0 -> Int -> E0 -> L0 -> Int -> E0 -> Option L0
 | 0, _, _, _, _, _, _, _ => none
 | k_ + 1, v, set, c2, c3, c4, sc2, sc3 => Z2p N (Z0k N k_) v set c2 c3 c4 sc2 sc3
def Z0z (v : Int) (set : I0) (c2 : Int) (c3 : E0) (c4 : L0) (sc2 : Int) (sc3 : E0) : Option L0 := Z0k N N v set c2 c3 c4 sc2 sc3
def Z0u (n : Int) (edges : E0) : Option L0 :=
 (Z1x N n edges).bind fun r =>
 bif (!r) then some []
 else
 (Z0z N 0 [] n edges [] n edges).bind fun m =>
 some m
def Z3f (db : D0) (constraints : List C0) : Option L0 :=
 (Z0a N db).bind fun r =>
 bif (!r) then some []
 else
 (Z3e N db constraints).bind fun r2 =>
 (Z0u N (db.2.length : Int) r2).bind fun r3 =>
 some r3
def Z3q (N : Nat) (rec_ : Int -> L0 -> I0 -> L0 -> L0 -> Int -> Int -> Option L0) (most3 : Int) (sets3 : L0) (outx : I0) (out3 : L0) (t272 : L0) (t282 : Int) (t292 : Int) : Option L0 :=
 bif decide (t292 < t282) then
  grd (inb t292 t272) <|
  bif (((at_ [] t272 t292).length : Int) == most3) then
   grd (selOk outx t292 out3 24) <|
   rec_ most3 sets3 (outx ++ [t292]) (out3 ++ [(at_ [] t272 t292)]) t272 t282 (w64 (t292 + 1))
  else
  rec_ most3 sets3 outx out3 t272 t282 (w64 (t292 + 1))
 else
 some out3
def Z1p (N : Nat) : Nat -> Int -> L0 -> I0 -> L0 -> L0 -> Int -> Int -> Option L0
 | 0, _, _, _, _, _, _, _ => none
 | k_ + 1, most3, sets3, outx, out3, t272, t282, t292 => Z3q N (Z1p N k_) most3 sets3 outx out3 t272 t282 t292
def Z3r (N : Nat) (Z0at : Int -> L0 -> I0 -> L0 -> L0 -> Int -> Int -> Option L0) (rec_ : Int -> L0 -> L0 -> L0 -> Int -> Int -> Option L0) (most2 : Int) (sets2 : L0) (out2 : L0) (t27 : L0) (t28 : Int) (t29 : Int) : Option L0 :=
 bif decide (t29 < t28) then
  grd (inb t29 t27) <|
  bif (((at_ [] t27 t29).length : Int) == most2) then
   grd (selOk0 out2 24) <|
   Z0at most2 sets2 [t29] [(at_ [] t27 t29)] t27 t28 (w64 (t29 + 1))
  else
  rec_ most2 sets2 out2 t27 t28 (w64 (t29 + 1))
 else
 some out2
def Z1q (N : Nat) : Nat -> Int -> L0 -> L0 -> L0 -> Int -> Int -> Option L0
 | 0, _, _, _, _, _, _ => none
 | k_ + 1, most2, sets2, out2, t27, t28, t29 => Z3r N (Z1p N k_) (Z1q N k_) most2 sets2 out2 t27 t28 t29
def Z3s (N : Nat) (Z0au : Int -> L0 -> L0 -> L0 -> Int -> Int -> Option L0) (rec_ : Int -> L0 -> L0 -> L0 -> Int -> Int -> Option L0) (most : Int) (sets : L0) (out : L0) (t16 : L0) (t17 : Int) (t18 : Int) : Option L0 :=
 bif decide (t18 < t17) then
  grd (inb t18 t16) <|
  rec_ (imax most ((at_ [] t16 t18).length : Int)) sets out t16 t17 (w64 (t18 + 1))
 else
 Z0au most sets out sets (sets.length : Int) 0
def Z1r (N : Nat) : Nat -> Int -> L0 -> L0 -> L0 -> Int -> Int -> Option L0
 | 0, _, _, _, _, _, _ => none
 | k_ + 1, most, sets, out, t16, t17, t18 => Z3s N (Z1q N N) (Z1r N k_) most sets out t16 t17 t18
def Z6w (Z0av : Int -> L0 -> L0 -> L0 -> Int -> Int -> Option L0) (db : D0) (constraints : List C0) : Option L0 :=
 (Z3f N db constraints).bind fun r =>
 Z0av 0 r [] r (r.length : Int) 0
def Z1k (db : D0) (constraints : List C0) : Option L0 := Z6w N (Z1r N N) db constraints
def Z3t (N : Nat) (own : Int × List Int) (c1 : Int × List Int) : Option (Bool) :=
 some (own.1 == c1.1)
def Z0p (rec_ : A0 -> (Int × List Int) -> Int -> Int -> Option (Int)) (s2 : A0) (f : Int × List Int) (t7 : Int) (t8 : Int) : Option (Int) :=
 bif decide (t8 < t7) then
  grd (inb t8 s2) <|
  (Z3t N (at_ (0, []) s2 t8) f).bind fun r =>
  bif r then some t8
  else
  rec_ s2 f t7 (w64 (t8 + 1))
 else
 some (-1)
def Z8 (N : Nat) : Nat -> A0 -> (Int × List Int) -> Int -> Int -> Option (Int)
 | 0, _, _, _, _ => none
 | k_ + 1, s2, f, t7, t8 => Z0p N (Z8 N k_) s2 f t7 t8
def Z1z (N : Nat) (Z7l : A0 -> (Int × List Int) -> Int -> Int -> Option (Int)) (s : A0) (c : Int × List Int) : Option (Int) :=
 Z7l s c (s.length : Int) 0
def Z0b (s : A0) (c : Int × List Int) : Option (Int) := Z1z N (Z8 N N) s c
def Z5 (s : A0) (c : Int × List Int) : Option (Bool) :=
 (Z0b N s c).bind fun r =>
 some (decide (r >= 0))
def Z63 (N : Nat) (rec_ : I0 -> L0 -> Int -> Int -> Option I0) (newslice : I0) (t25 : L0) (t26 : Int) (t27 : Int) : Option I0 :=
 bif decide (t27 < t26) then
  grd (inb t27 t25) <|
  grd (appOk newslice (at_ [] t25 t27) 8) <|
  rec_ (newslice ++ (at_ [] t25 t27)) t25 t26 (w64 (t27 + 1))
 else
 some newslice
def Z24 (N : Nat) : Nat -> I0 -> L0 -> Int -> Int -> Option I0
 | 0, _, _, _, _ => none
 | k_ + 1, newslice, t25, t26, t27 => Z63 N (Z24 N k_) newslice t25 t26 t27
def Z64 (Z0b2 : I0 -> L0 -> Int -> Int -> Option I0) (rec_ : L0 -> Int -> L0 -> Int -> Int -> Option I0) (slices2 : L0) (size : Int) (t9 : L0) (t10 : Int) (t11 : Int) : Option I0 :=
 bif decide (t11 < t10) then
  grd (inb t11 t9) <|
  bif decide ((w64 (size + ((at_ [] t9 t11).length : Int))) < 0) then none
  else
  rec_ slices2 (w64 (size + ((at_ [] t9 t11).length : Int))) t9 t10 (w64 (t11 + 1))
 else
 (Z8v N [] size).bind fun r =>
 Z0b2 r slices2 (slices2.length : Int) 0
def Z2z (N : Nat) : Nat -> L0 -> Int -> L0 -> Int -> Int -> Option I0
 | 0, _, _, _, _, _ => none
 | k_ + 1, slices2, size, t9, t10, t11 => Z64 N (Z24 N N) (Z2z N k_) slices2 size t9 t10 t11
def Z7e (N : Nat) (Z0b3 : L0 -> Int -> L0 -> Int -> Int -> Option I0) (slices : L0) : Option I0 :=
 Z0b3 slices 0 slices (slices.length : Int) 0
def Z21 (slices : L0) : Option I0 := Z7e N (Z2z N N) slices
def Z6x (a : I0) (b : I0) : Option I0 :=
 (Z21 N [a, b]).bind fun r =>
 (Z8w N r).bind fun m =>
 (Z7m N m).bind fun r2 =>
 some r2
def Z7q (rec_ : I0 -> I0 -> Int -> Int -> Option I0) (out : I0) (t8 : I0) (t9 : Int) (t10 : Int) : Option I0 :=
 bif decide (t10 < t9) then
  grd (inb t10 t8) <|
  (Z4 N (at_ 0 t8 t10) 0 3).bind fun r =>
  bif r then
   grd (appOk out [(at_ 0 t8 t10)] 8) <|
   rec_ (out ++ [(at_ 0 t8 t10)]) t8 t9 (w64 (t10 + 1))
  else
  rec_ out t8 t9 (w64 (t10 + 1))
 else
 (Z6x N out []).bind fun r2 =>
 some r2
def Z4q (N : Nat) : Nat -> I0 -> I0 -> Int -> Int -> Option I0
 | 0, _, _, _, _ => none
 | k_ + 1, out, t8, t9, t10 => Z7q N (Z4q N k_) out t8 t9 t10
def Z96 (N : Nat) (Z0bp : I0 -> I0 -> Int -> Int -> Option I0) (atom : Int × List Int) : Option I0 :=
 Z0bp [] atom.2 (atom.2.length : Int) 0
def Z3g (atom : Int × List Int) : Option I0 := Z96 N (Z4q N N) atom
def Z5z (Z6i : R0 -> Int -> A0 -> I0 -> I0 -> A0 -> Int -> Int -> Option (Bool)) (rec_ : R0 -> Int -> A0 -> I0 -> I0 -> Int -> I0 -> A0 -> Int -> Int -> I0 -> Int -> Int -> Option (Bool)) (relations3 : R0) (query5 : Int) (query6 : A0) (query7 : I0) (occurring2 : I0) (atom : Int) (atom2 : I0) (t362 : A0) (t372 : Int) (t382 : Int) (t71 : I0) (t72 : Int) (t73 : Int) : Option (Bool) :=
 bif decide (t73 < t72) then
  grd (inb t73 t71) <|
  (Z4 N (at_ 0 t71 t73) (-10) (w64 (query5 - 1))).bind fun r7 =>
  bif (!r7) then some false
  else
  rec_ relations3 query5 query6 query7 occurring2 atom atom2 t362 t372 t382 t71 t72 (w64 (t73 + 1))
 else
 (Z3g N (atom, atom2)).bind fun r8 =>
 (Z6x N occurring2 r8).bind fun r9 =>
 Z6i relations3 query5 query6 query7 r9 t362 t372 (w64 (t382 + 1))
def Z2q (Z6i : R0 -> Int -> A0 -> I0 -> I0 -> A0 -> Int -> Int -> Option (Bool)) (N : Nat) : Nat -> R0 -> Int -> A0 -> I0 -> I0 -> Int -> I0 -> A0 -> Int -> Int -> I0 -> Int -> Int -> Option (Bool)
 | 0, _, _, _, _, _, _, _, _, _, _, _, _, _ => none
 | k_ + 1, relations3, query5, query6, query7, occurring2, atom, atom2, t362, t372, t382, t71, t72, t73 => Z5z N Z6i (Z2q Z6i N k_) relations3 query5 query6 query7 occurring2 atom atom2 t362 t372 t382 t71 t72 t73
def Z8b (Z0by : R0 -> Int -> A0 -> I0 -> I0 -> Int -> I0 -> A0 -> Int -> Int -> I0 -> Int -> Int -> Option (Bool)) (rec_ : R0 -> Int -> A0 -> I0 -> I0 -> A0 -> Int -> Int -> Option (Bool)) (relations2 : R0) (query2 : Int) (query3 : A0) (query4 : I0) (occurring : I0) (t36 : A0) (t37 : Int) (t38 : Int) : Option (Bool) :=
 bif decide (t38 < t37) then
  grd (inb t38 t36) <|
  (Z4 N ((at_ (0, []) t36 t38).1) 0 (w64 ((relations2.length : Int) - 1))).bind fun r5 =>
  bif (!r5) then some false
  else
  grd (inb ((at_ (0, []) t36 t38).1) relations2) <|
  bif ((((at_ (0, []) t36 t38).2).length : Int) != (((at_ (⟨#[]⟩, (0, 0)) relations2 ((at_ (0, []) t36 t38).1)).2).1)) then some false
  else
  grd (subOk 0 t38 query3.length) <|
  (Z5 N (query3.take t38.toNat) (at_ (0, []) t36 t38)).bind fun r6 =>
  bif r6 then some false
  else
  Z0by relations2 query2 query3 query4 occurring ((at_ (0, []) t36 t38).1) ((at_ (0, []) t36 t38).2) t36 t37 t38 ((at_ (0, []) t36 t38).2) (((at_ (0, []) t36 t38).2).length : Int) 0
 else
 some ((occurring.length : Int) == query2)
def Z3u (N : Nat) : Nat -> R0 -> Int -> A0 -> I0 -> I0 -> A0 -> Int -> Int -> Option (Bool)
 | 0, _, _, _, _, _, _, _, _ => none
 | k_ + 1, relations2, query2, query3, query4, occurring, t36, t37, t38 => Z8b N (Z2q (Z3u N k_) N N) (Z3u N k_) relations2 query2 query3 query4 occurring t36 t37 t38
def Z9f (Z0bz : R0 -> Int -> A0 -> I0 -> I0 -> A0 -> Int -> Int -> Option (Bool)) (relations : R0) (query : Q0) : Option (Bool) :=
 (Z0r N relations).bind fun r =>
 bif (!r) then some false
 else
 (Z4 N query.1 0 4).bind fun r2 =>
 bif (!r2) then some false
 else
 (Z4 N (query.2.1.length : Int) 1 3).bind fun r3 =>
 bif (!r3) then some false
 else
 (Z1y N query.2.2 query.1).bind fun r4 =>
 bif (!r4) then some false
 else
 Z0bz relations query.1 query.2.1 query.2.2 [] query.2.1 (query.2.1.length : Int) 0
def Z3z (relations : R0) (query : Q0) : Option (Bool) := Z9f N (Z3u N N) relations query
def Z2d (db : D0) (query : Q0) : Option (Bool) :=
 (Z0a N db).bind fun r =>
 bif r then
  (Z3z N db.1 query).bind fun r2 =>
  some r2
 else
 some false
def Z8c (N : Nat) (rec_ : R0 -> A0 -> R0 -> A0 -> A0 -> Int -> Int -> Option D0) (t2 : R0) (t22 : A0) (out : R0) (out2 : A0) (t13 : A0) (t14 : Int) (t15 : Int) : Option D0 :=
 bif decide (t15 < t14) then
  grd (inb t15 t13) <|
  grd (appOk [] ((at_ (0, []) t13 t15).2) 8) <|
  grd (appOk out2 [(at_ (0, []) t13 t15)] 32) <|
  rec_ t2 t22 out (out2 ++ [(at_ (0, []) t13 t15)]) t13 t14 (w64 (t15 + 1))
 else
 some (out, out2)
def Z4y (N : Nat) : Nat -> R0 -> A0 -> R0 -> A0 -> A0 -> Int -> Int -> Option D0
 | 0, _, _, _, _, _, _, _ => none
 | k_ + 1, t2, t22, out, out2, t13, t14, t15 => Z8c N (Z4y N k_) t2 t22 out out2 t13 t14 t15
def Z9g (N : Nat) (Z0c0 : R0 -> A0 -> R0 -> A0 -> A0 -> Int -> Int -> Option D0) (db : D0) : Option D0 :=
 grd (appOk [] db.1 32) <|
 Z0c0 [] [] db.1 [] db.2 (db.2.length : Int) 0
def Z40 (db : D0) : Option D0 := Z9g N (Z4y N N) db
def Z8t (N : Nat) (rec_ : R0 -> A0 -> R0 -> A0 -> R0 -> A0 -> I0 -> Int -> Int -> Option (D0 × Bool)) (t43 : R0) (t44 : A0) (all3 : R0) (all4 : A0) (out3 : R0) (out4 : A0) (t272 : I0) (t282 : Int) (t292 : Int) : Option (D0 × Bool) :=
 bif decide (t292 < t282) then
  grd (inb t292 t272) <|
  grd (inb (at_ 0 t272 t292) all4) <|
  grd (appOk out4 [(at_ (0, []) all4 (at_ 0 t272 t292))] 32) <|
  rec_ t43 t44 all3 all4 out3 (out4 ++ [(at_ (0, []) all4 (at_ 0 t272 t292))]) t272 t282 (w64 (t292 + 1))
 else
 some ((out3, out4), true)
def Z5i (N : Nat) : Nat -> R0 -> A0 -> R0 -> A0 -> R0 -> A0 -> I0 -> Int -> Int -> Option (D0 × Bool)
 | 0, _, _, _, _, _, _, _, _, _ => none
 | k_ + 1, t43, t44, all3, all4, out3, out4, t272, t282, t292 => Z8t N (Z5i N k_) t43 t44 all3 all4 out3 out4 t272 t282 t292
def Z8u (N : Nat) (Z0c6 : R0 -> A0 -> R0 -> A0 -> R0 -> A0 -> I0 -> Int -> Int -> Option (D0 × Bool)) (rec_ : R0 -> A0 -> R0 -> A0 -> R0 -> A0 -> I0 -> Int -> Int -> Option (D0 × Bool)) (t4 : R0) (t42 : A0) (all : R0) (all2 : A0) (out : R0) (out2 : A0) (t27 : I0) (t28 : Int) (t29 : Int) : Option (D0 × Bool) :=
 bif decide (t29 < t28) then
  grd (inb t29 t27) <|
  grd (inb (at_ 0 t27 t29) all2) <|
  grd (appOk out2 [(at_ (0, []) all2 (at_ 0 t27 t29))] 32) <|
  Z0c6 t4 t42 all all2 out (out2 ++ [(at_ (0, []) all2 (at_ 0 t27 t29))]) t27 t28 (w64 (t29 + 1))
 else
 some ((out, out2), true)
def Z7i (N : Nat) : Nat -> R0 -> A0 -> R0 -> A0 -> R0 -> A0 -> I0 -> Int -> Int -> Option (D0 × Bool)
 | 0, _, _, _, _, _, _, _, _, _ => none
 | k_ + 1, t4, t42, all, all2, out, out2, t27, t28, t29 => Z8u N (Z5i N k_) (Z7i N k_) t4 t42 all all2 out out2 t27 t28 t29
def Z9r (Z0c7 : R0 -> A0 -> R0 -> A0 -> R0 -> A0 -> I0 -> Int -> Int -> Option (D0 × Bool)) (db : D0) (indices : I0) : Option (D0 × Bool) :=
 (Z0a N db).bind fun r =>
 bif (!r) then some (([], []), false)
 else
 (Z1y N indices (db.2.length : Int)).bind fun r2 =>
 bif (!r2) then some (([], []), false)
 else
 (Z40 N db).bind fun r3 =>
 Z0c7 [] [] r3.1 r3.2 r3.1 [] indices (indices.length : Int) 0
def Z4l (db : D0) (indices : I0) : Option (D0 × Bool) := Z9r N (Z7i N N) db indices
def Z65 (n : Int) : Option I0 :=
 (Z82 N [(-1)] n).bind fun r =>
 some r
def Z6j (N : Nat) (t : Int) : Option (Bool) :=
 some (decide (t >= 0))
def Z55 (N : Nat) (v : Int) : Option (Int) :=
 some (w64 ((-1) - v))
def Z0a6 (rec_ : I0 -> I0 -> I0 -> Int -> Int -> Option (List Int × Bool)) (from_2 : I0) (out : I0) (t13 : I0) (t14 : Int) (t15 : Int) : Option (List Int × Bool) :=
 bif decide (t15 < t14) then
  grd (inb t15 t13) <|
  (Z6j N (at_ 0 t13 t15)).bind fun r2 =>
  bif (!r2) then
   (Z55 N (at_ 0 t13 t15)).bind fun r3 =>
   grd (inb t15 from_2) <|
   bif (r3 != (at_ 0 from_2 t15)) then some ([], false)
   else
   rec_ from_2 out t13 t14 (w64 (t15 + 1))
  else
  grd (inb (at_ 0 t13 t15) out) <|
  bif decide ((at_ 0 out (at_ 0 t13 t15)) < 0) then
   grd (inb t15 from_2) <|
   grd (inb (at_ 0 t13 t15) out) <|
   grd (inb (at_ 0 t13 t15) out) <|
   letv (out.set (at_ 0 t13 t15).toNat (at_ 0 from_2 t15)) fun u =>
   rec_ from_2 u t13 t14 (w64 (t15 + 1))
  else
  grd (inb (at_ 0 t13 t15) out) <|
  grd (inb t15 from_2) <|
  bif ((at_ 0 out (at_ 0 t13 t15)) != (at_ 0 from_2 t15)) then some ([], false)
  else
  rec_ from_2 out t13 t14 (w64 (t15 + 1))
 else
 some (out, true)
def Z9a (N : Nat) : Nat -> I0 -> I0 -> I0 -> Int -> Int -> Option (List Int × Bool)
 | 0, _, _, _, _, _ => none
 | k_ + 1, from_2, out, t13, t14, t15 => Z0a6 N (Z9a N k_) from_2 out t13 t14 t15
def Z0bf (Z0d2 : I0 -> I0 -> I0 -> Int -> Int -> Option (List Int × Bool)) (values : I0) (terms : I0) (from_ : I0) : Option (List Int × Bool) :=
 (Z0w N values).bind fun r =>
 Z0d2 from_ r terms (terms.length : Int) 0
def Z97 (values : I0) (terms : I0) (from_ : I0) : Option (List Int × Bool) := Z0bf N (Z9a N N) values terms from_
def Z66 (Rf : I0 -> I0 -> Q0 -> (List (List Int × List Int)) -> D0 -> Q0 -> D0 -> Option (List (List Int × List Int))) (rec_ : I0 -> I0 -> (List (List Int × List Int)) -> Q0 -> D0 -> Int -> I0 -> A0 -> Int -> Int -> Option (List (List Int × List Int))) (values2 : I0) (facts2 : I0) (t3 : List (List Int × List Int)) (t5c : Q0) (t5c2 : D0) (atom : Int) (atom2 : I0) (t34 : A0) (t35 : Int) (t36 : Int) : Option (List (List Int × List Int)) :=
 bif decide (t36 < t35) then
  grd (inb t36 t34) <|
  bif (((at_ (0, []) t34 t36).1) != atom) then
   rec_ values2 facts2 t3 t5c t5c2 atom atom2 t34 t35 (w64 (t36 + 1))
  else
  (Z97 N values2 atom2 ((at_ (0, []) t34 t36).2)).bind fun p_r3 =>
  bif p_r3.2 then
   (Z0w N facts2).bind fun r5 =>
   grd (appOk r5 [t36] 8) <|
   (Rf p_r3.1 (r5 ++ [t36]) t5c t3 t5c2 t5c t5c2).bind fun m =>
   rec_ values2 facts2 m t5c t5c2 atom atom2 t34 t35 (w64 (t36 + 1))
  else
  rec_ values2 facts2 t3 t5c t5c2 atom atom2 t34 t35 (w64 (t36 + 1))
 else
 some t3
def Z30 (N : Nat) (Rf : I0 -> I0 -> Q0 -> (List (List Int × List Int)) -> D0 -> Q0 -> D0 -> Option (List (List Int × List Int))) : Nat -> I0 -> I0 -> (List (List Int × List Int)) -> Q0 -> D0 -> Int -> I0 -> A0 -> Int -> Int -> Option (List (List Int × List Int))
 | 0, _, _, _, _, _, _, _, _, _, _ => none
 | k_ + 1, values2, facts2, t3, t5c, t5c2, atom, atom2, t34, t35, t36 => Z66 N Rf (Z30 N Rf k_) values2 facts2 t3 t5c t5c2 atom atom2 t34 t35 t36
def Z4z (Rf : I0 -> I0 -> Q0 -> (List (List Int × List Int)) -> D0 -> Q0 -> D0 -> Option (List (List Int × List Int))) (Z0b4 : I0 -> I0 -> (List (List Int × List Int)) -> Q0 -> D0 -> Int -> I0 -> A0 -> Int -> Int -> Option (List (List Int × List Int))) (values : I0) (facts : I0) (c2 : Q0) (c3 : List (List Int × List Int)) (c4 : D0) (sc2 : Q0) (sc4 : D0) : Option (List (List Int × List Int)) :=
 bif ((facts.length : Int) == (c2.2.1.length : Int)) then
  (Z0w N values).bind fun r =>
  (Z0w N facts).bind fun r2 =>
  grd (appOk c3 [(r, r2)] 48) <|
  some (c3 ++ [(r, r2)])
 else
 grd (inb (facts.length : Int) c2.2.1) <|
 Z0b4 values facts c3 sc2 sc4 ((at_ (0, []) c2.2.1 (facts.length : Int)).1) ((at_ (0, []) c2.2.1 (facts.length : Int)).2) c4.2 (c4.2.length : Int) 0
def Z0q (N : Nat) : Nat -> I0 -> I0 -> Q0 -> (List (List Int × List Int)) -> D0 -> Q0 -> D0 -> Option (List (List Int × List Int))
 | 0, _, _, _, _, _, _, _ => none
 | k_ + 1, values, facts, c2, c3, c4, sc2, sc4 => Z4z N (Z0q N k_) (Z30 N (Z0q N k_) N) values facts c2 c3 c4 sc2 sc4
def Z2t (values : I0) (facts : I0) (c2 : Q0) (c3 : List (List Int × List Int)) (c4 : D0) (sc2 : Q0) (sc4 : D0) : Option (List (List Int × List Int)) := Z0q N N values facts c2 c3 c4 sc2 sc4
def Z2w (db : D0) (query : Q0) : Option (List (List Int × List Int)) :=
 (Z2d N db query).bind fun r =>
 bif (!r) then some []
 else
 (Z65 N query.1).bind fun r2 =>
 (Z2t N r2 [] query [] db query db).bind fun m =>
 some m
def Z67 (db : D0) (indices : I0) (query : Q0) : Option (Bool) :=
 (Z4l N db indices).bind fun p_r =>
 bif p_r.2 then
  (Z2w N p_r.1 query).bind fun r3 =>
  some (decide ((r3.length : Int) > 0))
 else
 some false
def Z8d (rec_ : L0 -> R0 -> A0 -> Int -> A0 -> I0 -> L0 -> Int -> Int -> Option (List Int × Bool)) (sets2 : L0) (db2 : R0) (db3 : A0) (query2 : Int) (query3 : A0) (query4 : I0) (t10 : L0) (t11 : Int) (t12 : Int) : Option (List Int × Bool) :=
 bif decide (t12 < t11) then
  grd (inb t12 t10) <|
  (Z2d N (db2, db3) (query2, query3, query4)).bind fun r =>
  bif r then
   (Z67 N (db2, db3) (at_ [] t10 t12) (query2, query3, query4)).bind fun r2 =>
   bif (!r2) then some ((at_ [] t10 t12), true)
   else
   rec_ sets2 db2 db3 query2 query3 query4 t10 t11 (w64 (t12 + 1))
  else
  rec_ sets2 db2 db3 query2 query3 query4 t10 t11 (w64 (t12 + 1))
 else
 some ([], false)
def Z50 (N : Nat) : Nat -> L0 -> R0 -> A0 -> Int -> A0 -> I0 -> L0 -> Int -> Int -> Option (List Int × Bool)
 | 0, _, _, _, _, _, _, _, _, _ => none
 | k_ + 1, sets2, db2, db3, query2, query3, query4, t10, t11, t12 => Z8d N (Z50 N k_) sets2 db2 db3 query2 query3 query4 t10 t11 t12
def Z9h (N : Nat) (Z0c1 : L0 -> R0 -> A0 -> Int -> A0 -> I0 -> L0 -> Int -> Int -> Option (List Int × Bool)) (db : D0) (sets : L0) (query : Q0) : Option (List Int × Bool) :=
 Z0c1 sets db.1 db.2 query.1 query.2.1 query.2.2 sets (sets.length : Int) 0
def Z41 (db : D0) (sets : L0) (query : Q0) : Option (List Int × Bool) := Z9h N (Z50 N N) db sets query
def Z0c (db : D0) (constraints : List C0) (query : Q0) : Option (List Int × Bool) :=
 (Z1k N db constraints).bind fun r =>
 (Z41 N db r query).bind fun p_r2 =>
 some (p_r2.1, p_r2.2)
def Z98 (N : Nat) (rec_ : I0 -> I0 -> Int -> Option (Bool)) (a2 : I0) (b2 : I0) (i : Int) : Option (Bool) :=
 bif decide (i < (a2.length : Int)) then
  grd (inb i a2) <|
  grd (inb i b2) <|
  bif ((at_ 0 a2 i) != (at_ 0 b2 i)) then some false
  else
  rec_ a2 b2 (w64 (i + 1))
 else
 some true
def Z71 (N : Nat) : Nat -> I0 -> I0 -> Int -> Option (Bool)
 | 0, _, _, _ => none
 | k_ + 1, a2, b2, i => Z98 N (Z71 N k_) a2 b2 i
def Z0b5 (N : Nat) (Z0cy : I0 -> I0 -> Int -> Option (Bool)) (a : I0) (b : I0) : Option (Bool) :=
 bif ((a.length : Int) != (b.length : Int)) then some false
 else
 Z0cy a b 0
def Z22 (a : I0) (b : I0) : Option (Bool) := Z0b5 N (Z71 N N) a b
def Z51 (N : Nat) (a : ByteArray × Int × Int) (b : ByteArray × Int × Int) : Option (Bool) :=
 bif (!seq a.1 b.1) then some false
 else
 bif (a.2.1 != b.2.1) then some false
 else
 bif (a.2.2 != b.2.2) then some false
 else
 some true
def Z6k (rec_ : R0 -> R0 -> Int -> Option (Bool)) (a2 : R0) (b2 : R0) (i : Int) : Option (Bool) :=
 bif decide (i < (a2.length : Int)) then
  grd (inb i a2) <|
  grd (inb i b2) <|
  (Z51 N ((at_ (⟨#[]⟩, (0, 0)) a2 i).1, ((at_ (⟨#[]⟩, (0, 0)) a2 i).2)) ((at_ (⟨#[]⟩, (0, 0)) b2 i).1, ((at_ (⟨#[]⟩, (0, 0)) b2 i).2))).bind fun r =>
  bif (!r) then some false
  else
  rec_ a2 b2 (w64 (i + 1))
 else
 some true
def Z47 (N : Nat) : Nat -> R0 -> R0 -> Int -> Option (Bool)
 | 0, _, _, _ => none
 | k_ + 1, a2, b2, i => Z6k N (Z47 N k_) a2 b2 i
def Z9s (N : Nat) (Z0c8 : R0 -> R0 -> Int -> Option (Bool)) (a : R0) (b : R0) : Option (Bool) :=
 bif ((a.length : Int) != (b.length : Int)) then some false
 else
 Z0c8 a b 0
def Z4m (a : R0) (b : R0) : Option (Bool) := Z9s N (Z47 N N) a b
def Z8e (a : Int × List Int) (b : Int × List Int) : Option (Bool) :=
 bif (a.1 != b.1) then some false
 else
 (Z22 N a.2 b.2).bind fun r =>
 bif (!r) then some false
 else
 some true
def Z8m (rec_ : A0 -> A0 -> Int -> Option (Bool)) (a2 : A0) (b2 : A0) (i : Int) : Option (Bool) :=
 bif decide (i < (a2.length : Int)) then
  grd (inb i a2) <|
  grd (inb i b2) <|
  (Z8e N (at_ (0, []) a2 i) (at_ (0, []) b2 i)).bind fun r =>
  bif (!r) then some false
  else
  rec_ a2 b2 (w64 (i + 1))
 else
 some true
def Z6l (N : Nat) : Nat -> A0 -> A0 -> Int -> Option (Bool)
 | 0, _, _, _ => none
 | k_ + 1, a2, b2, i => Z8m N (Z6l N k_) a2 b2 i
def Z0am (N : Nat) (Z0cr : A0 -> A0 -> Int -> Option (Bool)) (a : A0) (b : A0) : Option (Bool) :=
 bif ((a.length : Int) != (b.length : Int)) then some false
 else
 Z0cr a b 0
def Z7f (a : A0) (b : A0) : Option (Bool) := Z0am N (Z6l N N) a b
def Z52 (a : D0) (b : D0) : Option (Bool) :=
 (Z4m N a.1 b.1).bind fun r =>
 bif (!r) then some false
 else
 (Z7f N a.2 b.2).bind fun r2 =>
 bif (!r2) then some false
 else
 some true
def Z1l (N : Nat) (a : C0) (b : C0) : Option (Bool) :=
 bif (a.1 != b.1) then some false
 else
 bif (a.2.1 != b.2.1) then some false
 else
 bif (a.2.2.1 != b.2.2.1) then some false
 else
 bif (a.2.2.2.1 != b.2.2.2.1) then some false
 else
 bif (a.2.2.2.2.1 != b.2.2.2.2.1) then some false
 else
 bif (a.2.2.2.2.2.1 != b.2.2.2.2.2.1) then some false
 else
 bif (a.2.2.2.2.2.2 != b.2.2.2.2.2.2) then some false
 else
 some true
def Z3a (rec_ : (List C0) -> (List C0) -> Int -> Option (Bool)) (a2 : List C0) (b2 : List C0) (i : Int) : Option (Bool) :=
 bif decide (i < (a2.length : Int)) then
  grd (inb i a2) <|
  grd (inb i b2) <|
  (Z1l N ((at_ (0, (0, (0, (0, (0, (0, 0)))))) a2 i).1, ((at_ (0, (0, (0, (0, (0, (0, 0)))))) a2 i).2).1, (((at_ (0, (0, (0, (0, (0, (0, 0)))))) a2 i).2).2).1, ((((at_ (0, (0, (0, (0, (0, (0, 0)))))) a2 i).2).2).2).1, (((((at_ (0, (0, (0, (0, (0, (0, 0)))))) a2 i).2).2).2).2).1, ((((((at_ (0, (0, (0, (0, (0, (0, 0)))))) a2 i).2).2).2).2).2)) ((at_ (0, (0, (0, (0, (0, (0, 0)))))) b2 i).1, ((at_ (0, (0, (0, (0, (0, (0, 0)))))) b2 i).2).1, (((at_ (0, (0, (0, (0, (0, (0, 0)))))) b2 i).2).2).1, ((((at_ (0, (0, (0, (0, (0, (0, 0)))))) b2 i).2).2).2).1, (((((at_ (0, (0, (0, (0, (0, (0, 0)))))) b2 i).2).2).2).2).1, ((((((at_ (0, (0, (0, (0, (0, (0, 0)))))) b2 i).2).2).2).2).2))).bind fun r =>
  bif (!r) then some false
  else
  rec_ a2 b2 (w64 (i + 1))
 else
 some true
def Z1h (N : Nat) : Nat -> (List C0) -> (List C0) -> Int -> Option (Bool)
 | 0, _, _, _ => none
 | k_ + 1, a2, b2, i => Z3a N (Z1h N k_) a2 b2 i
def Z6q (N : Nat) (Z0an : (List C0) -> (List C0) -> Int -> Option (Bool)) (a : List C0) (b : List C0) : Option (Bool) :=
 bif ((a.length : Int) != (b.length : Int)) then some false
 else
 Z0an a b 0
def Z1c (a : List C0) (b : List C0) : Option (Bool) := Z6q N (Z1h N N) a b
def Z8f (a : Int × List Int) (b : Int × List Int) : Option (Bool) :=
 bif (a.1 != b.1) then some false
 else
 (Z22 N a.2 b.2).bind fun r =>
 bif (!r) then some false
 else
 some true
def Z8n (rec_ : A0 -> A0 -> Int -> Option (Bool)) (a2 : A0) (b2 : A0) (i : Int) : Option (Bool) :=
 bif decide (i < (a2.length : Int)) then
  grd (inb i a2) <|
  grd (inb i b2) <|
  (Z8f N (at_ (0, []) a2 i) (at_ (0, []) b2 i)).bind fun r =>
  bif (!r) then some false
  else
  rec_ a2 b2 (w64 (i + 1))
 else
 some true
def Z6m (N : Nat) : Nat -> A0 -> A0 -> Int -> Option (Bool)
 | 0, _, _, _ => none
 | k_ + 1, a2, b2, i => Z8n N (Z6m N k_) a2 b2 i
def Z0ao (N : Nat) (Z0cs : A0 -> A0 -> Int -> Option (Bool)) (a : A0) (b : A0) : Option (Bool) :=
 bif ((a.length : Int) != (b.length : Int)) then some false
 else
 Z0cs a b 0
def Z7g (a : A0) (b : A0) : Option (Bool) := Z0ao N (Z6m N N) a b
def Z7h (a : Q0) (b : Q0) : Option (Bool) :=
 bif (a.1 != b.1) then some false
 else
 (Z7g N a.2.1 b.2.1).bind fun r =>
 bif (!r) then some false
 else
 (Z22 N a.2.2 b.2.2).bind fun r2 =>
 bif (!r2) then some false
 else
 some true
def Z68 (N : Nat) (rec_ : Int -> ByteArray -> Option (ByteArray)) (k2 : Int) (out : ByteArray) : Option (ByteArray) :=
 bif decide (k2 > 0) then
  grz 10 <|
  grd (catOk (ofBytes [(w .u8 (w64 (48 + (k2.tmod 10))))]) out) <|
  grz 10 <|
  rec_ (w64 (k2.tdiv 10)) ((ofBytes [(w .u8 (w64 (48 + (k2.tmod 10))))]) ++ out)
 else
 grd (catOk (⟨#[109]⟩) out) <|
 some ((⟨#[109]⟩) ++ out)
def Z4n (N : Nat) : Nat -> Int -> ByteArray -> Option (ByteArray)
 | 0, _, _ => none
 | k_ + 1, k2, out => Z68 N (Z4n N k_) k2 out
def Z0a7 (N : Nat) (Z0cf : Int -> ByteArray -> Option (ByteArray)) (k : Int) : Option (ByteArray) :=
 bif decide (k <= 0) then some (⟨#[109, 48]⟩)
 else
 Z0cf k (⟨#[]⟩)
def Z3j (k : Int) : Option (ByteArray) := Z0a7 N (Z4n N N) k
def Z5f (rec_ : R0 -> Int -> Int -> Option (R0 × Int)) (a2 : R0) (k2 : Int) (i : Int) : Option (R0 × Int) :=
 bif decide (i < (a2.length : Int)) then
  (Z3j N k2).bind fun r =>
  grd (inb i a2) <|
  grd (inb i a2) <|
  letv (a2.set i.toNat (r, ((at_ (⟨#[]⟩, (0, 0)) a2 i).2))) fun u =>
  grd (inb i u) <|
  grd (inb i u) <|
  letv (u.set i.toNat ((at_ (⟨#[]⟩, (0, 0)) u i).1, (w64 (k2 + 1)), ((at_ (⟨#[]⟩, (0, 0)) u i).2).2)) fun u2 =>
  grd (inb i u2) <|
  grd (inb i u2) <|
  letv (u2.set i.toNat ((at_ (⟨#[]⟩, (0, 0)) u2 i).1, ((at_ (⟨#[]⟩, (0, 0)) u2 i).2).1, (w64 ((w64 (k2 + 1)) + 1)))) fun u3 =>
  rec_ u3 (w64 ((w64 ((w64 (k2 + 1)) + 1)) + 1)) (w64 (i + 1))
 else
 some (a2, k2)
def Z38 (N : Nat) : Nat -> R0 -> Int -> Int -> Option (R0 × Int)
 | 0, _, _, _ => none
 | k_ + 1, a2, k2, i => Z5f N (Z38 N k_) a2 k2 i
def Z99 (N : Nat) (Z0bq : R0 -> Int -> Int -> Option (R0 × Int)) (a : R0) (k : Int) : Option (R0 × Int) :=
 Z0bq a k 0
def Z3h (a : R0) (k : Int) : Option (R0 × Int) := Z99 N (Z38 N N) a k
def Z80 (N : Nat) (rec_ : I0 -> Int -> Int -> Option (List Int × Int)) (a2 : I0) (k2 : Int) (i : Int) : Option (List Int × Int) :=
 bif decide (i < (a2.length : Int)) then
  grd (inb i a2) <|
  grd (inb i a2) <|
  letv (a2.set i.toNat k2) fun u =>
  rec_ u (w64 (k2 + 1)) (w64 (i + 1))
 else
 some (a2, k2)
def Z5p (N : Nat) : Nat -> I0 -> Int -> Int -> Option (List Int × Int)
 | 0, _, _, _ => none
 | k_ + 1, a2, k2, i => Z80 N (Z5p N k_) a2 k2 i
def Z0a8 (N : Nat) (Z0cg : I0 -> Int -> Int -> Option (List Int × Int)) (a : I0) (k : Int) : Option (List Int × Int) :=
 Z0cg a k 0
def Z1s (a : I0) (k : Int) : Option (List Int × Int) := Z0a8 N (Z5p N N) a k
def Z7j (rec_ : A0 -> Int -> Int -> Option (A0 × Int)) (a2 : A0) (k2 : Int) (i : Int) : Option (A0 × Int) :=
 bif decide (i < (a2.length : Int)) then
  grd (inb i a2) <|
  grd (inb i a2) <|
  letv (a2.set i.toNat (k2, (at_ (0, []) a2 i).2)) fun u =>
  grd (inb i u) <|
  (Z1s N ((at_ (0, []) u i).2) (w64 (k2 + 1))).bind fun p_m =>
  letv (u.set i.toNat ((at_ (0, []) u i).1, p_m.1)) fun u2 =>
  rec_ u2 p_m.2 (w64 (i + 1))
 else
 some (a2, k2)
def Z56 (N : Nat) : Nat -> A0 -> Int -> Int -> Option (A0 × Int)
 | 0, _, _, _ => none
 | k_ + 1, a2, k2, i => Z7j N (Z56 N k_) a2 k2 i
def Z0a1 (N : Nat) (Z0cb : A0 -> Int -> Int -> Option (A0 × Int)) (a : A0) (k : Int) : Option (A0 × Int) :=
 Z0cb a k 0
def Z5q (a : A0) (k : Int) : Option (A0 × Int) := Z0a1 N (Z56 N N) a k
def Z2u (a : D0) (k : Int) : Option (D0 × Int) :=
 (Z3h N a.1 k).bind fun p_m =>
 (Z5q N a.2 p_m.2).bind fun p_m2 =>
 some ((p_m.1, p_m2.1), p_m2.2)
def Z2s (N : Nat) (rec_ : (List C0) -> Int -> Int -> Option ((List C0) × Int)) (a2 : List C0) (k2 : Int) (i : Int) : Option ((List C0) × Int) :=
 bif decide (i < (a2.length : Int)) then
  grd (inb i a2) <|
  grd (inb i a2) <|
  letv (a2.set i.toNat (k2, ((at_ (0, (0, (0, (0, (0, (0, 0)))))) a2 i).2).1, (((at_ (0, (0, (0, (0, (0, (0, 0)))))) a2 i).2).2).1, ((((at_ (0, (0, (0, (0, (0, (0, 0)))))) a2 i).2).2).2).1, (((((at_ (0, (0, (0, (0, (0, (0, 0)))))) a2 i).2).2).2).2).1, ((((((at_ (0, (0, (0, (0, (0, (0, 0)))))) a2 i).2).2).2).2).2))) fun u =>
  grd (inb i u) <|
  grd (inb i u) <|
  letv (u.set i.toNat ((at_ (0, (0, (0, (0, (0, (0, 0)))))) u i).1, (w64 (k2 + 1)), (((at_ (0, (0, (0, (0, (0, (0, 0)))))) u i).2).2).1, ((((at_ (0, (0, (0, (0, (0, (0, 0)))))) u i).2).2).2).1, (((((at_ (0, (0, (0, (0, (0, (0, 0)))))) u i).2).2).2).2).1, ((((((at_ (0, (0, (0, (0, (0, (0, 0)))))) u i).2).2).2).2).2))) fun u2 =>
  grd (inb i u2) <|
  grd (inb i u2) <|
  letv (u2.set i.toNat ((at_ (0, (0, (0, (0, (0, (0, 0)))))) u2 i).1, ((at_ (0, (0, (0, (0, (0, (0, 0)))))) u2 i).2).1, (w64 ((w64 (k2 + 1)) + 1)), ((((at_ (0, (0, (0, (0, (0, (0, 0)))))) u2 i).2).2).2).1, (((((at_ (0, (0, (0, (0, (0, (0, 0)))))) u2 i).2).2).2).2).1, ((((((at_ (0, (0, (0, (0, (0, (0, 0)))))) u2 i).2).2).2).2).2))) fun u3 =>
  grd (inb i u3) <|
  grd (inb i u3) <|
  letv (u3.set i.toNat ((at_ (0, (0, (0, (0, (0, (0, 0)))))) u3 i).1, ((at_ (0, (0, (0, (0, (0, (0, 0)))))) u3 i).2).1, (((at_ (0, (0, (0, (0, (0, (0, 0)))))) u3 i).2).2).1, (w64 ((w64 ((w64 (k2 + 1)) + 1)) + 1)), (((((at_ (0, (0, (0, (0, (0, (0, 0)))))) u3 i).2).2).2).2).1, ((((((at_ (0, (0, (0, (0, (0, (0, 0)))))) u3 i).2).2).2).2).2))) fun u4 =>
  grd (inb i u4) <|
  grd (inb i u4) <|
  letv (u4.set i.toNat ((at_ (0, (0, (0, (0, (0, (0, 0)))))) u4 i).1, ((at_ (0, (0, (0, (0, (0, (0, 0)))))) u4 i).2).1, (((at_ (0, (0, (0, (0, (0, (0, 0)))))) u4 i).2).2).1, ((((at_ (0, (0, (0, (0, (0, (0, 0)))))) u4 i).2).2).2).1, (w64 ((w64 ((w64 ((w64 (k2 + 1)) + 1)) + 1)) + 1)), ((((((at_ (0, (0, (0, (0, (0, (0, 0)))))) u4 i).2).2).2).2).2))) fun u5 =>
  grd (inb i u5) <|
  grd (inb i u5) <|
  letv (u5.set i.toNat ((at_ (0, (0, (0, (0, (0, (0, 0)))))) u5 i).1, ((at_ (0, (0, (0, (0, (0, (0, 0)))))) u5 i).2).1, (((at_ (0, (0, (0, (0, (0, (0, 0)))))) u5 i).2).2).1, ((((at_ (0, (0, (0, (0, (0, (0, 0)))))) u5 i).2).2).2).1, (((((at_ (0, (0, (0, (0, (0, (0, 0)))))) u5 i).2).2).2).2).1, (w64 ((w64 ((w64 ((w64 ((w64 (k2 + 1)) + 1)) + 1)) + 1)) + 1)), ((((((at_ (0, (0, (0, (0, (0, (0, 0)))))) u5 i).2).2).2).2).2).2)) fun u6 =>
  grd (inb i u6) <|
  grd (inb i u6) <|
  letv (u6.set i.toNat ((at_ (0, (0, (0, (0, (0, (0, 0)))))) u6 i).1, ((at_ (0, (0, (0, (0, (0, (0, 0)))))) u6 i).2).1, (((at_ (0, (0, (0, (0, (0, (0, 0)))))) u6 i).2).2).1, ((((at_ (0, (0, (0, (0, (0, (0, 0)))))) u6 i).2).2).2).1, (((((at_ (0, (0, (0, (0, (0, (0, 0)))))) u6 i).2).2).2).2).1, ((((((at_ (0, (0, (0, (0, (0, (0, 0)))))) u6 i).2).2).2).2).2).1, (w64 ((w64 ((w64 ((w64 ((w64 ((w64 (k2 + 1)) + 1)) + 1)) + 1)) + 1)) + 1)))) fun u7 =>
  rec_ u7 (w64 ((w64 ((w64 ((w64 ((w64 ((w64 ((w64 (k2 + 1)) + 1)) + 1)) + 1)) + 1)) + 1)) + 1)) (w64 (i + 1))
 else
 some (a2, k2)
def Z15 (N : Nat) : Nat -> (List C0) -> Int -> Int -> Option ((List C0) × Int)
 | 0, _, _, _ => none
 | k_ + 1, a2, k2, i => Z2s N (Z15 N k_) a2 k2 i
def Z5r (N : Nat) (Z0a9 : (List C0) -> Int -> Int -> Option ((List C0) × Int)) (a : List C0) (k : Int) : Option ((List C0) × Int) :=
 Z0a9 a k 0
def Z12 (a : List C0) (k : Int) : Option ((List C0) × Int) := Z5r N (Z15 N N) a k
def Z7k (rec_ : A0 -> Int -> Int -> Option (A0 × Int)) (a2 : A0) (k2 : Int) (i : Int) : Option (A0 × Int) :=
 bif decide (i < (a2.length : Int)) then
  grd (inb i a2) <|
  grd (inb i a2) <|
  letv (a2.set i.toNat (k2, (at_ (0, []) a2 i).2)) fun u =>
  grd (inb i u) <|
  (Z1s N ((at_ (0, []) u i).2) (w64 (k2 + 1))).bind fun p_m =>
  letv (u.set i.toNat ((at_ (0, []) u i).1, p_m.1)) fun u2 =>
  rec_ u2 p_m.2 (w64 (i + 1))
 else
 some (a2, k2)
def Z57 (N : Nat) : Nat -> A0 -> Int -> Int -> Option (A0 × Int)
 | 0, _, _, _ => none
 | k_ + 1, a2, k2, i => Z7k N (Z57 N k_) a2 k2 i
def Z0a2 (N : Nat) (Z0cc : A0 -> Int -> Int -> Option (A0 × Int)) (a : A0) (k : Int) : Option (A0 × Int) :=
 Z0cc a k 0
def Z5s (a : A0) (k : Int) : Option (A0 × Int) := Z0a2 N (Z57 N N) a k
def Z4r (a : Q0) (k : Int) : Option (Q0 × Int) :=
 (Z5s N a.2.1 k).bind fun p_m =>
 (Z1s N a.2.2 p_m.2).bind fun p_m2 =>
 some ((a.1, p_m.1, p_m2.1), p_m2.2)
def Z81 (N : Nat) (rec_ : I0 -> Int -> Int -> Option (Int)) (a2 : I0) (k2 : Int) (i : Int) : Option (Int) :=
 bif decide (i < (a2.length : Int)) then
  grd (inb i a2) <|
  bif ((at_ 0 a2 i) != k2) then some (-1)
  else
  rec_ a2 (w64 (k2 + 1)) (w64 (i + 1))
 else
 some k2
def Z5t (N : Nat) : Nat -> I0 -> Int -> Int -> Option (Int)
 | 0, _, _, _ => none
 | k_ + 1, a2, k2, i => Z81 N (Z5t N k_) a2 k2 i
def Z0aa (N : Nat) (Z0ch : I0 -> Int -> Int -> Option (Int)) (a : I0) (k : Int) : Option (Int) :=
 Z0ch a k 0
def Z58 (a : I0) (k : Int) : Option (Int) := Z0aa N (Z5t N N) a k
def laws_FnExactCardinalityFalsifyingRepair (aDb : D0) (aConstraints : List C0) (aQuery : Q0) : Option (Bool) :=
 (Z4u N aDb 1048576).bind fun r =>
 bif decide (r < 0) then some true
 else
 (Z1b N aConstraints r).bind fun r2 =>
 bif decide (r2 < 0) then some true
 else
 (Z74 N aQuery r2).bind fun r3 =>
 bif decide (r3 < 0) then some true
 else
 (Z2b N aDb).bind fun r4 =>
 (Z0h N aConstraints).bind fun r5 =>
 (Z4a N aQuery).bind fun r6 =>
 (Z0j N r4 r5 r6).bind fun p_r7 =>
 (Z2b N aDb).bind fun r9 =>
 (Z0h N aConstraints).bind fun r10 =>
 (Z4a N aQuery).bind fun r11 =>
 (Z0c N r9 r10 r11).bind fun p_r12 =>
 (Z22 N p_r12.1 p_r7.1).bind fun r14 =>
 bif (!r14) then some false
 else
 bif (!(p_r12.2 == p_r7.2)) then some false
 else
 (Z2b N aDb).bind fun r15 =>
 (Z52 N r9 r15).bind fun r16 =>
 bif (!r16) then some false
 else
 (Z0h N aConstraints).bind fun r17 =>
 (Z1c N r10 r17).bind fun r18 =>
 bif (!r18) then some false
 else
 (Z4a N aQuery).bind fun r19 =>
 (Z7h N r11 r19).bind fun r20 =>
 bif (!r20) then some false
 else
 (Z2u N r9 1).bind fun p_m =>
 (Z12 N r10 p_m.2).bind fun p_m2 =>
 (Z4r N r11 p_m2.2).bind fun p_m3 =>
 bif decide (p_m3.2 < 0) then some false
 else
 (Z22 N p_r12.1 p_r7.1).bind fun r24 =>
 bif (!r24) then some false
 else
 bif (!(p_r12.2 == p_r7.2)) then some false
 else
 (Z1s N p_r12.1 1).bind fun p_m4 =>
 (Z58 N p_m4.1 1).bind fun r26 =>
 bif decide (r26 < 0) then some false
 else
 bif (r26 != p_m4.2) then some false
 else
 (Z2b N aDb).bind fun r27 =>
 (Z0h N aConstraints).bind fun r28 =>
 (Z4a N aQuery).bind fun r29 =>
 (Z0c N r27 r28 r29).bind fun p_r30 =>
 (Z22 N p_r30.1 p_r7.1).bind fun r32 =>
 bif (!r32) then some false
 else
 bif (!(p_r30.2 == p_r7.2)) then some false
 else
 (Z58 N p_m4.1 1).bind fun r33 =>
 bif decide (r33 < 0) then some false
 else
 bif (r33 != p_m4.2) then some false
 else
 some true
end Go.PL
