/- The functions read plainly. Conditions: none (definitions alone). -/
import GoSem.Core.View
import GoSem.Op.String

set_option linter.unusedVariables false
set_option linter.unusedSimpArgs false
set_option linter.unnecessarySimpa false

namespace Go.PL
def w64 (x : Int) : Int := IntKind.i64.wrap x
def w (k : IntKind) (x : Int) : Int := k.wrap x
def grd {α : Type} (c : Bool) (x : Option α) : Option α := bif c then x else none
def grz {α : Type} (b : Int) (x : Option α) : Option α := bif decide (b = 0) then none else x
def letv {α β : Type} (v : α) (k : α -> β) : β := k v
def at_ {α : Type} (d : α) (xs : List α) (i : Int) : α := xs.getD i.toNat d
def inb {α : Type} (i : Int) (xs : List α) : Bool := decide (0 <= i) && decide (i < (xs.length : Int))
def growOk {α : Type} (i' i : Int) (xs : List α) : Bool := decide (i' = i) && (decide (0 <= i') && decide (i' < (xs.length : Int)))
def appOk {α : Type} (s x : List α) (b : Nat) : Bool := decide ((s.length + x.length) * b <= 140737488355328)
def selOk {α : Type} (ix : List Int) (i : Int) (x : List α) (b : Nat) : Bool := ix.all (fun k => decide (k < i)) && decide ((x.length + 1) * b <= 140737488355328)
def selOk0 {α : Type} (x : List α) (b : Nat) : Bool := x.isEmpty && decide ((0 + 1) * b <= 140737488355328)
def makeOk (n : Int) (b : Nat) : Bool := decide (n = n) && (decide (0 <= n) && decide (n * b <= 140737488355328))
def byteAt (s : ByteArray) (n : Int) : Option UInt8 := if 0 <= n then s[n.toNat]? else none
def catOk (a b : ByteArray) : Bool := decide (a.size + b.size <= 140737488355328)
def seq (a b : ByteArray) : Bool := a.toList == b.toList
def slt (a b : ByteArray) : Bool := Op.bytesLess a.toList b.toList
def subOk (lo hi : Int) (n : Nat) : Bool := decide (0 <= lo) && (decide (lo <= hi) && decide (hi <= (n : Int)))
def sub (s : ByteArray) (lo hi : Int) : ByteArray := s.extract lo.toNat hi.toNat
def ofBytes (x : List Int) : ByteArray := ⟨(x.map fun n => UInt8.ofNat n.toNat).toArray⟩
def bits (op : BinOp) (k : IntKind) (a b : Int) : Int := match op with
 | .and => k.wrap ((BitVec.ofInt k.bits a &&& BitVec.ofInt k.bits b).toNat : Int)
 | .xor => k.wrap ((BitVec.ofInt k.bits a ^^^ BitVec.ofInt k.bits b).toNat : Int)
 | .or => k.wrap ((BitVec.ofInt k.bits a ||| BitVec.ofInt k.bits b).toNat : Int)
 | .shl => k.wrap (a * 2 ^ (min b.toNat k.bits))
 | .shr => a.fdiv (2 ^ (min b.toNat k.bits))
 | _ => 0
def imax (a b : Int) : Int := if b > a then b else a
def imin (a b : Int) : Int := if b < a then b else a
end Go.PL

namespace Go.PL
abbrev D0 : Type := List (ByteArray × Int × Int) × List (Int × List Int)
abbrev Q0 : Type := Int × List (Int × List Int) × List Int
abbrev C0 : Type := Int × Int × Int × Int × Int × Int × Int
abbrev R0 : Type := List (ByteArray × Int × Int)
abbrev A0 : Type := List (Int × List Int)
abbrev L0 : Type := List (List Int)
abbrev I0 : Type := List Int
abbrev E0 : Type := List (Int × Int)
variable (N : Nat)
def Z4r (N : Nat) (s : I0) : Option I0 := grd (decide (s.length * 8 <= 140737488355328)) (some s)
def Z3v (N : Nat) (a : ByteArray × Int × Int) (left_ : Int) : Option (Int) :=
 bif decide ((w64 (left_ - (a.1.size : Int))) < 0) then some (-1)
 else
 some (w64 (left_ - (a.1.size : Int)))
def Z68 (rec_ : R0 -> Int -> Int -> Option (Int)) (a2 : R0) (left_2 : Int) (i : Int) : Option (Int) :=
 bif decide (i < (a2.length : Int)) then
  grd (inb i a2) <|
  (Z3v N ((at_ (⟨#[]⟩, (0, 0)) a2 i).1, ((at_ (⟨#[]⟩, (0, 0)) a2 i).2)) left_2).bind fun r =>
  bif decide (r < 0) then some (-1)
  else
  rec_ a2 r (w64 (i + 1))
 else
 some left_2
def Z43 (N : Nat) : Nat -> R0 -> Int -> Int -> Option (Int)
 | 0, _, _, _ => none
 | k_ + 1, a2, left_2, i => Z68 N (Z43 N k_) a2 left_2 i
def Z8g (N : Nat) (Z0ab : R0 -> Int -> Int -> Option (Int)) (a : R0) (left_ : Int) : Option (Int) :=
 bif decide ((w64 (left_ - (a.length : Int))) < 0) then some (-1)
 else
 Z0ab a (w64 (left_ - (a.length : Int))) 0
def Z4j (a : R0) (left_ : Int) : Option (Int) := Z8g N (Z43 N N) a left_
def Z7i (N : Nat) (a : I0) (left_ : Int) : Option (Int) :=
 bif decide ((w64 (left_ - (a.length : Int))) < 0) then some (-1)
 else
 some (w64 (left_ - (a.length : Int)))
def Z6s (a : Int × List Int) (left_ : Int) : Option (Int) :=
 (Z7i N a.2 left_).bind fun r =>
 bif decide (r < 0) then some (-1)
 else
 some r
def Z7v (rec_ : A0 -> Int -> Int -> Option (Int)) (a2 : A0) (left_2 : Int) (i : Int) : Option (Int) :=
 bif decide (i < (a2.length : Int)) then
  grd (inb i a2) <|
  (Z6s N (at_ (0, []) a2 i) left_2).bind fun r =>
  bif decide (r < 0) then some (-1)
  else
  rec_ a2 r (w64 (i + 1))
 else
 some left_2
def Z69 (N : Nat) : Nat -> A0 -> Int -> Int -> Option (Int)
 | 0, _, _, _ => none
 | k_ + 1, a2, left_2, i => Z7v N (Z69 N k_) a2 left_2 i
def Z95 (N : Nat) (Z0aq : A0 -> Int -> Int -> Option (Int)) (a : A0) (left_ : Int) : Option (Int) :=
 bif decide ((w64 (left_ - (a.length : Int))) < 0) then some (-1)
 else
 Z0aq a (w64 (left_ - (a.length : Int))) 0
def Z6v (a : A0) (left_ : Int) : Option (Int) := Z95 N (Z69 N N) a left_
def Z50 (a : D0) (left_ : Int) : Option (Int) :=
 (Z4j N a.1 left_).bind fun r =>
 bif decide (r < 0) then some (-1)
 else
 (Z6v N a.2 r).bind fun r2 =>
 bif decide (r2 < 0) then some (-1)
 else
 some r2
def Z1i (N : Nat) (a : List C0) (left_ : Int) : Option (Int) :=
 bif decide ((w64 (left_ - (a.length : Int))) < 0) then some (-1)
 else
 some (w64 (left_ - (a.length : Int)))
def Z2x (N : Nat) (a : E0) (left_ : Int) : Option (Int) :=
 bif decide ((w64 (left_ - (a.length : Int))) < 0) then some (-1)
 else
 some (w64 (left_ - (a.length : Int)))
def Z51 (N : Nat) (a : ByteArray × Int × Int) : Option (ByteArray × Int × Int) :=
 some a
def Z6a (rec_ : R0 -> R0 -> Int -> Option R0) (a2 : R0) (out : R0) (i : Int) : Option R0 :=
 bif decide (i < (a2.length : Int)) then
  grd (inb i a2) <|
  (Z51 N ((at_ (⟨#[]⟩, (0, 0)) a2 i).1, ((at_ (⟨#[]⟩, (0, 0)) a2 i).2))).bind fun r =>
  grd (inb i out) <|
  grd (inb i out) <|
  letv (out.set i.toNat r) fun u =>
  rec_ a2 u (w64 (i + 1))
 else
 some out
def Z44 (N : Nat) : Nat -> R0 -> R0 -> Int -> Option R0
 | 0, _, _, _ => none
 | k_ + 1, a2, out, i => Z6a N (Z44 N k_) a2 out i
def Z8h (N : Nat) (Z0ac : R0 -> R0 -> Int -> Option R0) (a : R0) : Option R0 :=
 grd (makeOk (a.length : Int) 32) <|
 Z0ac a (List.replicate (a.length : Int).toNat (⟨#[]⟩, (0, 0))) 0
def Z4k (a : R0) : Option R0 := Z8h N (Z44 N N) a
def Z83 (N : Nat) (rec_ : I0 -> I0 -> Int -> Option I0) (a2 : I0) (out : I0) (i : Int) : Option I0 :=
 bif decide (i < (a2.length : Int)) then
  grd (inb i a2) <|
  grd (inb i out) <|
  grd (inb i out) <|
  letv (out.set i.toNat (at_ 0 a2 i)) fun u =>
  rec_ a2 u (w64 (i + 1))
 else
 some out
def Z6t (N : Nat) : Nat -> I0 -> I0 -> Int -> Option I0
 | 0, _, _, _ => none
 | k_ + 1, a2, out, i => Z83 N (Z6t N k_) a2 out i
def Z9e (N : Nat) (Z0aw : I0 -> I0 -> Int -> Option I0) (a : I0) : Option I0 :=
 grd (makeOk (a.length : Int) 8) <|
 Z0aw a (List.replicate (a.length : Int).toNat 0) 0
def Z7j (a : I0) : Option I0 := Z9e N (Z6t N N) a
def Z7k (a : Int × List Int) : Option (Int × List Int) :=
 (Z7j N a.2).bind fun r =>
 some (a.1, r)
def Z7w (rec_ : A0 -> A0 -> Int -> Option A0) (a2 : A0) (out : A0) (i : Int) : Option A0 :=
 bif decide (i < (a2.length : Int)) then
  grd (inb i a2) <|
  (Z7k N (at_ (0, []) a2 i)).bind fun r =>
  grd (inb i out) <|
  grd (inb i out) <|
  letv (out.set i.toNat r) fun u =>
  rec_ a2 u (w64 (i + 1))
 else
 some out
def Z6b (N : Nat) : Nat -> A0 -> A0 -> Int -> Option A0
 | 0, _, _, _ => none
 | k_ + 1, a2, out, i => Z7w N (Z6b N k_) a2 out i
def Z96 (N : Nat) (Z0ar : A0 -> A0 -> Int -> Option A0) (a : A0) : Option A0 :=
 grd (makeOk (a.length : Int) 32) <|
 Z0ar a (List.replicate (a.length : Int).toNat (0, [])) 0
def Z6w (a : A0) : Option A0 := Z96 N (Z6b N N) a
def Z2m (a : D0) : Option D0 :=
 (Z4k N a.1).bind fun r =>
 (Z6w N a.2).bind fun r2 =>
 some (r, r2)
def Z2p (N : Nat) (a : C0) : Option C0 :=
 some a
def Z3l (rec_ : (List C0) -> (List C0) -> Int -> Option (List C0)) (a2 : List C0) (out : List C0) (i : Int) : Option (List C0) :=
 bif decide (i < (a2.length : Int)) then
  grd (inb i a2) <|
  (Z2p N ((at_ (0, (0, (0, (0, (0, (0, 0)))))) a2 i).1, ((at_ (0, (0, (0, (0, (0, (0, 0)))))) a2 i).2).1, (((at_ (0, (0, (0, (0, (0, (0, 0)))))) a2 i).2).2).1, ((((at_ (0, (0, (0, (0, (0, (0, 0)))))) a2 i).2).2).2).1, (((((at_ (0, (0, (0, (0, (0, (0, 0)))))) a2 i).2).2).2).2).1, ((((((at_ (0, (0, (0, (0, (0, (0, 0)))))) a2 i).2).2).2).2).2))).bind fun r =>
  grd (inb i out) <|
  grd (inb i out) <|
  letv (out.set i.toNat r) fun u =>
  rec_ a2 u (w64 (i + 1))
 else
 some out
def Z1k (N : Nat) : Nat -> (List C0) -> (List C0) -> Int -> Option (List C0)
 | 0, _, _, _ => none
 | k_ + 1, a2, out, i => Z3l N (Z1k N k_) a2 out i
def Z6k (N : Nat) (Z97 : (List C0) -> (List C0) -> Int -> Option (List C0)) (a : List C0) : Option (List C0) :=
 grd (makeOk (a.length : Int) 56) <|
 Z97 a (List.replicate (a.length : Int).toNat (0, (0, (0, (0, (0, (0, 0))))))) 0
def Z0k (a : List C0) : Option (List C0) := Z6k N (Z1k N N) a
def Z45 (N : Nat) (a : Int × Int) : Option (Int × Int) :=
 some a
def Z4u (rec_ : E0 -> E0 -> Int -> Option E0) (a2 : E0) (out : E0) (i : Int) : Option E0 :=
 bif decide (i < (a2.length : Int)) then
  grd (inb i a2) <|
  (Z45 N (at_ (0, 0) a2 i)).bind fun r =>
  grd (inb i out) <|
  grd (inb i out) <|
  letv (out.set i.toNat r) fun u =>
  rec_ a2 u (w64 (i + 1))
 else
 some out
def Z2q (N : Nat) : Nat -> E0 -> E0 -> Int -> Option E0
 | 0, _, _, _ => none
 | k_ + 1, a2, out, i => Z4u N (Z2q N k_) a2 out i
def Z7l (N : Nat) (Z9t : E0 -> E0 -> Int -> Option E0) (a : E0) : Option E0 :=
 grd (makeOk (a.length : Int) 16) <|
 Z9t a (List.replicate (a.length : Int).toNat (0, 0)) 0
def Z0y (a : E0) : Option E0 := Z7l N (Z2q N N) a
def Z0l (N : Nat) (x : Int) (low : Int) (high : Int) : Option (Bool) :=
 bif decide (x >= low) then some (decide (x <= high))
 else
 some false
def Z9 (s : ByteArray × Int × Int) : Option (Bool) :=
 bif ((s.1.size : Int) == 1) then
  (byteAt s.1 0).bind fun b =>
  bif decide ((b.toNat : Int) >= 97) then
   (byteAt s.1 0).bind fun b2 =>
   bif decide ((b2.toNat : Int) <= 122) then
    (Z0l N s.2.1 1 3).bind fun r =>
    bif r then
     (Z0l N s.2.2 0 s.2.1).bind fun r2 =>
     some r2
    else
    some false
   else
   some false
  else
  some false
 else
 some false
def Z1l (rec_ : R0 -> Int -> Option (Bool)) (l2 : R0) (i : Int) : Option (Bool) :=
 bif decide (i < (l2.length : Int)) then
  grd (inb i l2) <|
  (Z9 N ((at_ (⟨#[]⟩, (0, 0)) l2 i).1, ((at_ (⟨#[]⟩, (0, 0)) l2 i).2))).bind fun r =>
  bif (!r) then some false
  else
  bif decide (i > 0) then
   grd (inb (w64 (i - 1)) l2) <|
   grd (inb i l2) <|
   bif (!slt ((at_ (⟨#[]⟩, (0, 0)) l2 (w64 (i - 1))).1) ((at_ (⟨#[]⟩, (0, 0)) l2 i).1)) then some false
   else
   rec_ l2 (w64 (i + 1))
  else
  rec_ l2 (w64 (i + 1))
 else
 some (decide ((l2.length : Int) <= 4))
def Z0n (N : Nat) : Nat -> R0 -> Int -> Option (Bool)
 | 0, _, _ => none
 | k_ + 1, l2, i => Z1l N (Z0n N k_) l2 i
def Z52 (N : Nat) (Z9f : R0 -> Int -> Option (Bool)) (l : R0) : Option (Bool) :=
 Z9f l 0
def Z0t (l : R0) : Option (Bool) := Z52 N (Z0n N N) l
def Z6c (rec_ : Int -> I0 -> Int -> Option (Bool)) (f2 : Int) (f3 : I0) (i : Int) : Option (Bool) :=
 bif decide (i < (f3.length : Int)) then
  grd (inb i f3) <|
  (Z0l N (at_ 0 f3 i) 0 9).bind fun r3 =>
  bif (!r3) then some false
  else
  rec_ f2 f3 (w64 (i + 1))
 else
 some true
def Z46 (N : Nat) : Nat -> Int -> I0 -> Int -> Option (Bool)
 | 0, _, _, _ => none
 | k_ + 1, f2, f3, i => Z6c N (Z46 N k_) f2 f3 i
def Z8i (Z0ad : Int -> I0 -> Int -> Option (Bool)) (l : R0) (f : Int × List Int) : Option (Bool) :=
 (Z0t N l).bind fun r =>
 bif (!r) then some false
 else
 (Z0l N f.1 0 (w64 ((l.length : Int) - 1))).bind fun r2 =>
 bif (!r2) then some false
 else
 grd (inb f.1 l) <|
 bif ((f.2.length : Int) != (((at_ (⟨#[]⟩, (0, 0)) l f.1).2).1)) then some false
 else
 Z0ad f.1 f.2 0
def Z18 (l : R0) (f : Int × List Int) : Option (Bool) := Z8i N (Z46 N N) l f
def Z6x (N : Nat) (rec_ : I0 -> I0 -> Int -> Option (Int)) (a2 : I0) (b2 : I0) (i : Int) : Option (Int) :=
 bif decide (i < (a2.length : Int)) then
  bif decide (i < (b2.length : Int)) then
   grd (inb i a2) <|
   grd (inb i b2) <|
   bif decide ((at_ 0 a2 i) < (at_ 0 b2 i)) then some (-1)
   else
   grd (inb i a2) <|
   grd (inb i b2) <|
   bif decide ((at_ 0 a2 i) > (at_ 0 b2 i)) then some 1
   else
   rec_ a2 b2 (w64 (i + 1))
  else
  bif decide ((a2.length : Int) < (b2.length : Int)) then some (-1)
  else
  bif decide ((a2.length : Int) > (b2.length : Int)) then some 1
  else
  some 0
 else
 bif decide ((a2.length : Int) < (b2.length : Int)) then some (-1)
 else
 bif decide ((a2.length : Int) > (b2.length : Int)) then some 1
 else
 some 0
def Z5q (N : Nat) : Nat -> I0 -> I0 -> Int -> Option (Int)
 | 0, _, _, _ => none
 | k_ + 1, a2, b2, i => Z6x N (Z5q N k_) a2 b2 i
def Z9g (N : Nat) (Z0ax : I0 -> I0 -> Int -> Option (Int)) (a : I0) (b : I0) : Option (Int) :=
 Z0ax a b 0
def Z5y (a : I0) (b : I0) : Option (Int) := Z9g N (Z5q N N) a b
def Z3t (a : Int × List Int) (b : Int × List Int) : Option (Int) :=
 bif decide (a.1 < b.1) then some (-1)
 else
 bif decide (a.1 > b.1) then some 1
 else
 (Z5y N a.2 b.2).bind fun r =>
 some r
def Z4v (rec_ : R0 -> A0 -> Int -> Option (Bool)) (d2 : R0) (d3 : A0) (i : Int) : Option (Bool) :=
 bif decide (i < (d3.length : Int)) then
  grd (inb i d3) <|
  (Z18 N d2 (at_ (0, []) d3 i)).bind fun r =>
  bif (!r) then some false
  else
  bif decide (i > 0) then
   grd (inb (w64 (i - 1)) d3) <|
   grd (inb i d3) <|
   (Z3t N (at_ (0, []) d3 (w64 (i - 1))) (at_ (0, []) d3 i)).bind fun r2 =>
   bif decide (r2 >= 0) then some false
   else
   rec_ d2 d3 (w64 (i + 1))
  else
  rec_ d2 d3 (w64 (i + 1))
 else
 (Z0t N d2).bind fun r3 =>
 bif r3 then some (decide ((d3.length : Int) <= 14))
 else
 some false
def Z2r (N : Nat) : Nat -> R0 -> A0 -> Int -> Option (Bool)
 | 0, _, _, _ => none
 | k_ + 1, d2, d3, i => Z4v N (Z2r N k_) d2 d3 i
def Z7m (N : Nat) (Z9u : R0 -> A0 -> Int -> Option (Bool)) (d : D0) : Option (Bool) :=
 Z9u d.1 d.2 0
def Z0g (d : D0) : Option (Bool) := Z7m N (Z2r N N) d
def Z7f (l : R0) (f : Int × List Int) : Option I0 :=
 (Z18 N l f).bind fun r =>
 bif (!r) then some []
 else
 grd (inb f.1 l) <|
 grd (subOk 0 (((at_ (⟨#[]⟩, (0, 0)) l f.1).2).2) f.2.length) <|
 grd (appOk [] (f.2.take (((at_ (⟨#[]⟩, (0, 0)) l f.1).2).2).toNat) 8) <|
 some (f.2.take (((at_ (⟨#[]⟩, (0, 0)) l f.1).2).2).toNat)
def Z4l (l : R0) (a : Int × List Int) (b : Int × List Int) : Option (Bool) :=
 (Z18 N l a).bind fun r =>
 bif r then
  (Z18 N l b).bind fun r2 =>
  bif r2 then
   bif (a.1 == b.1) then
    (Z7f N l a).bind fun r3 =>
    (Z7f N l b).bind fun r4 =>
    (Z5y N r3 r4).bind fun r5 =>
    some (r5 == 0)
   else
   some false
  else
  some false
 else
 some false
def Z1f (d : D0) (x : C0) : Option (Bool) :=
 (Z0g N d).bind fun r =>
 bif (!r) then some false
 else
 (Z0l N x.1 0 (w64 ((d.1.length : Int) - 1))).bind fun r2 =>
 bif (!r2) then some false
 else
 (Z0l N x.2.1 0 (w64 ((d.1.length : Int) - 1))).bind fun r3 =>
 bif (!r3) then some false
 else
 grd (inb x.1 d.1) <|
 grd (inb x.2.1 d.1) <|
 (Z0l N x.2.2.1 0 (w64 ((((at_ (⟨#[]⟩, (0, 0)) d.1 x.1).2).1) - 1))).bind fun r4 =>
 bif r4 then
  (Z0l N x.2.2.2.2.1 0 (w64 ((((at_ (⟨#[]⟩, (0, 0)) d.1 x.1).2).1) - 1))).bind fun r5 =>
  bif r5 then
   (Z0l N x.2.2.2.1 0 (w64 ((((at_ (⟨#[]⟩, (0, 0)) d.1 x.2.1).2).1) - 1))).bind fun r6 =>
   bif r6 then
    (Z0l N x.2.2.2.2.2.1 0 (w64 ((((at_ (⟨#[]⟩, (0, 0)) d.1 x.2.1).2).1) - 1))).bind fun r7 =>
    bif r7 then
     (Z0l N x.2.2.2.2.2.2 1 2).bind fun r8 =>
     some r8
    else
    some false
   else
   some false
  else
  some false
 else
 some false
def Z1b (d : D0) (x : C0) (i : Int) (k : Int) : Option (Bool) :=
 (Z1f N d x).bind fun r =>
 bif (!r) then some false
 else
 (Z0l N i 0 (w64 ((d.2.length : Int) - 1))).bind fun r2 =>
 bif (!r2) then some false
 else
 (Z0l N k 0 (w64 ((d.2.length : Int) - 1))).bind fun r3 =>
 bif (!r3) then some false
 else
 bif (i == k) then some false
 else
 grd (inb i d.2) <|
 grd (inb k d.2) <|
 bif (((at_ (0, []) d.2 i).1) != x.1) then some false
 else
 bif (((at_ (0, []) d.2 k).1) != x.2.1) then some false
 else
 grd (inb x.2.2.1 ((at_ (0, []) d.2 i).2)) <|
 grd (inb x.2.2.2.1 ((at_ (0, []) d.2 k).2)) <|
 bif ((at_ 0 ((at_ (0, []) d.2 i).2) x.2.2.1) != (at_ 0 ((at_ (0, []) d.2 k).2) x.2.2.2.1)) then some false
 else
 bif (x.2.2.2.2.2.2 == 1) then
  grd (inb x.2.2.2.2.1 ((at_ (0, []) d.2 i).2)) <|
  grd (inb x.2.2.2.2.2.1 ((at_ (0, []) d.2 k).2)) <|
  some ((at_ 0 ((at_ (0, []) d.2 i).2) x.2.2.2.2.1) == (at_ 0 ((at_ (0, []) d.2 k).2) x.2.2.2.2.2.1))
 else
 grd (inb x.2.2.2.2.1 ((at_ (0, []) d.2 i).2)) <|
 grd (inb x.2.2.2.2.2.1 ((at_ (0, []) d.2 k).2)) <|
 some (decide ((at_ 0 ((at_ (0, []) d.2 i).2) x.2.2.2.2.1) < (at_ 0 ((at_ (0, []) d.2 k).2) x.2.2.2.2.2.1)))
def Z5k (Z4b : (List C0) -> R0 -> A0 -> E0 -> Int -> Int -> Option E0) (rec_ : (List C0) -> R0 -> A0 -> E0 -> Int -> Int -> Bool -> Int -> Option E0) (l4 : List C0) (d6 : R0) (d7 : A0) (out3 : E0) (i3 : Int) (k2 : Int) (is_ : Bool) (n : Int) : Option E0 :=
 bif decide (n < (l4.length : Int)) then
  bif is_ then rec_ l4 d6 d7 out3 i3 k2 true (w64 (n + 1))
  else
  grd (inb n l4) <|
  (Z1b N (d6, d7) ((at_ (0, (0, (0, (0, (0, (0, 0)))))) l4 n).1, ((at_ (0, (0, (0, (0, (0, (0, 0)))))) l4 n).2).1, (((at_ (0, (0, (0, (0, (0, (0, 0)))))) l4 n).2).2).1, ((((at_ (0, (0, (0, (0, (0, (0, 0)))))) l4 n).2).2).2).1, (((((at_ (0, (0, (0, (0, (0, (0, 0)))))) l4 n).2).2).2).2).1, ((((((at_ (0, (0, (0, (0, (0, (0, 0)))))) l4 n).2).2).2).2).2)) i3 k2).bind fun r3 =>
  bif r3 then rec_ l4 d6 d7 out3 i3 k2 true (w64 (n + 1))
  else
  grd (inb n l4) <|
  (Z1b N (d6, d7) ((at_ (0, (0, (0, (0, (0, (0, 0)))))) l4 n).1, ((at_ (0, (0, (0, (0, (0, (0, 0)))))) l4 n).2).1, (((at_ (0, (0, (0, (0, (0, (0, 0)))))) l4 n).2).2).1, ((((at_ (0, (0, (0, (0, (0, (0, 0)))))) l4 n).2).2).2).1, (((((at_ (0, (0, (0, (0, (0, (0, 0)))))) l4 n).2).2).2).2).1, ((((((at_ (0, (0, (0, (0, (0, (0, 0)))))) l4 n).2).2).2).2).2)) k2 i3).bind fun r4 =>
  rec_ l4 d6 d7 out3 i3 k2 r4 (w64 (n + 1))
 else
 bif is_ then
  grd (appOk out3 [(i3, k2)] 16) <|
  Z4b l4 d6 d7 (out3 ++ [(i3, k2)]) i3 (w64 (k2 + 1))
 else
 Z4b l4 d6 d7 out3 i3 (w64 (k2 + 1))
def Z3d (Z4b : (List C0) -> R0 -> A0 -> E0 -> Int -> Int -> Option E0) (N : Nat) : Nat -> (List C0) -> R0 -> A0 -> E0 -> Int -> Int -> Bool -> Int -> Option E0
 | 0, _, _, _, _, _, _, _, _ => none
 | k_ + 1, l4, d6, d7, out3, i3, k2, is_, n => Z5k N Z4b (Z3d Z4b N k_) l4 d6 d7 out3 i3 k2 is_ n
def Z5l (Z4c : (List C0) -> R0 -> A0 -> E0 -> Int -> Option E0) (Z0a4 : (List C0) -> R0 -> A0 -> E0 -> Int -> Int -> Bool -> Int -> Option E0) (rec_ : (List C0) -> R0 -> A0 -> E0 -> Int -> Int -> Option E0) (l3 : List C0) (d4 : R0) (d5 : A0) (out2 : E0) (i2 : Int) (k : Int) : Option E0 :=
 bif decide (k < (d5.length : Int)) then
  grd (inb i2 d5) <|
  grd (inb k d5) <|
  (Z4l N d4 (at_ (0, []) d5 i2) (at_ (0, []) d5 k)).bind fun r2 =>
  Z0a4 l3 d4 d5 out2 i2 k r2 0
 else
 Z4c l3 d4 d5 out2 (w64 (i2 + 1))
def Z16 (Z4c : (List C0) -> R0 -> A0 -> E0 -> Int -> Option E0) (N : Nat) : Nat -> (List C0) -> R0 -> A0 -> E0 -> Int -> Int -> Option E0
 | 0, _, _, _, _, _, _ => none
 | k_ + 1, l3, d4, d5, out2, i2, k => Z5l N Z4c (Z3d (Z16 Z4c N k_) N N) (Z16 Z4c N k_) l3 d4 d5 out2 i2 k
def Z3s (Z0a5 : (List C0) -> R0 -> A0 -> E0 -> Int -> Int -> Option E0) (rec_ : (List C0) -> R0 -> A0 -> E0 -> Int -> Option E0) (l2 : List C0) (d2 : R0) (d3 : A0) (out : E0) (i : Int) : Option E0 :=
 bif decide (i < (d3.length : Int)) then
  (Z0g N (d2, d3)).bind fun r =>
  bif r then Z0a5 l2 d2 d3 out i (w64 (i + 1))
  else
  some out
 else
 some out
def Z1m (N : Nat) : Nat -> (List C0) -> R0 -> A0 -> E0 -> Int -> Option E0
 | 0, _, _, _, _, _ => none
 | k_ + 1, l2, d2, d3, out, i => Z3s N (Z16 (Z1m N k_) N N) (Z1m N k_) l2 d2 d3 out i
def Z84 (N : Nat) (Z0a6 : (List C0) -> R0 -> A0 -> E0 -> Int -> Option E0) (d : D0) (l : List C0) : Option E0 :=
 Z0a6 l d.1 d.2 [] 0
def Z3n (d : D0) (l : List C0) : Option E0 := Z84 N (Z1m N N) d l
def Z5m (rec_ : Int -> E0 -> Int -> Option (Bool)) (n2 : Int) (l2 : E0) (i : Int) : Option (Bool) :=
 bif decide (i < (l2.length : Int)) then
  grd (inb i l2) <|
  grd (inb i l2) <|
  (Z0l N ((at_ (0, 0) l2 i).1) 0 (w64 (((at_ (0, 0) l2 i).2) - 1))).bind fun r =>
  bif (!r) then some false
  else
  grd (inb i l2) <|
  (Z0l N ((at_ (0, 0) l2 i).2) 0 (w64 (n2 - 1))).bind fun r2 =>
  bif (!r2) then some false
  else
  bif decide (i > 0) then
   grd (inb i l2) <|
   grd (inb (w64 (i - 1)) l2) <|
   bif decide (((at_ (0, 0) l2 i).1) < ((at_ (0, 0) l2 (w64 (i - 1))).1)) then some false
   else
   grd (inb i l2) <|
   grd (inb (w64 (i - 1)) l2) <|
   bif (((at_ (0, 0) l2 i).1) == ((at_ (0, 0) l2 (w64 (i - 1))).1)) then
    grd (inb i l2) <|
    grd (inb (w64 (i - 1)) l2) <|
    bif decide (((at_ (0, 0) l2 i).2) <= ((at_ (0, 0) l2 (w64 (i - 1))).2)) then some false
    else
    rec_ n2 l2 (w64 (i + 1))
   else
   rec_ n2 l2 (w64 (i + 1))
  else
  rec_ n2 l2 (w64 (i + 1))
 else
 (Z0l N n2 0 14).bind fun r3 =>
 some r3
def Z3e (N : Nat) : Nat -> Int -> E0 -> Int -> Option (Bool)
 | 0, _, _, _ => none
 | k_ + 1, n2, l2, i => Z5m N (Z3e N k_) n2 l2 i
def Z85 (N : Nat) (Z0a7 : Int -> E0 -> Int -> Option (Bool)) (n : Int) (l : E0) : Option (Bool) :=
 Z0a7 n l 0
def Z10 (n : Int) (l : E0) : Option (Bool) := Z85 N (Z3e N N) n l
def Z8e (rec_ : Int -> I0 -> Int -> Option (Bool)) (n2 : Int) (s2 : I0) (i : Int) : Option (Bool) :=
 bif decide (i < (s2.length : Int)) then
  grd (inb i s2) <|
  (Z0l N (at_ 0 s2 i) 0 (w64 (n2 - 1))).bind fun r =>
  bif (!r) then some false
  else
  bif decide (i > 0) then
   grd (inb i s2) <|
   grd (inb (w64 (i - 1)) s2) <|
   bif decide ((at_ 0 s2 i) <= (at_ 0 s2 (w64 (i - 1)))) then some false
   else
   rec_ n2 s2 (w64 (i + 1))
  else
  rec_ n2 s2 (w64 (i + 1))
 else
 some true
def Z7c (N : Nat) : Nat -> Int -> I0 -> Int -> Option (Bool)
 | 0, _, _, _ => none
 | k_ + 1, n2, s2, i => Z8e N (Z7c N k_) n2 s2 i
def Z9v (N : Nat) (Z0az : Int -> I0 -> Int -> Option (Bool)) (n : Int) (s : I0) : Option (Bool) :=
 Z0az n s 0
def Z86 (n : Int) (s : I0) : Option (Bool) := Z9v N (Z7c N N) n s
def Z8f (N : Nat) (rec_ : I0 -> Int -> Int -> Option (Bool)) (l2 : I0) (x2 : Int) (i : Int) : Option (Bool) :=
 bif decide (i < (l2.length : Int)) then
  grd (inb i l2) <|
  bif ((at_ 0 l2 i) == x2) then some true
  else
  rec_ l2 x2 (w64 (i + 1))
 else
 some false
def Z7d (N : Nat) : Nat -> I0 -> Int -> Int -> Option (Bool)
 | 0, _, _, _ => none
 | k_ + 1, l2, x2, i => Z8f N (Z7d N k_) l2 x2 i
def Z9w (N : Nat) (Z0b0 : I0 -> Int -> Int -> Option (Bool)) (l : I0) (x : Int) : Option (Bool) :=
 Z0b0 l x 0
def Z4e (l : I0) (x : Int) : Option (Bool) := Z9w N (Z7d N N) l x
def Z5n (rec_ : E0 -> I0 -> Int -> Option (Bool)) (l2 : E0) (s2 : I0) (i : Int) : Option (Bool) :=
 bif decide (i < (l2.length : Int)) then
  grd (inb i l2) <|
  (Z4e N s2 ((at_ (0, 0) l2 i).1)).bind fun r =>
  bif r then
   grd (inb i l2) <|
   (Z4e N s2 ((at_ (0, 0) l2 i).2)).bind fun r2 =>
   bif r2 then some false
   else
   rec_ l2 s2 (w64 (i + 1))
  else
  rec_ l2 s2 (w64 (i + 1))
 else
 some true
def Z3f (N : Nat) : Nat -> E0 -> I0 -> Int -> Option (Bool)
 | 0, _, _, _ => none
 | k_ + 1, l2, s2, i => Z5n N (Z3f N k_) l2 s2 i
def Z87 (N : Nat) (Z0a8 : E0 -> I0 -> Int -> Option (Bool)) (l : E0) (s : I0) : Option (Bool) :=
 Z0a8 l s 0
def Z1u (l : E0) (s : I0) : Option (Bool) := Z87 N (Z3f N N) l s
def Z5z (l : E0) (s : I0) (x : Int) : Option (Bool) :=
 (Z4e N s x).bind fun r =>
 bif (!r) then
  grd (appOk [] s 8) <|
  grd (appOk s [x] 8) <|
  (Z1u N l (s ++ [x])).bind fun r2 =>
  some r2
 else
 some false
def Z3b (rec_ : Int -> E0 -> I0 -> Int -> Option (Bool)) (n2 : Int) (l2 : E0) (s2 : I0) (x : Int) : Option (Bool) :=
 bif decide (x < n2) then
  (Z5z N l2 s2 x).bind fun r4 =>
  bif r4 then some false
  else
  rec_ n2 l2 s2 (w64 (x + 1))
 else
 some true
def Z1g (N : Nat) : Nat -> Int -> E0 -> I0 -> Int -> Option (Bool)
 | 0, _, _, _, _ => none
 | k_ + 1, n2, l2, s2, x => Z3b N (Z1g N k_) n2 l2 s2 x
def Z61 (Z8z : Int -> E0 -> I0 -> Int -> Option (Bool)) (n : Int) (l : E0) (s : I0) : Option (Bool) :=
 (Z10 N n l).bind fun r =>
 bif (!r) then some false
 else
 (Z86 N n s).bind fun r2 =>
 bif (!r2) then some false
 else
 (Z1u N l s).bind fun r3 =>
 bif (!r3) then some false
 else
 Z8z n l s 0
def Z0o (n : Int) (l : E0) (s : I0) : Option (Bool) := Z61 N (Z1g N N) n l s
def Z88 (N : Nat) (Rf : Int -> E0 -> I0 -> Int -> Option L0) (rec_ : Int -> E0 -> I0 -> Int -> L0 -> Bool -> Int -> Option L0) (n2 : Int) (l2 : E0) (s2 : I0) (x2 : Int) (out : L0) (met : Bool) (i : Int) : Option L0 :=
 bif decide (i < (l2.length : Int)) then
  bif met then rec_ n2 l2 s2 x2 out true (w64 (i + 1))
  else
  grd (inb i l2) <|
  bif (((at_ (0, 0) l2 i).1) == x2) then rec_ n2 l2 s2 x2 out true (w64 (i + 1))
  else
  grd (inb i l2) <|
  rec_ n2 l2 s2 x2 out (((at_ (0, 0) l2 i).2) == x2) (w64 (i + 1))
 else
 bif met then
  (Rf n2 l2 s2 (w64 (x2 + 1))).bind fun r4 =>
  grd (appOk out r4 24) <|
  some (out ++ r4)
 else
 some out
def Z5r (N : Nat) (Rf : Int -> E0 -> I0 -> Int -> Option L0) : Nat -> Int -> E0 -> I0 -> Int -> L0 -> Bool -> Int -> Option L0
 | 0, _, _, _, _, _, _, _ => none
 | k_ + 1, n2, l2, s2, x2, out, met, i => Z88 N Rf (Z5r N Rf k_) n2 l2 s2 x2 out met i
def Z8p (Rf : Int -> E0 -> I0 -> Int -> Option L0) (Z0a3 : Int -> E0 -> I0 -> Int -> L0 -> Bool -> Int -> Option L0) (n : Int) (l : E0) (s : I0) (x : Int) : Option L0 :=
 bif (x == n) then
  (Z0o N n l s).bind fun r =>
  bif r then
   grd (appOk [] s 8) <|
   some [s]
  else
  some []
 else
 (Z5z N l s x).bind fun r2 =>
 bif r2 then
  grd (appOk [] s 8) <|
  grd (appOk s [x] 8) <|
  (Rf n l (s ++ [x]) (w64 (x + 1))).bind fun r3 =>
  Z0a3 n l s x r3 false 0
 else
 Z0a3 n l s x [] false 0
def Z3q (N : Nat) : Nat -> Int -> E0 -> I0 -> Int -> Option L0
 | 0, _, _, _, _ => none
 | k_ + 1, n, l, s, x => Z8p N (Z3q N k_) (Z5r N (Z3q N k_) N) n l s x
def Z8d (n : Int) (l : E0) (s : I0) (x : Int) : Option L0 := Z3q N N n l s x
def Z11 (n : Int) (l : E0) : Option L0 :=
 (Z10 N n l).bind fun r =>
 bif (!r) then some []
 else
 (Z8d N n l [] 0).bind fun r2 =>
 some r2
def Z7x (N : Nat) (rec_ : E0 -> Int -> Int -> Int -> Option (Bool)) (l2 : E0) (a2 : Int) (b2 : Int) (i : Int) : Option (Bool) :=
 bif decide (i < (l2.length : Int)) then
  grd (inb i l2) <|
  bif (((at_ (0, 0) l2 i).1) == (imin a2 b2)) then
   grd (inb i l2) <|
   bif (((at_ (0, 0) l2 i).2) == (imax a2 b2)) then some true
   else
   rec_ l2 a2 b2 (w64 (i + 1))
  else
  rec_ l2 a2 b2 (w64 (i + 1))
 else
 some false
def Z6d (N : Nat) : Nat -> E0 -> Int -> Int -> Int -> Option (Bool)
 | 0, _, _, _, _ => none
 | k_ + 1, l2, a2, b2, i => Z7x N (Z6d N k_) l2 a2 b2 i
def Z98 (N : Nat) (Z0as : E0 -> Int -> Int -> Int -> Option (Bool)) (l : E0) (a : Int) (b : Int) : Option (Bool) :=
 Z0as l a b 0
def Z4d (l : E0) (a : Int) (b : Int) : Option (Bool) := Z98 N (Z6d N N) l a b
def Z62 (N : Nat) (Z35 : Int -> E0 -> (List Bool) -> Int -> Int -> Option (Bool)) (rec_ : Int -> E0 -> (List Bool) -> Int -> Int -> Bool -> Int -> Option (Bool)) (n5 : Int) (p5 : E0) (gone3 : List Bool) (k3 : Int) (x2 : Int) (free : Bool) (i2 : Int) : Option (Bool) :=
 bif decide (i2 < (p5.length : Int)) then
  bif free then
   grd (inb i2 p5) <|
   bif (((at_ (0, 0) p5 i2).2) != x2) then rec_ n5 p5 gone3 k3 x2 true (w64 (i2 + 1))
   else
   grd (inb i2 p5) <|
   grd (inb ((at_ (0, 0) p5 i2).1) gone3) <|
   rec_ n5 p5 gone3 k3 x2 (at_ false gone3 ((at_ (0, 0) p5 i2).1)) (w64 (i2 + 1))
  else
  rec_ n5 p5 gone3 k3 x2 false (w64 (i2 + 1))
 else
 bif free then
  grd (inb x2 gone3) <|
  grd (inb x2 gone3) <|
  letv (gone3.set x2.toNat true) fun u =>
  Z35 n5 p5 u k3 (w64 (x2 + 1))
 else
 Z35 n5 p5 gone3 k3 (w64 (x2 + 1))
def Z22 (Z35 : Int -> E0 -> (List Bool) -> Int -> Int -> Option (Bool)) (N : Nat) : Nat -> Int -> E0 -> (List Bool) -> Int -> Int -> Bool -> Int -> Option (Bool)
 | 0, _, _, _, _, _, _, _ => none
 | k_ + 1, n5, p5, gone3, k3, x2, free, i2 => Z62 N Z35 (Z22 Z35 N k_) n5 p5 gone3 k3 x2 free i2
def Z3w (N : Nat) (Z36 : Int -> E0 -> (List Bool) -> Int -> Option (Bool)) (Z9h : Int -> E0 -> (List Bool) -> Int -> Int -> Bool -> Int -> Option (Bool)) (rec_ : Int -> E0 -> (List Bool) -> Int -> Int -> Option (Bool)) (n4 : Int) (p4 : E0) (gone2 : List Bool) (k2 : Int) (x : Int) : Option (Bool) :=
 bif decide (x < n4) then Z9h n4 p4 gone2 k2 x true 0
 else
 Z36 n4 p4 gone2 (w64 (k2 + 1))
def Z1e (Z36 : Int -> E0 -> (List Bool) -> Int -> Option (Bool)) (N : Nat) : Nat -> Int -> E0 -> (List Bool) -> Int -> Int -> Option (Bool)
 | 0, _, _, _, _, _ => none
 | k_ + 1, n4, p4, gone2, k2, x => Z3w N Z36 (Z22 (Z1e Z36 N k_) N N) (Z1e Z36 N k_) n4 p4 gone2 k2 x
def Z3x (N : Nat) (rec_ : Int -> (List Bool) -> Int -> Option (Bool)) (n6 : Int) (gone4 : List Bool) (x3 : Int) : Option (Bool) :=
 bif decide (x3 < n6) then
  grd (inb x3 gone4) <|
  bif (!(at_ false gone4 x3)) then some false
  else
  rec_ n6 gone4 (w64 (x3 + 1))
 else
 some true
def Z23 (N : Nat) : Nat -> Int -> (List Bool) -> Int -> Option (Bool)
 | 0, _, _, _ => none
 | k_ + 1, n6, gone4, x3 => Z3x N (Z23 N k_) n6 gone4 x3
def Z3y (N : Nat) (Z9i : Int -> E0 -> (List Bool) -> Int -> Int -> Option (Bool)) (Z9j : Int -> (List Bool) -> Int -> Option (Bool)) (rec_ : Int -> E0 -> (List Bool) -> Int -> Option (Bool)) (n3 : Int) (p3 : E0) (gone : List Bool) (k : Int) : Option (Bool) :=
 bif decide (k < n3) then Z9i n3 p3 gone k 0
 else
 Z9j n3 gone 0
def Z0p (N : Nat) : Nat -> Int -> E0 -> (List Bool) -> Int -> Option (Bool)
 | 0, _, _, _, _ => none
 | k_ + 1, n3, p3, gone, k => Z3y N (Z1e (Z0p N k_) N N) (Z23 N N) (Z0p N k_) n3 p3 gone k
def Z3z (Z9k : Int -> E0 -> (List Bool) -> Int -> Option (Bool)) (rec_ : Int -> E0 -> E0 -> Int -> Option (Bool)) (n2 : Int) (l2 : E0) (p2 : E0) (i : Int) : Option (Bool) :=
 bif decide (i < (p2.length : Int)) then
  grd (inb i p2) <|
  grd (inb i p2) <|
  bif (((at_ (0, 0) p2 i).1) == ((at_ (0, 0) p2 i).2)) then some false
  else
  grd (inb i p2) <|
  grd (inb i p2) <|
  (Z4d N l2 ((at_ (0, 0) p2 i).1) ((at_ (0, 0) p2 i).2)).bind fun r2 =>
  bif (!r2) then some false
  else
  rec_ n2 l2 p2 (w64 (i + 1))
 else
 grd (makeOk n2 1) <|
 Z9k n2 p2 (List.replicate n2.toNat false) 0
def Z24 (N : Nat) : Nat -> Int -> E0 -> E0 -> Int -> Option (Bool)
 | 0, _, _, _, _ => none
 | k_ + 1, n2, l2, p2, i => Z3z N (Z0p N N) (Z24 N k_) n2 l2 p2 i
def Z6y (Z9l : Int -> E0 -> E0 -> Int -> Option (Bool)) (n : Int) (l : E0) (p : E0) : Option (Bool) :=
 (Z10 N n l).bind fun r =>
 bif (!r) then some false
 else
 Z9l n l p 0
def Z1x (n : Int) (l : E0) (p : E0) : Option (Bool) := Z6y N (Z24 N N) n l p
def Z6e (N : Nat) (rec_ : E0 -> Int -> Int -> Int -> Option (Bool)) (p2 : E0) (a2 : Int) (b2 : Int) (i : Int) : Option (Bool) :=
 bif decide (i < (p2.length : Int)) then
  grd (inb i p2) <|
  bif (((at_ (0, 0) p2 i).1) == a2) then
   grd (inb i p2) <|
   bif (((at_ (0, 0) p2 i).2) == b2) then some true
   else
   rec_ p2 a2 b2 (w64 (i + 1))
  else
  rec_ p2 a2 b2 (w64 (i + 1))
 else
 some false
def Z47 (N : Nat) : Nat -> E0 -> Int -> Int -> Int -> Option (Bool)
 | 0, _, _, _, _ => none
 | k_ + 1, p2, a2, b2, i => Z6e N (Z47 N k_) p2 a2 b2 i
def Z8j (N : Nat) (Z0ae : E0 -> Int -> Int -> Int -> Option (Bool)) (p : E0) (a : Int) (b : Int) : Option (Bool) :=
 Z0ae p a b 0
def Z4m (p : E0) (a : Int) (b : Int) : Option (Bool) := Z8j N (Z47 N N) p a b
def Z6o (Z53 : Int -> E0 -> E0 -> I0 -> Int -> Option (Bool)) (rec_ : Int -> E0 -> E0 -> I0 -> Int -> Bool -> Int -> Option (Bool)) (n3 : Int) (l3 : E0) (p3 : E0) (s3 : I0) (x2 : Int) (all : Bool) (i : Int) : Option (Bool) :=
 bif decide (i < (s3.length : Int)) then
  bif all then
   grd (inb i s3) <|
   (Z4d N l3 x2 (at_ 0 s3 i)).bind fun r4 =>
   bif (!r4) then rec_ n3 l3 p3 s3 x2 true (w64 (i + 1))
   else
   grd (inb i s3) <|
   (Z4m N p3 x2 (at_ 0 s3 i)).bind fun r5 =>
   rec_ n3 l3 p3 s3 x2 r5 (w64 (i + 1))
  else
  rec_ n3 l3 p3 s3 x2 false (w64 (i + 1))
 else
 bif all then some false
 else
 Z53 n3 l3 p3 s3 (w64 (x2 + 1))
def Z2s (Z53 : Int -> E0 -> E0 -> I0 -> Int -> Option (Bool)) (N : Nat) : Nat -> Int -> E0 -> E0 -> I0 -> Int -> Bool -> Int -> Option (Bool)
 | 0, _, _, _, _, _, _, _ => none
 | k_ + 1, n3, l3, p3, s3, x2, all, i => Z6o N Z53 (Z2s Z53 N k_) n3 l3 p3 s3 x2 all i
def Z4w (Z9x : Int -> E0 -> E0 -> I0 -> Int -> Bool -> Int -> Option (Bool)) (rec_ : Int -> E0 -> E0 -> I0 -> Int -> Option (Bool)) (n2 : Int) (l2 : E0) (p2 : E0) (s2 : I0) (x : Int) : Option (Bool) :=
 bif decide (x < n2) then
  (Z4e N s2 x).bind fun r3 =>
  bif r3 then rec_ n2 l2 p2 s2 (w64 (x + 1))
  else
  Z9x n2 l2 p2 s2 x true 0
 else
 some true
def Z1q (N : Nat) : Nat -> Int -> E0 -> E0 -> I0 -> Int -> Option (Bool)
 | 0, _, _, _, _, _ => none
 | k_ + 1, n2, l2, p2, s2, x => Z4w N (Z2s (Z1q N k_) N N) (Z1q N k_) n2 l2 p2 s2 x
def Z7n (Z9y : Int -> E0 -> E0 -> I0 -> Int -> Option (Bool)) (n : Int) (l : E0) (p : E0) (s : I0) : Option (Bool) :=
 (Z1x N n l p).bind fun r =>
 bif (!r) then some false
 else
 (Z0o N n l s).bind fun r2 =>
 bif (!r2) then some false
 else
 Z9y n l p s 0
def Z1v (n : Int) (l : E0) (p : E0) (s : I0) : Option (Bool) := Z7n N (Z1q N N) n l p s
def Z54 (rec_ : Int -> E0 -> E0 -> I0 -> L0 -> L0 -> Int -> Option L0) (n3 : Int) (l3 : E0) (p3 : E0) (outx : I0) (out2 : L0) (all2 : L0) (i2 : Int) : Option L0 :=
 bif decide (i2 < (all2.length : Int)) then
  grd (inb i2 all2) <|
  (Z1v N n3 l3 p3 (at_ [] all2 i2)).bind fun r3 =>
  bif r3 then
   grd (inb i2 all2) <|
   grd (selOk outx i2 out2 24) <|
   rec_ n3 l3 p3 (outx ++ [i2]) (out2 ++ [(at_ [] all2 i2)]) all2 (w64 (i2 + 1))
  else
  rec_ n3 l3 p3 outx out2 all2 (w64 (i2 + 1))
 else
 some out2
def Z2a (N : Nat) : Nat -> Int -> E0 -> E0 -> I0 -> L0 -> L0 -> Int -> Option L0
 | 0, _, _, _, _, _, _, _ => none
 | k_ + 1, n3, l3, p3, outx, out2, all2, i2 => Z54 N (Z2a N k_) n3 l3 p3 outx out2 all2 i2
def Z55 (Z90 : Int -> E0 -> E0 -> I0 -> L0 -> L0 -> Int -> Option L0) (rec_ : Int -> E0 -> E0 -> L0 -> L0 -> Int -> Option L0) (n2 : Int) (l2 : E0) (p2 : E0) (out : L0) (all : L0) (i : Int) : Option L0 :=
 bif decide (i < (all.length : Int)) then
  grd (inb i all) <|
  (Z1v N n2 l2 p2 (at_ [] all i)).bind fun r2 =>
  bif r2 then
   grd (inb i all) <|
   grd (selOk0 out 24) <|
   Z90 n2 l2 p2 [i] [(at_ [] all i)] all (w64 (i + 1))
  else
  rec_ n2 l2 p2 out all (w64 (i + 1))
 else
 some out
def Z2b (N : Nat) : Nat -> Int -> E0 -> E0 -> L0 -> L0 -> Int -> Option L0
 | 0, _, _, _, _, _, _ => none
 | k_ + 1, n2, l2, p2, out, all, i => Z55 N (Z2a N k_) (Z2b N k_) n2 l2 p2 out all i
def Z63 (Z91 : Int -> E0 -> E0 -> L0 -> L0 -> Int -> Option L0) (n : Int) (l : E0) (p : E0) : Option L0 :=
 (Z11 N n l).bind fun r =>
 Z91 n l p [] r 0
def Z25 (n : Int) (l : E0) (p : E0) : Option L0 := Z63 N (Z2b N N) n l p
def Z2c (d : D0) (l : List C0) (p : E0) : Option L0 :=
 (Z0g N d).bind fun r =>
 bif (!r) then some []
 else
 (Z3n N d l).bind fun r2 =>
 (Z25 N (d.2.length : Int) r2 p).bind fun r3 =>
 some r3
def Z0a (N : Nat) (n : Int) (low : Int) (high : Int) : Option (Bool) :=
 bif decide (low <= n) then some (decide (n <= high))
 else
 some false
def Z2y (relation : ByteArray × Int × Int) : Option (Bool) :=
 bif ((relation.1.size : Int) == 1) then
  (byteAt relation.1 0).bind fun b =>
  bif decide ((b.toNat : Int) >= 97) then
   (byteAt relation.1 0).bind fun b2 =>
   bif decide ((b2.toNat : Int) <= 122) then
    (Z0a N relation.2.1 1 3).bind fun r =>
    bif r then
     (Z0a N relation.2.2 0 relation.2.1).bind fun r2 =>
     some r2
    else
    some false
   else
   some false
  else
  some false
 else
 some false
def Z40 (rec_ : R0 -> R0 -> Int -> Int -> Option (Bool)) (relations2 : R0) (t5 : R0) (t6 : Int) (t7 : Int) : Option (Bool) :=
 bif decide (t7 < t6) then
  grd (inb t7 t5) <|
  (Z2y N ((at_ (⟨#[]⟩, (0, 0)) t5 t7).1, ((at_ (⟨#[]⟩, (0, 0)) t5 t7).2))).bind fun r =>
  bif (!r) then some false
  else
  bif decide (t7 > 0) then
   grd (inb (w64 (t7 - 1)) relations2) <|
   bif (!slt ((at_ (⟨#[]⟩, (0, 0)) relations2 (w64 (t7 - 1))).1) ((at_ (⟨#[]⟩, (0, 0)) t5 t7).1)) then some false
   else
   rec_ relations2 t5 t6 (w64 (t7 + 1))
  else
  rec_ relations2 t5 t6 (w64 (t7 + 1))
 else
 some (decide ((relations2.length : Int) <= 4))
def Z26 (N : Nat) : Nat -> R0 -> R0 -> Int -> Int -> Option (Bool)
 | 0, _, _, _, _ => none
 | k_ + 1, relations2, t5, t6, t7 => Z40 N (Z26 N k_) relations2 t5 t6 t7
def Z6z (N : Nat) (Z9m : R0 -> R0 -> Int -> Int -> Option (Bool)) (relations : R0) : Option (Bool) :=
 Z9m relations relations (relations.length : Int) 0
def Z1y (relations : R0) : Option (Bool) := Z6z N (Z26 N N) relations
def Z5f (v : Int) : Option (Bool) :=
 (Z0a N v 0 9).bind fun r =>
 some (!r)
def Z15 (rec_ : I0 -> Int -> Int -> Option (Int)) (s2 : I0) (t7 : Int) (t8 : Int) : Option (Int) :=
 bif decide (t8 < t7) then
  grd (inb t8 s2) <|
  (Z5f N (at_ 0 s2 t8)).bind fun r =>
  bif r then some t8
  else
  rec_ s2 t7 (w64 (t8 + 1))
 else
 some (-1)
def Z0e (N : Nat) : Nat -> I0 -> Int -> Int -> Option (Int)
 | 0, _, _, _ => none
 | k_ + 1, s2, t7, t8 => Z15 N (Z0e N k_) s2 t7 t8
def Z2z (N : Nat) (Z81 : I0 -> Int -> Int -> Option (Int)) (s : I0) : Option (Int) :=
 Z81 s (s.length : Int) 0
def Z0j (s : I0) : Option (Int) := Z2z N (Z0e N N) s
def Z0f (s : I0) : Option (Bool) :=
 (Z0j N s).bind fun r =>
 some (decide (r >= 0))
def Z5s (list : I0) : Option (Bool) :=
 (Z0f N list).bind fun r =>
 some (!r)
def Z7o (relations : R0) (fact : Int × List Int) : Option (Bool) :=
 (Z0a N fact.1 0 (w64 ((relations.length : Int) - 1))).bind fun r =>
 bif r then
  grd (inb fact.1 relations) <|
  bif ((fact.2.length : Int) == (((at_ (⟨#[]⟩, (0, 0)) relations fact.1).2).1)) then
   (Z5s N fact.2).bind fun r2 =>
   some r2
  else
  some false
 else
 some false
def Z82 (N : Nat) (a : Int) (b : Int) : Option (Int) :=
 bif decide (a < b) then some (-1)
 else
 bif decide (a > b) then some 1
 else
 some 0
def Z6l (N : Nat) (x : Int) : Option (Bool) :=
 some (x != x)
def Z56 (x : Int) (y : Int) : Option (Int) :=
 (Z6l N x).bind fun r =>
 (Z6l N y).bind fun r2 =>
 bif r then
  bif r2 then some 0
  else
  some (-1)
 else
 bif r2 then some 1
 else
 bif decide (x < y) then some (-1)
 else
 bif decide (x > y) then some 1
 else
 some 0
def Z2d (rec_ : I0 -> I0 -> I0 -> Int -> Int -> Option (Int)) (s12 : I0) (s22 : I0) (t9 : I0) (t10 : Int) (t11 : Int) : Option (Int) :=
 bif decide (t11 < t10) then
  grd (inb t11 t9) <|
  bif decide (t11 >= (s22.length : Int)) then some 1
  else
  grd (inb t11 s22) <|
  (Z56 N (at_ 0 t9 t11) (at_ 0 s22 t11)).bind fun r =>
  bif (r != 0) then some r
  else
  rec_ s12 s22 t9 t10 (w64 (t11 + 1))
 else
 bif decide ((s12.length : Int) < (s22.length : Int)) then some (-1)
 else
 some 0
def Z19 (N : Nat) : Nat -> I0 -> I0 -> I0 -> Int -> Int -> Option (Int)
 | 0, _, _, _, _, _ => none
 | k_ + 1, s12, s22, t9, t10, t11 => Z2d N (Z19 N k_) s12 s22 t9 t10 t11
def Z6p (N : Nat) (Z9d : I0 -> I0 -> I0 -> Int -> Int -> Option (Int)) (s1 : I0) (s2 : I0) : Option (Int) :=
 Z9d s1 s2 s1 (s1.length : Int) 0
def Z1r (s1 : I0) (s2 : I0) : Option (Int) := Z6p N (Z19 N N) s1 s2
def Z3u (a : Int × List Int) (b : Int × List Int) : Option (Int) :=
 bif (a.1 != b.1) then
  (Z82 N a.1 b.1).bind fun r =>
  some r
 else
 (Z1r N a.2 b.2).bind fun r2 =>
 some r2
def Z4x (rec_ : R0 -> A0 -> A0 -> Int -> Int -> Option (Bool)) (db2 : R0) (db3 : A0) (t16 : A0) (t17 : Int) (t18 : Int) : Option (Bool) :=
 bif decide (t18 < t17) then
  grd (inb t18 t16) <|
  (Z7o N db2 (at_ (0, []) t16 t18)).bind fun r2 =>
  bif (!r2) then some false
  else
  bif decide (t18 > 0) then
   grd (inb (w64 (t18 - 1)) db3) <|
   (Z3u N (at_ (0, []) db3 (w64 (t18 - 1))) (at_ (0, []) t16 t18)).bind fun r3 =>
   bif decide (r3 >= 0) then some false
   else
   rec_ db2 db3 t16 t17 (w64 (t18 + 1))
  else
  rec_ db2 db3 t16 t17 (w64 (t18 + 1))
 else
 some true
def Z2t (N : Nat) : Nat -> R0 -> A0 -> A0 -> Int -> Int -> Option (Bool)
 | 0, _, _, _, _, _ => none
 | k_ + 1, db2, db3, t16, t17, t18 => Z4x N (Z2t N k_) db2 db3 t16 t17 t18
def Z7p (Z9z : R0 -> A0 -> A0 -> Int -> Int -> Option (Bool)) (db : D0) : Option (Bool) :=
 (Z1y N db.1).bind fun r =>
 bif (!r) then some false
 else
 bif decide ((db.2.length : Int) > 14) then some false
 else
 Z9z db.1 db.2 db.2 (db.2.length : Int) 0
def Z0u (db : D0) : Option (Bool) := Z7p N (Z2t N N) db
def Z1z (db : D0) (constraint : C0) : Option (Bool) :=
 (Z0u N db).bind fun r =>
 bif (!r) then some false
 else
 (Z0a N constraint.1 0 (w64 ((db.1.length : Int) - 1))).bind fun r2 =>
 bif (!r2) then some false
 else
 (Z0a N constraint.2.1 0 (w64 ((db.1.length : Int) - 1))).bind fun r3 =>
 bif (!r3) then some false
 else
 grd (inb constraint.1 db.1) <|
 grd (inb constraint.2.1 db.1) <|
 (Z0a N constraint.2.2.1 0 (w64 ((((at_ (⟨#[]⟩, (0, 0)) db.1 constraint.1).2).1) - 1))).bind fun r4 =>
 bif r4 then
  (Z0a N constraint.2.2.2.2.1 0 (w64 ((((at_ (⟨#[]⟩, (0, 0)) db.1 constraint.1).2).1) - 1))).bind fun r5 =>
  bif r5 then
   (Z0a N constraint.2.2.2.1 0 (w64 ((((at_ (⟨#[]⟩, (0, 0)) db.1 constraint.2.1).2).1) - 1))).bind fun r6 =>
   bif r6 then
    (Z0a N constraint.2.2.2.2.2.1 0 (w64 ((((at_ (⟨#[]⟩, (0, 0)) db.1 constraint.2.1).2).1) - 1))).bind fun r7 =>
    bif r7 then
     (Z0a N constraint.2.2.2.2.2.2 1 2).bind fun r8 =>
     some r8
    else
    some false
   else
   some false
  else
  some false
 else
 some false
def Z7e (N : Nat) (c : C0) (a : Int × List Int) (b : Int × List Int) : Option (Bool) :=
 bif (a.1 != c.1) then some false
 else
 bif (b.1 != c.2.1) then some false
 else
 grd (inb c.2.2.1 a.2) <|
 grd (inb c.2.2.2.1 b.2) <|
 bif ((at_ 0 a.2 c.2.2.1) != (at_ 0 b.2 c.2.2.2.1)) then some false
 else
 grd (inb c.2.2.2.2.1 a.2) <|
 grd (inb c.2.2.2.2.2.1 b.2) <|
 bif (c.2.2.2.2.2.2 == 1) then
  bif ((at_ 0 a.2 c.2.2.2.2.1) == (at_ 0 b.2 c.2.2.2.2.2.1)) then some true
  else
  bif (c.2.2.2.2.2.2 == 2) then
   some (decide ((at_ 0 a.2 c.2.2.2.2.1) < (at_ 0 b.2 c.2.2.2.2.2.1)))
  else
  some false
 else
 bif (c.2.2.2.2.2.2 == 2) then
  some (decide ((at_ 0 a.2 c.2.2.2.2.1) < (at_ 0 b.2 c.2.2.2.2.2.1)))
 else
 some false
def Z1c (db : D0) (constraint : C0) (first : Int) (second : Int) : Option (Bool) :=
 (Z1z N db constraint).bind fun r =>
 bif r then
  bif (first != second) then
   (Z0a N first 0 (w64 ((db.2.length : Int) - 1))).bind fun r2 =>
   bif r2 then
    (Z0a N second 0 (w64 ((db.2.length : Int) - 1))).bind fun r3 =>
    bif r3 then
     grd (inb first db.2) <|
     grd (inb second db.2) <|
     (Z7e N constraint (at_ (0, []) db.2 first) (at_ (0, []) db.2 second)).bind fun r4 =>
     some r4
    else
    some false
   else
   some false
  else
  some false
 else
 some false
def Z4f (N : Nat) (rec_ : I0 -> I0 -> Int -> Int -> Option (Bool)) (s12 : I0) (s22 : I0) (t12 : Int) (t13 : Int) : Option (Bool) :=
 bif decide (t13 < t12) then
  grd (inb t13 s12) <|
  grd (inb t13 s22) <|
  bif ((at_ 0 s12 t13) != (at_ 0 s22 t13)) then some false
  else
  rec_ s12 s22 t12 (w64 (t13 + 1))
 else
 some true
def Z2e (N : Nat) : Nat -> I0 -> I0 -> Int -> Int -> Option (Bool)
 | 0, _, _, _, _ => none
 | k_ + 1, s12, s22, t12, t13 => Z4f N (Z2e N k_) s12 s22 t12 t13
def Z79 (N : Nat) (Z9q : I0 -> I0 -> Int -> Int -> Option (Bool)) (s1 : I0) (s2 : I0) : Option (Bool) :=
 bif ((s1.length : Int) != (s2.length : Int)) then some false
 else
 Z9q s1 s2 (s1.length : Int) 0
def Z2f (s1 : I0) (s2 : I0) : Option (Bool) := Z79 N (Z2e N N) s1 s2
def Z70 (relations : R0) (a : Int × List Int) (b : Int × List Int) : Option (Bool) :=
 bif (a.1 != b.1) then some false
 else
 grd (inb a.1 relations) <|
 grd (subOk 0 (((at_ (⟨#[]⟩, (0, 0)) relations a.1).2).2) a.2.length) <|
 grd (subOk 0 (((at_ (⟨#[]⟩, (0, 0)) relations a.1).2).2) b.2.length) <|
 (Z2f N (a.2.take (((at_ (⟨#[]⟩, (0, 0)) relations a.1).2).2).toNat) (b.2.take (((at_ (⟨#[]⟩, (0, 0)) relations a.1).2).2).toNat)).bind fun r =>
 some r
def Z4g (rec_ : Int -> Int -> R0 -> A0 -> (List C0) -> Int -> Int -> Option (Bool)) (a2 : Int) (b2 : Int) (t3 : R0) (t32 : A0) (t9 : List C0) (t10 : Int) (t11 : Int) : Option (Bool) :=
 bif decide (t11 < t10) then
  grd (inb t11 t9) <|
  (Z1c N (t3, t32) ((at_ (0, (0, (0, (0, (0, (0, 0)))))) t9 t11).1, ((at_ (0, (0, (0, (0, (0, (0, 0)))))) t9 t11).2).1, (((at_ (0, (0, (0, (0, (0, (0, 0)))))) t9 t11).2).2).1, ((((at_ (0, (0, (0, (0, (0, (0, 0)))))) t9 t11).2).2).2).1, (((((at_ (0, (0, (0, (0, (0, (0, 0)))))) t9 t11).2).2).2).2).1, ((((((at_ (0, (0, (0, (0, (0, (0, 0)))))) t9 t11).2).2).2).2).2)) a2 b2).bind fun r =>
  bif r then some true
  else
  (Z1c N (t3, t32) ((at_ (0, (0, (0, (0, (0, (0, 0)))))) t9 t11).1, ((at_ (0, (0, (0, (0, (0, (0, 0)))))) t9 t11).2).1, (((at_ (0, (0, (0, (0, (0, (0, 0)))))) t9 t11).2).2).1, ((((at_ (0, (0, (0, (0, (0, (0, 0)))))) t9 t11).2).2).2).1, (((((at_ (0, (0, (0, (0, (0, (0, 0)))))) t9 t11).2).2).2).2).1, ((((((at_ (0, (0, (0, (0, (0, (0, 0)))))) t9 t11).2).2).2).2).2)) b2 a2).bind fun r2 =>
  bif r2 then some true
  else
  rec_ a2 b2 t3 t32 t9 t10 (w64 (t11 + 1))
 else
 grd (inb a2 t32) <|
 grd (inb b2 t32) <|
 (Z70 N t3 (at_ (0, []) t32 a2) (at_ (0, []) t32 b2)).bind fun r3 =>
 some r3
def Z2g (N : Nat) : Nat -> Int -> Int -> R0 -> A0 -> (List C0) -> Int -> Int -> Option (Bool)
 | 0, _, _, _, _, _, _, _ => none
 | k_ + 1, a2, b2, t3, t32, t9, t10, t11 => Z4g N (Z2g N k_) a2 b2 t3 t32 t9 t10 t11
def Z7a (N : Nat) (Z9r : Int -> Int -> R0 -> A0 -> (List C0) -> Int -> Int -> Option (Bool)) (a : Int) (b : Int) (c2 : List C0) (c3 : D0) : Option (Bool) :=
 Z9r a b c3.1 c3.2 c2 (c2.length : Int) 0
def Z2h (a : Int) (b : Int) (c2 : List C0) (c3 : D0) : Option (Bool) := Z7a N (Z2g N N) a b c2 c3
def Z30 (Z37 : Int -> (List C0) -> D0 -> E0 -> Int -> Int -> Option E0) (rec_ : Int -> (List C0) -> D0 -> E0 -> Int -> Int -> Int -> Int -> Option E0) (n3 : Int) (holds3 : List C0) (holds4 : D0) (out2 : E0) (a : Int) (b : Int) (t92 : Int) (t102 : Int) : Option E0 :=
 bif decide (b < n3) then
  (Z2h N a b holds3 holds4).bind fun r =>
  bif r then
   grd (appOk out2 [(a, b)] 16) <|
   rec_ n3 holds3 holds4 (out2 ++ [(a, b)]) a (w64 (b + 1)) t92 t102
  else
  rec_ n3 holds3 holds4 out2 a (w64 (b + 1)) t92 t102
 else
 Z37 n3 holds3 holds4 out2 t92 (w64 (t102 + 1))
def Z0v (Z37 : Int -> (List C0) -> D0 -> E0 -> Int -> Int -> Option E0) (N : Nat) : Nat -> Int -> (List C0) -> D0 -> E0 -> Int -> Int -> Int -> Int -> Option E0
 | 0, _, _, _, _, _, _, _, _ => none
 | k_ + 1, n3, holds3, holds4, out2, a, b, t92, t102 => Z30 N Z37 (Z0v Z37 N k_) n3 holds3 holds4 out2 a b t92 t102
def Z31 (N : Nat) (Z8t : Int -> (List C0) -> D0 -> E0 -> Int -> Int -> Int -> Int -> Option E0) (rec_ : Int -> (List C0) -> D0 -> E0 -> Int -> Int -> Option E0) (n2 : Int) (holds : List C0) (holds2 : D0) (out : E0) (t9 : Int) (t10 : Int) : Option E0 :=
 bif decide (t10 < t9) then
  Z8t n2 holds holds2 out t10 (w64 (t10 + 1)) t9 t10
 else
 some out
def Z0w (N : Nat) : Nat -> Int -> (List C0) -> D0 -> E0 -> Int -> Int -> Option E0
 | 0, _, _, _, _, _, _ => none
 | k_ + 1, n2, holds, holds2, out, t9, t10 => Z31 N (Z0v (Z0w N k_) N N) (Z0w N k_) n2 holds holds2 out t9 t10
def Z5j (N : Nat) (Z8u : Int -> (List C0) -> D0 -> E0 -> Int -> Int -> Option E0) (n : Int) (c : List C0) (c2 : D0) : Option E0 :=
 Z8u n c c2 [] n 0
def Z1n (n : Int) (c : List C0) (c2 : D0) : Option E0 := Z5j N (Z0w N N) n c c2
def Z3o (db : D0) (constraints : List C0) : Option E0 :=
 (Z0u N db).bind fun r =>
 bif (!r) then some []
 else
 (Z1n N (db.2.length : Int) constraints db).bind fun r2 =>
 some r2
def Z5o (N : Nat) (rec_ : Int -> E0 -> E0 -> Int -> Int -> Option (Bool)) (n2 : Int) (edges2 : E0) (t10 : E0) (t11 : Int) (t12 : Int) : Option (Bool) :=
 bif decide (t12 < t11) then
  grd (inb t12 t10) <|
  bif decide (((at_ (0, 0) t10 t12).1) < 0) then some false
  else
  bif decide (((at_ (0, 0) t10 t12).1) >= ((at_ (0, 0) t10 t12).2)) then some false
  else
  bif decide (((at_ (0, 0) t10 t12).2) >= n2) then some false
  else
  bif decide (t12 > 0) then
   grd (inb (w64 (t12 - 1)) edges2) <|
   bif decide (((at_ (0, 0) edges2 (w64 (t12 - 1))).1) > ((at_ (0, 0) t10 t12).1)) then some false
   else
   grd (inb (w64 (t12 - 1)) edges2) <|
   bif (((at_ (0, 0) edges2 (w64 (t12 - 1))).1) == ((at_ (0, 0) t10 t12).1)) then
    grd (inb (w64 (t12 - 1)) edges2) <|
    bif decide (((at_ (0, 0) edges2 (w64 (t12 - 1))).2) >= ((at_ (0, 0) t10 t12).2)) then some false
    else
    rec_ n2 edges2 t10 t11 (w64 (t12 + 1))
   else
   rec_ n2 edges2 t10 t11 (w64 (t12 + 1))
  else
  rec_ n2 edges2 t10 t11 (w64 (t12 + 1))
 else
 some true
def Z3g (N : Nat) : Nat -> Int -> E0 -> E0 -> Int -> Int -> Option (Bool)
 | 0, _, _, _, _, _ => none
 | k_ + 1, n2, edges2, t10, t11, t12 => Z5o N (Z3g N k_) n2 edges2 t10 t11 t12
def Z89 (Z0a9 : Int -> E0 -> E0 -> Int -> Int -> Option (Bool)) (n : Int) (edges : E0) : Option (Bool) :=
 (Z0a N n 0 14).bind fun r =>
 bif (!r) then some false
 else
 Z0a9 n edges edges (edges.length : Int) 0
def Z12 (n : Int) (edges : E0) : Option (Bool) := Z89 N (Z3g N N) n edges
def Z6q (rec_ : I0 -> Int -> I0 -> Int -> Int -> Option (Bool)) (indices2 : I0) (n2 : Int) (t7 : I0) (t8 : Int) (t9 : Int) : Option (Bool) :=
 bif decide (t9 < t8) then
  grd (inb t9 t7) <|
  (Z0a N (at_ 0 t7 t9) 0 (w64 (n2 - 1))).bind fun r =>
  bif (!r) then some false
  else
  bif decide (t9 > 0) then
   grd (inb (w64 (t9 - 1)) indices2) <|
   bif decide ((at_ 0 indices2 (w64 (t9 - 1))) >= (at_ 0 t7 t9)) then some false
   else
   rec_ indices2 n2 t7 t8 (w64 (t9 + 1))
  else
  rec_ indices2 n2 t7 t8 (w64 (t9 + 1))
 else
 some true
def Z4s (N : Nat) : Nat -> I0 -> Int -> I0 -> Int -> Int -> Option (Bool)
 | 0, _, _, _, _, _ => none
 | k_ + 1, indices2, n2, t7, t8, t9 => Z6q N (Z4s N k_) indices2 n2 t7 t8 t9
def Z8n (N : Nat) (Z0ah : I0 -> Int -> I0 -> Int -> Int -> Option (Bool)) (indices : I0) (n : Int) : Option (Bool) :=
 Z0ah indices n indices (indices.length : Int) 0
def Z57 (indices : I0) (n : Int) : Option (Bool) := Z8n N (Z4s N N) indices n
def Z4h (N : Nat) (rec_ : I0 -> Int -> Int -> Int -> Option (Int)) (s2 : I0) (v2 : Int) (t7 : Int) (t8 : Int) : Option (Int) :=
 bif decide (t8 < t7) then
  grd (inb t8 s2) <|
  bif (v2 == (at_ 0 s2 t8)) then some t8
  else
  rec_ s2 v2 t7 (w64 (t8 + 1))
 else
 some (-1)
def Z2i (N : Nat) : Nat -> I0 -> Int -> Int -> Int -> Option (Int)
 | 0, _, _, _, _ => none
 | k_ + 1, s2, v2, t7, t8 => Z4h N (Z2i N k_) s2 v2 t7 t8
def Z7b (N : Nat) (Z9s : I0 -> Int -> Int -> Int -> Option (Int)) (s : I0) (v : Int) : Option (Int) :=
 Z9s s v (s.length : Int) 0
def Z3h (s : I0) (v : Int) : Option (Int) := Z7b N (Z2i N N) s v
def Z5 (s : I0) (v : Int) : Option (Bool) :=
 (Z3h N s v).bind fun r =>
 some (decide (r >= 0))
def Z3i (e : Int × Int) (c1 : I0) : Option (Bool) :=
 (Z5 N c1 e.1).bind fun r =>
 bif r then
  (Z5 N c1 e.2).bind fun r2 =>
  some r2
 else
 some false
def Z8 (rec_ : E0 -> I0 -> Int -> Int -> Option (Int)) (s2 : E0) (f : I0) (t7 : Int) (t8 : Int) : Option (Int) :=
 bif decide (t8 < t7) then
  grd (inb t8 s2) <|
  (Z3i N (at_ (0, 0) s2 t8) f).bind fun r =>
  bif r then some t8
  else
  rec_ s2 f t7 (w64 (t8 + 1))
 else
 some (-1)
def Z1 (N : Nat) : Nat -> E0 -> I0 -> Int -> Int -> Option (Int)
 | 0, _, _, _, _ => none
 | k_ + 1, s2, f, t7, t8 => Z8 N (Z1 N k_) s2 f t7 t8
def Z0r (N : Nat) (Z4n : E0 -> I0 -> Int -> Int -> Option (Int)) (s : E0) (c : I0) : Option (Int) :=
 Z4n s c (s.length : Int) 0
def Z3 (s : E0) (c : I0) : Option (Int) := Z0r N (Z1 N N) s c
def Z2 (s : E0) (c : I0) : Option (Bool) :=
 (Z3 N s c).bind fun r =>
 some (decide (r >= 0))
def Z13 (edges : E0) (set : I0) : Option (Bool) :=
 (Z2 N edges set).bind fun r =>
 some (!r)
def Z3j (n : Int) (edges : E0) (set : I0) : Option (Bool) :=
 (Z12 N n edges).bind fun r =>
 bif r then
  (Z57 N set n).bind fun r2 =>
  bif r2 then
   (Z13 N edges set).bind fun r3 =>
   some r3
  else
  some false
 else
 some false
def Z3c (rec_ : E0 -> I0 -> Int -> Int -> Option (Bool)) (edges2 : E0) (set2 : I0) (t13 : Int) (t14 : Int) : Option (Bool) :=
 bif decide (t14 < t13) then
  (Z5 N set2 t14).bind fun r2 =>
  bif (!r2) then
   (Z4r N set2).bind fun r3 =>
   grd (appOk r3 [t14] 8) <|
   (Z13 N edges2 (r3 ++ [t14])).bind fun r4 =>
   bif r4 then some false
   else
   rec_ edges2 set2 t13 (w64 (t14 + 1))
  else
  rec_ edges2 set2 t13 (w64 (t14 + 1))
 else
 some true
def Z1h (N : Nat) : Nat -> E0 -> I0 -> Int -> Int -> Option (Bool)
 | 0, _, _, _, _ => none
 | k_ + 1, edges2, set2, t13, t14 => Z3c N (Z1h N k_) edges2 set2 t13 t14
def Z64 (Z92 : E0 -> I0 -> Int -> Int -> Option (Bool)) (n : Int) (edges : E0) (set : I0) : Option (Bool) :=
 (Z3j N n edges set).bind fun r =>
 bif (!r) then some false
 else
 Z92 edges set n 0
def Z0q (n : Int) (edges : E0) (set : I0) : Option (Bool) := Z64 N (Z1h N N) n edges set
def Z32 (Rf : Int -> I0 -> Int -> E0 -> L0 -> Int -> E0 -> Option L0) (v : Int) (set : I0) (c2 : Int) (c3 : E0) (c4 : L0) (sc2 : Int) (sc3 : E0) : Option L0 :=
 bif (v == c2) then
  (Z0q N c2 c3 set).bind fun r =>
  bif r then
   grd (appOk [] set 8) <|
   grd (appOk c4 [set] 24) <|
   some (c4 ++ [set])
  else
  some c4
 else
 (Z4r N set).bind fun r2 =>
 grd (appOk r2 [v] 8) <|
 (Z13 N c3 (r2 ++ [v])).bind fun r3 =>
 bif r3 then
  (Rf (w64 (v + 1)) (r2 ++ [v]) sc2 sc3 c4 sc2 sc3).bind fun m =>
  (Rf (w64 (v + 1)) set sc2 sc3 m sc2 sc3).bind fun m2 =>
  some m2
 else
 (Rf (w64 (v + 1)) set sc2 sc3 c4 sc2 sc3).bind fun m3 =>
 some m3
def Z0m (N : Nat) : Nat -> Int -> I0 -> Int -> E0 -> L0 -> Int -> E0 -> Option L0
 | 0, _, _, _, _, _, _, _ => none
 | k_ + 1, v, set, c2, c3, c4, sc2, sc3 => Z32 N (Z0m N k_) v set c2 c3 c4 sc2 sc3
def Z17 (v : Int) (set : I0) (c2 : Int) (c3 : E0) (c4 : L0) (sc2 : Int) (sc3 : E0) : Option L0 := Z0m N N v set c2 c3 c4 sc2 sc3
def Z14 (n : Int) (edges : E0) : Option L0 :=
 (Z12 N n edges).bind fun r =>
 bif (!r) then some []
 else
 (Z17 N 0 [] n edges [] n edges).bind fun m =>
 some m
def Z0z (N : Nat) (rec_ : E0 -> Int -> Int -> Int -> Int -> Option (Int)) (s2 : E0) (v2 : Int) (v3 : Int) (t7 : Int) (t8 : Int) : Option (Int) :=
 bif decide (t8 < t7) then
  grd (inb t8 s2) <|
  bif ((v2 == ((at_ (0, 0) s2 t8).1)) && (v3 == ((at_ (0, 0) s2 t8).2))) then some t8
  else
  rec_ s2 v2 v3 t7 (w64 (t8 + 1))
 else
 some (-1)
def Z0d (N : Nat) : Nat -> E0 -> Int -> Int -> Int -> Int -> Option (Int)
 | 0, _, _, _, _, _ => none
 | k_ + 1, s2, v2, v3, t7, t8 => Z0z N (Z0d N k_) s2 v2 v3 t7 t8
def Z2n (N : Nat) (Z7u : E0 -> Int -> Int -> Int -> Int -> Option (Int)) (s : E0) (v : Int × Int) : Option (Int) :=
 Z7u s v.1 v.2 (s.length : Int) 0
def Z0i (s : E0) (v : Int × Int) : Option (Int) := Z2n N (Z0d N N) s v
def Z0 (s : E0) (v : Int × Int) : Option (Bool) :=
 (Z0i N s v).bind fun r =>
 some (decide (r >= 0))
def Z33 (preferences : E0) (a : Int) (b : Int) : Option (Bool) :=
 (Z0 N preferences (a, b)).bind fun r =>
 some r
def Z48 (a : Int) (c1 : E0) (c2 : Int) : Option (Bool) :=
 (Z33 N c1 a c2).bind fun r =>
 some r
def Z0x (rec_ : I0 -> E0 -> Int -> Int -> Int -> Option (Int)) (s2 : I0) (f : E0) (f2 : Int) (t7 : Int) (t8 : Int) : Option (Int) :=
 bif decide (t8 < t7) then
  grd (inb t8 s2) <|
  (Z48 N (at_ 0 s2 t8) f f2).bind fun r =>
  bif r then some t8
  else
  rec_ s2 f f2 t7 (w64 (t8 + 1))
 else
 some (-1)
def Z0c (N : Nat) : Nat -> I0 -> E0 -> Int -> Int -> Int -> Option (Int)
 | 0, _, _, _, _, _ => none
 | k_ + 1, s2, f, f2, t7, t8 => Z0x N (Z0c N k_) s2 f f2 t7 t8
def Z2j (N : Nat) (Z7q : I0 -> E0 -> Int -> Int -> Int -> Option (Int)) (s : I0) (c : E0) (c2 : Int) : Option (Int) :=
 Z7q s c c2 (s.length : Int) 0
def Z0h (s : I0) (c : E0) (c2 : Int) : Option (Int) := Z2j N (Z0c N N) s c c2
def Z6 (s : I0) (c : E0) (c2 : Int) : Option (Bool) :=
 (Z0h N s c c2).bind fun r =>
 some (decide (r >= 0))
def Z6f (rec_ : I0 -> E0 -> I0 -> I0 -> Int -> Int -> Option I0) (left_2 : I0) (preferences2 : E0) (out : I0) (t9 : I0) (t10 : Int) (t11 : Int) : Option I0 :=
 bif decide (t11 < t10) then
  grd (inb t11 t9) <|
  (Z6 N left_2 preferences2 (at_ 0 t9 t11)).bind fun r =>
  bif (!r) then
   grd (appOk out [(at_ 0 t9 t11)] 8) <|
   rec_ left_2 preferences2 (out ++ [(at_ 0 t9 t11)]) t9 t10 (w64 (t11 + 1))
  else
  rec_ left_2 preferences2 out t9 t10 (w64 (t11 + 1))
 else
 some out
def Z49 (N : Nat) : Nat -> I0 -> E0 -> I0 -> I0 -> Int -> Int -> Option I0
 | 0, _, _, _, _, _, _ => none
 | k_ + 1, left_2, preferences2, out, t9, t10, t11 => Z6f N (Z49 N k_) left_2 preferences2 out t9 t10 t11
def Z8k (N : Nat) (Z0af : I0 -> E0 -> I0 -> I0 -> Int -> Int -> Option I0) (preferences : E0) (left_ : I0) : Option I0 :=
 Z0af left_ preferences [] left_ (left_.length : Int) 0
def Z4o (preferences : E0) (left_ : I0) : Option I0 := Z8k N (Z49 N N) preferences left_
def Z7y (rec_ : I0 -> I0 -> I0 -> Int -> Int -> Option I0) (b2 : I0) (out : I0) (t9 : I0) (t10 : Int) (t11 : Int) : Option I0 :=
 bif decide (t11 < t10) then
  grd (inb t11 t9) <|
  (Z5 N b2 (at_ 0 t9 t11)).bind fun r =>
  bif (!r) then
   grd (appOk out [(at_ 0 t9 t11)] 8) <|
   rec_ b2 (out ++ [(at_ 0 t9 t11)]) t9 t10 (w64 (t11 + 1))
  else
  rec_ b2 out t9 t10 (w64 (t11 + 1))
 else
 some out
def Z6g (N : Nat) : Nat -> I0 -> I0 -> I0 -> Int -> Int -> Option I0
 | 0, _, _, _, _, _ => none
 | k_ + 1, b2, out, t9, t10, t11 => Z7y N (Z6g N k_) b2 out t9 t10 t11
def Z99 (N : Nat) (Z0at : I0 -> I0 -> I0 -> Int -> Int -> Option I0) (a : I0) (b : I0) : Option I0 :=
 Z0at b [] a (a.length : Int) 0
def Z71 (a : I0) (b : I0) : Option I0 := Z99 N (Z6g N N) a b
def Z6r (rec_ : E0 -> I0 -> Option (Bool)) (preferences3 : E0) (left_2 : I0) : Option (Bool) :=
 bif decide ((left_2.length : Int) > 0) then
  (Z4o N preferences3 left_2).bind fun r =>
  (Z71 N left_2 r).bind fun r2 =>
  bif ((r2.length : Int) == (left_2.length : Int)) then some false
  else
  rec_ preferences3 r2
 else
 some true
def Z2o (N : Nat) : Nat -> E0 -> I0 -> Option (Bool)
 | 0, _, _ => none
 | k_ + 1, preferences3, left_2 => Z6r N (Z2o N k_) preferences3 left_2
def Z8a (N : Nat) (Z0ai : E0 -> I0 -> Option (Bool)) (rec_ : E0 -> I0 -> Int -> Int -> Option (Bool)) (preferences2 : E0) (left_ : I0) (t9 : Int) (t10 : Int) : Option (Bool) :=
 bif decide (t10 < t9) then
  grd (appOk left_ [t10] 8) <|
  rec_ preferences2 (left_ ++ [t10]) t9 (w64 (t10 + 1))
 else
 Z0ai preferences2 left_
def Z65 (N : Nat) : Nat -> E0 -> I0 -> Int -> Int -> Option (Bool)
 | 0, _, _, _, _ => none
 | k_ + 1, preferences2, left_, t9, t10 => Z8a N (Z2o N N) (Z65 N k_) preferences2 left_ t9 t10
def Z8o (N : Nat) (Z0aj : E0 -> I0 -> Int -> Int -> Option (Bool)) (n : Int) (preferences : E0) : Option (Bool) :=
 Z0aj preferences [] n 0
def Z58 (n : Int) (preferences : E0) : Option (Bool) := Z8o N (Z65 N N) n preferences
def Z41 (rec_ : Int -> E0 -> E0 -> E0 -> Int -> Int -> Option (Bool)) (n2 : Int) (edges2 : E0) (preferences2 : E0) (t13 : E0) (t14 : Int) (t15 : Int) : Option (Bool) :=
 bif decide (t15 < t14) then
  grd (inb t15 t13) <|
  (Z0 N edges2 (at_ (0, 0) t13 t15)).bind fun r2 =>
  bif (!r2) then
   (Z0 N edges2 ((at_ (0, 0) t13 t15).2, (at_ (0, 0) t13 t15).1)).bind fun r3 =>
   bif (!r3) then some false
   else
   rec_ n2 edges2 preferences2 t13 t14 (w64 (t15 + 1))
  else
  rec_ n2 edges2 preferences2 t13 t14 (w64 (t15 + 1))
 else
 (Z58 N n2 preferences2).bind fun r4 =>
 some r4
def Z27 (N : Nat) : Nat -> Int -> E0 -> E0 -> E0 -> Int -> Int -> Option (Bool)
 | 0, _, _, _, _, _, _ => none
 | k_ + 1, n2, edges2, preferences2, t13, t14, t15 => Z41 N (Z27 N k_) n2 edges2 preferences2 t13 t14 t15
def Z72 (Z9n : Int -> E0 -> E0 -> E0 -> Int -> Int -> Option (Bool)) (n : Int) (edges : E0) (preferences : E0) : Option (Bool) :=
 (Z12 N n edges).bind fun r =>
 bif (!r) then some false
 else
 Z9n n edges preferences preferences (preferences.length : Int) 0
def Z20 (n : Int) (edges : E0) (preferences : E0) : Option (Bool) := Z72 N (Z27 N N) n edges preferences
def Z59 (edges : E0) (a : Int) (b : Int) : Option (Bool) :=
 (Z0 N edges (a, b)).bind fun r =>
 bif r then some true
 else
 (Z0 N edges (b, a)).bind fun r2 =>
 some r2
def Z2u (own : Int) (c1 : E0) (c2 : Int) (c3 : E0) : Option (Bool) :=
 (Z59 N c1 c2 own).bind fun r =>
 bif r then
  (Z33 N c3 c2 own).bind fun r2 =>
  some (!r2)
 else
 some false
def Z0s (rec_ : I0 -> E0 -> Int -> E0 -> Int -> Int -> Option (Int)) (s2 : I0) (f : E0) (f2 : Int) (f3 : E0) (t7 : Int) (t8 : Int) : Option (Int) :=
 bif decide (t8 < t7) then
  grd (inb t8 s2) <|
  (Z2u N (at_ 0 s2 t8) f f2 f3).bind fun r =>
  bif r then some t8
  else
  rec_ s2 f f2 f3 t7 (w64 (t8 + 1))
 else
 some (-1)
def Z7 (N : Nat) : Nat -> I0 -> E0 -> Int -> E0 -> Int -> Int -> Option (Int)
 | 0, _, _, _, _, _, _ => none
 | k_ + 1, s2, f, f2, f3, t7, t8 => Z0s N (Z7 N k_) s2 f f2 f3 t7 t8
def Z1s (N : Nat) (Z73 : I0 -> E0 -> Int -> E0 -> Int -> Int -> Option (Int)) (s : I0) (c : E0) (c2 : Int) (c3 : E0) : Option (Int) :=
 Z73 s c c2 c3 (s.length : Int) 0
def Z0b (s : I0) (c : E0) (c2 : Int) (c3 : E0) : Option (Int) := Z1s N (Z7 N N) s c c2 c3
def Z4 (s : I0) (c : E0) (c2 : Int) (c3 : E0) : Option (Bool) :=
 (Z0b N s c c2 c3).bind fun r =>
 some (decide (r >= 0))
def Z4y (rec_ : I0 -> E0 -> E0 -> Int -> Int -> Option (Bool)) (set2 : I0) (edges2 : E0) (preferences2 : E0) (t22 : Int) (t23 : Int) : Option (Bool) :=
 bif decide (t23 < t22) then
  (Z5 N set2 t23).bind fun r3 =>
  bif (!r3) then
   (Z4 N set2 edges2 t23 preferences2).bind fun r4 =>
   bif (!r4) then some false
   else
   rec_ set2 edges2 preferences2 t22 (w64 (t23 + 1))
  else
  rec_ set2 edges2 preferences2 t22 (w64 (t23 + 1))
 else
 some true
def Z2v (N : Nat) : Nat -> I0 -> E0 -> E0 -> Int -> Int -> Option (Bool)
 | 0, _, _, _, _, _ => none
 | k_ + 1, set2, edges2, preferences2, t22, t23 => Z4y N (Z2v N k_) set2 edges2 preferences2 t22 t23
def Z7r (Z0a0 : I0 -> E0 -> E0 -> Int -> Int -> Option (Bool)) (n : Int) (edges : E0) (preferences : E0) (set : I0) : Option (Bool) :=
 (Z20 N n edges preferences).bind fun r =>
 bif (!r) then some false
 else
 (Z0q N n edges set).bind fun r2 =>
 bif (!r2) then some false
 else
 Z0a0 set edges preferences n 0
def Z1w (n : Int) (edges : E0) (preferences : E0) (set : I0) : Option (Bool) := Z7r N (Z2v N N) n edges preferences set
def Z5a (rec_ : Int -> E0 -> E0 -> I0 -> L0 -> L0 -> Int -> Int -> Option L0) (n3 : Int) (edges3 : E0) (preferences3 : E0) (outx : I0) (out2 : L0) (t132 : L0) (t142 : Int) (t152 : Int) : Option L0 :=
 bif decide (t152 < t142) then
  grd (inb t152 t132) <|
  (Z1w N n3 edges3 preferences3 (at_ [] t132 t152)).bind fun r3 =>
  bif r3 then
   grd (selOk outx t152 out2 24) <|
   rec_ n3 edges3 preferences3 (outx ++ [t152]) (out2 ++ [(at_ [] t132 t152)]) t132 t142 (w64 (t152 + 1))
  else
  rec_ n3 edges3 preferences3 outx out2 t132 t142 (w64 (t152 + 1))
 else
 some out2
def Z2k (N : Nat) : Nat -> Int -> E0 -> E0 -> I0 -> L0 -> L0 -> Int -> Int -> Option L0
 | 0, _, _, _, _, _, _, _, _ => none
 | k_ + 1, n3, edges3, preferences3, outx, out2, t132, t142, t152 => Z5a N (Z2k N k_) n3 edges3 preferences3 outx out2 t132 t142 t152
def Z5b (Z93 : Int -> E0 -> E0 -> I0 -> L0 -> L0 -> Int -> Int -> Option L0) (rec_ : Int -> E0 -> E0 -> L0 -> L0 -> Int -> Int -> Option L0) (n2 : Int) (edges2 : E0) (preferences2 : E0) (out : L0) (t13 : L0) (t14 : Int) (t15 : Int) : Option L0 :=
 bif decide (t15 < t14) then
  grd (inb t15 t13) <|
  (Z1w N n2 edges2 preferences2 (at_ [] t13 t15)).bind fun r2 =>
  bif r2 then
   grd (selOk0 out 24) <|
   Z93 n2 edges2 preferences2 [t15] [(at_ [] t13 t15)] t13 t14 (w64 (t15 + 1))
  else
  rec_ n2 edges2 preferences2 out t13 t14 (w64 (t15 + 1))
 else
 some out
def Z2l (N : Nat) : Nat -> Int -> E0 -> E0 -> L0 -> L0 -> Int -> Int -> Option L0
 | 0, _, _, _, _, _, _, _ => none
 | k_ + 1, n2, edges2, preferences2, out, t13, t14, t15 => Z5b N (Z2k N k_) (Z2l N k_) n2 edges2 preferences2 out t13 t14 t15
def Z66 (Z94 : Int -> E0 -> E0 -> L0 -> L0 -> Int -> Int -> Option L0) (n : Int) (edges : E0) (preferences : E0) : Option L0 :=
 (Z14 N n edges).bind fun r =>
 Z94 n edges preferences [] r (r.length : Int) 0
def Z28 (n : Int) (edges : E0) (preferences : E0) : Option L0 := Z66 N (Z2l N N) n edges preferences
def Z1o (db : D0) (constraints : List C0) (preferences : E0) : Option L0 :=
 (Z0u N db).bind fun r =>
 bif (!r) then some []
 else
 (Z3o N db constraints).bind fun r2 =>
 (Z28 N (db.2.length : Int) r2 preferences).bind fun r3 =>
 some r3
def Z8b (N : Nat) (rec_ : I0 -> I0 -> Int -> Option (Bool)) (a2 : I0) (b2 : I0) (i : Int) : Option (Bool) :=
 bif decide (i < (a2.length : Int)) then
  grd (inb i a2) <|
  grd (inb i b2) <|
  bif ((at_ 0 a2 i) != (at_ 0 b2 i)) then some false
  else
  rec_ a2 b2 (w64 (i + 1))
 else
 some true
def Z6u (N : Nat) : Nat -> I0 -> I0 -> Int -> Option (Bool)
 | 0, _, _, _ => none
 | k_ + 1, a2, b2, i => Z8b N (Z6u N k_) a2 b2 i
def Z9o (N : Nat) (Z0ay : I0 -> I0 -> Int -> Option (Bool)) (a : I0) (b : I0) : Option (Bool) :=
 bif ((a.length : Int) != (b.length : Int)) then some false
 else
 Z0ay a b 0
def Z60 (a : I0) (b : I0) : Option (Bool) := Z9o N (Z6u N N) a b
def Z7z (rec_ : L0 -> L0 -> Int -> Option (Bool)) (a2 : L0) (b2 : L0) (i : Int) : Option (Bool) :=
 bif decide (i < (a2.length : Int)) then
  grd (inb i a2) <|
  grd (inb i b2) <|
  (Z60 N (at_ [] a2 i) (at_ [] b2 i)).bind fun r =>
  bif (!r) then some false
  else
  rec_ a2 b2 (w64 (i + 1))
 else
 some true
def Z6h (N : Nat) : Nat -> L0 -> L0 -> Int -> Option (Bool)
 | 0, _, _, _ => none
 | k_ + 1, a2, b2, i => Z7z N (Z6h N k_) a2 b2 i
def Z9a (N : Nat) (Z0au : L0 -> L0 -> Int -> Option (Bool)) (a : L0) (b : L0) : Option (Bool) :=
 bif ((a.length : Int) != (b.length : Int)) then some false
 else
 Z0au a b 0
def Z5c (a : L0) (b : L0) : Option (Bool) := Z9a N (Z6h N N) a b
def Z5d (N : Nat) (a : ByteArray × Int × Int) (b : ByteArray × Int × Int) : Option (Bool) :=
 bif (!seq a.1 b.1) then some false
 else
 bif (a.2.1 != b.2.1) then some false
 else
 bif (a.2.2 != b.2.2) then some false
 else
 some true
def Z6i (rec_ : R0 -> R0 -> Int -> Option (Bool)) (a2 : R0) (b2 : R0) (i : Int) : Option (Bool) :=
 bif decide (i < (a2.length : Int)) then
  grd (inb i a2) <|
  grd (inb i b2) <|
  (Z5d N ((at_ (⟨#[]⟩, (0, 0)) a2 i).1, ((at_ (⟨#[]⟩, (0, 0)) a2 i).2)) ((at_ (⟨#[]⟩, (0, 0)) b2 i).1, ((at_ (⟨#[]⟩, (0, 0)) b2 i).2))).bind fun r =>
  bif (!r) then some false
  else
  rec_ a2 b2 (w64 (i + 1))
 else
 some true
def Z4a (N : Nat) : Nat -> R0 -> R0 -> Int -> Option (Bool)
 | 0, _, _, _ => none
 | k_ + 1, a2, b2, i => Z6i N (Z4a N k_) a2 b2 i
def Z8l (N : Nat) (Z0ag : R0 -> R0 -> Int -> Option (Bool)) (a : R0) (b : R0) : Option (Bool) :=
 bif ((a.length : Int) != (b.length : Int)) then some false
 else
 Z0ag a b 0
def Z4p (a : R0) (b : R0) : Option (Bool) := Z8l N (Z4a N N) a b
def Z7s (a : Int × List Int) (b : Int × List Int) : Option (Bool) :=
 bif (a.1 != b.1) then some false
 else
 (Z60 N a.2 b.2).bind fun r =>
 bif (!r) then some false
 else
 some true
def Z80 (rec_ : A0 -> A0 -> Int -> Option (Bool)) (a2 : A0) (b2 : A0) (i : Int) : Option (Bool) :=
 bif decide (i < (a2.length : Int)) then
  grd (inb i a2) <|
  grd (inb i b2) <|
  (Z7s N (at_ (0, []) a2 i) (at_ (0, []) b2 i)).bind fun r =>
  bif (!r) then some false
  else
  rec_ a2 b2 (w64 (i + 1))
 else
 some true
def Z6j (N : Nat) : Nat -> A0 -> A0 -> Int -> Option (Bool)
 | 0, _, _, _ => none
 | k_ + 1, a2, b2, i => Z80 N (Z6j N k_) a2 b2 i
def Z9b (N : Nat) (Z0av : A0 -> A0 -> Int -> Option (Bool)) (a : A0) (b : A0) : Option (Bool) :=
 bif ((a.length : Int) != (b.length : Int)) then some false
 else
 Z0av a b 0
def Z74 (a : A0) (b : A0) : Option (Bool) := Z9b N (Z6j N N) a b
def Z5e (a : D0) (b : D0) : Option (Bool) :=
 (Z4p N a.1 b.1).bind fun r =>
 bif (!r) then some false
 else
 (Z74 N a.2 b.2).bind fun r2 =>
 bif (!r2) then some false
 else
 some true
def Z1t (N : Nat) (a : C0) (b : C0) : Option (Bool) :=
 bif (a.1 != b.1) then some false
 else
 bif (a.2.1 != b.2.1) then some false
 else
 bif (a.2.2.1 != b.2.2.1) then some false
 else
 bif (a.2.2.2.1 != b.2.2.2.1) then some false
 else
 bif (a.2.2.2.2.1 != b.2.2.2.2.1) then some false
 else
 bif (a.2.2.2.2.2.1 != b.2.2.2.2.2.1) then some false
 else
 bif (a.2.2.2.2.2.2 != b.2.2.2.2.2.2) then some false
 else
 some true
def Z3m (rec_ : (List C0) -> (List C0) -> Int -> Option (Bool)) (a2 : List C0) (b2 : List C0) (i : Int) : Option (Bool) :=
 bif decide (i < (a2.length : Int)) then
  grd (inb i a2) <|
  grd (inb i b2) <|
  (Z1t N ((at_ (0, (0, (0, (0, (0, (0, 0)))))) a2 i).1, ((at_ (0, (0, (0, (0, (0, (0, 0)))))) a2 i).2).1, (((at_ (0, (0, (0, (0, (0, (0, 0)))))) a2 i).2).2).1, ((((at_ (0, (0, (0, (0, (0, (0, 0)))))) a2 i).2).2).2).1, (((((at_ (0, (0, (0, (0, (0, (0, 0)))))) a2 i).2).2).2).2).1, ((((((at_ (0, (0, (0, (0, (0, (0, 0)))))) a2 i).2).2).2).2).2)) ((at_ (0, (0, (0, (0, (0, (0, 0)))))) b2 i).1, ((at_ (0, (0, (0, (0, (0, (0, 0)))))) b2 i).2).1, (((at_ (0, (0, (0, (0, (0, (0, 0)))))) b2 i).2).2).1, ((((at_ (0, (0, (0, (0, (0, (0, 0)))))) b2 i).2).2).2).1, (((((at_ (0, (0, (0, (0, (0, (0, 0)))))) b2 i).2).2).2).2).1, ((((((at_ (0, (0, (0, (0, (0, (0, 0)))))) b2 i).2).2).2).2).2))).bind fun r =>
  bif (!r) then some false
  else
  rec_ a2 b2 (w64 (i + 1))
 else
 some true
def Z1p (N : Nat) : Nat -> (List C0) -> (List C0) -> Int -> Option (Bool)
 | 0, _, _, _ => none
 | k_ + 1, a2, b2, i => Z3m N (Z1p N k_) a2 b2 i
def Z6m (N : Nat) (Z9c : (List C0) -> (List C0) -> Int -> Option (Bool)) (a : List C0) (b : List C0) : Option (Bool) :=
 bif ((a.length : Int) != (b.length : Int)) then some false
 else
 Z9c a b 0
def Z1j (a : List C0) (b : List C0) : Option (Bool) := Z6m N (Z1p N N) a b
def Z3a (N : Nat) (a : Int × Int) (b : Int × Int) : Option (Bool) :=
 bif (a.1 != b.1) then some false
 else
 bif (a.2 != b.2) then some false
 else
 some true
def Z4z (rec_ : E0 -> E0 -> Int -> Option (Bool)) (a2 : E0) (b2 : E0) (i : Int) : Option (Bool) :=
 bif decide (i < (a2.length : Int)) then
  grd (inb i a2) <|
  grd (inb i b2) <|
  (Z3a N (at_ (0, 0) a2 i) (at_ (0, 0) b2 i)).bind fun r =>
  bif (!r) then some false
  else
  rec_ a2 b2 (w64 (i + 1))
 else
 some true
def Z2w (N : Nat) : Nat -> E0 -> E0 -> Int -> Option (Bool)
 | 0, _, _, _ => none
 | k_ + 1, a2, b2, i => Z4z N (Z2w N k_) a2 b2 i
def Z7t (N : Nat) (Z0a1 : E0 -> E0 -> Int -> Option (Bool)) (a : E0) (b : E0) : Option (Bool) :=
 bif ((a.length : Int) != (b.length : Int)) then some false
 else
 Z0a1 a b 0
def Z34 (a : E0) (b : E0) : Option (Bool) := Z7t N (Z2w N N) a b
def Z67 (N : Nat) (rec_ : Int -> ByteArray -> Option (ByteArray)) (k2 : Int) (out : ByteArray) : Option (ByteArray) :=
 bif decide (k2 > 0) then
  grz 10 <|
  grd (catOk (ofBytes [(w .u8 (w64 (48 + (k2.tmod 10))))]) out) <|
  grz 10 <|
  rec_ (w64 (k2.tdiv 10)) ((ofBytes [(w .u8 (w64 (48 + (k2.tmod 10))))]) ++ out)
 else
 grd (catOk (⟨#[109]⟩) out) <|
 some ((⟨#[109]⟩) ++ out)
def Z4q (N : Nat) : Nat -> Int -> ByteArray -> Option (ByteArray)
 | 0, _, _ => none
 | k_ + 1, k2, out => Z67 N (Z4q N k_) k2 out
def Z8v (N : Nat) (Z0an : Int -> ByteArray -> Option (ByteArray)) (k : Int) : Option (ByteArray) :=
 bif decide (k <= 0) then some (⟨#[109, 48]⟩)
 else
 Z0an k (⟨#[]⟩)
def Z3r (k : Int) : Option (ByteArray) := Z8v N (Z4q N N) k
def Z5p (rec_ : R0 -> Int -> Int -> Option (R0 × Int)) (a2 : R0) (k2 : Int) (i : Int) : Option (R0 × Int) :=
 bif decide (i < (a2.length : Int)) then
  (Z3r N k2).bind fun r =>
  grd (inb i a2) <|
  grd (inb i a2) <|
  letv (a2.set i.toNat (r, ((at_ (⟨#[]⟩, (0, 0)) a2 i).2))) fun u =>
  grd (inb i u) <|
  grd (inb i u) <|
  letv (u.set i.toNat ((at_ (⟨#[]⟩, (0, 0)) u i).1, (w64 (k2 + 1)), ((at_ (⟨#[]⟩, (0, 0)) u i).2).2)) fun u2 =>
  grd (inb i u2) <|
  grd (inb i u2) <|
  letv (u2.set i.toNat ((at_ (⟨#[]⟩, (0, 0)) u2 i).1, ((at_ (⟨#[]⟩, (0, 0)) u2 i).2).1, (w64 ((w64 (k2 + 1)) + 1)))) fun u3 =>
  rec_ u3 (w64 ((w64 ((w64 (k2 + 1)) + 1)) + 1)) (w64 (i + 1))
 else
 some (a2, k2)
def Z3k (N : Nat) : Nat -> R0 -> Int -> Int -> Option (R0 × Int)
 | 0, _, _, _ => none
 | k_ + 1, a2, k2, i => Z5p N (Z3k N k_) a2 k2 i
def Z8c (N : Nat) (Z0aa : R0 -> Int -> Int -> Option (R0 × Int)) (a : R0) (k : Int) : Option (R0 × Int) :=
 Z0aa a k 0
def Z3p (a : R0) (k : Int) : Option (R0 × Int) := Z8c N (Z3k N N) a k
def Z7g (N : Nat) (rec_ : I0 -> Int -> Int -> Option (List Int × Int)) (a2 : I0) (k2 : Int) (i : Int) : Option (List Int × Int) :=
 bif decide (i < (a2.length : Int)) then
  grd (inb i a2) <|
  grd (inb i a2) <|
  letv (a2.set i.toNat k2) fun u =>
  rec_ u (w64 (k2 + 1)) (w64 (i + 1))
 else
 some (a2, k2)
def Z5t (N : Nat) : Nat -> I0 -> Int -> Int -> Option (List Int × Int)
 | 0, _, _, _ => none
 | k_ + 1, a2, k2, i => Z7g N (Z5t N k_) a2 k2 i
def Z8w (N : Nat) (Z0ao : I0 -> Int -> Int -> Option (List Int × Int)) (a : I0) (k : Int) : Option (List Int × Int) :=
 Z0ao a k 0
def Z4i (a : I0) (k : Int) : Option (List Int × Int) := Z8w N (Z5t N N) a k
def Z76 (rec_ : A0 -> Int -> Int -> Option (A0 × Int)) (a2 : A0) (k2 : Int) (i : Int) : Option (A0 × Int) :=
 bif decide (i < (a2.length : Int)) then
  grd (inb i a2) <|
  grd (inb i a2) <|
  letv (a2.set i.toNat (k2, (at_ (0, []) a2 i).2)) fun u =>
  grd (inb i u) <|
  (Z4i N ((at_ (0, []) u i).2) (w64 (k2 + 1))).bind fun p_m =>
  letv (u.set i.toNat ((at_ (0, []) u i).1, p_m.1)) fun u2 =>
  rec_ u2 p_m.2 (w64 (i + 1))
 else
 some (a2, k2)
def Z5g (N : Nat) : Nat -> A0 -> Int -> Int -> Option (A0 × Int)
 | 0, _, _, _ => none
 | k_ + 1, a2, k2, i => Z76 N (Z5g N k_) a2 k2 i
def Z8q (N : Nat) (Z0ak : A0 -> Int -> Int -> Option (A0 × Int)) (a : A0) (k : Int) : Option (A0 × Int) :=
 Z0ak a k 0
def Z5u (a : A0) (k : Int) : Option (A0 × Int) := Z8q N (Z5g N N) a k
def Z39 (a : D0) (k : Int) : Option (D0 × Int) :=
 (Z3p N a.1 k).bind fun p_m =>
 (Z5u N a.2 p_m.2).bind fun p_m2 =>
 some ((p_m.1, p_m2.1), p_m2.2)
def Z38 (N : Nat) (rec_ : (List C0) -> Int -> Int -> Option ((List C0) × Int)) (a2 : List C0) (k2 : Int) (i : Int) : Option ((List C0) × Int) :=
 bif decide (i < (a2.length : Int)) then
  grd (inb i a2) <|
  grd (inb i a2) <|
  letv (a2.set i.toNat (k2, ((at_ (0, (0, (0, (0, (0, (0, 0)))))) a2 i).2).1, (((at_ (0, (0, (0, (0, (0, (0, 0)))))) a2 i).2).2).1, ((((at_ (0, (0, (0, (0, (0, (0, 0)))))) a2 i).2).2).2).1, (((((at_ (0, (0, (0, (0, (0, (0, 0)))))) a2 i).2).2).2).2).1, ((((((at_ (0, (0, (0, (0, (0, (0, 0)))))) a2 i).2).2).2).2).2))) fun u =>
  grd (inb i u) <|
  grd (inb i u) <|
  letv (u.set i.toNat ((at_ (0, (0, (0, (0, (0, (0, 0)))))) u i).1, (w64 (k2 + 1)), (((at_ (0, (0, (0, (0, (0, (0, 0)))))) u i).2).2).1, ((((at_ (0, (0, (0, (0, (0, (0, 0)))))) u i).2).2).2).1, (((((at_ (0, (0, (0, (0, (0, (0, 0)))))) u i).2).2).2).2).1, ((((((at_ (0, (0, (0, (0, (0, (0, 0)))))) u i).2).2).2).2).2))) fun u2 =>
  grd (inb i u2) <|
  grd (inb i u2) <|
  letv (u2.set i.toNat ((at_ (0, (0, (0, (0, (0, (0, 0)))))) u2 i).1, ((at_ (0, (0, (0, (0, (0, (0, 0)))))) u2 i).2).1, (w64 ((w64 (k2 + 1)) + 1)), ((((at_ (0, (0, (0, (0, (0, (0, 0)))))) u2 i).2).2).2).1, (((((at_ (0, (0, (0, (0, (0, (0, 0)))))) u2 i).2).2).2).2).1, ((((((at_ (0, (0, (0, (0, (0, (0, 0)))))) u2 i).2).2).2).2).2))) fun u3 =>
  grd (inb i u3) <|
  grd (inb i u3) <|
  letv (u3.set i.toNat ((at_ (0, (0, (0, (0, (0, (0, 0)))))) u3 i).1, ((at_ (0, (0, (0, (0, (0, (0, 0)))))) u3 i).2).1, (((at_ (0, (0, (0, (0, (0, (0, 0)))))) u3 i).2).2).1, (w64 ((w64 ((w64 (k2 + 1)) + 1)) + 1)), (((((at_ (0, (0, (0, (0, (0, (0, 0)))))) u3 i).2).2).2).2).1, ((((((at_ (0, (0, (0, (0, (0, (0, 0)))))) u3 i).2).2).2).2).2))) fun u4 =>
  grd (inb i u4) <|
  grd (inb i u4) <|
  letv (u4.set i.toNat ((at_ (0, (0, (0, (0, (0, (0, 0)))))) u4 i).1, ((at_ (0, (0, (0, (0, (0, (0, 0)))))) u4 i).2).1, (((at_ (0, (0, (0, (0, (0, (0, 0)))))) u4 i).2).2).1, ((((at_ (0, (0, (0, (0, (0, (0, 0)))))) u4 i).2).2).2).1, (w64 ((w64 ((w64 ((w64 (k2 + 1)) + 1)) + 1)) + 1)), ((((((at_ (0, (0, (0, (0, (0, (0, 0)))))) u4 i).2).2).2).2).2))) fun u5 =>
  grd (inb i u5) <|
  grd (inb i u5) <|
  letv (u5.set i.toNat ((at_ (0, (0, (0, (0, (0, (0, 0)))))) u5 i).1, ((at_ (0, (0, (0, (0, (0, (0, 0)))))) u5 i).2).1, (((at_ (0, (0, (0, (0, (0, (0, 0)))))) u5 i).2).2).1, ((((at_ (0, (0, (0, (0, (0, (0, 0)))))) u5 i).2).2).2).1, (((((at_ (0, (0, (0, (0, (0, (0, 0)))))) u5 i).2).2).2).2).1, (w64 ((w64 ((w64 ((w64 ((w64 (k2 + 1)) + 1)) + 1)) + 1)) + 1)), ((((((at_ (0, (0, (0, (0, (0, (0, 0)))))) u5 i).2).2).2).2).2).2)) fun u6 =>
  grd (inb i u6) <|
  grd (inb i u6) <|
  letv (u6.set i.toNat ((at_ (0, (0, (0, (0, (0, (0, 0)))))) u6 i).1, ((at_ (0, (0, (0, (0, (0, (0, 0)))))) u6 i).2).1, (((at_ (0, (0, (0, (0, (0, (0, 0)))))) u6 i).2).2).1, ((((at_ (0, (0, (0, (0, (0, (0, 0)))))) u6 i).2).2).2).1, (((((at_ (0, (0, (0, (0, (0, (0, 0)))))) u6 i).2).2).2).2).1, ((((((at_ (0, (0, (0, (0, (0, (0, 0)))))) u6 i).2).2).2).2).2).1, (w64 ((w64 ((w64 ((w64 ((w64 ((w64 (k2 + 1)) + 1)) + 1)) + 1)) + 1)) + 1)))) fun u7 =>
  rec_ u7 (w64 ((w64 ((w64 ((w64 ((w64 ((w64 ((w64 (k2 + 1)) + 1)) + 1)) + 1)) + 1)) + 1)) + 1)) (w64 (i + 1))
 else
 some (a2, k2)
def Z1d (N : Nat) : Nat -> (List C0) -> Int -> Int -> Option ((List C0) × Int)
 | 0, _, _, _ => none
 | k_ + 1, a2, k2, i => Z38 N (Z1d N k_) a2 k2 i
def Z5v (N : Nat) (Z8x : (List C0) -> Int -> Int -> Option ((List C0) × Int)) (a : List C0) (k : Int) : Option ((List C0) × Int) :=
 Z8x a k 0
def Z1a (a : List C0) (k : Int) : Option ((List C0) × Int) := Z5v N (Z1d N N) a k
def Z42 (N : Nat) (rec_ : E0 -> Int -> Int -> Option (E0 × Int)) (a2 : E0) (k2 : Int) (i : Int) : Option (E0 × Int) :=
 bif decide (i < (a2.length : Int)) then
  grd (inb i a2) <|
  grd (inb i a2) <|
  letv (a2.set i.toNat (k2, (at_ (0, 0) a2 i).2)) fun u =>
  grd (inb i u) <|
  grd (inb i u) <|
  letv (u.set i.toNat ((at_ (0, 0) u i).1, (w64 (k2 + 1)))) fun u2 =>
  rec_ u2 (w64 ((w64 (k2 + 1)) + 1)) (w64 (i + 1))
 else
 some (a2, k2)
def Z29 (N : Nat) : Nat -> E0 -> Int -> Int -> Option (E0 × Int)
 | 0, _, _, _ => none
 | k_ + 1, a2, k2, i => Z42 N (Z29 N k_) a2 k2 i
def Z75 (N : Nat) (Z9p : E0 -> Int -> Int -> Option (E0 × Int)) (a : E0) (k : Int) : Option (E0 × Int) :=
 Z9p a k 0
def Z21 (a : E0) (k : Int) : Option (E0 × Int) := Z75 N (Z29 N N) a k
def Z77 (rec_ : L0 -> Int -> Int -> Option (List I0 × Int)) (a2 : L0) (k2 : Int) (i : Int) : Option (List I0 × Int) :=
 bif decide (i < (a2.length : Int)) then
  grd (inb i a2) <|
  (Z4i N (at_ [] a2 i) k2).bind fun p_m =>
  letv (a2.set i.toNat p_m.1) fun u =>
  rec_ u p_m.2 (w64 (i + 1))
 else
 some (a2, k2)
def Z5h (N : Nat) : Nat -> L0 -> Int -> Int -> Option (List I0 × Int)
 | 0, _, _, _ => none
 | k_ + 1, a2, k2, i => Z77 N (Z5h N k_) a2 k2 i
def Z8r (N : Nat) (Z0al : L0 -> Int -> Int -> Option (List I0 × Int)) (a : L0) (k : Int) : Option (List I0 × Int) :=
 Z0al a k 0
def Z5w (a : L0) (k : Int) : Option (List I0 × Int) := Z8r N (Z5h N N) a k
def Z7h (N : Nat) (rec_ : I0 -> Int -> Int -> Option (Int)) (a2 : I0) (k2 : Int) (i : Int) : Option (Int) :=
 bif decide (i < (a2.length : Int)) then
  grd (inb i a2) <|
  bif ((at_ 0 a2 i) != k2) then some (-1)
  else
  rec_ a2 (w64 (k2 + 1)) (w64 (i + 1))
 else
 some k2
def Z5x (N : Nat) : Nat -> I0 -> Int -> Int -> Option (Int)
 | 0, _, _, _ => none
 | k_ + 1, a2, k2, i => Z7h N (Z5x N k_) a2 k2 i
def Z8y (N : Nat) (Z0ap : I0 -> Int -> Int -> Option (Int)) (a : I0) (k : Int) : Option (Int) :=
 Z0ap a k 0
def Z6n (a : I0) (k : Int) : Option (Int) := Z8y N (Z5x N N) a k
def Z78 (rec_ : L0 -> Int -> Int -> Option (Int)) (a2 : L0) (k2 : Int) (i : Int) : Option (Int) :=
 bif decide (i < (a2.length : Int)) then
  grd (inb i a2) <|
  (Z6n N (at_ [] a2 i) k2).bind fun r =>
  bif decide (r < 0) then some (-1)
  else
  rec_ a2 r (w64 (i + 1))
 else
 some k2
def Z5i (N : Nat) : Nat -> L0 -> Int -> Int -> Option (Int)
 | 0, _, _, _ => none
 | k_ + 1, a2, k2, i => Z78 N (Z5i N k_) a2 k2 i
def Z8s (N : Nat) (Z0am : L0 -> Int -> Int -> Option (Int)) (a : L0) (k : Int) : Option (Int) :=
 Z0am a k 0
def Z4t (a : L0) (k : Int) : Option (Int) := Z8s N (Z5i N N) a k
def laws_FnExactPreferredRepairs (aDb : D0) (aConstraints : List C0) (aPreferences : E0) : Option (Bool) :=
 (Z50 N aDb 1048576).bind fun r =>
 bif decide (r < 0) then some true
 else
 (Z1i N aConstraints r).bind fun r2 =>
 bif decide (r2 < 0) then some true
 else
 (Z2x N aPreferences r2).bind fun r3 =>
 bif decide (r3 < 0) then some true
 else
 (Z2m N aDb).bind fun r4 =>
 (Z0k N aConstraints).bind fun r5 =>
 (Z0y N aPreferences).bind fun r6 =>
 (Z2c N r4 r5 r6).bind fun r7 =>
 (Z2m N aDb).bind fun r8 =>
 (Z0k N aConstraints).bind fun r9 =>
 (Z0y N aPreferences).bind fun r10 =>
 (Z1o N r8 r9 r10).bind fun r11 =>
 (Z5c N r11 r7).bind fun r12 =>
 bif (!r12) then some false
 else
 (Z2m N aDb).bind fun r13 =>
 (Z5e N r8 r13).bind fun r14 =>
 bif (!r14) then some false
 else
 (Z0k N aConstraints).bind fun r15 =>
 (Z1j N r9 r15).bind fun r16 =>
 bif (!r16) then some false
 else
 (Z0y N aPreferences).bind fun r17 =>
 (Z34 N r10 r17).bind fun r18 =>
 bif (!r18) then some false
 else
 (Z39 N r8 1).bind fun p_m =>
 (Z1a N r9 p_m.2).bind fun p_m2 =>
 (Z21 N r10 p_m2.2).bind fun p_m3 =>
 bif decide (p_m3.2 < 0) then some false
 else
 (Z5c N r11 r7).bind fun r22 =>
 bif (!r22) then some false
 else
 (Z5w N r11 1).bind fun p_m4 =>
 (Z4t N p_m4.1 1).bind fun r24 =>
 bif decide (r24 < 0) then some false
 else
 bif (r24 != p_m4.2) then some false
 else
 (Z2m N aDb).bind fun r25 =>
 (Z0k N aConstraints).bind fun r26 =>
 (Z0y N aPreferences).bind fun r27 =>
 (Z1o N r25 r26 r27).bind fun r28 =>
 (Z5c N r28 r7).bind fun r29 =>
 bif (!r29) then some false
 else
 (Z4t N p_m4.1 1).bind fun r30 =>
 bif decide (r30 < 0) then some false
 else
 bif (r30 != p_m4.2) then some false
 else
 some true
end Go.PL
