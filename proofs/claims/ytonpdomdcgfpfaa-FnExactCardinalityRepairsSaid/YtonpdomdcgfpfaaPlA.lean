/- The functions read plainly. Conditions: none (definitions alone). -/
import GoSem.Core.View
import GoSem.Op.String

set_option linter.unusedVariables false
set_option linter.unusedSimpArgs false
set_option linter.unnecessarySimpa false

namespace Go.PL
def w64 (x : Int) : Int := IntKind.i64.wrap x
def w (k : IntKind) (x : Int) : Int := k.wrap x
def grd {α : Type} (c : Bool) (x : Option α) : Option α := bif c then x else none
def grz {α : Type} (b : Int) (x : Option α) : Option α := bif decide (b = 0) then none else x
def letv {α β : Type} (v : α) (k : α -> β) : β := k v
def at_ {α : Type} (d : α) (xs : List α) (i : Int) : α := xs.getD i.toNat d
def inb {α : Type} (i : Int) (xs : List α) : Bool := decide (0 <= i) && decide (i < (xs.length : Int))
def growOk {α : Type} (i' i : Int) (xs : List α) : Bool := decide (i' = i) && (decide (0 <= i') && decide (i' < (xs.length : Int)))
def appOk {α : Type} (s x : List α) (b : Nat) : Bool := decide ((s.length + x.length) * b <= 140737488355328)
def selOk {α : Type} (ix : List Int) (i : Int) (x : List α) (b : Nat) : Bool := ix.all (fun k => decide (k < i)) && decide ((x.length + 1) * b <= 140737488355328)
def selOk0 {α : Type} (x : List α) (b : Nat) : Bool := x.isEmpty && decide ((0 + 1) * b <= 140737488355328)
def makeOk (n : Int) (b : Nat) : Bool := decide (n = n) && (decide (0 <= n) && decide (n * b <= 140737488355328))
def byteAt (s : ByteArray) (n : Int) : Option UInt8 := if 0 <= n then s[n.toNat]? else none
def catOk (a b : ByteArray) : Bool := decide (a.size + b.size <= 140737488355328)
def seq (a b : ByteArray) : Bool := a.toList == b.toList
def slt (a b : ByteArray) : Bool := Op.bytesLess a.toList b.toList
def subOk (lo hi : Int) (n : Nat) : Bool := decide (0 <= lo) && (decide (lo <= hi) && decide (hi <= (n : Int)))
def sub (s : ByteArray) (lo hi : Int) : ByteArray := s.extract lo.toNat hi.toNat
def ofBytes (x : List Int) : ByteArray := ⟨(x.map fun n => UInt8.ofNat n.toNat).toArray⟩
def bits (op : BinOp) (k : IntKind) (a b : Int) : Int := match op with
 | .and => k.wrap ((BitVec.ofInt k.bits a &&& BitVec.ofInt k.bits b).toNat : Int)
 | .xor => k.wrap ((BitVec.ofInt k.bits a ^^^ BitVec.ofInt k.bits b).toNat : Int)
 | .or => k.wrap ((BitVec.ofInt k.bits a ||| BitVec.ofInt k.bits b).toNat : Int)
 | .shl => k.wrap (a * 2 ^ (min b.toNat k.bits))
 | .shr => a.fdiv (2 ^ (min b.toNat k.bits))
 | _ => 0
def imax (a b : Int) : Int := if b > a then b else a
def imin (a b : Int) : Int := if b < a then b else a
end Go.PL

namespace Go.PL
abbrev D0 : Type := List (ByteArray × Int × Int) × List (Int × List Int)
abbrev Q0 : Type := Int × List (Int × List Int) × List Int
abbrev C0 : Type := Int × Int × Int × Int × Int × Int × Int
abbrev R0 : Type := List (ByteArray × Int × Int)
abbrev A0 : Type := List (Int × List Int)
abbrev L0 : Type := List (List Int)
abbrev I0 : Type := List Int
abbrev E0 : Type := List (Int × Int)
variable (N : Nat)
def Z3g (N : Nat) (s : I0) : Option I0 := grd (decide (s.length * 8 <= 140737488355328)) (some s)
def Z2y (N : Nat) (a : ByteArray × Int × Int) (left_ : Int) : Option (Int) :=
 bif decide ((w64 (left_ - (a.1.size : Int))) < 0) then some (-1)
 else
 some (w64 (left_ - (a.1.size : Int)))
def Z4j (rec_ : R0 -> Int -> Int -> Option (Int)) (a2 : R0) (left_2 : Int) (i : Int) : Option (Int) :=
 bif decide (i < (a2.length : Int)) then
  grd (inb i a2) <|
  (Z2y N ((at_ (⟨#[]⟩, (0, 0)) a2 i).1, ((at_ (⟨#[]⟩, (0, 0)) a2 i).2)) left_2).bind fun r =>
  bif decide (r < 0) then some (-1)
  else
  rec_ a2 r (w64 (i + 1))
 else
 some left_2
def Z30 (N : Nat) : Nat -> R0 -> Int -> Int -> Option (Int)
 | 0, _, _, _ => none
 | k_ + 1, a2, left_2, i => Z4j N (Z30 N k_) a2 left_2 i
def Z69 (N : Nat) (Z7p : R0 -> Int -> Int -> Option (Int)) (a : R0) (left_ : Int) : Option (Int) :=
 bif decide ((w64 (left_ - (a.length : Int))) < 0) then some (-1)
 else
 Z7p a (w64 (left_ - (a.length : Int))) 0
def Z3a (a : R0) (left_ : Int) : Option (Int) := Z69 N (Z30 N N) a left_
def Z5k (N : Nat) (a : I0) (left_ : Int) : Option (Int) :=
 bif decide ((w64 (left_ - (a.length : Int))) < 0) then some (-1)
 else
 some (w64 (left_ - (a.length : Int)))
def Z4z (a : Int × List Int) (left_ : Int) : Option (Int) :=
 (Z5k N a.2 left_).bind fun r =>
 bif decide (r < 0) then some (-1)
 else
 some r
def Z5r (rec_ : A0 -> Int -> Int -> Option (Int)) (a2 : A0) (left_2 : Int) (i : Int) : Option (Int) :=
 bif decide (i < (a2.length : Int)) then
  grd (inb i a2) <|
  (Z4z N (at_ (0, []) a2 i) left_2).bind fun r =>
  bif decide (r < 0) then some (-1)
  else
  rec_ a2 r (w64 (i + 1))
 else
 some left_2
def Z4k (N : Nat) : Nat -> A0 -> Int -> Int -> Option (Int)
 | 0, _, _, _ => none
 | k_ + 1, a2, left_2, i => Z5r N (Z4k N k_) a2 left_2 i
def Z6r (N : Nat) (Z80 : A0 -> Int -> Int -> Option (Int)) (a : A0) (left_ : Int) : Option (Int) :=
 bif decide ((w64 (left_ - (a.length : Int))) < 0) then some (-1)
 else
 Z80 a (w64 (left_ - (a.length : Int))) 0
def Z52 (a : A0) (left_ : Int) : Option (Int) := Z6r N (Z4k N N) a left_
def Z3l (a : D0) (left_ : Int) : Option (Int) :=
 (Z3a N a.1 left_).bind fun r =>
 bif decide (r < 0) then some (-1)
 else
 (Z52 N a.2 r).bind fun r2 =>
 bif decide (r2 < 0) then some (-1)
 else
 some r2
def Z12 (N : Nat) (a : List C0) (left_ : Int) : Option (Int) :=
 bif decide ((w64 (left_ - (a.length : Int))) < 0) then some (-1)
 else
 some (w64 (left_ - (a.length : Int)))
def Z3m (N : Nat) (a : ByteArray × Int × Int) : Option (ByteArray × Int × Int) :=
 some a
def Z4l (rec_ : R0 -> R0 -> Int -> Option R0) (a2 : R0) (out : R0) (i : Int) : Option R0 :=
 bif decide (i < (a2.length : Int)) then
  grd (inb i a2) <|
  (Z3m N ((at_ (⟨#[]⟩, (0, 0)) a2 i).1, ((at_ (⟨#[]⟩, (0, 0)) a2 i).2))).bind fun r =>
  grd (inb i out) <|
  grd (inb i out) <|
  letv (out.set i.toNat r) fun u =>
  rec_ a2 u (w64 (i + 1))
 else
 some out
def Z31 (N : Nat) : Nat -> R0 -> R0 -> Int -> Option R0
 | 0, _, _, _ => none
 | k_ + 1, a2, out, i => Z4l N (Z31 N k_) a2 out i
def Z6a (N : Nat) (Z7q : R0 -> R0 -> Int -> Option R0) (a : R0) : Option R0 :=
 grd (makeOk (a.length : Int) 32) <|
 Z7q a (List.replicate (a.length : Int).toNat (⟨#[]⟩, (0, 0))) 0
def Z3b (a : R0) : Option R0 := Z6a N (Z31 N N) a
def Z5x (N : Nat) (rec_ : I0 -> I0 -> Int -> Option I0) (a2 : I0) (out : I0) (i : Int) : Option I0 :=
 bif decide (i < (a2.length : Int)) then
  grd (inb i a2) <|
  grd (inb i out) <|
  grd (inb i out) <|
  letv (out.set i.toNat (at_ 0 a2 i)) fun u =>
  rec_ a2 u (w64 (i + 1))
 else
 some out
def Z50 (N : Nat) : Nat -> I0 -> I0 -> Int -> Option I0
 | 0, _, _, _ => none
 | k_ + 1, a2, out, i => Z5x N (Z50 N k_) a2 out i
def Z74 (N : Nat) (Z84 : I0 -> I0 -> Int -> Option I0) (a : I0) : Option I0 :=
 grd (makeOk (a.length : Int) 8) <|
 Z84 a (List.replicate (a.length : Int).toNat 0) 0
def Z5l (a : I0) : Option I0 := Z74 N (Z50 N N) a
def Z5m (a : Int × List Int) : Option (Int × List Int) :=
 (Z5l N a.2).bind fun r =>
 some (a.1, r)
def Z5s (rec_ : A0 -> A0 -> Int -> Option A0) (a2 : A0) (out : A0) (i : Int) : Option A0 :=
 bif decide (i < (a2.length : Int)) then
  grd (inb i a2) <|
  (Z5m N (at_ (0, []) a2 i)).bind fun r =>
  grd (inb i out) <|
  grd (inb i out) <|
  letv (out.set i.toNat r) fun u =>
  rec_ a2 u (w64 (i + 1))
 else
 some out
def Z4m (N : Nat) : Nat -> A0 -> A0 -> Int -> Option A0
 | 0, _, _, _ => none
 | k_ + 1, a2, out, i => Z5s N (Z4m N k_) a2 out i
def Z6s (N : Nat) (Z81 : A0 -> A0 -> Int -> Option A0) (a : A0) : Option A0 :=
 grd (makeOk (a.length : Int) 32) <|
 Z81 a (List.replicate (a.length : Int).toNat (0, [])) 0
def Z53 (a : A0) : Option A0 := Z6s N (Z4m N N) a
def Z1u (a : D0) : Option D0 :=
 (Z3b N a.1).bind fun r =>
 (Z53 N a.2).bind fun r2 =>
 some (r, r2)
def Z1v (N : Nat) (a : C0) : Option C0 :=
 some a
def Z2g (rec_ : (List C0) -> (List C0) -> Int -> Option (List C0)) (a2 : List C0) (out : List C0) (i : Int) : Option (List C0) :=
 bif decide (i < (a2.length : Int)) then
  grd (inb i a2) <|
  (Z1v N ((at_ (0, (0, (0, (0, (0, (0, 0)))))) a2 i).1, ((at_ (0, (0, (0, (0, (0, (0, 0)))))) a2 i).2).1, (((at_ (0, (0, (0, (0, (0, (0, 0)))))) a2 i).2).2).1, ((((at_ (0, (0, (0, (0, (0, (0, 0)))))) a2 i).2).2).2).1, (((((at_ (0, (0, (0, (0, (0, (0, 0)))))) a2 i).2).2).2).2).1, ((((((at_ (0, (0, (0, (0, (0, (0, 0)))))) a2 i).2).2).2).2).2))).bind fun r =>
  grd (inb i out) <|
  grd (inb i out) <|
  letv (out.set i.toNat r) fun u =>
  rec_ a2 u (w64 (i + 1))
 else
 some out
def Z14 (N : Nat) : Nat -> (List C0) -> (List C0) -> Int -> Option (List C0)
 | 0, _, _, _ => none
 | k_ + 1, a2, out, i => Z2g N (Z14 N k_) a2 out i
def Z4r (N : Nat) (Z6t : (List C0) -> (List C0) -> Int -> Option (List C0)) (a : List C0) : Option (List C0) :=
 grd (makeOk (a.length : Int) 56) <|
 Z6t a (List.replicate (a.length : Int).toNat (0, (0, (0, (0, (0, (0, 0))))))) 0
def Z0a (a : List C0) : Option (List C0) := Z4r N (Z14 N N) a
def Z0c (N : Nat) (x : Int) (low : Int) (high : Int) : Option (Bool) :=
 bif decide (x >= low) then some (decide (x <= high))
 else
 some false
def Z4 (s : ByteArray × Int × Int) : Option (Bool) :=
 bif ((s.1.size : Int) == 1) then
  (byteAt s.1 0).bind fun b =>
  bif decide ((b.toNat : Int) >= 97) then
   (byteAt s.1 0).bind fun b2 =>
   bif decide ((b2.toNat : Int) <= 122) then
    (Z0c N s.2.1 1 3).bind fun r =>
    bif r then
     (Z0c N s.2.2 0 s.2.1).bind fun r2 =>
     some r2
    else
    some false
   else
   some false
  else
  some false
 else
 some false
def Z15 (rec_ : R0 -> Int -> Option (Bool)) (l2 : R0) (i : Int) : Option (Bool) :=
 bif decide (i < (l2.length : Int)) then
  grd (inb i l2) <|
  (Z4 N ((at_ (⟨#[]⟩, (0, 0)) l2 i).1, ((at_ (⟨#[]⟩, (0, 0)) l2 i).2))).bind fun r =>
  bif (!r) then some false
  else
  bif decide (i > 0) then
   grd (inb (w64 (i - 1)) l2) <|
   grd (inb i l2) <|
   bif (!slt ((at_ (⟨#[]⟩, (0, 0)) l2 (w64 (i - 1))).1) ((at_ (⟨#[]⟩, (0, 0)) l2 i).1)) then some false
   else
   rec_ l2 (w64 (i + 1))
  else
  rec_ l2 (w64 (i + 1))
 else
 some (decide ((l2.length : Int) <= 4))
def Z0e (N : Nat) : Nat -> R0 -> Int -> Option (Bool)
 | 0, _, _ => none
 | k_ + 1, l2, i => Z15 N (Z0e N k_) l2 i
def Z3n (N : Nat) (Z75 : R0 -> Int -> Option (Bool)) (l : R0) : Option (Bool) :=
 Z75 l 0
def Z0g (l : R0) : Option (Bool) := Z3n N (Z0e N N) l
def Z4n (rec_ : Int -> I0 -> Int -> Option (Bool)) (f2 : Int) (f3 : I0) (i : Int) : Option (Bool) :=
 bif decide (i < (f3.length : Int)) then
  grd (inb i f3) <|
  (Z0c N (at_ 0 f3 i) 0 9).bind fun r3 =>
  bif (!r3) then some false
  else
  rec_ f2 f3 (w64 (i + 1))
 else
 some true
def Z32 (N : Nat) : Nat -> Int -> I0 -> Int -> Option (Bool)
 | 0, _, _, _ => none
 | k_ + 1, f2, f3, i => Z4n N (Z32 N k_) f2 f3 i
def Z6b (Z7r : Int -> I0 -> Int -> Option (Bool)) (l : R0) (f : Int × List Int) : Option (Bool) :=
 (Z0g N l).bind fun r =>
 bif (!r) then some false
 else
 (Z0c N f.1 0 (w64 ((l.length : Int) - 1))).bind fun r2 =>
 bif (!r2) then some false
 else
 grd (inb f.1 l) <|
 bif ((f.2.length : Int) != (((at_ (⟨#[]⟩, (0, 0)) l f.1).2).1)) then some false
 else
 Z7r f.1 f.2 0
def Z0q (l : R0) (f : Int × List Int) : Option (Bool) := Z6b N (Z32 N N) l f
def Z54 (N : Nat) (rec_ : I0 -> I0 -> Int -> Option (Int)) (a2 : I0) (b2 : I0) (i : Int) : Option (Int) :=
 bif decide (i < (a2.length : Int)) then
  bif decide (i < (b2.length : Int)) then
   grd (inb i a2) <|
   grd (inb i b2) <|
   bif decide ((at_ 0 a2 i) < (at_ 0 b2 i)) then some (-1)
   else
   grd (inb i a2) <|
   grd (inb i b2) <|
   bif decide ((at_ 0 a2 i) > (at_ 0 b2 i)) then some 1
   else
   rec_ a2 b2 (w64 (i + 1))
  else
  bif decide ((a2.length : Int) < (b2.length : Int)) then some (-1)
  else
  bif decide ((a2.length : Int) > (b2.length : Int)) then some 1
  else
  some 0
 else
 bif decide ((a2.length : Int) < (b2.length : Int)) then some (-1)
 else
 bif decide ((a2.length : Int) > (b2.length : Int)) then some 1
 else
 some 0
def Z44 (N : Nat) : Nat -> I0 -> I0 -> Int -> Option (Int)
 | 0, _, _, _ => none
 | k_ + 1, a2, b2, i => Z54 N (Z44 N k_) a2 b2 i
def Z76 (N : Nat) (Z85 : I0 -> I0 -> Int -> Option (Int)) (a : I0) (b : I0) : Option (Int) :=
 Z85 a b 0
def Z4c (a : I0) (b : I0) : Option (Int) := Z76 N (Z44 N N) a b
def Z2w (a : Int × List Int) (b : Int × List Int) : Option (Int) :=
 bif decide (a.1 < b.1) then some (-1)
 else
 bif decide (a.1 > b.1) then some 1
 else
 (Z4c N a.2 b.2).bind fun r =>
 some r
def Z3j (rec_ : R0 -> A0 -> Int -> Option (Bool)) (d2 : R0) (d3 : A0) (i : Int) : Option (Bool) :=
 bif decide (i < (d3.length : Int)) then
  grd (inb i d3) <|
  (Z0q N d2 (at_ (0, []) d3 i)).bind fun r =>
  bif (!r) then some false
  else
  bif decide (i > 0) then
   grd (inb (w64 (i - 1)) d3) <|
   grd (inb i d3) <|
   (Z2w N (at_ (0, []) d3 (w64 (i - 1))) (at_ (0, []) d3 i)).bind fun r2 =>
   bif decide (r2 >= 0) then some false
   else
   rec_ d2 d3 (w64 (i + 1))
  else
  rec_ d2 d3 (w64 (i + 1))
 else
 (Z0g N d2).bind fun r3 =>
 bif r3 then some (decide ((d3.length : Int) <= 14))
 else
 some false
def Z1w (N : Nat) : Nat -> R0 -> A0 -> Int -> Option (Bool)
 | 0, _, _, _ => none
 | k_ + 1, d2, d3, i => Z3j N (Z1w N k_) d2 d3 i
def Z5n (N : Nat) (Z7c : R0 -> A0 -> Int -> Option (Bool)) (d : D0) : Option (Bool) :=
 Z7c d.1 d.2 0
def Z8 (d : D0) : Option (Bool) := Z5n N (Z1w N N) d
def Z5h (l : R0) (f : Int × List Int) : Option I0 :=
 (Z0q N l f).bind fun r =>
 bif (!r) then some []
 else
 grd (inb f.1 l) <|
 grd (subOk 0 (((at_ (⟨#[]⟩, (0, 0)) l f.1).2).2) f.2.length) <|
 grd (appOk [] (f.2.take (((at_ (⟨#[]⟩, (0, 0)) l f.1).2).2).toNat) 8) <|
 some (f.2.take (((at_ (⟨#[]⟩, (0, 0)) l f.1).2).2).toNat)
def Z3c (l : R0) (a : Int × List Int) (b : Int × List Int) : Option (Bool) :=
 (Z0q N l a).bind fun r =>
 bif r then
  (Z0q N l b).bind fun r2 =>
  bif r2 then
   bif (a.1 == b.1) then
    (Z5h N l a).bind fun r3 =>
    (Z5h N l b).bind fun r4 =>
    (Z4c N r3 r4).bind fun r5 =>
    some (r5 == 0)
   else
   some false
  else
  some false
 else
 some false
def Z0z (d : D0) (x : C0) : Option (Bool) :=
 (Z8 N d).bind fun r =>
 bif (!r) then some false
 else
 (Z0c N x.1 0 (w64 ((d.1.length : Int) - 1))).bind fun r2 =>
 bif (!r2) then some false
 else
 (Z0c N x.2.1 0 (w64 ((d.1.length : Int) - 1))).bind fun r3 =>
 bif (!r3) then some false
 else
 grd (inb x.1 d.1) <|
 grd (inb x.2.1 d.1) <|
 (Z0c N x.2.2.1 0 (w64 ((((at_ (⟨#[]⟩, (0, 0)) d.1 x.1).2).1) - 1))).bind fun r4 =>
 bif r4 then
  (Z0c N x.2.2.2.2.1 0 (w64 ((((at_ (⟨#[]⟩, (0, 0)) d.1 x.1).2).1) - 1))).bind fun r5 =>
  bif r5 then
   (Z0c N x.2.2.2.1 0 (w64 ((((at_ (⟨#[]⟩, (0, 0)) d.1 x.2.1).2).1) - 1))).bind fun r6 =>
   bif r6 then
    (Z0c N x.2.2.2.2.2.1 0 (w64 ((((at_ (⟨#[]⟩, (0, 0)) d.1 x.2.1).2).1) - 1))).bind fun r7 =>
    bif r7 then
     (Z0c N x.2.2.2.2.2.2 1 2).bind fun r8 =>
     some r8
    else
    some false
   else
   some false
  else
  some false
 else
 some false
def Z0t (d : D0) (x : C0) (i : Int) (k : Int) : Option (Bool) :=
 (Z0z N d x).bind fun r =>
 bif (!r) then some false
 else
 (Z0c N i 0 (w64 ((d.2.length : Int) - 1))).bind fun r2 =>
 bif (!r2) then some false
 else
 (Z0c N k 0 (w64 ((d.2.length : Int) - 1))).bind fun r3 =>
 bif (!r3) then some false
 else
 bif (i == k) then some false
 else
 grd (inb i d.2) <|
 grd (inb k d.2) <|
 bif (((at_ (0, []) d.2 i).1) != x.1) then some false
 else
 bif (((at_ (0, []) d.2 k).1) != x.2.1) then some false
 else
 grd (inb x.2.2.1 ((at_ (0, []) d.2 i).2)) <|
 grd (inb x.2.2.2.1 ((at_ (0, []) d.2 k).2)) <|
 bif ((at_ 0 ((at_ (0, []) d.2 i).2) x.2.2.1) != (at_ 0 ((at_ (0, []) d.2 k).2) x.2.2.2.1)) then some false
 else
 bif (x.2.2.2.2.2.2 == 1) then
  grd (inb x.2.2.2.2.1 ((at_ (0, []) d.2 i).2)) <|
  grd (inb x.2.2.2.2.2.1 ((at_ (0, []) d.2 k).2)) <|
  some ((at_ 0 ((at_ (0, []) d.2 i).2) x.2.2.2.2.1) == (at_ 0 ((at_ (0, []) d.2 k).2) x.2.2.2.2.2.1))
 else
 grd (inb x.2.2.2.2.1 ((at_ (0, []) d.2 i).2)) <|
 grd (inb x.2.2.2.2.2.1 ((at_ (0, []) d.2 k).2)) <|
 some (decide ((at_ 0 ((at_ (0, []) d.2 i).2) x.2.2.2.2.1) < (at_ 0 ((at_ (0, []) d.2 k).2) x.2.2.2.2.2.1)))
def Z3y (Z34 : (List C0) -> R0 -> A0 -> E0 -> Int -> Int -> Option E0) (rec_ : (List C0) -> R0 -> A0 -> E0 -> Int -> Int -> Bool -> Int -> Option E0) (l4 : List C0) (d6 : R0) (d7 : A0) (out3 : E0) (i3 : Int) (k2 : Int) (is_ : Bool) (n : Int) : Option E0 :=
 bif decide (n < (l4.length : Int)) then
  bif is_ then rec_ l4 d6 d7 out3 i3 k2 true (w64 (n + 1))
  else
  grd (inb n l4) <|
  (Z0t N (d6, d7) ((at_ (0, (0, (0, (0, (0, (0, 0)))))) l4 n).1, ((at_ (0, (0, (0, (0, (0, (0, 0)))))) l4 n).2).1, (((at_ (0, (0, (0, (0, (0, (0, 0)))))) l4 n).2).2).1, ((((at_ (0, (0, (0, (0, (0, (0, 0)))))) l4 n).2).2).2).1, (((((at_ (0, (0, (0, (0, (0, (0, 0)))))) l4 n).2).2).2).2).1, ((((((at_ (0, (0, (0, (0, (0, (0, 0)))))) l4 n).2).2).2).2).2)) i3 k2).bind fun r3 =>
  bif r3 then rec_ l4 d6 d7 out3 i3 k2 true (w64 (n + 1))
  else
  grd (inb n l4) <|
  (Z0t N (d6, d7) ((at_ (0, (0, (0, (0, (0, (0, 0)))))) l4 n).1, ((at_ (0, (0, (0, (0, (0, (0, 0)))))) l4 n).2).1, (((at_ (0, (0, (0, (0, (0, (0, 0)))))) l4 n).2).2).1, ((((at_ (0, (0, (0, (0, (0, (0, 0)))))) l4 n).2).2).2).1, (((((at_ (0, (0, (0, (0, (0, (0, 0)))))) l4 n).2).2).2).2).1, ((((((at_ (0, (0, (0, (0, (0, (0, 0)))))) l4 n).2).2).2).2).2)) k2 i3).bind fun r4 =>
  rec_ l4 d6 d7 out3 i3 k2 r4 (w64 (n + 1))
 else
 bif is_ then
  grd (appOk out3 [(i3, k2)] 16) <|
  Z34 l4 d6 d7 (out3 ++ [(i3, k2)]) i3 (w64 (k2 + 1))
 else
 Z34 l4 d6 d7 out3 i3 (w64 (k2 + 1))
def Z28 (Z34 : (List C0) -> R0 -> A0 -> E0 -> Int -> Int -> Option E0) (N : Nat) : Nat -> (List C0) -> R0 -> A0 -> E0 -> Int -> Int -> Bool -> Int -> Option E0
 | 0, _, _, _, _, _, _, _, _ => none
 | k_ + 1, l4, d6, d7, out3, i3, k2, is_, n => Z3y N Z34 (Z28 Z34 N k_) l4 d6 d7 out3 i3 k2 is_ n
def Z3z (Z35 : (List C0) -> R0 -> A0 -> E0 -> Int -> Option E0) (Z7i : (List C0) -> R0 -> A0 -> E0 -> Int -> Int -> Bool -> Int -> Option E0) (rec_ : (List C0) -> R0 -> A0 -> E0 -> Int -> Int -> Option E0) (l3 : List C0) (d4 : R0) (d5 : A0) (out2 : E0) (i2 : Int) (k : Int) : Option E0 :=
 bif decide (k < (d5.length : Int)) then
  grd (inb i2 d5) <|
  grd (inb k d5) <|
  (Z3c N d4 (at_ (0, []) d5 i2) (at_ (0, []) d5 k)).bind fun r2 =>
  Z7i l3 d4 d5 out2 i2 k r2 0
 else
 Z35 l3 d4 d5 out2 (w64 (i2 + 1))
def Z0o (Z35 : (List C0) -> R0 -> A0 -> E0 -> Int -> Option E0) (N : Nat) : Nat -> (List C0) -> R0 -> A0 -> E0 -> Int -> Int -> Option E0
 | 0, _, _, _, _, _, _ => none
 | k_ + 1, l3, d4, d5, out2, i2, k => Z3z N Z35 (Z28 (Z0o Z35 N k_) N N) (Z0o Z35 N k_) l3 d4 d5 out2 i2 k
def Z2v (Z7j : (List C0) -> R0 -> A0 -> E0 -> Int -> Int -> Option E0) (rec_ : (List C0) -> R0 -> A0 -> E0 -> Int -> Option E0) (l2 : List C0) (d2 : R0) (d3 : A0) (out : E0) (i : Int) : Option E0 :=
 bif decide (i < (d3.length : Int)) then
  (Z8 N (d2, d3)).bind fun r =>
  bif r then Z7j l2 d2 d3 out i (w64 (i + 1))
  else
  some out
 else
 some out
def Z16 (N : Nat) : Nat -> (List C0) -> R0 -> A0 -> E0 -> Int -> Option E0
 | 0, _, _, _, _, _ => none
 | k_ + 1, l2, d2, d3, out, i => Z2v N (Z0o (Z16 N k_) N N) (Z16 N k_) l2 d2 d3 out i
def Z5y (N : Nat) (Z7k : (List C0) -> R0 -> A0 -> E0 -> Int -> Option E0) (d : D0) (l : List C0) : Option E0 :=
 Z7k l d.1 d.2 [] 0
def Z2i (d : D0) (l : List C0) : Option E0 := Z5y N (Z16 N N) d l
def Z40 (rec_ : Int -> E0 -> Int -> Option (Bool)) (n2 : Int) (l2 : E0) (i : Int) : Option (Bool) :=
 bif decide (i < (l2.length : Int)) then
  grd (inb i l2) <|
  grd (inb i l2) <|
  (Z0c N ((at_ (0, 0) l2 i).1) 0 (w64 (((at_ (0, 0) l2 i).2) - 1))).bind fun r =>
  bif (!r) then some false
  else
  grd (inb i l2) <|
  (Z0c N ((at_ (0, 0) l2 i).2) 0 (w64 (n2 - 1))).bind fun r2 =>
  bif (!r2) then some false
  else
  bif decide (i > 0) then
   grd (inb i l2) <|
   grd (inb (w64 (i - 1)) l2) <|
   bif decide (((at_ (0, 0) l2 i).1) < ((at_ (0, 0) l2 (w64 (i - 1))).1)) then some false
   else
   grd (inb i l2) <|
   grd (inb (w64 (i - 1)) l2) <|
   bif (((at_ (0, 0) l2 i).1) == ((at_ (0, 0) l2 (w64 (i - 1))).1)) then
    grd (inb i l2) <|
    grd (inb (w64 (i - 1)) l2) <|
    bif decide (((at_ (0, 0) l2 i).2) <= ((at_ (0, 0) l2 (w64 (i - 1))).2)) then some false
    else
    rec_ n2 l2 (w64 (i + 1))
   else
   rec_ n2 l2 (w64 (i + 1))
  else
  rec_ n2 l2 (w64 (i + 1))
 else
 (Z0c N n2 0 14).bind fun r3 =>
 some r3
def Z29 (N : Nat) : Nat -> Int -> E0 -> Int -> Option (Bool)
 | 0, _, _, _ => none
 | k_ + 1, n2, l2, i => Z40 N (Z29 N k_) n2 l2 i
def Z5z (N : Nat) (Z7l : Int -> E0 -> Int -> Option (Bool)) (n : Int) (l : E0) : Option (Bool) :=
 Z7l n l 0
def Z1i (n : Int) (l : E0) : Option (Bool) := Z5z N (Z29 N N) n l
def Z67 (rec_ : Int -> I0 -> Int -> Option (Bool)) (n2 : Int) (s2 : I0) (i : Int) : Option (Bool) :=
 bif decide (i < (s2.length : Int)) then
  grd (inb i s2) <|
  (Z0c N (at_ 0 s2 i) 0 (w64 (n2 - 1))).bind fun r =>
  bif (!r) then some false
  else
  bif decide (i > 0) then
   grd (inb i s2) <|
   grd (inb (w64 (i - 1)) s2) <|
   bif decide ((at_ 0 s2 i) <= (at_ 0 s2 (w64 (i - 1)))) then some false
   else
   rec_ n2 s2 (w64 (i + 1))
  else
  rec_ n2 s2 (w64 (i + 1))
 else
 some true
def Z5e (N : Nat) : Nat -> Int -> I0 -> Int -> Option (Bool)
 | 0, _, _, _ => none
 | k_ + 1, n2, s2, i => Z67 N (Z5e N k_) n2 s2 i
def Z7d (N : Nat) (Z87 : Int -> I0 -> Int -> Option (Bool)) (n : Int) (s : I0) : Option (Bool) :=
 Z87 n s 0
def Z60 (n : Int) (s : I0) : Option (Bool) := Z7d N (Z5e N N) n s
def Z68 (N : Nat) (rec_ : I0 -> Int -> Int -> Option (Bool)) (l2 : I0) (x2 : Int) (i : Int) : Option (Bool) :=
 bif decide (i < (l2.length : Int)) then
  grd (inb i l2) <|
  bif ((at_ 0 l2 i) == x2) then some true
  else
  rec_ l2 x2 (w64 (i + 1))
 else
 some false
def Z5f (N : Nat) : Nat -> I0 -> Int -> Int -> Option (Bool)
 | 0, _, _, _ => none
 | k_ + 1, l2, x2, i => Z68 N (Z5f N k_) l2 x2 i
def Z7e (N : Nat) (Z88 : I0 -> Int -> Int -> Option (Bool)) (l : I0) (x : Int) : Option (Bool) :=
 Z88 l x 0
def Z4d (l : I0) (x : Int) : Option (Bool) := Z7e N (Z5f N N) l x
def Z41 (rec_ : E0 -> I0 -> Int -> Option (Bool)) (l2 : E0) (s2 : I0) (i : Int) : Option (Bool) :=
 bif decide (i < (l2.length : Int)) then
  grd (inb i l2) <|
  (Z4d N s2 ((at_ (0, 0) l2 i).1)).bind fun r =>
  bif r then
   grd (inb i l2) <|
   (Z4d N s2 ((at_ (0, 0) l2 i).2)).bind fun r2 =>
   bif r2 then some false
   else
   rec_ l2 s2 (w64 (i + 1))
  else
  rec_ l2 s2 (w64 (i + 1))
 else
 some true
def Z2a (N : Nat) : Nat -> E0 -> I0 -> Int -> Option (Bool)
 | 0, _, _, _ => none
 | k_ + 1, l2, s2, i => Z41 N (Z2a N k_) l2 s2 i
def Z61 (N : Nat) (Z7m : E0 -> I0 -> Int -> Option (Bool)) (l : E0) (s : I0) : Option (Bool) :=
 Z7m l s 0
def Z1j (l : E0) (s : I0) : Option (Bool) := Z61 N (Z2a N N) l s
def Z4e (l : E0) (s : I0) (x : Int) : Option (Bool) :=
 (Z4d N s x).bind fun r =>
 bif (!r) then
  grd (appOk [] s 8) <|
  grd (appOk s [x] 8) <|
  (Z1j N l (s ++ [x])).bind fun r2 =>
  some r2
 else
 some false
def Z26 (rec_ : Int -> E0 -> I0 -> Int -> Option (Bool)) (n2 : Int) (l2 : E0) (s2 : I0) (x : Int) : Option (Bool) :=
 bif decide (x < n2) then
  (Z4e N l2 s2 x).bind fun r4 =>
  bif r4 then some false
  else
  rec_ n2 l2 s2 (w64 (x + 1))
 else
 some true
def Z10 (N : Nat) : Nat -> Int -> E0 -> I0 -> Int -> Option (Bool)
 | 0, _, _, _, _ => none
 | k_ + 1, n2, l2, s2, x => Z26 N (Z10 N k_) n2 l2 s2 x
def Z4g (Z6p : Int -> E0 -> I0 -> Int -> Option (Bool)) (n : Int) (l : E0) (s : I0) : Option (Bool) :=
 (Z1i N n l).bind fun r =>
 bif (!r) then some false
 else
 (Z60 N n s).bind fun r2 =>
 bif (!r2) then some false
 else
 (Z1j N l s).bind fun r3 =>
 bif (!r3) then some false
 else
 Z6p n l s 0
def Z0x (n : Int) (l : E0) (s : I0) : Option (Bool) := Z4g N (Z10 N N) n l s
def Z62 (N : Nat) (Rf : Int -> E0 -> I0 -> Int -> Option L0) (rec_ : Int -> E0 -> I0 -> Int -> L0 -> Bool -> Int -> Option L0) (n2 : Int) (l2 : E0) (s2 : I0) (x2 : Int) (out : L0) (met : Bool) (i : Int) : Option L0 :=
 bif decide (i < (l2.length : Int)) then
  bif met then rec_ n2 l2 s2 x2 out true (w64 (i + 1))
  else
  grd (inb i l2) <|
  bif (((at_ (0, 0) l2 i).1) == x2) then rec_ n2 l2 s2 x2 out true (w64 (i + 1))
  else
  grd (inb i l2) <|
  rec_ n2 l2 s2 x2 out (((at_ (0, 0) l2 i).2) == x2) (w64 (i + 1))
 else
 bif met then
  (Rf n2 l2 s2 (w64 (x2 + 1))).bind fun r4 =>
  grd (appOk out r4 24) <|
  some (out ++ r4)
 else
 some out
def Z45 (N : Nat) (Rf : Int -> E0 -> I0 -> Int -> Option L0) : Nat -> Int -> E0 -> I0 -> Int -> L0 -> Bool -> Int -> Option L0
 | 0, _, _, _, _, _, _, _ => none
 | k_ + 1, n2, l2, s2, x2, out, met, i => Z62 N Rf (Z45 N Rf k_) n2 l2 s2 x2 out met i
def Z6f (Rf : Int -> E0 -> I0 -> Int -> Option L0) (Z7h : Int -> E0 -> I0 -> Int -> L0 -> Bool -> Int -> Option L0) (n : Int) (l : E0) (s : I0) (x : Int) : Option L0 :=
 bif (x == n) then
  (Z0x N n l s).bind fun r =>
  bif r then
   grd (appOk [] s 8) <|
   some [s]
  else
  some []
 else
 (Z4e N l s x).bind fun r2 =>
 bif r2 then
  grd (appOk [] s 8) <|
  grd (appOk s [x] 8) <|
  (Rf n l (s ++ [x]) (w64 (x + 1))).bind fun r3 =>
  Z7h n l s x r3 false 0
 else
 Z7h n l s x [] false 0
def Z2n (N : Nat) : Nat -> Int -> E0 -> I0 -> Int -> Option L0
 | 0, _, _, _, _ => none
 | k_ + 1, n, l, s, x => Z6f N (Z2n N k_) (Z45 N (Z2n N k_) N) n l s x
def Z66 (n : Int) (l : E0) (s : I0) (x : Int) : Option L0 := Z2n N N n l s x
def Z0k (n : Int) (l : E0) : Option L0 :=
 (Z1i N n l).bind fun r =>
 bif (!r) then some []
 else
 (Z66 N n l [] 0).bind fun r2 =>
 some r2
def Z2j (d : D0) (l : List C0) : Option L0 :=
 (Z8 N d).bind fun r =>
 bif (!r) then some []
 else
 (Z2i N d l).bind fun r2 =>
 (Z0k N (d.2.length : Int) r2).bind fun r3 =>
 some r3
def Z2p (N : Nat) (rec_ : I0 -> L0 -> L0 -> Int -> Int -> Option L0) (outx : I0) (out3 : L0) (all3 : L0) (n3 : Int) (i3 : Int) : Option L0 :=
 bif decide (i3 < (all3.length : Int)) then
  grd (inb i3 all3) <|
  bif (((at_ [] all3 i3).length : Int) == n3) then
   grd (inb i3 all3) <|
   grd (selOk outx i3 out3 24) <|
   rec_ (outx ++ [i3]) (out3 ++ [(at_ [] all3 i3)]) all3 n3 (w64 (i3 + 1))
  else
  rec_ outx out3 all3 n3 (w64 (i3 + 1))
 else
 some out3
def Z1c (N : Nat) : Nat -> I0 -> L0 -> L0 -> Int -> Int -> Option L0
 | 0, _, _, _, _, _ => none
 | k_ + 1, outx, out3, all3, n3, i3 => Z2p N (Z1c N k_) outx out3 all3 n3 i3
def Z2q (N : Nat) (Z6x : I0 -> L0 -> L0 -> Int -> Int -> Option L0) (rec_ : L0 -> L0 -> Int -> Int -> Option L0) (out2 : L0) (all2 : L0) (n2 : Int) (i2 : Int) : Option L0 :=
 bif decide (i2 < (all2.length : Int)) then
  grd (inb i2 all2) <|
  bif (((at_ [] all2 i2).length : Int) == n2) then
   grd (inb i2 all2) <|
   grd (selOk0 out2 24) <|
   Z6x [i2] [(at_ [] all2 i2)] all2 n2 (w64 (i2 + 1))
  else
  rec_ out2 all2 n2 (w64 (i2 + 1))
 else
 some out2
def Z1d (N : Nat) : Nat -> L0 -> L0 -> Int -> Int -> Option L0
 | 0, _, _, _, _ => none
 | k_ + 1, out2, all2, n2, i2 => Z2q N (Z1c N k_) (Z1d N k_) out2 all2 n2 i2
def Z2r (N : Nat) (Z6y : L0 -> L0 -> Int -> Int -> Option L0) (rec_ : L0 -> L0 -> Int -> Int -> Option L0) (out : L0) (all : L0) (n : Int) (i : Int) : Option L0 :=
 bif decide (i < (all.length : Int)) then
  grd (inb i all) <|
  rec_ out all (imax n ((at_ [] all i).length : Int)) (w64 (i + 1))
 else
 Z6y out all n 0
def Z1e (N : Nat) : Nat -> L0 -> L0 -> Int -> Int -> Option L0
 | 0, _, _, _, _ => none
 | k_ + 1, out, all, n, i => Z2r N (Z1d N N) (Z1e N k_) out all n i
def Z4v (Z6z : L0 -> L0 -> Int -> Int -> Option L0) (d : D0) (l : List C0) : Option L0 :=
 (Z2j N d l).bind fun r =>
 Z6z [] r 0 0
def Z19 (d : D0) (l : List C0) : Option L0 := Z4v N (Z1e N N) d l
def Z5 (N : Nat) (n : Int) (low : Int) (high : Int) : Option (Bool) :=
 bif decide (low <= n) then some (decide (n <= high))
 else
 some false
def Z1y (relation : ByteArray × Int × Int) : Option (Bool) :=
 bif ((relation.1.size : Int) == 1) then
  (byteAt relation.1 0).bind fun b =>
  bif decide ((b.toNat : Int) >= 97) then
   (byteAt relation.1 0).bind fun b2 =>
   bif decide ((b2.toNat : Int) <= 122) then
    (Z5 N relation.2.1 1 3).bind fun r =>
    bif r then
     (Z5 N relation.2.2 0 relation.2.1).bind fun r2 =>
     some r2
    else
    some false
   else
   some false
  else
  some false
 else
 some false
def Z2z (rec_ : R0 -> R0 -> Int -> Int -> Option (Bool)) (relations2 : R0) (t5 : R0) (t6 : Int) (t7 : Int) : Option (Bool) :=
 bif decide (t7 < t6) then
  grd (inb t7 t5) <|
  (Z1y N ((at_ (⟨#[]⟩, (0, 0)) t5 t7).1, ((at_ (⟨#[]⟩, (0, 0)) t5 t7).2))).bind fun r =>
  bif (!r) then some false
  else
  bif decide (t7 > 0) then
   grd (inb (w64 (t7 - 1)) relations2) <|
   bif (!slt ((at_ (⟨#[]⟩, (0, 0)) relations2 (w64 (t7 - 1))).1) ((at_ (⟨#[]⟩, (0, 0)) t5 t7).1)) then some false
   else
   rec_ relations2 t5 t6 (w64 (t7 + 1))
  else
  rec_ relations2 t5 t6 (w64 (t7 + 1))
 else
 some (decide ((relations2.length : Int) <= 4))
def Z1n (N : Nat) : Nat -> R0 -> R0 -> Int -> Int -> Option (Bool)
 | 0, _, _, _, _ => none
 | k_ + 1, relations2, t5, t6, t7 => Z2z N (Z1n N k_) relations2 t5 t6 t7
def Z55 (N : Nat) (Z77 : R0 -> R0 -> Int -> Int -> Option (Bool)) (relations : R0) : Option (Bool) :=
 Z77 relations relations (relations.length : Int) 0
def Z1l (relations : R0) : Option (Bool) := Z55 N (Z1n N N) relations
def Z3t (v : Int) : Option (Bool) :=
 (Z5 N v 0 9).bind fun r =>
 some (!r)
def Z0n (rec_ : I0 -> Int -> Int -> Option (Int)) (s2 : I0) (t7 : Int) (t8 : Int) : Option (Int) :=
 bif decide (t8 < t7) then
  grd (inb t8 s2) <|
  (Z3t N (at_ 0 s2 t8)).bind fun r =>
  bif r then some t8
  else
  rec_ s2 t7 (w64 (t8 + 1))
 else
 some (-1)
def Z6 (N : Nat) : Nat -> I0 -> Int -> Int -> Option (Int)
 | 0, _, _, _ => none
 | k_ + 1, s2, t7, t8 => Z0n N (Z6 N k_) s2 t7 t8
def Z1z (N : Nat) (Z5v : I0 -> Int -> Int -> Option (Int)) (s : I0) : Option (Int) :=
 Z5v s (s.length : Int) 0
def Z9 (s : I0) : Option (Int) := Z1z N (Z6 N N) s
def Z7 (s : I0) : Option (Bool) :=
 (Z9 N s).bind fun r =>
 some (decide (r >= 0))
def Z46 (list : I0) : Option (Bool) :=
 (Z7 N list).bind fun r =>
 some (!r)
def Z5o (relations : R0) (fact : Int × List Int) : Option (Bool) :=
 (Z5 N fact.1 0 (w64 ((relations.length : Int) - 1))).bind fun r =>
 bif r then
  grd (inb fact.1 relations) <|
  bif ((fact.2.length : Int) == (((at_ (⟨#[]⟩, (0, 0)) relations fact.1).2).1)) then
   (Z46 N fact.2).bind fun r2 =>
   some r2
  else
  some false
 else
 some false
def Z5w (N : Nat) (a : Int) (b : Int) : Option (Int) :=
 bif decide (a < b) then some (-1)
 else
 bif decide (a > b) then some 1
 else
 some 0
def Z4s (N : Nat) (x : Int) : Option (Bool) :=
 some (x != x)
def Z3o (x : Int) (y : Int) : Option (Int) :=
 (Z4s N x).bind fun r =>
 (Z4s N y).bind fun r2 =>
 bif r then
  bif r2 then some 0
  else
  some (-1)
 else
 bif r2 then some 1
 else
 bif decide (x < y) then some (-1)
 else
 bif decide (x > y) then some 1
 else
 some 0
def Z1o (rec_ : I0 -> I0 -> I0 -> Int -> Int -> Option (Int)) (s12 : I0) (s22 : I0) (t9 : I0) (t10 : Int) (t11 : Int) : Option (Int) :=
 bif decide (t11 < t10) then
  grd (inb t11 t9) <|
  bif decide (t11 >= (s22.length : Int)) then some 1
  else
  grd (inb t11 s22) <|
  (Z3o N (at_ 0 t9 t11) (at_ 0 s22 t11)).bind fun r =>
  bif (r != 0) then some r
  else
  rec_ s12 s22 t9 t10 (w64 (t11 + 1))
 else
 bif decide ((s12.length : Int) < (s22.length : Int)) then some (-1)
 else
 some 0
def Z0r (N : Nat) : Nat -> I0 -> I0 -> I0 -> Int -> Int -> Option (Int)
 | 0, _, _, _, _, _ => none
 | k_ + 1, s12, s22, t9, t10, t11 => Z1o N (Z0r N k_) s12 s22 t9 t10 t11
def Z4w (N : Nat) (Z70 : I0 -> I0 -> I0 -> Int -> Int -> Option (Int)) (s1 : I0) (s2 : I0) : Option (Int) :=
 Z70 s1 s2 s1 (s1.length : Int) 0
def Z1a (s1 : I0) (s2 : I0) : Option (Int) := Z4w N (Z0r N N) s1 s2
def Z2x (a : Int × List Int) (b : Int × List Int) : Option (Int) :=
 bif (a.1 != b.1) then
  (Z5w N a.1 b.1).bind fun r =>
  some r
 else
 (Z1a N a.2 b.2).bind fun r2 =>
 some r2
def Z3k (rec_ : R0 -> A0 -> A0 -> Int -> Int -> Option (Bool)) (db2 : R0) (db3 : A0) (t16 : A0) (t17 : Int) (t18 : Int) : Option (Bool) :=
 bif decide (t18 < t17) then
  grd (inb t18 t16) <|
  (Z5o N db2 (at_ (0, []) t16 t18)).bind fun r2 =>
  bif (!r2) then some false
  else
  bif decide (t18 > 0) then
   grd (inb (w64 (t18 - 1)) db3) <|
   (Z2x N (at_ (0, []) db3 (w64 (t18 - 1))) (at_ (0, []) t16 t18)).bind fun r3 =>
   bif decide (r3 >= 0) then some false
   else
   rec_ db2 db3 t16 t17 (w64 (t18 + 1))
  else
  rec_ db2 db3 t16 t17 (w64 (t18 + 1))
 else
 some true
def Z1x (N : Nat) : Nat -> R0 -> A0 -> A0 -> Int -> Int -> Option (Bool)
 | 0, _, _, _, _, _ => none
 | k_ + 1, db2, db3, t16, t17, t18 => Z3k N (Z1x N k_) db2 db3 t16 t17 t18
def Z5p (Z7f : R0 -> A0 -> A0 -> Int -> Int -> Option (Bool)) (db : D0) : Option (Bool) :=
 (Z1l N db.1).bind fun r =>
 bif (!r) then some false
 else
 bif decide ((db.2.length : Int) > 14) then some false
 else
 Z7f db.1 db.2 db.2 (db.2.length : Int) 0
def Z0h (db : D0) : Option (Bool) := Z5p N (Z1x N N) db
def Z1m (db : D0) (constraint : C0) : Option (Bool) :=
 (Z0h N db).bind fun r =>
 bif (!r) then some false
 else
 (Z5 N constraint.1 0 (w64 ((db.1.length : Int) - 1))).bind fun r2 =>
 bif (!r2) then some false
 else
 (Z5 N constraint.2.1 0 (w64 ((db.1.length : Int) - 1))).bind fun r3 =>
 bif (!r3) then some false
 else
 grd (inb constraint.1 db.1) <|
 grd (inb constraint.2.1 db.1) <|
 (Z5 N constraint.2.2.1 0 (w64 ((((at_ (⟨#[]⟩, (0, 0)) db.1 constraint.1).2).1) - 1))).bind fun r4 =>
 bif r4 then
  (Z5 N constraint.2.2.2.2.1 0 (w64 ((((at_ (⟨#[]⟩, (0, 0)) db.1 constraint.1).2).1) - 1))).bind fun r5 =>
  bif r5 then
   (Z5 N constraint.2.2.2.1 0 (w64 ((((at_ (⟨#[]⟩, (0, 0)) db.1 constraint.2.1).2).1) - 1))).bind fun r6 =>
   bif r6 then
    (Z5 N constraint.2.2.2.2.2.1 0 (w64 ((((at_ (⟨#[]⟩, (0, 0)) db.1 constraint.2.1).2).1) - 1))).bind fun r7 =>
    bif r7 then
     (Z5 N constraint.2.2.2.2.2.2 1 2).bind fun r8 =>
     some r8
    else
    some false
   else
   some false
  else
  some false
 else
 some false
def Z5g (N : Nat) (c : C0) (a : Int × List Int) (b : Int × List Int) : Option (Bool) :=
 bif (a.1 != c.1) then some false
 else
 bif (b.1 != c.2.1) then some false
 else
 grd (inb c.2.2.1 a.2) <|
 grd (inb c.2.2.2.1 b.2) <|
 bif ((at_ 0 a.2 c.2.2.1) != (at_ 0 b.2 c.2.2.2.1)) then some false
 else
 grd (inb c.2.2.2.2.1 a.2) <|
 grd (inb c.2.2.2.2.2.1 b.2) <|
 bif (c.2.2.2.2.2.2 == 1) then
  bif ((at_ 0 a.2 c.2.2.2.2.1) == (at_ 0 b.2 c.2.2.2.2.2.1)) then some true
  else
  bif (c.2.2.2.2.2.2 == 2) then
   some (decide ((at_ 0 a.2 c.2.2.2.2.1) < (at_ 0 b.2 c.2.2.2.2.2.1)))
  else
  some false
 else
 bif (c.2.2.2.2.2.2 == 2) then
  some (decide ((at_ 0 a.2 c.2.2.2.2.1) < (at_ 0 b.2 c.2.2.2.2.2.1)))
 else
 some false
def Z0u (db : D0) (constraint : C0) (first : Int) (second : Int) : Option (Bool) :=
 (Z1m N db constraint).bind fun r =>
 bif r then
  bif (first != second) then
   (Z5 N first 0 (w64 ((db.2.length : Int) - 1))).bind fun r2 =>
   bif r2 then
    (Z5 N second 0 (w64 ((db.2.length : Int) - 1))).bind fun r3 =>
    bif r3 then
     grd (inb first db.2) <|
     grd (inb second db.2) <|
     (Z5g N constraint (at_ (0, []) db.2 first) (at_ (0, []) db.2 second)).bind fun r4 =>
     some r4
    else
    some false
   else
   some false
  else
  some false
 else
 some false
def Z36 (N : Nat) (rec_ : I0 -> I0 -> Int -> Int -> Option (Bool)) (s12 : I0) (s22 : I0) (t12 : Int) (t13 : Int) : Option (Bool) :=
 bif decide (t13 < t12) then
  grd (inb t13 s12) <|
  grd (inb t13 s22) <|
  bif ((at_ 0 s12 t13) != (at_ 0 s22 t13)) then some false
  else
  rec_ s12 s22 t12 (w64 (t13 + 1))
 else
 some true
def Z1p (N : Nat) : Nat -> I0 -> I0 -> Int -> Int -> Option (Bool)
 | 0, _, _, _, _ => none
 | k_ + 1, s12, s22, t12, t13 => Z36 N (Z1p N k_) s12 s22 t12 t13
def Z5b (N : Nat) (Z79 : I0 -> I0 -> Int -> Int -> Option (Bool)) (s1 : I0) (s2 : I0) : Option (Bool) :=
 bif ((s1.length : Int) != (s2.length : Int)) then some false
 else
 Z79 s1 s2 (s1.length : Int) 0
def Z1q (s1 : I0) (s2 : I0) : Option (Bool) := Z5b N (Z1p N N) s1 s2
def Z56 (relations : R0) (a : Int × List Int) (b : Int × List Int) : Option (Bool) :=
 bif (a.1 != b.1) then some false
 else
 grd (inb a.1 relations) <|
 grd (subOk 0 (((at_ (⟨#[]⟩, (0, 0)) relations a.1).2).2) a.2.length) <|
 grd (subOk 0 (((at_ (⟨#[]⟩, (0, 0)) relations a.1).2).2) b.2.length) <|
 (Z1q N (a.2.take (((at_ (⟨#[]⟩, (0, 0)) relations a.1).2).2).toNat) (b.2.take (((at_ (⟨#[]⟩, (0, 0)) relations a.1).2).2).toNat)).bind fun r =>
 some r
def Z37 (rec_ : Int -> Int -> R0 -> A0 -> (List C0) -> Int -> Int -> Option (Bool)) (a2 : Int) (b2 : Int) (t3 : R0) (t32 : A0) (t9 : List C0) (t10 : Int) (t11 : Int) : Option (Bool) :=
 bif decide (t11 < t10) then
  grd (inb t11 t9) <|
  (Z0u N (t3, t32) ((at_ (0, (0, (0, (0, (0, (0, 0)))))) t9 t11).1, ((at_ (0, (0, (0, (0, (0, (0, 0)))))) t9 t11).2).1, (((at_ (0, (0, (0, (0, (0, (0, 0)))))) t9 t11).2).2).1, ((((at_ (0, (0, (0, (0, (0, (0, 0)))))) t9 t11).2).2).2).1, (((((at_ (0, (0, (0, (0, (0, (0, 0)))))) t9 t11).2).2).2).2).1, ((((((at_ (0, (0, (0, (0, (0, (0, 0)))))) t9 t11).2).2).2).2).2)) a2 b2).bind fun r =>
  bif r then some true
  else
  (Z0u N (t3, t32) ((at_ (0, (0, (0, (0, (0, (0, 0)))))) t9 t11).1, ((at_ (0, (0, (0, (0, (0, (0, 0)))))) t9 t11).2).1, (((at_ (0, (0, (0, (0, (0, (0, 0)))))) t9 t11).2).2).1, ((((at_ (0, (0, (0, (0, (0, (0, 0)))))) t9 t11).2).2).2).1, (((((at_ (0, (0, (0, (0, (0, (0, 0)))))) t9 t11).2).2).2).2).1, ((((((at_ (0, (0, (0, (0, (0, (0, 0)))))) t9 t11).2).2).2).2).2)) b2 a2).bind fun r2 =>
  bif r2 then some true
  else
  rec_ a2 b2 t3 t32 t9 t10 (w64 (t11 + 1))
 else
 grd (inb a2 t32) <|
 grd (inb b2 t32) <|
 (Z56 N t3 (at_ (0, []) t32 a2) (at_ (0, []) t32 b2)).bind fun r3 =>
 some r3
def Z1r (N : Nat) : Nat -> Int -> Int -> R0 -> A0 -> (List C0) -> Int -> Int -> Option (Bool)
 | 0, _, _, _, _, _, _, _ => none
 | k_ + 1, a2, b2, t3, t32, t9, t10, t11 => Z37 N (Z1r N k_) a2 b2 t3 t32 t9 t10 t11
def Z5c (N : Nat) (Z7a : Int -> Int -> R0 -> A0 -> (List C0) -> Int -> Int -> Option (Bool)) (a : Int) (b : Int) (c2 : List C0) (c3 : D0) : Option (Bool) :=
 Z7a a b c3.1 c3.2 c2 (c2.length : Int) 0
def Z1s (a : Int) (b : Int) (c2 : List C0) (c3 : D0) : Option (Bool) := Z5c N (Z1r N N) a b c2 c3
def Z20 (Z23 : Int -> (List C0) -> D0 -> E0 -> Int -> Int -> Option E0) (rec_ : Int -> (List C0) -> D0 -> E0 -> Int -> Int -> Int -> Int -> Option E0) (n3 : Int) (holds3 : List C0) (holds4 : D0) (out2 : E0) (a : Int) (b : Int) (t92 : Int) (t102 : Int) : Option E0 :=
 bif decide (b < n3) then
  (Z1s N a b holds3 holds4).bind fun r =>
  bif r then
   grd (appOk out2 [(a, b)] 16) <|
   rec_ n3 holds3 holds4 (out2 ++ [(a, b)]) a (w64 (b + 1)) t92 t102
  else
  rec_ n3 holds3 holds4 out2 a (w64 (b + 1)) t92 t102
 else
 Z23 n3 holds3 holds4 out2 t92 (w64 (t102 + 1))
def Z0i (Z23 : Int -> (List C0) -> D0 -> E0 -> Int -> Int -> Option E0) (N : Nat) : Nat -> Int -> (List C0) -> D0 -> E0 -> Int -> Int -> Int -> Int -> Option E0
 | 0, _, _, _, _, _, _, _, _ => none
 | k_ + 1, n3, holds3, holds4, out2, a, b, t92, t102 => Z20 N Z23 (Z0i Z23 N k_) n3 holds3 holds4 out2 a b t92 t102
def Z21 (N : Nat) (Z6j : Int -> (List C0) -> D0 -> E0 -> Int -> Int -> Int -> Int -> Option E0) (rec_ : Int -> (List C0) -> D0 -> E0 -> Int -> Int -> Option E0) (n2 : Int) (holds : List C0) (holds2 : D0) (out : E0) (t9 : Int) (t10 : Int) : Option E0 :=
 bif decide (t10 < t9) then
  Z6j n2 holds holds2 out t10 (w64 (t10 + 1)) t9 t10
 else
 some out
def Z0j (N : Nat) : Nat -> Int -> (List C0) -> D0 -> E0 -> Int -> Int -> Option E0
 | 0, _, _, _, _, _, _ => none
 | k_ + 1, n2, holds, holds2, out, t9, t10 => Z21 N (Z0i (Z0j N k_) N N) (Z0j N k_) n2 holds holds2 out t9 t10
def Z3x (N : Nat) (Z6k : Int -> (List C0) -> D0 -> E0 -> Int -> Int -> Option E0) (n : Int) (c : List C0) (c2 : D0) : Option E0 :=
 Z6k n c c2 [] n 0
def Z17 (n : Int) (c : List C0) (c2 : D0) : Option E0 := Z3x N (Z0j N N) n c c2
def Z2k (db : D0) (constraints : List C0) : Option E0 :=
 (Z0h N db).bind fun r =>
 bif (!r) then some []
 else
 (Z17 N (db.2.length : Int) constraints db).bind fun r2 =>
 some r2
def Z42 (N : Nat) (rec_ : Int -> E0 -> E0 -> Int -> Int -> Option (Bool)) (n2 : Int) (edges2 : E0) (t10 : E0) (t11 : Int) (t12 : Int) : Option (Bool) :=
 bif decide (t12 < t11) then
  grd (inb t12 t10) <|
  bif decide (((at_ (0, 0) t10 t12).1) < 0) then some false
  else
  bif decide (((at_ (0, 0) t10 t12).1) >= ((at_ (0, 0) t10 t12).2)) then some false
  else
  bif decide (((at_ (0, 0) t10 t12).2) >= n2) then some false
  else
  bif decide (t12 > 0) then
   grd (inb (w64 (t12 - 1)) edges2) <|
   bif decide (((at_ (0, 0) edges2 (w64 (t12 - 1))).1) > ((at_ (0, 0) t10 t12).1)) then some false
   else
   grd (inb (w64 (t12 - 1)) edges2) <|
   bif (((at_ (0, 0) edges2 (w64 (t12 - 1))).1) == ((at_ (0, 0) t10 t12).1)) then
    grd (inb (w64 (t12 - 1)) edges2) <|
    bif decide (((at_ (0, 0) edges2 (w64 (t12 - 1))).2) >= ((at_ (0, 0) t10 t12).2)) then some false
    else
    rec_ n2 edges2 t10 t11 (w64 (t12 + 1))
   else
   rec_ n2 edges2 t10 t11 (w64 (t12 + 1))
  else
  rec_ n2 edges2 t10 t11 (w64 (t12 + 1))
 else
 some true
def Z2b (N : Nat) : Nat -> Int -> E0 -> E0 -> Int -> Int -> Option (Bool)
 | 0, _, _, _, _, _ => none
 | k_ + 1, n2, edges2, t10, t11, t12 => Z42 N (Z2b N k_) n2 edges2 t10 t11 t12
def Z63 (Z7n : Int -> E0 -> E0 -> Int -> Int -> Option (Bool)) (n : Int) (edges : E0) : Option (Bool) :=
 (Z5 N n 0 14).bind fun r =>
 bif (!r) then some false
 else
 Z7n n edges edges (edges.length : Int) 0
def Z1k (n : Int) (edges : E0) : Option (Bool) := Z63 N (Z2b N N) n edges
def Z4x (rec_ : I0 -> Int -> I0 -> Int -> Int -> Option (Bool)) (indices2 : I0) (n2 : Int) (t7 : I0) (t8 : Int) (t9 : Int) : Option (Bool) :=
 bif decide (t9 < t8) then
  grd (inb t9 t7) <|
  (Z5 N (at_ 0 t7 t9) 0 (w64 (n2 - 1))).bind fun r =>
  bif (!r) then some false
  else
  bif decide (t9 > 0) then
   grd (inb (w64 (t9 - 1)) indices2) <|
   bif decide ((at_ 0 indices2 (w64 (t9 - 1))) >= (at_ 0 t7 t9)) then some false
   else
   rec_ indices2 n2 t7 t8 (w64 (t9 + 1))
  else
  rec_ indices2 n2 t7 t8 (w64 (t9 + 1))
 else
 some true
def Z3h (N : Nat) : Nat -> I0 -> Int -> I0 -> Int -> Int -> Option (Bool)
 | 0, _, _, _, _, _ => none
 | k_ + 1, indices2, n2, t7, t8, t9 => Z4x N (Z3h N k_) indices2 n2 t7 t8 t9
def Z6e (N : Nat) (Z7t : I0 -> Int -> I0 -> Int -> Int -> Option (Bool)) (indices : I0) (n : Int) : Option (Bool) :=
 Z7t indices n indices (indices.length : Int) 0
def Z3p (indices : I0) (n : Int) : Option (Bool) := Z6e N (Z3h N N) indices n
def Z38 (N : Nat) (rec_ : I0 -> Int -> Int -> Int -> Option (Int)) (s2 : I0) (v2 : Int) (t7 : Int) (t8 : Int) : Option (Int) :=
 bif decide (t8 < t7) then
  grd (inb t8 s2) <|
  bif (v2 == (at_ 0 s2 t8)) then some t8
  else
  rec_ s2 v2 t7 (w64 (t8 + 1))
 else
 some (-1)
def Z1t (N : Nat) : Nat -> I0 -> Int -> Int -> Int -> Option (Int)
 | 0, _, _, _, _ => none
 | k_ + 1, s2, v2, t7, t8 => Z38 N (Z1t N k_) s2 v2 t7 t8
def Z5d (N : Nat) (Z7b : I0 -> Int -> Int -> Int -> Option (Int)) (s : I0) (v : Int) : Option (Int) :=
 Z7b s v (s.length : Int) 0
def Z2c (s : I0) (v : Int) : Option (Int) := Z5d N (Z1t N N) s v
def Z0b (s : I0) (v : Int) : Option (Bool) :=
 (Z2c N s v).bind fun r =>
 some (decide (r >= 0))
def Z2d (e : Int × Int) (c1 : I0) : Option (Bool) :=
 (Z0b N c1 e.1).bind fun r =>
 bif r then
  (Z0b N c1 e.2).bind fun r2 =>
  some r2
 else
 some false
def Z3 (rec_ : E0 -> I0 -> Int -> Int -> Option (Int)) (s2 : E0) (f : I0) (t7 : Int) (t8 : Int) : Option (Int) :=
 bif decide (t8 < t7) then
  grd (inb t8 s2) <|
  (Z2d N (at_ (0, 0) s2 t8) f).bind fun r =>
  bif r then some t8
  else
  rec_ s2 f t7 (w64 (t8 + 1))
 else
 some (-1)
def Z0 (N : Nat) : Nat -> E0 -> I0 -> Int -> Int -> Option (Int)
 | 0, _, _, _, _ => none
 | k_ + 1, s2, f, t7, t8 => Z3 N (Z0 N k_) s2 f t7 t8
def Z0f (N : Nat) (Z3d : E0 -> I0 -> Int -> Int -> Option (Int)) (s : E0) (c : I0) : Option (Int) :=
 Z3d s c (s.length : Int) 0
def Z2 (s : E0) (c : I0) : Option (Int) := Z0f N (Z0 N N) s c
def Z1 (s : E0) (c : I0) : Option (Bool) :=
 (Z2 N s c).bind fun r =>
 some (decide (r >= 0))
def Z0l (edges : E0) (set : I0) : Option (Bool) :=
 (Z1 N edges set).bind fun r =>
 some (!r)
def Z2e (n : Int) (edges : E0) (set : I0) : Option (Bool) :=
 (Z1k N n edges).bind fun r =>
 bif r then
  (Z3p N set n).bind fun r2 =>
  bif r2 then
   (Z0l N edges set).bind fun r3 =>
   some r3
  else
  some false
 else
 some false
def Z27 (rec_ : E0 -> I0 -> Int -> Int -> Option (Bool)) (edges2 : E0) (set2 : I0) (t13 : Int) (t14 : Int) : Option (Bool) :=
 bif decide (t14 < t13) then
  (Z0b N set2 t14).bind fun r2 =>
  bif (!r2) then
   (Z3g N set2).bind fun r3 =>
   grd (appOk r3 [t14] 8) <|
   (Z0l N edges2 (r3 ++ [t14])).bind fun r4 =>
   bif r4 then some false
   else
   rec_ edges2 set2 t13 (w64 (t14 + 1))
  else
  rec_ edges2 set2 t13 (w64 (t14 + 1))
 else
 some true
def Z11 (N : Nat) : Nat -> E0 -> I0 -> Int -> Int -> Option (Bool)
 | 0, _, _, _, _ => none
 | k_ + 1, edges2, set2, t13, t14 => Z27 N (Z11 N k_) edges2 set2 t13 t14
def Z4h (Z6q : E0 -> I0 -> Int -> Int -> Option (Bool)) (n : Int) (edges : E0) (set : I0) : Option (Bool) :=
 (Z2e N n edges set).bind fun r =>
 bif (!r) then some false
 else
 Z6q edges set n 0
def Z0y (n : Int) (edges : E0) (set : I0) : Option (Bool) := Z4h N (Z11 N N) n edges set
def Z22 (Rf : Int -> I0 -> Int -> E0 -> L0 -> Int -> E0 -> Option L0) (v : Int) (set : I0) (c2 : Int) (c3 : E0) (c4 : L0) (sc2 : Int) (sc3 : E0) : Option L0 :=
 bif (v == c2) then
  (Z0y N c2 c3 set).bind fun r =>
  bif r then
   grd (appOk [] set 8) <|
   grd (appOk c4 [set] 24) <|
   some (c4 ++ [set])
  else
  some c4
 else
 (Z3g N set).bind fun r2 =>
 grd (appOk r2 [v] 8) <|
 (Z0l N c3 (r2 ++ [v])).bind fun r3 =>
 bif r3 then
  (Rf (w64 (v + 1)) (r2 ++ [v]) sc2 sc3 c4 sc2 sc3).bind fun m =>
  (Rf (w64 (v + 1)) set sc2 sc3 m sc2 sc3).bind fun m2 =>
  some m2
 else
 (Rf (w64 (v + 1)) set sc2 sc3 c4 sc2 sc3).bind fun m3 =>
 some m3
def Z0d (N : Nat) : Nat -> Int -> I0 -> Int -> E0 -> L0 -> Int -> E0 -> Option L0
 | 0, _, _, _, _, _, _, _ => none
 | k_ + 1, v, set, c2, c3, c4, sc2, sc3 => Z22 N (Z0d N k_) v set c2 c3 c4 sc2 sc3
def Z0p (v : Int) (set : I0) (c2 : Int) (c3 : E0) (c4 : L0) (sc2 : Int) (sc3 : E0) : Option L0 := Z0d N N v set c2 c3 c4 sc2 sc3
def Z0m (n : Int) (edges : E0) : Option L0 :=
 (Z1k N n edges).bind fun r =>
 bif (!r) then some []
 else
 (Z0p N 0 [] n edges [] n edges).bind fun m =>
 some m
def Z2l (db : D0) (constraints : List C0) : Option L0 :=
 (Z0h N db).bind fun r =>
 bif (!r) then some []
 else
 (Z2k N db constraints).bind fun r2 =>
 (Z0m N (db.2.length : Int) r2).bind fun r3 =>
 some r3
def Z2s (N : Nat) (rec_ : Int -> L0 -> I0 -> L0 -> L0 -> Int -> Int -> Option L0) (most3 : Int) (sets3 : L0) (outx : I0) (out3 : L0) (t272 : L0) (t282 : Int) (t292 : Int) : Option L0 :=
 bif decide (t292 < t282) then
  grd (inb t292 t272) <|
  bif (((at_ [] t272 t292).length : Int) == most3) then
   grd (selOk outx t292 out3 24) <|
   rec_ most3 sets3 (outx ++ [t292]) (out3 ++ [(at_ [] t272 t292)]) t272 t282 (w64 (t292 + 1))
  else
  rec_ most3 sets3 outx out3 t272 t282 (w64 (t292 + 1))
 else
 some out3
def Z1f (N : Nat) : Nat -> Int -> L0 -> I0 -> L0 -> L0 -> Int -> Int -> Option L0
 | 0, _, _, _, _, _, _, _ => none
 | k_ + 1, most3, sets3, outx, out3, t272, t282, t292 => Z2s N (Z1f N k_) most3 sets3 outx out3 t272 t282 t292
def Z2t (N : Nat) (Z71 : Int -> L0 -> I0 -> L0 -> L0 -> Int -> Int -> Option L0) (rec_ : Int -> L0 -> L0 -> L0 -> Int -> Int -> Option L0) (most2 : Int) (sets2 : L0) (out2 : L0) (t27 : L0) (t28 : Int) (t29 : Int) : Option L0 :=
 bif decide (t29 < t28) then
  grd (inb t29 t27) <|
  bif (((at_ [] t27 t29).length : Int) == most2) then
   grd (selOk0 out2 24) <|
   Z71 most2 sets2 [t29] [(at_ [] t27 t29)] t27 t28 (w64 (t29 + 1))
  else
  rec_ most2 sets2 out2 t27 t28 (w64 (t29 + 1))
 else
 some out2
def Z1g (N : Nat) : Nat -> Int -> L0 -> L0 -> L0 -> Int -> Int -> Option L0
 | 0, _, _, _, _, _, _ => none
 | k_ + 1, most2, sets2, out2, t27, t28, t29 => Z2t N (Z1f N k_) (Z1g N k_) most2 sets2 out2 t27 t28 t29
def Z2u (N : Nat) (Z72 : Int -> L0 -> L0 -> L0 -> Int -> Int -> Option L0) (rec_ : Int -> L0 -> L0 -> L0 -> Int -> Int -> Option L0) (most : Int) (sets : L0) (out : L0) (t16 : L0) (t17 : Int) (t18 : Int) : Option L0 :=
 bif decide (t18 < t17) then
  grd (inb t18 t16) <|
  rec_ (imax most ((at_ [] t16 t18).length : Int)) sets out t16 t17 (w64 (t18 + 1))
 else
 Z72 most sets out sets (sets.length : Int) 0
def Z1h (N : Nat) : Nat -> Int -> L0 -> L0 -> L0 -> Int -> Int -> Option L0
 | 0, _, _, _, _, _, _ => none
 | k_ + 1, most, sets, out, t16, t17, t18 => Z2u N (Z1g N N) (Z1h N k_) most sets out t16 t17 t18
def Z4y (Z73 : Int -> L0 -> L0 -> L0 -> Int -> Int -> Option L0) (db : D0) (constraints : List C0) : Option L0 :=
 (Z2l N db constraints).bind fun r =>
 Z73 0 r [] r (r.length : Int) 0
def Z0v (db : D0) (constraints : List C0) : Option L0 := Z4y N (Z1h N N) db constraints
def Z64 (N : Nat) (rec_ : I0 -> I0 -> Int -> Option (Bool)) (a2 : I0) (b2 : I0) (i : Int) : Option (Bool) :=
 bif decide (i < (a2.length : Int)) then
  grd (inb i a2) <|
  grd (inb i b2) <|
  bif ((at_ 0 a2 i) != (at_ 0 b2 i)) then some false
  else
  rec_ a2 b2 (w64 (i + 1))
 else
 some true
def Z51 (N : Nat) : Nat -> I0 -> I0 -> Int -> Option (Bool)
 | 0, _, _, _ => none
 | k_ + 1, a2, b2, i => Z64 N (Z51 N k_) a2 b2 i
def Z78 (N : Nat) (Z86 : I0 -> I0 -> Int -> Option (Bool)) (a : I0) (b : I0) : Option (Bool) :=
 bif ((a.length : Int) != (b.length : Int)) then some false
 else
 Z86 a b 0
def Z4f (a : I0) (b : I0) : Option (Bool) := Z78 N (Z51 N N) a b
def Z5t (rec_ : L0 -> L0 -> Int -> Option (Bool)) (a2 : L0) (b2 : L0) (i : Int) : Option (Bool) :=
 bif decide (i < (a2.length : Int)) then
  grd (inb i a2) <|
  grd (inb i b2) <|
  (Z4f N (at_ [] a2 i) (at_ [] b2 i)).bind fun r =>
  bif (!r) then some false
  else
  rec_ a2 b2 (w64 (i + 1))
 else
 some true
def Z4o (N : Nat) : Nat -> L0 -> L0 -> Int -> Option (Bool)
 | 0, _, _, _ => none
 | k_ + 1, a2, b2, i => Z5t N (Z4o N k_) a2 b2 i
def Z6u (N : Nat) (Z82 : L0 -> L0 -> Int -> Option (Bool)) (a : L0) (b : L0) : Option (Bool) :=
 bif ((a.length : Int) != (b.length : Int)) then some false
 else
 Z82 a b 0
def Z3q (a : L0) (b : L0) : Option (Bool) := Z6u N (Z4o N N) a b
def Z3r (N : Nat) (a : ByteArray × Int × Int) (b : ByteArray × Int × Int) : Option (Bool) :=
 bif (!seq a.1 b.1) then some false
 else
 bif (a.2.1 != b.2.1) then some false
 else
 bif (a.2.2 != b.2.2) then some false
 else
 some true
def Z4p (rec_ : R0 -> R0 -> Int -> Option (Bool)) (a2 : R0) (b2 : R0) (i : Int) : Option (Bool) :=
 bif decide (i < (a2.length : Int)) then
  grd (inb i a2) <|
  grd (inb i b2) <|
  (Z3r N ((at_ (⟨#[]⟩, (0, 0)) a2 i).1, ((at_ (⟨#[]⟩, (0, 0)) a2 i).2)) ((at_ (⟨#[]⟩, (0, 0)) b2 i).1, ((at_ (⟨#[]⟩, (0, 0)) b2 i).2))).bind fun r =>
  bif (!r) then some false
  else
  rec_ a2 b2 (w64 (i + 1))
 else
 some true
def Z33 (N : Nat) : Nat -> R0 -> R0 -> Int -> Option (Bool)
 | 0, _, _, _ => none
 | k_ + 1, a2, b2, i => Z4p N (Z33 N k_) a2 b2 i
def Z6c (N : Nat) (Z7s : R0 -> R0 -> Int -> Option (Bool)) (a : R0) (b : R0) : Option (Bool) :=
 bif ((a.length : Int) != (b.length : Int)) then some false
 else
 Z7s a b 0
def Z3e (a : R0) (b : R0) : Option (Bool) := Z6c N (Z33 N N) a b
def Z5q (a : Int × List Int) (b : Int × List Int) : Option (Bool) :=
 bif (a.1 != b.1) then some false
 else
 (Z4f N a.2 b.2).bind fun r =>
 bif (!r) then some false
 else
 some true
def Z5u (rec_ : A0 -> A0 -> Int -> Option (Bool)) (a2 : A0) (b2 : A0) (i : Int) : Option (Bool) :=
 bif decide (i < (a2.length : Int)) then
  grd (inb i a2) <|
  grd (inb i b2) <|
  (Z5q N (at_ (0, []) a2 i) (at_ (0, []) b2 i)).bind fun r =>
  bif (!r) then some false
  else
  rec_ a2 b2 (w64 (i + 1))
 else
 some true
def Z4q (N : Nat) : Nat -> A0 -> A0 -> Int -> Option (Bool)
 | 0, _, _, _ => none
 | k_ + 1, a2, b2, i => Z5u N (Z4q N k_) a2 b2 i
def Z6v (N : Nat) (Z83 : A0 -> A0 -> Int -> Option (Bool)) (a : A0) (b : A0) : Option (Bool) :=
 bif ((a.length : Int) != (b.length : Int)) then some false
 else
 Z83 a b 0
def Z57 (a : A0) (b : A0) : Option (Bool) := Z6v N (Z4q N N) a b
def Z3s (a : D0) (b : D0) : Option (Bool) :=
 (Z3e N a.1 b.1).bind fun r =>
 bif (!r) then some false
 else
 (Z57 N a.2 b.2).bind fun r2 =>
 bif (!r2) then some false
 else
 some true
def Z1b (N : Nat) (a : C0) (b : C0) : Option (Bool) :=
 bif (a.1 != b.1) then some false
 else
 bif (a.2.1 != b.2.1) then some false
 else
 bif (a.2.2.1 != b.2.2.1) then some false
 else
 bif (a.2.2.2.1 != b.2.2.2.1) then some false
 else
 bif (a.2.2.2.2.1 != b.2.2.2.2.1) then some false
 else
 bif (a.2.2.2.2.2.1 != b.2.2.2.2.2.1) then some false
 else
 bif (a.2.2.2.2.2.2 != b.2.2.2.2.2.2) then some false
 else
 some true
def Z2h (rec_ : (List C0) -> (List C0) -> Int -> Option (Bool)) (a2 : List C0) (b2 : List C0) (i : Int) : Option (Bool) :=
 bif decide (i < (a2.length : Int)) then
  grd (inb i a2) <|
  grd (inb i b2) <|
  (Z1b N ((at_ (0, (0, (0, (0, (0, (0, 0)))))) a2 i).1, ((at_ (0, (0, (0, (0, (0, (0, 0)))))) a2 i).2).1, (((at_ (0, (0, (0, (0, (0, (0, 0)))))) a2 i).2).2).1, ((((at_ (0, (0, (0, (0, (0, (0, 0)))))) a2 i).2).2).2).1, (((((at_ (0, (0, (0, (0, (0, (0, 0)))))) a2 i).2).2).2).2).1, ((((((at_ (0, (0, (0, (0, (0, (0, 0)))))) a2 i).2).2).2).2).2)) ((at_ (0, (0, (0, (0, (0, (0, 0)))))) b2 i).1, ((at_ (0, (0, (0, (0, (0, (0, 0)))))) b2 i).2).1, (((at_ (0, (0, (0, (0, (0, (0, 0)))))) b2 i).2).2).1, ((((at_ (0, (0, (0, (0, (0, (0, 0)))))) b2 i).2).2).2).1, (((((at_ (0, (0, (0, (0, (0, (0, 0)))))) b2 i).2).2).2).2).1, ((((((at_ (0, (0, (0, (0, (0, (0, 0)))))) b2 i).2).2).2).2).2))).bind fun r =>
  bif (!r) then some false
  else
  rec_ a2 b2 (w64 (i + 1))
 else
 some true
def Z18 (N : Nat) : Nat -> (List C0) -> (List C0) -> Int -> Option (Bool)
 | 0, _, _, _ => none
 | k_ + 1, a2, b2, i => Z2h N (Z18 N k_) a2 b2 i
def Z4t (N : Nat) (Z6w : (List C0) -> (List C0) -> Int -> Option (Bool)) (a : List C0) (b : List C0) : Option (Bool) :=
 bif ((a.length : Int) != (b.length : Int)) then some false
 else
 Z6w a b 0
def Z13 (a : List C0) (b : List C0) : Option (Bool) := Z4t N (Z18 N N) a b
def Z4i (N : Nat) (rec_ : Int -> ByteArray -> Option (ByteArray)) (k2 : Int) (out : ByteArray) : Option (ByteArray) :=
 bif decide (k2 > 0) then
  grz 10 <|
  grd (catOk (ofBytes [(w .u8 (w64 (48 + (k2.tmod 10))))]) out) <|
  grz 10 <|
  rec_ (w64 (k2.tdiv 10)) ((ofBytes [(w .u8 (w64 (48 + (k2.tmod 10))))]) ++ out)
 else
 grd (catOk (⟨#[109]⟩) out) <|
 some ((⟨#[109]⟩) ++ out)
def Z3f (N : Nat) : Nat -> Int -> ByteArray -> Option (ByteArray)
 | 0, _, _ => none
 | k_ + 1, k2, out => Z4i N (Z3f N k_) k2 out
def Z6l (N : Nat) (Z7x : Int -> ByteArray -> Option (ByteArray)) (k : Int) : Option (ByteArray) :=
 bif decide (k <= 0) then some (⟨#[109, 48]⟩)
 else
 Z7x k (⟨#[]⟩)
def Z2o (k : Int) : Option (ByteArray) := Z6l N (Z3f N N) k
def Z43 (rec_ : R0 -> Int -> Int -> Option (R0 × Int)) (a2 : R0) (k2 : Int) (i : Int) : Option (R0 × Int) :=
 bif decide (i < (a2.length : Int)) then
  (Z2o N k2).bind fun r =>
  grd (inb i a2) <|
  grd (inb i a2) <|
  letv (a2.set i.toNat (r, ((at_ (⟨#[]⟩, (0, 0)) a2 i).2))) fun u =>
  grd (inb i u) <|
  grd (inb i u) <|
  letv (u.set i.toNat ((at_ (⟨#[]⟩, (0, 0)) u i).1, (w64 (k2 + 1)), ((at_ (⟨#[]⟩, (0, 0)) u i).2).2)) fun u2 =>
  grd (inb i u2) <|
  grd (inb i u2) <|
  letv (u2.set i.toNat ((at_ (⟨#[]⟩, (0, 0)) u2 i).1, ((at_ (⟨#[]⟩, (0, 0)) u2 i).2).1, (w64 ((w64 (k2 + 1)) + 1)))) fun u3 =>
  rec_ u3 (w64 ((w64 ((w64 (k2 + 1)) + 1)) + 1)) (w64 (i + 1))
 else
 some (a2, k2)
def Z2f (N : Nat) : Nat -> R0 -> Int -> Int -> Option (R0 × Int)
 | 0, _, _, _ => none
 | k_ + 1, a2, k2, i => Z43 N (Z2f N k_) a2 k2 i
def Z65 (N : Nat) (Z7o : R0 -> Int -> Int -> Option (R0 × Int)) (a : R0) (k : Int) : Option (R0 × Int) :=
 Z7o a k 0
def Z2m (a : R0) (k : Int) : Option (R0 × Int) := Z65 N (Z2f N N) a k
def Z5i (N : Nat) (rec_ : I0 -> Int -> Int -> Option (List Int × Int)) (a2 : I0) (k2 : Int) (i : Int) : Option (List Int × Int) :=
 bif decide (i < (a2.length : Int)) then
  grd (inb i a2) <|
  grd (inb i a2) <|
  letv (a2.set i.toNat k2) fun u =>
  rec_ u (w64 (k2 + 1)) (w64 (i + 1))
 else
 some (a2, k2)
def Z47 (N : Nat) : Nat -> I0 -> Int -> Int -> Option (List Int × Int)
 | 0, _, _, _ => none
 | k_ + 1, a2, k2, i => Z5i N (Z47 N k_) a2 k2 i
def Z6m (N : Nat) (Z7y : I0 -> Int -> Int -> Option (List Int × Int)) (a : I0) (k : Int) : Option (List Int × Int) :=
 Z7y a k 0
def Z39 (a : I0) (k : Int) : Option (List Int × Int) := Z6m N (Z47 N N) a k
def Z58 (rec_ : A0 -> Int -> Int -> Option (A0 × Int)) (a2 : A0) (k2 : Int) (i : Int) : Option (A0 × Int) :=
 bif decide (i < (a2.length : Int)) then
  grd (inb i a2) <|
  grd (inb i a2) <|
  letv (a2.set i.toNat (k2, (at_ (0, []) a2 i).2)) fun u =>
  grd (inb i u) <|
  (Z39 N ((at_ (0, []) u i).2) (w64 (k2 + 1))).bind fun p_m =>
  letv (u.set i.toNat ((at_ (0, []) u i).1, p_m.1)) fun u2 =>
  rec_ u2 p_m.2 (w64 (i + 1))
 else
 some (a2, k2)
def Z3u (N : Nat) : Nat -> A0 -> Int -> Int -> Option (A0 × Int)
 | 0, _, _, _ => none
 | k_ + 1, a2, k2, i => Z58 N (Z3u N k_) a2 k2 i
def Z6g (N : Nat) (Z7u : A0 -> Int -> Int -> Option (A0 × Int)) (a : A0) (k : Int) : Option (A0 × Int) :=
 Z7u a k 0
def Z48 (a : A0) (k : Int) : Option (A0 × Int) := Z6g N (Z3u N N) a k
def Z25 (a : D0) (k : Int) : Option (D0 × Int) :=
 (Z2m N a.1 k).bind fun p_m =>
 (Z48 N a.2 p_m.2).bind fun p_m2 =>
 some ((p_m.1, p_m2.1), p_m2.2)
def Z24 (N : Nat) (rec_ : (List C0) -> Int -> Int -> Option ((List C0) × Int)) (a2 : List C0) (k2 : Int) (i : Int) : Option ((List C0) × Int) :=
 bif decide (i < (a2.length : Int)) then
  grd (inb i a2) <|
  grd (inb i a2) <|
  letv (a2.set i.toNat (k2, ((at_ (0, (0, (0, (0, (0, (0, 0)))))) a2 i).2).1, (((at_ (0, (0, (0, (0, (0, (0, 0)))))) a2 i).2).2).1, ((((at_ (0, (0, (0, (0, (0, (0, 0)))))) a2 i).2).2).2).1, (((((at_ (0, (0, (0, (0, (0, (0, 0)))))) a2 i).2).2).2).2).1, ((((((at_ (0, (0, (0, (0, (0, (0, 0)))))) a2 i).2).2).2).2).2))) fun u =>
  grd (inb i u) <|
  grd (inb i u) <|
  letv (u.set i.toNat ((at_ (0, (0, (0, (0, (0, (0, 0)))))) u i).1, (w64 (k2 + 1)), (((at_ (0, (0, (0, (0, (0, (0, 0)))))) u i).2).2).1, ((((at_ (0, (0, (0, (0, (0, (0, 0)))))) u i).2).2).2).1, (((((at_ (0, (0, (0, (0, (0, (0, 0)))))) u i).2).2).2).2).1, ((((((at_ (0, (0, (0, (0, (0, (0, 0)))))) u i).2).2).2).2).2))) fun u2 =>
  grd (inb i u2) <|
  grd (inb i u2) <|
  letv (u2.set i.toNat ((at_ (0, (0, (0, (0, (0, (0, 0)))))) u2 i).1, ((at_ (0, (0, (0, (0, (0, (0, 0)))))) u2 i).2).1, (w64 ((w64 (k2 + 1)) + 1)), ((((at_ (0, (0, (0, (0, (0, (0, 0)))))) u2 i).2).2).2).1, (((((at_ (0, (0, (0, (0, (0, (0, 0)))))) u2 i).2).2).2).2).1, ((((((at_ (0, (0, (0, (0, (0, (0, 0)))))) u2 i).2).2).2).2).2))) fun u3 =>
  grd (inb i u3) <|
  grd (inb i u3) <|
  letv (u3.set i.toNat ((at_ (0, (0, (0, (0, (0, (0, 0)))))) u3 i).1, ((at_ (0, (0, (0, (0, (0, (0, 0)))))) u3 i).2).1, (((at_ (0, (0, (0, (0, (0, (0, 0)))))) u3 i).2).2).1, (w64 ((w64 ((w64 (k2 + 1)) + 1)) + 1)), (((((at_ (0, (0, (0, (0, (0, (0, 0)))))) u3 i).2).2).2).2).1, ((((((at_ (0, (0, (0, (0, (0, (0, 0)))))) u3 i).2).2).2).2).2))) fun u4 =>
  grd (inb i u4) <|
  grd (inb i u4) <|
  letv (u4.set i.toNat ((at_ (0, (0, (0, (0, (0, (0, 0)))))) u4 i).1, ((at_ (0, (0, (0, (0, (0, (0, 0)))))) u4 i).2).1, (((at_ (0, (0, (0, (0, (0, (0, 0)))))) u4 i).2).2).1, ((((at_ (0, (0, (0, (0, (0, (0, 0)))))) u4 i).2).2).2).1, (w64 ((w64 ((w64 ((w64 (k2 + 1)) + 1)) + 1)) + 1)), ((((((at_ (0, (0, (0, (0, (0, (0, 0)))))) u4 i).2).2).2).2).2))) fun u5 =>
  grd (inb i u5) <|
  grd (inb i u5) <|
  letv (u5.set i.toNat ((at_ (0, (0, (0, (0, (0, (0, 0)))))) u5 i).1, ((at_ (0, (0, (0, (0, (0, (0, 0)))))) u5 i).2).1, (((at_ (0, (0, (0, (0, (0, (0, 0)))))) u5 i).2).2).1, ((((at_ (0, (0, (0, (0, (0, (0, 0)))))) u5 i).2).2).2).1, (((((at_ (0, (0, (0, (0, (0, (0, 0)))))) u5 i).2).2).2).2).1, (w64 ((w64 ((w64 ((w64 ((w64 (k2 + 1)) + 1)) + 1)) + 1)) + 1)), ((((((at_ (0, (0, (0, (0, (0, (0, 0)))))) u5 i).2).2).2).2).2).2)) fun u6 =>
  grd (inb i u6) <|
  grd (inb i u6) <|
  letv (u6.set i.toNat ((at_ (0, (0, (0, (0, (0, (0, 0)))))) u6 i).1, ((at_ (0, (0, (0, (0, (0, (0, 0)))))) u6 i).2).1, (((at_ (0, (0, (0, (0, (0, (0, 0)))))) u6 i).2).2).1, ((((at_ (0, (0, (0, (0, (0, (0, 0)))))) u6 i).2).2).2).1, (((((at_ (0, (0, (0, (0, (0, (0, 0)))))) u6 i).2).2).2).2).1, ((((((at_ (0, (0, (0, (0, (0, (0, 0)))))) u6 i).2).2).2).2).2).1, (w64 ((w64 ((w64 ((w64 ((w64 ((w64 (k2 + 1)) + 1)) + 1)) + 1)) + 1)) + 1)))) fun u7 =>
  rec_ u7 (w64 ((w64 ((w64 ((w64 ((w64 ((w64 ((w64 (k2 + 1)) + 1)) + 1)) + 1)) + 1)) + 1)) + 1)) (w64 (i + 1))
 else
 some (a2, k2)
def Z0w (N : Nat) : Nat -> (List C0) -> Int -> Int -> Option ((List C0) × Int)
 | 0, _, _, _ => none
 | k_ + 1, a2, k2, i => Z24 N (Z0w N k_) a2 k2 i
def Z49 (N : Nat) (Z6n : (List C0) -> Int -> Int -> Option ((List C0) × Int)) (a : List C0) (k : Int) : Option ((List C0) × Int) :=
 Z6n a k 0
def Z0s (a : List C0) (k : Int) : Option ((List C0) × Int) := Z49 N (Z0w N N) a k
def Z59 (rec_ : L0 -> Int -> Int -> Option (List I0 × Int)) (a2 : L0) (k2 : Int) (i : Int) : Option (List I0 × Int) :=
 bif decide (i < (a2.length : Int)) then
  grd (inb i a2) <|
  (Z39 N (at_ [] a2 i) k2).bind fun p_m =>
  letv (a2.set i.toNat p_m.1) fun u =>
  rec_ u p_m.2 (w64 (i + 1))
 else
 some (a2, k2)
def Z3v (N : Nat) : Nat -> L0 -> Int -> Int -> Option (List I0 × Int)
 | 0, _, _, _ => none
 | k_ + 1, a2, k2, i => Z59 N (Z3v N k_) a2 k2 i
def Z6h (N : Nat) (Z7v : L0 -> Int -> Int -> Option (List I0 × Int)) (a : L0) (k : Int) : Option (List I0 × Int) :=
 Z7v a k 0
def Z4a (a : L0) (k : Int) : Option (List I0 × Int) := Z6h N (Z3v N N) a k
def Z5j (N : Nat) (rec_ : I0 -> Int -> Int -> Option (Int)) (a2 : I0) (k2 : Int) (i : Int) : Option (Int) :=
 bif decide (i < (a2.length : Int)) then
  grd (inb i a2) <|
  bif ((at_ 0 a2 i) != k2) then some (-1)
  else
  rec_ a2 (w64 (k2 + 1)) (w64 (i + 1))
 else
 some k2
def Z4b (N : Nat) : Nat -> I0 -> Int -> Int -> Option (Int)
 | 0, _, _, _ => none
 | k_ + 1, a2, k2, i => Z5j N (Z4b N k_) a2 k2 i
def Z6o (N : Nat) (Z7z : I0 -> Int -> Int -> Option (Int)) (a : I0) (k : Int) : Option (Int) :=
 Z7z a k 0
def Z4u (a : I0) (k : Int) : Option (Int) := Z6o N (Z4b N N) a k
def Z5a (rec_ : L0 -> Int -> Int -> Option (Int)) (a2 : L0) (k2 : Int) (i : Int) : Option (Int) :=
 bif decide (i < (a2.length : Int)) then
  grd (inb i a2) <|
  (Z4u N (at_ [] a2 i) k2).bind fun r =>
  bif decide (r < 0) then some (-1)
  else
  rec_ a2 r (w64 (i + 1))
 else
 some k2
def Z3w (N : Nat) : Nat -> L0 -> Int -> Int -> Option (Int)
 | 0, _, _, _ => none
 | k_ + 1, a2, k2, i => Z5a N (Z3w N k_) a2 k2 i
def Z6i (N : Nat) (Z7w : L0 -> Int -> Int -> Option (Int)) (a : L0) (k : Int) : Option (Int) :=
 Z7w a k 0
def Z3i (a : L0) (k : Int) : Option (Int) := Z6i N (Z3w N N) a k
def laws_FnExactCardinalityRepairs (aDb : D0) (aConstraints : List C0) : Option (Bool) :=
 (Z3l N aDb 1048576).bind fun r =>
 bif decide (r < 0) then some true
 else
 (Z12 N aConstraints r).bind fun r2 =>
 bif decide (r2 < 0) then some true
 else
 (Z1u N aDb).bind fun r3 =>
 (Z0a N aConstraints).bind fun r4 =>
 (Z19 N r3 r4).bind fun r5 =>
 (Z1u N aDb).bind fun r6 =>
 (Z0a N aConstraints).bind fun r7 =>
 (Z0v N r6 r7).bind fun r8 =>
 (Z3q N r8 r5).bind fun r9 =>
 bif (!r9) then some false
 else
 (Z1u N aDb).bind fun r10 =>
 (Z3s N r6 r10).bind fun r11 =>
 bif (!r11) then some false
 else
 (Z0a N aConstraints).bind fun r12 =>
 (Z13 N r7 r12).bind fun r13 =>
 bif (!r13) then some false
 else
 (Z25 N r6 1).bind fun p_m =>
 (Z0s N r7 p_m.2).bind fun p_m2 =>
 bif decide (p_m2.2 < 0) then some false
 else
 (Z3q N r8 r5).bind fun r16 =>
 bif (!r16) then some false
 else
 (Z4a N r8 1).bind fun p_m3 =>
 (Z3i N p_m3.1 1).bind fun r18 =>
 bif decide (r18 < 0) then some false
 else
 bif (r18 != p_m3.2) then some false
 else
 (Z1u N aDb).bind fun r19 =>
 (Z0a N aConstraints).bind fun r20 =>
 (Z0v N r19 r20).bind fun r21 =>
 (Z3q N r21 r5).bind fun r22 =>
 bif (!r22) then some false
 else
 (Z3i N p_m3.1 1).bind fun r23 =>
 bif decide (r23 < 0) then some false
 else
 bif (r23 != p_m3.2) then some false
 else
 some true
end Go.PL
