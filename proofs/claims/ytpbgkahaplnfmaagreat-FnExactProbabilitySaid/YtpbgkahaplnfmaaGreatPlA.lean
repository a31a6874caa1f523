/- The functions read plainly. Conditions: none (definitions alone). -/
import GoSem.Core.View
import GoSem.Op.String

set_option linter.unusedVariables false
set_option linter.unusedSimpArgs false
set_option linter.unnecessarySimpa false

namespace Go.PL
def w64 (x : Int) : Int := IntKind.i64.wrap x
def w (k : IntKind) (x : Int) : Int := k.wrap x
def grd {α : Type} (c : Bool) (x : Option α) : Option α := bif c then x else none
def grz {α : Type} (b : Int) (x : Option α) : Option α := bif decide (b = 0) then none else x
def letv {α β : Type} (v : α) (k : α -> β) : β := k v
def at_ {α : Type} (d : α) (xs : List α) (i : Int) : α := xs.getD i.toNat d
def inb {α : Type} (i : Int) (xs : List α) : Bool := decide (0 <= i) && decide (i < (xs.length : Int))
def growOk {α : Type} (i' i : Int) (xs : List α) : Bool := decide (i' = i) && (decide (0 <= i') && decide (i' < (xs.length : Int)))
def appOk {α : Type} (s x : List α) (b : Nat) : Bool := decide ((s.length + x.length) * b <= 140737488355328)
def selOk {α : Type} (ix : List Int) (i : Int) (x : List α) (b : Nat) : Bool := ix.all (fun k => decide (k < i)) && decide ((x.length + 1) * b <= 140737488355328)
def selOk0 {α : Type} (x : List α) (b : Nat) : Bool := x.isEmpty && decide ((0 + 1) * b <= 140737488355328)
def makeOk (n : Int) (b : Nat) : Bool := decide (n = n) && (decide (0 <= n) && decide (n * b <= 140737488355328))
def byteAt (s : ByteArray) (n : Int) : Option UInt8 := if 0 <= n then s[n.toNat]? else none
def catOk (a b : ByteArray) : Bool := decide (a.size + b.size <= 140737488355328)
def seq (a b : ByteArray) : Bool := a.toList == b.toList
def slt (a b : ByteArray) : Bool := Op.bytesLess a.toList b.toList
def subOk (lo hi : Int) (n : Nat) : Bool := decide (0 <= lo) && (decide (lo <= hi) && decide (hi <= (n : Int)))
def sub (s : ByteArray) (lo hi : Int) : ByteArray := s.extract lo.toNat hi.toNat
def ofBytes (x : List Int) : ByteArray := ⟨(x.map fun n => UInt8.ofNat n.toNat).toArray⟩
def bits (op : BinOp) (k : IntKind) (a b : Int) : Int := match op with
 | .and => k.wrap ((BitVec.ofInt k.bits a &&& BitVec.ofInt k.bits b).toNat : Int)
 | .xor => k.wrap ((BitVec.ofInt k.bits a ^^^ BitVec.ofInt k.bits b).toNat : Int)
 | .or => k.wrap ((BitVec.ofInt k.bits a ||| BitVec.ofInt k.bits b).toNat : Int)
 | .shl => k.wrap (a * 2 ^ (min b.toNat k.bits))
 | .shr => a.fdiv (2 ^ (min b.toNat k.bits))
 | _ => 0
def imax (a b : Int) : Int := if b > a then b else a
def imin (a b : Int) : Int := if b < a then b else a
end Go.PL

namespace Go.PL
abbrev D0 : Type := List (ByteArray × Int × Int) × List (Int × List Int)
abbrev Q0 : Type := Int × List (Int × List Int) × List Int
abbrev C0 : Type := Int × Int × Int × Int × Int × Int × Int
abbrev R0 : Type := List (ByteArray × Int × Int)
abbrev A0 : Type := List (Int × List Int)
abbrev L0 : Type := List (List Int)
abbrev I0 : Type := List Int
abbrev E0 : Type := List (Int × Int)
variable (N : Nat)
def Z7b (N : Nat) (s : I0) (n : Int) : Option I0 := grd (decide (0 <= n) && decide ((s.length + n.toNat) * 8 <= 140737488355328)) (some s)
def Z10 (N : Nat) (s : I0) : Option I0 := grd (decide (s.length < 4611686018427387904)) (some (s.mergeSort fun a b => decide (a <= b)))
def Z67 (N : Nat) (s : I0) : Option I0 := some (((List.range s.length).filter fun j => decide (j = 0 \/ s.toArray[j]! ≠ s.toArray[j - 1]!)).map fun j => s.toArray[j]!)
def Z6i (N : Nat) (s : I0) (n : Int) : Option I0 := grd (decide (s.length = 1) && (decide (0 <= n) && decide (n * 8 <= 140737488355328))) (some (List.replicate n.toNat (at_ 0 s 0)))
def Z1j (N : Nat) (s : I0) : Option I0 := grd (decide (s.length * 8 <= 140737488355328)) (some s)
def Z2t (N : Nat) (a : ByteArray × Int × Int) (left_ : Int) : Option (Int) :=
 bif decide ((w64 (left_ - (a.1.size : Int))) < 0) then some (-1)
 else
 some (w64 (left_ - (a.1.size : Int)))
def Z4r (rec_ : R0 -> Int -> Int -> Option (Int)) (a2 : R0) (left_2 : Int) (i : Int) : Option (Int) :=
 bif decide (i < (a2.length : Int)) then
  grd (inb i a2) <|
  (Z2t N ((at_ (⟨#[]⟩, (0, 0)) a2 i).1, ((at_ (⟨#[]⟩, (0, 0)) a2 i).2)) left_2).bind fun r =>
  bif decide (r < 0) then some (-1)
  else
  rec_ a2 r (w64 (i + 1))
 else
 some left_2
def Z2v (N : Nat) : Nat -> R0 -> Int -> Int -> Option (Int)
 | 0, _, _, _ => none
 | k_ + 1, a2, left_2, i => Z4r N (Z2v N k_) a2 left_2 i
def Z80 (N : Nat) (Z0a2 : R0 -> Int -> Int -> Option (Int)) (a : R0) (left_ : Int) : Option (Int) :=
 bif decide ((w64 (left_ - (a.length : Int))) < 0) then some (-1)
 else
 Z0a2 a (w64 (left_ - (a.length : Int))) 0
def Z34 (a : R0) (left_ : Int) : Option (Int) := Z80 N (Z2v N N) a left_
def Z30 (N : Nat) (a : I0) (left_ : Int) : Option (Int) :=
 bif decide ((w64 (left_ - (a.length : Int))) < 0) then some (-1)
 else
 some (w64 (left_ - (a.length : Int)))
def Z5j (a : Int × List Int) (left_ : Int) : Option (Int) :=
 (Z30 N a.2 left_).bind fun r =>
 bif decide (r < 0) then some (-1)
 else
 some r
def Z6v (rec_ : A0 -> Int -> Int -> Option (Int)) (a2 : A0) (left_2 : Int) (i : Int) : Option (Int) :=
 bif decide (i < (a2.length : Int)) then
  grd (inb i a2) <|
  (Z5j N (at_ (0, []) a2 i) left_2).bind fun r =>
  bif decide (r < 0) then some (-1)
  else
  rec_ a2 r (w64 (i + 1))
 else
 some left_2
def Z4s (N : Nat) : Nat -> A0 -> Int -> Int -> Option (Int)
 | 0, _, _, _ => none
 | k_ + 1, a2, left_2, i => Z6v N (Z4s N k_) a2 left_2 i
def Z8q (N : Nat) (Z0an : A0 -> Int -> Int -> Option (Int)) (a : A0) (left_ : Int) : Option (Int) :=
 bif decide ((w64 (left_ - (a.length : Int))) < 0) then some (-1)
 else
 Z0an a (w64 (left_ - (a.length : Int))) 0
def Z5n (a : A0) (left_ : Int) : Option (Int) := Z8q N (Z4s N N) a left_
def Z3n (a : D0) (left_ : Int) : Option (Int) :=
 (Z34 N a.1 left_).bind fun r =>
 bif decide (r < 0) then some (-1)
 else
 (Z5n N a.2 r).bind fun r2 =>
 bif decide (r2 < 0) then some (-1)
 else
 some r2
def Z5k (a : Int × List Int) (left_ : Int) : Option (Int) :=
 (Z30 N a.2 left_).bind fun r =>
 bif decide (r < 0) then some (-1)
 else
 some r
def Z6w (rec_ : A0 -> Int -> Int -> Option (Int)) (a2 : A0) (left_2 : Int) (i : Int) : Option (Int) :=
 bif decide (i < (a2.length : Int)) then
  grd (inb i a2) <|
  (Z5k N (at_ (0, []) a2 i) left_2).bind fun r =>
  bif decide (r < 0) then some (-1)
  else
  rec_ a2 r (w64 (i + 1))
 else
 some left_2
def Z4t (N : Nat) : Nat -> A0 -> Int -> Int -> Option (Int)
 | 0, _, _, _ => none
 | k_ + 1, a2, left_2, i => Z6w N (Z4t N k_) a2 left_2 i
def Z8r (N : Nat) (Z0ao : A0 -> Int -> Int -> Option (Int)) (a : A0) (left_ : Int) : Option (Int) :=
 bif decide ((w64 (left_ - (a.length : Int))) < 0) then some (-1)
 else
 Z0ao a (w64 (left_ - (a.length : Int))) 0
def Z5o (a : A0) (left_ : Int) : Option (Int) := Z8r N (Z4t N N) a left_
def Z5p (a : Q0) (left_ : Int) : Option (Int) :=
 (Z5o N a.2.1 left_).bind fun r =>
 bif decide (r < 0) then some (-1)
 else
 (Z30 N a.2.2 r).bind fun r2 =>
 bif decide (r2 < 0) then some (-1)
 else
 some r2
def Z3o (N : Nat) (a : ByteArray × Int × Int) : Option (ByteArray × Int × Int) :=
 some a
def Z4u (rec_ : R0 -> R0 -> Int -> Option R0) (a2 : R0) (out : R0) (i : Int) : Option R0 :=
 bif decide (i < (a2.length : Int)) then
  grd (inb i a2) <|
  (Z3o N ((at_ (⟨#[]⟩, (0, 0)) a2 i).1, ((at_ (⟨#[]⟩, (0, 0)) a2 i).2))).bind fun r =>
  grd (inb i out) <|
  grd (inb i out) <|
  letv (out.set i.toNat r) fun u =>
  rec_ a2 u (w64 (i + 1))
 else
 some out
def Z2w (N : Nat) : Nat -> R0 -> R0 -> Int -> Option R0
 | 0, _, _, _ => none
 | k_ + 1, a2, out, i => Z4u N (Z2w N k_) a2 out i
def Z81 (N : Nat) (Z0a3 : R0 -> R0 -> Int -> Option R0) (a : R0) : Option R0 :=
 grd (makeOk (a.length : Int) 32) <|
 Z0a3 a (List.replicate (a.length : Int).toNat (⟨#[]⟩, (0, 0))) 0
def Z35 (a : R0) : Option R0 := Z81 N (Z2w N N) a
def Z7c (N : Nat) (rec_ : I0 -> I0 -> Int -> Option I0) (a2 : I0) (out : I0) (i : Int) : Option I0 :=
 bif decide (i < (a2.length : Int)) then
  grd (inb i a2) <|
  grd (inb i out) <|
  grd (inb i out) <|
  letv (out.set i.toNat (at_ 0 a2 i)) fun u =>
  rec_ a2 u (w64 (i + 1))
 else
 some out
def Z5l (N : Nat) : Nat -> I0 -> I0 -> Int -> Option I0
 | 0, _, _, _ => none
 | k_ + 1, a2, out, i => Z7c N (Z5l N k_) a2 out i
def Z91 (N : Nat) (Z0ax : I0 -> I0 -> Int -> Option I0) (a : I0) : Option I0 :=
 grd (makeOk (a.length : Int) 8) <|
 Z0ax a (List.replicate (a.length : Int).toNat 0) 0
def Z1c (a : I0) : Option I0 := Z91 N (Z5l N N) a
def Z6j (a : Int × List Int) : Option (Int × List Int) :=
 (Z1c N a.2).bind fun r =>
 some (a.1, r)
def Z6x (rec_ : A0 -> A0 -> Int -> Option A0) (a2 : A0) (out : A0) (i : Int) : Option A0 :=
 bif decide (i < (a2.length : Int)) then
  grd (inb i a2) <|
  (Z6j N (at_ (0, []) a2 i)).bind fun r =>
  grd (inb i out) <|
  grd (inb i out) <|
  letv (out.set i.toNat r) fun u =>
  rec_ a2 u (w64 (i + 1))
 else
 some out
def Z4v (N : Nat) : Nat -> A0 -> A0 -> Int -> Option A0
 | 0, _, _, _ => none
 | k_ + 1, a2, out, i => Z6x N (Z4v N k_) a2 out i
def Z8s (N : Nat) (Z0ap : A0 -> A0 -> Int -> Option A0) (a : A0) : Option A0 :=
 grd (makeOk (a.length : Int) 32) <|
 Z0ap a (List.replicate (a.length : Int).toNat (0, [])) 0
def Z5q (a : A0) : Option A0 := Z8s N (Z4v N N) a
def Z28 (a : D0) : Option D0 :=
 (Z35 N a.1).bind fun r =>
 (Z5q N a.2).bind fun r2 =>
 some (r, r2)
def Z6k (a : Int × List Int) : Option (Int × List Int) :=
 (Z1c N a.2).bind fun r =>
 some (a.1, r)
def Z6y (rec_ : A0 -> A0 -> Int -> Option A0) (a2 : A0) (out : A0) (i : Int) : Option A0 :=
 bif decide (i < (a2.length : Int)) then
  grd (inb i a2) <|
  (Z6k N (at_ (0, []) a2 i)).bind fun r =>
  grd (inb i out) <|
  grd (inb i out) <|
  letv (out.set i.toNat r) fun u =>
  rec_ a2 u (w64 (i + 1))
 else
 some out
def Z4w (N : Nat) : Nat -> A0 -> A0 -> Int -> Option A0
 | 0, _, _, _ => none
 | k_ + 1, a2, out, i => Z6y N (Z4w N k_) a2 out i
def Z8t (N : Nat) (Z0aq : A0 -> A0 -> Int -> Option A0) (a : A0) : Option A0 :=
 grd (makeOk (a.length : Int) 32) <|
 Z0aq a (List.replicate (a.length : Int).toNat (0, [])) 0
def Z5r (a : A0) : Option A0 := Z8t N (Z4w N N) a
def Z3p (a : Q0) : Option Q0 :=
 (Z5r N a.2.1).bind fun r =>
 (Z1c N a.2.2).bind fun r2 =>
 some (a.1, r, r2)
def Z0o (N : Nat) (x : Int) (low : Int) (high : Int) : Option (Bool) :=
 bif decide (x >= low) then some (decide (x <= high))
 else
 some false
def Z5 (s : ByteArray × Int × Int) : Option (Bool) :=
 bif ((s.1.size : Int) == 1) then
  (byteAt s.1 0).bind fun b =>
  bif decide ((b.toNat : Int) >= 97) then
   (byteAt s.1 0).bind fun b2 =>
   bif decide ((b2.toNat : Int) <= 122) then
    (Z0o N s.2.1 1 3).bind fun r =>
    bif r then
     (Z0o N s.2.2 0 s.2.1).bind fun r2 =>
     some r2
    else
    some false
   else
   some false
  else
  some false
 else
 some false
def Z16 (rec_ : R0 -> Int -> Option (Bool)) (l2 : R0) (i : Int) : Option (Bool) :=
 bif decide (i < (l2.length : Int)) then
  grd (inb i l2) <|
  (Z5 N ((at_ (⟨#[]⟩, (0, 0)) l2 i).1, ((at_ (⟨#[]⟩, (0, 0)) l2 i).2))).bind fun r =>
  bif (!r) then some false
  else
  bif decide (i > 0) then
   grd (inb (w64 (i - 1)) l2) <|
   grd (inb i l2) <|
   bif (!slt ((at_ (⟨#[]⟩, (0, 0)) l2 (w64 (i - 1))).1) ((at_ (⟨#[]⟩, (0, 0)) l2 i).1)) then some false
   else
   rec_ l2 (w64 (i + 1))
  else
  rec_ l2 (w64 (i + 1))
 else
 some (decide ((l2.length : Int) <= 4))
def Z0j (N : Nat) : Nat -> R0 -> Int -> Option (Bool)
 | 0, _, _ => none
 | k_ + 1, l2, i => Z16 N (Z0j N k_) l2 i
def Z3q (N : Nat) (Z92 : R0 -> Int -> Option (Bool)) (l : R0) : Option (Bool) :=
 Z92 l 0
def Z0c (l : R0) : Option (Bool) := Z3q N (Z0j N N) l
def Z4x (rec_ : Int -> I0 -> Int -> Option (Bool)) (f2 : Int) (f3 : I0) (i : Int) : Option (Bool) :=
 bif decide (i < (f3.length : Int)) then
  grd (inb i f3) <|
  (Z0o N (at_ 0 f3 i) 0 9).bind fun r3 =>
  bif (!r3) then some false
  else
  rec_ f2 f3 (w64 (i + 1))
 else
 some true
def Z2x (N : Nat) : Nat -> Int -> I0 -> Int -> Option (Bool)
 | 0, _, _, _ => none
 | k_ + 1, f2, f3, i => Z4x N (Z2x N k_) f2 f3 i
def Z82 (Z0a4 : Int -> I0 -> Int -> Option (Bool)) (l : R0) (f : Int × List Int) : Option (Bool) :=
 (Z0c N l).bind fun r =>
 bif (!r) then some false
 else
 (Z0o N f.1 0 (w64 ((l.length : Int) - 1))).bind fun r2 =>
 bif (!r2) then some false
 else
 grd (inb f.1 l) <|
 bif ((f.2.length : Int) != (((at_ (⟨#[]⟩, (0, 0)) l f.1).2).1)) then some false
 else
 Z0a4 f.1 f.2 0
def Z0y (l : R0) (f : Int × List Int) : Option (Bool) := Z82 N (Z2x N N) l f
def Z5s (N : Nat) (rec_ : I0 -> I0 -> Int -> Option (Int)) (a2 : I0) (b2 : I0) (i : Int) : Option (Int) :=
 bif decide (i < (a2.length : Int)) then
  bif decide (i < (b2.length : Int)) then
   grd (inb i a2) <|
   grd (inb i b2) <|
   bif decide ((at_ 0 a2 i) < (at_ 0 b2 i)) then some (-1)
   else
   grd (inb i a2) <|
   grd (inb i b2) <|
   bif decide ((at_ 0 a2 i) > (at_ 0 b2 i)) then some 1
   else
   rec_ a2 b2 (w64 (i + 1))
  else
  bif decide ((a2.length : Int) < (b2.length : Int)) then some (-1)
  else
  bif decide ((a2.length : Int) > (b2.length : Int)) then some 1
  else
  some 0
 else
 bif decide ((a2.length : Int) < (b2.length : Int)) then some (-1)
 else
 bif decide ((a2.length : Int) > (b2.length : Int)) then some 1
 else
 some 0
def Z44 (N : Nat) : Nat -> I0 -> I0 -> Int -> Option (Int)
 | 0, _, _, _ => none
 | k_ + 1, a2, b2, i => Z5s N (Z44 N k_) a2 b2 i
def Z93 (N : Nat) (Z0ay : I0 -> I0 -> Int -> Option (Int)) (a : I0) (b : I0) : Option (Int) :=
 Z0ay a b 0
def Z4c (a : I0) (b : I0) : Option (Int) := Z93 N (Z44 N N) a b
def Z2o (a : Int × List Int) (b : Int × List Int) : Option (Int) :=
 bif decide (a.1 < b.1) then some (-1)
 else
 bif decide (a.1 > b.1) then some 1
 else
 (Z4c N a.2 b.2).bind fun r =>
 some r
def Z3k (rec_ : R0 -> A0 -> Int -> Option (Bool)) (d2 : R0) (d3 : A0) (i : Int) : Option (Bool) :=
 bif decide (i < (d3.length : Int)) then
  grd (inb i d3) <|
  (Z0y N d2 (at_ (0, []) d3 i)).bind fun r =>
  bif (!r) then some false
  else
  bif decide (i > 0) then
   grd (inb (w64 (i - 1)) d3) <|
   grd (inb i d3) <|
   (Z2o N (at_ (0, []) d3 (w64 (i - 1))) (at_ (0, []) d3 i)).bind fun r2 =>
   bif decide (r2 >= 0) then some false
   else
   rec_ d2 d3 (w64 (i + 1))
  else
  rec_ d2 d3 (w64 (i + 1))
 else
 (Z0c N d2).bind fun r3 =>
 bif r3 then some (decide ((d3.length : Int) <= 14))
 else
 some false
def Z1p (N : Nat) : Nat -> R0 -> A0 -> Int -> Option (Bool)
 | 0, _, _, _ => none
 | k_ + 1, d2, d3, i => Z3k N (Z1p N k_) d2 d3 i
def Z6l (N : Nat) (Z9h : R0 -> A0 -> Int -> Option (Bool)) (d : D0) : Option (Bool) :=
 Z9h d.1 d.2 0
def Z0 (d : D0) : Option (Bool) := Z6l N (Z1p N N) d
def Z6m (Z0u : R0 -> Int -> A0 -> I0 -> (List Bool) -> Int -> Option (Bool)) (rec_ : R0 -> Int -> A0 -> I0 -> (List Bool) -> Int -> Int -> I0 -> Int -> Option (Bool)) (l4 : R0) (q8 : Int) (q9 : A0) (q10 : I0) (met3 : List Bool) (i3 : Int) (a3 : Int) (a4 : I0) (k2 : Int) : Option (Bool) :=
 bif decide (k2 < (a4.length : Int)) then
  grd (inb k2 a4) <|
  (Z0o N (at_ 0 a4 k2) (-10) (w64 (q8 - 1))).bind fun r5 =>
  bif (!r5) then some false
  else
  grd (inb k2 a4) <|
  bif decide ((at_ 0 a4 k2) >= 0) then
   grd (inb k2 a4) <|
   grd (inb (at_ 0 a4 k2) met3) <|
   grd (inb (at_ 0 a4 k2) met3) <|
   letv (met3.set (at_ 0 a4 k2).toNat true) fun u =>
   rec_ l4 q8 q9 q10 u i3 a3 a4 (w64 (k2 + 1))
  else
  rec_ l4 q8 q9 q10 met3 i3 a3 a4 (w64 (k2 + 1))
 else
 Z0u l4 q8 q9 q10 met3 (w64 (i3 + 1))
def Z19 (Z0u : R0 -> Int -> A0 -> I0 -> (List Bool) -> Int -> Option (Bool)) (N : Nat) : Nat -> R0 -> Int -> A0 -> I0 -> (List Bool) -> Int -> Int -> I0 -> Int -> Option (Bool)
 | 0, _, _, _, _, _, _, _, _, _ => none
 | k_ + 1, l4, q8, q9, q10, met3, i3, a3, a4, k2 => Z6m N Z0u (Z19 Z0u N k_) l4 q8 q9 q10 met3 i3 a3 a4 k2
def Z4d (N : Nat) (Z0u : R0 -> Int -> A0 -> I0 -> (List Bool) -> Int -> Option (Bool)) (Z9s : R0 -> Int -> A0 -> I0 -> (List Bool) -> Int -> Int -> I0 -> Int -> Option (Bool)) (rec_ : R0 -> Int -> A0 -> I0 -> (List Bool) -> Int -> Int -> I0 -> Int -> Option (Bool)) (l3 : R0) (q5 : Int) (q6 : A0) (q7 : I0) (met2 : List Bool) (i2 : Int) (a : Int) (a2 : I0) (k : Int) : Option (Bool) :=
 bif decide (k < i2) then
  grd (inb k q6) <|
  bif (((at_ (0, []) q6 k).1) == a) then some false
  else
  rec_ l3 q5 q6 q7 met2 i2 a a2 (w64 (k + 1))
 else
 Z9s l3 q5 q6 q7 met2 i2 a a2 0
def Z1t (Z0u : R0 -> Int -> A0 -> I0 -> (List Bool) -> Int -> Option (Bool)) (N : Nat) : Nat -> R0 -> Int -> A0 -> I0 -> (List Bool) -> Int -> Int -> I0 -> Int -> Option (Bool)
 | 0, _, _, _, _, _, _, _, _, _ => none
 | k_ + 1, l3, q5, q6, q7, met2, i2, a, a2, k => Z4d N Z0u (Z19 Z0u N N) (Z1t Z0u N k_) l3 q5 q6 q7 met2 i2 a a2 k
def Z4e (rec_ : Int -> A0 -> I0 -> Int -> Option (Bool)) (q14 : Int) (q15 : A0) (q16 : I0) (i4 : Int) : Option (Bool) :=
 bif decide (i4 < (q16.length : Int)) then
  grd (inb i4 q16) <|
  (Z0o N (at_ 0 q16 i4) 0 (w64 (q14 - 1))).bind fun r6 =>
  bif (!r6) then some false
  else
  bif decide (i4 > 0) then
   grd (inb i4 q16) <|
   grd (inb (w64 (i4 - 1)) q16) <|
   bif decide ((at_ 0 q16 i4) <= (at_ 0 q16 (w64 (i4 - 1)))) then some false
   else
   rec_ q14 q15 q16 (w64 (i4 + 1))
  else
  rec_ q14 q15 q16 (w64 (i4 + 1))
 else
 some true
def Z1u (N : Nat) : Nat -> Int -> A0 -> I0 -> Int -> Option (Bool)
 | 0, _, _, _, _ => none
 | k_ + 1, q14, q15, q16, i4 => Z4e N (Z1u N k_) q14 q15 q16 i4
def Z4f (N : Nat) (Z9t : Int -> A0 -> I0 -> Int -> Option (Bool)) (rec_ : Int -> A0 -> I0 -> (List Bool) -> Int -> Option (Bool)) (q11 : Int) (q12 : A0) (q13 : I0) (met4 : List Bool) (v : Int) : Option (Bool) :=
 bif decide (v < q11) then
  grd (inb v met4) <|
  bif (!(at_ false met4 v)) then some false
  else
  rec_ q11 q12 q13 met4 (w64 (v + 1))
 else
 Z9t q11 q12 q13 0
def Z1v (N : Nat) : Nat -> Int -> A0 -> I0 -> (List Bool) -> Int -> Option (Bool)
 | 0, _, _, _, _, _ => none
 | k_ + 1, q11, q12, q13, met4, v => Z4f N (Z1u N N) (Z1v N k_) q11 q12 q13 met4 v
def Z6n (Z9u : R0 -> Int -> A0 -> I0 -> (List Bool) -> Int -> Int -> I0 -> Int -> Option (Bool)) (Z9v : Int -> A0 -> I0 -> (List Bool) -> Int -> Option (Bool)) (rec_ : R0 -> Int -> A0 -> I0 -> (List Bool) -> Int -> Option (Bool)) (l2 : R0) (q2 : Int) (q3 : A0) (q4 : I0) (met : List Bool) (i : Int) : Option (Bool) :=
 bif decide (i < (q3.length : Int)) then
  grd (inb i q3) <|
  (Z0o N ((at_ (0, []) q3 i).1) 0 (w64 ((l2.length : Int) - 1))).bind fun r4 =>
  bif (!r4) then some false
  else
  grd (inb ((at_ (0, []) q3 i).1) l2) <|
  bif ((((at_ (0, []) q3 i).2).length : Int) != (((at_ (⟨#[]⟩, (0, 0)) l2 ((at_ (0, []) q3 i).1)).2).1)) then some false
  else
  Z9u l2 q2 q3 q4 met i ((at_ (0, []) q3 i).1) ((at_ (0, []) q3 i).2) 0
 else
 Z9v q2 q3 q4 met 0
def Z2h (N : Nat) : Nat -> R0 -> Int -> A0 -> I0 -> (List Bool) -> Int -> Option (Bool)
 | 0, _, _, _, _, _, _ => none
 | k_ + 1, l2, q2, q3, q4, met, i => Z6n N (Z1t (Z2h N k_) N N) (Z1v N N) (Z2h N k_) l2 q2 q3 q4 met i
def Z7o (Z9w : R0 -> Int -> A0 -> I0 -> (List Bool) -> Int -> Option (Bool)) (l : R0) (q : Q0) : Option (Bool) :=
 (Z0c N l).bind fun r =>
 bif (!r) then some false
 else
 (Z0o N q.1 0 4).bind fun r2 =>
 bif (!r2) then some false
 else
 (Z0o N (q.2.1.length : Int) 1 3).bind fun r3 =>
 bif (!r3) then some false
 else
 grd (makeOk 4 1) <|
 Z9w l q.1 q.2.1 q.2.2 (List.replicate (4 : Int).toNat false) 0
def Z2p (l : R0) (q : Q0) : Option (Bool) := Z7o N (Z2h N N) l q
def Z29 (d : D0) (q : Q0) : Option (Bool) :=
 (Z0 N d).bind fun r =>
 bif r then
  (Z2p N d.1 q).bind fun r2 =>
  some r2
 else
 some false
def Z3l (rec_ : I0 -> R0 -> A0 -> Int -> Option (Bool)) (w2 : I0) (d2 : R0) (d3 : A0) (i : Int) : Option (Bool) :=
 bif decide (i < (w2.length : Int)) then
  grd (inb i w2) <|
  (Z0o N (at_ 0 w2 i) 1 9).bind fun r =>
  bif (!r) then some false
  else
  rec_ w2 d2 d3 (w64 (i + 1))
 else
 (Z0 N (d2, d3)).bind fun r2 =>
 bif r2 then some ((w2.length : Int) == (d3.length : Int))
 else
 some false
def Z1q (N : Nat) : Nat -> I0 -> R0 -> A0 -> Int -> Option (Bool)
 | 0, _, _, _, _ => none
 | k_ + 1, w2, d2, d3, i => Z3l N (Z1q N k_) w2 d2 d3 i
def Z6o (N : Nat) (Z9i : I0 -> R0 -> A0 -> Int -> Option (Bool)) (d : D0) (w : I0) : Option (Bool) :=
 Z9i w d.1 d.2 0
def Z0l (d : D0) (w : I0) : Option (Bool) := Z6o N (Z1q N N) d w
def Z8a (N : Nat) (rec_ : Int -> I0 -> Option I0) (n2 : Int) (l : I0) : Option I0 :=
 bif decide ((l.length : Int) < n2) then
  grd (appOk l [(-1)] 8) <|
  rec_ n2 (l ++ [(-1)])
 else
 some l
def Z6d (N : Nat) : Nat -> Int -> I0 -> Option I0
 | 0, _, _ => none
 | k_ + 1, n2, l => Z8a N (Z6d N k_) n2 l
def Z8u (N : Nat) (Z0ar : Int -> I0 -> Option I0) (n : Int) : Option I0 :=
 Z0ar n []
def Z4k (n : Int) : Option I0 := Z8u N (Z6d N N) n
def Z8b (N : Nat) (rec_ : Int -> I0 -> Int -> I0 -> I0 -> Int -> Option (List Int × Bool)) (a2 : Int) (a3 : I0) (f2 : Int) (f3 : I0) (x : I0) (i : Int) : Option (List Int × Bool) :=
 bif decide (i < (a3.length : Int)) then
  grd (inb i a3) <|
  bif decide ((at_ 0 a3 i) < 0) then
   grd (inb i f3) <|
   bif ((w64 ((-1) - (at_ 0 a3 i))) != (at_ 0 f3 i)) then some (x, false)
   else
   rec_ a2 a3 f2 f3 x (w64 (i + 1))
  else
  grd (inb (at_ 0 a3 i) x) <|
  bif decide ((at_ 0 x (at_ 0 a3 i)) >= 0) then
   grd (inb (at_ 0 a3 i) x) <|
   grd (inb i f3) <|
   bif ((at_ 0 x (at_ 0 a3 i)) != (at_ 0 f3 i)) then some (x, false)
   else
   grd (inb i f3) <|
   grd (inb (at_ 0 a3 i) x) <|
   grd (inb (at_ 0 a3 i) x) <|
   letv (x.set (at_ 0 a3 i).toNat (at_ 0 f3 i)) fun u =>
   rec_ a2 a3 f2 f3 u (w64 (i + 1))
  else
  grd (inb i f3) <|
  grd (inb (at_ 0 a3 i) x) <|
  grd (inb (at_ 0 a3 i) x) <|
  letv (x.set (at_ 0 a3 i).toNat (at_ 0 f3 i)) fun u2 =>
  rec_ a2 a3 f2 f3 u2 (w64 (i + 1))
 else
 some (x, true)
def Z6e (N : Nat) : Nat -> Int -> I0 -> Int -> I0 -> I0 -> Int -> Option (List Int × Bool)
 | 0, _, _, _, _, _, _ => none
 | k_ + 1, a2, a3, f2, f3, x, i => Z8b N (Z6e N k_) a2 a3 f2 f3 x i
def Z8v (N : Nat) (Z0as : Int -> I0 -> Int -> I0 -> I0 -> Int -> Option (List Int × Bool)) (a : Int × List Int) (f : Int × List Int) (vals : I0) : Option (List Int × Bool) :=
 grd (appOk [] vals 8) <|
 bif (f.1 != a.1) then some (vals, false)
 else
 bif ((f.2.length : Int) != (a.2.length : Int)) then some (vals, false)
 else
 Z0as a.1 a.2 f.1 f.2 vals 0
def Z5t (a : Int × List Int) (f : Int × List Int) (vals : I0) : Option (List Int × Bool) := Z8v N (Z6e N N) a f vals
def Z8c (Rf : D0 -> Q0 -> Int -> I0 -> I0 -> Option (List (List Int × List Int))) (rec_ : Int -> I0 -> I0 -> R0 -> A0 -> Int -> A0 -> I0 -> (List (List Int × List Int)) -> Int -> Option (List (List Int × List Int))) (k2 : Int) (vals2 : I0) (facts2 : I0) (d2 : R0) (d3 : A0) (q2 : Int) (q3 : A0) (q4 : I0) (out : List (List Int × List Int)) (i : Int) : Option (List (List Int × List Int)) :=
 bif decide (i < (d3.length : Int)) then
  grd (inb k2 q3) <|
  grd (inb i d3) <|
  (Z5t N (at_ (0, []) q3 k2) (at_ (0, []) d3 i) vals2).bind fun p_r =>
  bif p_r.2 then
   grd (appOk [] facts2 8) <|
   grd (appOk facts2 [i] 8) <|
   (Rf (d2, d3) (q2, q3, q4) (w64 (k2 + 1)) p_r.1 (facts2 ++ [i])).bind fun r3 =>
   grd (appOk out r3 48) <|
   rec_ k2 vals2 facts2 d2 d3 q2 q3 q4 (out ++ r3) (w64 (i + 1))
  else
  rec_ k2 vals2 facts2 d2 d3 q2 q3 q4 out (w64 (i + 1))
 else
 some out
def Z6f (N : Nat) (Rf : D0 -> Q0 -> Int -> I0 -> I0 -> Option (List (List Int × List Int))) : Nat -> Int -> I0 -> I0 -> R0 -> A0 -> Int -> A0 -> I0 -> (List (List Int × List Int)) -> Int -> Option (List (List Int × List Int))
 | 0, _, _, _, _, _, _, _, _, _, _ => none
 | k_ + 1, k2, vals2, facts2, d2, d3, q2, q3, q4, out, i => Z8c N Rf (Z6f N Rf k_) k2 vals2 facts2 d2 d3 q2 q3 q4 out i
def Z88 (N : Nat) (Rf : D0 -> Q0 -> Int -> I0 -> I0 -> Option (List (List Int × List Int))) (Z0at : Int -> I0 -> I0 -> R0 -> A0 -> Int -> A0 -> I0 -> (List (List Int × List Int)) -> Int -> Option (List (List Int × List Int))) (d : D0) (q : Q0) (k : Int) (vals : I0) (facts : I0) : Option (List (List Int × List Int)) :=
 bif (k == (q.2.1.length : Int)) then
  grd (appOk [] vals 8) <|
  grd (appOk [] facts 8) <|
  some [(vals, facts)]
 else
 Z0at k vals facts d.1 d.2 q.1 q.2.1 q.2.2 [] 0
def Z2i (N : Nat) : Nat -> D0 -> Q0 -> Int -> I0 -> I0 -> Option (List (List Int × List Int))
 | 0, _, _, _, _, _ => none
 | k_ + 1, d, q, k, vals, facts => Z88 N (Z2i N k_) (Z6f N (Z2i N k_) N) d q k vals facts
def Z73 (d : D0) (q : Q0) (k : Int) (vals : I0) (facts : I0) : Option (List (List Int × List Int)) := Z2i N N d q k vals facts
def Z26 (d : D0) (q : Q0) : Option (List (List Int × List Int)) :=
 (Z29 N d q).bind fun r =>
 bif (!r) then some []
 else
 (Z4k N q.1).bind fun r2 =>
 (Z73 N d q 0 r2 []).bind fun r3 =>
 some r3
def Z3b (N : Nat) (Z59 : I0 -> I0 -> Int -> Option I0) (rec_ : I0 -> I0 -> Int -> Int -> Option I0) (l3 : I0) (out2 : I0) (i2 : Int) (k : Int) : Option I0 :=
 bif decide (k > 0) then
  grd (inb (w64 (k - 1)) out2) <|
  grd (inb i2 l3) <|
  bif decide ((at_ 0 out2 (w64 (k - 1))) > (at_ 0 l3 i2)) then rec_ l3 out2 i2 (w64 (k - 1))
  else
  grd (subOk 0 k out2.length) <|
  grd (appOk [] (out2.take k.toNat) 8) <|
  grd (inb i2 l3) <|
  grd (appOk (out2.take k.toNat) [(at_ 0 l3 i2)] 8) <|
  grd (subOk k (out2.length : Int) out2.length) <|
  grd (appOk ((out2.take k.toNat) ++ [(at_ 0 l3 i2)]) (out2.drop k.toNat) 8) <|
  Z59 l3 (((out2.take k.toNat) ++ [(at_ 0 l3 i2)]) ++ (out2.drop k.toNat)) (w64 (i2 + 1))
 else
 grd (subOk 0 k out2.length) <|
 grd (appOk [] (out2.take k.toNat) 8) <|
 grd (inb i2 l3) <|
 grd (appOk (out2.take k.toNat) [(at_ 0 l3 i2)] 8) <|
 grd (subOk k (out2.length : Int) out2.length) <|
 grd (appOk ((out2.take k.toNat) ++ [(at_ 0 l3 i2)]) (out2.drop k.toNat) 8) <|
 Z59 l3 (((out2.take k.toNat) ++ [(at_ 0 l3 i2)]) ++ (out2.drop k.toNat)) (w64 (i2 + 1))
def Z1w (Z59 : I0 -> I0 -> Int -> Option I0) (N : Nat) : Nat -> I0 -> I0 -> Int -> Int -> Option I0
 | 0, _, _, _, _ => none
 | k_ + 1, l3, out2, i2, k => Z3b N Z59 (Z1w Z59 N k_) l3 out2 i2 k
def Z4l (N : Nat) (Z0ak : I0 -> I0 -> Int -> Int -> Option I0) (rec_ : I0 -> I0 -> Int -> Option I0) (l2 : I0) (out : I0) (i : Int) : Option I0 :=
 bif decide (i < (l2.length : Int)) then Z0ak l2 out i (out.length : Int)
 else
 some out
def Z0r (N : Nat) : Nat -> I0 -> I0 -> Int -> Option I0
 | 0, _, _, _ => none
 | k_ + 1, l2, out, i => Z4l N (Z1w (Z0r N k_) N N) (Z0r N k_) l2 out i
def Z7w (N : Nat) (Z0al : I0 -> I0 -> Int -> Option I0) (l : I0) : Option I0 :=
 Z0al l [] 0
def Z1i (l : I0) : Option I0 := Z7w N (Z0r N N) l
def Z7x (rec_ : I0 -> R0 -> A0 -> Int -> Option (Bool)) (l2 : I0) (d2 : R0) (d3 : A0) (i : Int) : Option (Bool) :=
 bif decide (i < (l2.length : Int)) then
  grd (inb i l2) <|
  (Z0o N (at_ 0 l2 i) 0 (w64 ((d3.length : Int) - 1))).bind fun r =>
  bif (!r) then some false
  else
  bif decide (i > 0) then
   grd (inb i l2) <|
   grd (inb (w64 (i - 1)) l2) <|
   bif decide ((at_ 0 l2 i) <= (at_ 0 l2 (w64 (i - 1)))) then some false
   else
   rec_ l2 d2 d3 (w64 (i + 1))
  else
  rec_ l2 d2 d3 (w64 (i + 1))
 else
 some true
def Z6b (N : Nat) : Nat -> I0 -> R0 -> A0 -> Int -> Option (Bool)
 | 0, _, _, _, _ => none
 | k_ + 1, l2, d2, d3, i => Z7x N (Z6b N k_) l2 d2 d3 i
def Z9j (N : Nat) (Z0b5 : I0 -> R0 -> A0 -> Int -> Option (Bool)) (d : D0) (l : I0) : Option (Bool) :=
 Z0b5 l d.1 d.2 0
def Z5c (d : D0) (l : I0) : Option (Bool) := Z9j N (Z6b N N) d l
def Z74 (N : Nat) (rec_ : I0 -> R0 -> A0 -> R0 -> A0 -> R0 -> A0 -> Int -> Option (D0 × Bool)) (l2 : I0) (d2 : R0) (d3 : A0) (t4 : R0) (t42 : A0) (x : R0) (x2 : A0) (i : Int) : Option (D0 × Bool) :=
 bif decide (i < (l2.length : Int)) then
  grd (inb i l2) <|
  grd (inb (at_ 0 l2 i) d3) <|
  grd (appOk [] ((at_ (0, []) d3 (at_ 0 l2 i)).2) 8) <|
  grd (appOk x2 [(at_ (0, []) d3 (at_ 0 l2 i))] 32) <|
  rec_ l2 d2 d3 t4 t42 x (x2 ++ [(at_ (0, []) d3 (at_ 0 l2 i))]) (w64 (i + 1))
 else
 some ((x, x2), true)
def Z43 (N : Nat) : Nat -> I0 -> R0 -> A0 -> R0 -> A0 -> R0 -> A0 -> Int -> Option (D0 × Bool)
 | 0, _, _, _, _, _, _, _, _ => none
 | k_ + 1, l2, d2, d3, t4, t42, x, x2, i => Z74 N (Z43 N k_) l2 d2 d3 t4 t42 x x2 i
def Z83 (Z0a5 : I0 -> R0 -> A0 -> R0 -> A0 -> R0 -> A0 -> Int -> Option (D0 × Bool)) (d : D0) (l : I0) : Option (D0 × Bool) :=
 (Z0 N d).bind fun r =>
 bif (!r) then some (([], []), false)
 else
 (Z5c N d l).bind fun r2 =>
 bif (!r2) then some (([], []), false)
 else
 grd (appOk [] d.1 32) <|
 Z0a5 l d.1 d.2 [] [] d.1 [] 0
def Z36 (d : D0) (l : I0) : Option (D0 × Bool) := Z83 N (Z43 N N) d l
def Z6g (l : R0) (f : Int × List Int) : Option I0 :=
 (Z0y N l f).bind fun r =>
 bif (!r) then some []
 else
 grd (inb f.1 l) <|
 grd (subOk 0 (((at_ (⟨#[]⟩, (0, 0)) l f.1).2).2) f.2.length) <|
 grd (appOk [] (f.2.take (((at_ (⟨#[]⟩, (0, 0)) l f.1).2).2).toNat) 8) <|
 some (f.2.take (((at_ (⟨#[]⟩, (0, 0)) l f.1).2).2).toNat)
def Z37 (l : R0) (a : Int × List Int) (b : Int × List Int) : Option (Bool) :=
 (Z0y N l a).bind fun r =>
 bif r then
  (Z0y N l b).bind fun r2 =>
  bif r2 then
   bif (a.1 == b.1) then
    (Z6g N l a).bind fun r3 =>
    (Z6g N l b).bind fun r4 =>
    (Z4c N r3 r4).bind fun r5 =>
    some (r5 == 0)
   else
   some false
  else
  some false
 else
 some false
def Z6z (rec_ : Int -> R0 -> A0 -> I0 -> Int -> Option I0) (i2 : Int) (d2 : R0) (d3 : A0) (out : I0) (k : Int) : Option I0 :=
 bif decide (k < (d3.length : Int)) then
  (Z0 N (d2, d3)).bind fun r =>
  bif r then
   (Z0o N i2 0 (w64 ((d3.length : Int) - 1))).bind fun r2 =>
   bif r2 then
    grd (inb i2 d3) <|
    grd (inb k d3) <|
    (Z37 N d2 (at_ (0, []) d3 i2) (at_ (0, []) d3 k)).bind fun r3 =>
    bif r3 then
     grd (appOk out [k] 8) <|
     rec_ i2 d2 d3 (out ++ [k]) (w64 (k + 1))
    else
    rec_ i2 d2 d3 out (w64 (k + 1))
   else
   some out
  else
  some out
 else
 some out
def Z4y (N : Nat) : Nat -> Int -> R0 -> A0 -> I0 -> Int -> Option I0
 | 0, _, _, _, _, _ => none
 | k_ + 1, i2, d2, d3, out, k => Z6z N (Z4y N k_) i2 d2 d3 out k
def Z8w (N : Nat) (Z0au : Int -> R0 -> A0 -> I0 -> Int -> Option I0) (d : D0) (i : Int) : Option I0 :=
 Z0au i d.1 d.2 [] 0
def Z5u (d : D0) (i : Int) : Option I0 := Z8w N (Z4y N N) d i
def Z5v (rec_ : R0 -> A0 -> L0 -> Int -> Option L0) (d2 : R0) (d3 : A0) (out : L0) (i : Int) : Option L0 :=
 bif decide (i < (d3.length : Int)) then
  (Z0 N (d2, d3)).bind fun r =>
  bif r then
   (Z5u N (d2, d3) i).bind fun r2 =>
   grd (inb 0 r2) <|
   bif ((at_ 0 r2 0) == i) then
    grd (appOk out [r2] 24) <|
    rec_ d2 d3 (out ++ [r2]) (w64 (i + 1))
   else
   rec_ d2 d3 out (w64 (i + 1))
  else
  some out
 else
 some out
def Z45 (N : Nat) : Nat -> R0 -> A0 -> L0 -> Int -> Option L0
 | 0, _, _, _, _ => none
 | k_ + 1, d2, d3, out, i => Z5v N (Z45 N k_) d2 d3 out i
def Z94 (N : Nat) (Z0az : R0 -> A0 -> L0 -> Int -> Option L0) (d : D0) : Option L0 :=
 Z0az d.1 d.2 [] 0
def Z22 (d : D0) : Option L0 := Z94 N (Z45 N N) d
def Z3x (d : D0) : Option (Bool) :=
 (Z0 N d).bind fun r =>
 bif r then
  (Z22 N d).bind fun r2 =>
  some ((r2.length : Int) == (d.2.length : Int))
 else
 some false
def Z1a (d : D0) (l : I0) : Option (Bool) :=
 (Z36 N d l).bind fun p_r =>
 bif p_r.2 then
  (Z3x N p_r.1).bind fun r3 =>
  some r3
 else
 some false
def Z7p (rec_ : R0 -> A0 -> L0 -> (List (List Int × List Int)) -> Int -> Option L0) (d2 : R0) (d3 : A0) (out : L0) (l : List (List Int × List Int)) (i : Int) : Option L0 :=
 bif decide (i < (l.length : Int)) then
  grd (inb i l) <|
  (Z1i N ((at_ ([], []) l i).2)).bind fun r2 =>
  (Z1a N (d2, d3) r2).bind fun r3 =>
  bif r3 then
   grd (appOk out [r2] 24) <|
   rec_ d2 d3 (out ++ [r2]) l (w64 (i + 1))
  else
  rec_ d2 d3 out l (w64 (i + 1))
 else
 some out
def Z5a (N : Nat) : Nat -> R0 -> A0 -> L0 -> (List (List Int × List Int)) -> Int -> Option L0
 | 0, _, _, _, _, _ => none
 | k_ + 1, d2, d3, out, l, i => Z7p N (Z5a N k_) d2 d3 out l i
def Z8h (Z0af : R0 -> A0 -> L0 -> (List (List Int × List Int)) -> Int -> Option L0) (d : D0) (q : Q0) : Option L0 :=
 (Z26 N d q).bind fun r =>
 Z0af d.1 d.2 [] r 0
def Z46 (d : D0) (q : Q0) : Option L0 := Z8h N (Z5a N N) d q
def Z5d (N : Nat) (rec_ : I0 -> L0 -> Int -> Option I0) (out : I0) (l : L0) (i : Int) : Option I0 :=
 bif decide (i < (l.length : Int)) then
  grd (inb i l) <|
  grd (appOk out [((at_ [] l i).length : Int)] 8) <|
  rec_ (out ++ [((at_ [] l i).length : Int)]) l (w64 (i + 1))
 else
 some out
def Z3c (N : Nat) : Nat -> I0 -> L0 -> Int -> Option I0
 | 0, _, _, _ => none
 | k_ + 1, out, l, i => Z5d N (Z3c N k_) out l i
def Z8d (Z0ad : I0 -> L0 -> Int -> Option I0) (d : D0) : Option I0 :=
 (Z22 N d).bind fun r =>
 Z0ad [] r 0
def Z3r (d : D0) : Option I0 := Z8d N (Z3c N N) d
def Z4g (N : Nat) (rec_ : Int -> I0 -> Int -> Option (Int)) (n : Int) (l : I0) (i : Int) : Option (Int) :=
 bif decide (i < (l.length : Int)) then
  grd (inb i l) <|
  rec_ (w64 (n * (at_ 0 l i))) l (w64 (i + 1))
 else
 some n
def Z1x (N : Nat) : Nat -> Int -> I0 -> Int -> Option (Int)
 | 0, _, _, _ => none
 | k_ + 1, n, l, i => Z4g N (Z1x N k_) n l i
def Z7q (Z9x : Int -> I0 -> Int -> Option (Int)) (d : D0) : Option (Int) :=
 (Z0 N d).bind fun r =>
 bif (!r) then some 0
 else
 (Z3r N d).bind fun r2 =>
 Z9x 1 r2 0
def Z1h (d : D0) : Option (Int) := Z7q N (Z1x N N) d
def Z64 (rec_ : Int -> L0 -> I0 -> Int -> Option (List Int × Bool)) (k2 : Int) (b : L0) (out : I0) (i : Int) : Option (List Int × Bool) :=
 bif decide (i >= 0) then
  grd (inb i b) <|
  grd (inb i b) <|
  grz ((at_ [] b i).length : Int) <|
  grd (inb (k2.tmod ((at_ [] b i).length : Int)) (at_ [] b i)) <|
  grd (appOk out [(at_ 0 (at_ [] b i) (k2.tmod ((at_ [] b i).length : Int)))] 8) <|
  grd (inb i b) <|
  grz ((at_ [] b i).length : Int) <|
  rec_ (w64 (k2.tdiv ((at_ [] b i).length : Int))) b (out ++ [(at_ 0 (at_ [] b i) (k2.tmod ((at_ [] b i).length : Int)))]) (w64 (i - 1))
 else
 (Z1i N out).bind fun r4 =>
 some (r4, true)
def Z3y (N : Nat) : Nat -> Int -> L0 -> I0 -> Int -> Option (List Int × Bool)
 | 0, _, _, _, _ => none
 | k_ + 1, k2, b, out, i => Z64 N (Z3y N k_) k2 b out i
def Z8i (Z0ag : Int -> L0 -> I0 -> Int -> Option (List Int × Bool)) (d : D0) (k : Int) : Option (List Int × Bool) :=
 (Z1h N d).bind fun r =>
 (Z0o N k 0 (w64 (r - 1))).bind fun r2 =>
 bif (!r2) then some ([], false)
 else
 (Z22 N d).bind fun r3 =>
 Z0ag k r3 [] (w64 ((r3.length : Int) - 1))
def Z47 (d : D0) (k : Int) : Option (List Int × Bool) := Z8i N (Z3y N N) d k
def Z7y (N : Nat) (rec_ : I0 -> Int -> Int -> Option (Bool)) (l2 : I0) (x2 : Int) (i : Int) : Option (Bool) :=
 bif decide (i < (l2.length : Int)) then
  grd (inb i l2) <|
  bif ((at_ 0 l2 i) == x2) then some true
  else
  rec_ l2 x2 (w64 (i + 1))
 else
 some false
def Z6c (N : Nat) : Nat -> I0 -> Int -> Int -> Option (Bool)
 | 0, _, _, _ => none
 | k_ + 1, l2, x2, i => Z7y N (Z6c N k_) l2 x2 i
def Z9k (N : Nat) (Z0b6 : I0 -> Int -> Int -> Option (Bool)) (l : I0) (x : Int) : Option (Bool) :=
 Z0b6 l x 0
def Z7d (l : I0) (x : Int) : Option (Bool) := Z9k N (Z6c N N) l x
def Z8j (Z7z : L0 -> I0 -> Int -> Option (Bool)) (rec_ : L0 -> I0 -> Int -> Bool -> Int -> Option (Bool)) (l3 : L0) (s3 : I0) (i2 : Int) (all : Bool) (k : Int) : Option (Bool) :=
 grd (inb i2 l3) <|
 bif decide (k < ((at_ [] l3 i2).length : Int)) then
  bif all then
   grd (inb i2 l3) <|
   grd (inb k (at_ [] l3 i2)) <|
   (Z7d N s3 (at_ 0 (at_ [] l3 i2) k)).bind fun r =>
   rec_ l3 s3 i2 r (w64 (k + 1))
  else
  rec_ l3 s3 i2 false (w64 (k + 1))
 else
 bif all then some true
 else
 Z7z l3 s3 (w64 (i2 + 1))
def Z75 (Z7z : L0 -> I0 -> Int -> Option (Bool)) (N : Nat) : Nat -> L0 -> I0 -> Int -> Bool -> Int -> Option (Bool)
 | 0, _, _, _, _, _ => none
 | k_ + 1, l3, s3, i2, all, k => Z8j N Z7z (Z75 Z7z N k_) l3 s3 i2 all k
def Z7e (N : Nat) (Z0b0 : L0 -> I0 -> Int -> Bool -> Int -> Option (Bool)) (rec_ : L0 -> I0 -> Int -> Option (Bool)) (l2 : L0) (s2 : I0) (i : Int) : Option (Bool) :=
 bif decide (i < (l2.length : Int)) then Z0b0 l2 s2 i true 0
 else
 some false
def Z2j (N : Nat) : Nat -> L0 -> I0 -> Int -> Option (Bool)
 | 0, _, _, _ => none
 | k_ + 1, l2, s2, i => Z7e N (Z75 (Z2j N k_) N N) (Z2j N k_) l2 s2 i
def Z95 (N : Nat) (Z0b1 : L0 -> I0 -> Int -> Option (Bool)) (l : L0) (s : I0) : Option (Bool) :=
 Z0b1 l s 0
def Z7m (l : L0) (s : I0) : Option (Bool) := Z95 N (Z2j N N) l s
def Z3d (l : L0) (s : I0) : Option (Bool) :=
 (Z7m N l s).bind fun r =>
 some r
def Z31 (N : Nat) (rec_ : I0 -> I0 -> Int -> Int -> Option (Int)) (w2 : I0) (l2 : I0) (n : Int) (i : Int) : Option (Int) :=
 bif decide (i < (l2.length : Int)) then
  grd (inb i l2) <|
  grd (inb (at_ 0 l2 i) w2) <|
  rec_ w2 l2 (w64 (n * (at_ 0 w2 (at_ 0 l2 i)))) (w64 (i + 1))
 else
 some n
def Z11 (N : Nat) : Nat -> I0 -> I0 -> Int -> Int -> Option (Int)
 | 0, _, _, _, _ => none
 | k_ + 1, w2, l2, n, i => Z31 N (Z11 N k_) w2 l2 n i
def Z7r (Z9y : I0 -> I0 -> Int -> Int -> Option (Int)) (d : D0) (w : I0) (l : I0) : Option (Int) :=
 (Z0l N d w).bind fun r =>
 bif (!r) then some 0
 else
 (Z5c N d l).bind fun r2 =>
 bif (!r2) then some 0
 else
 Z9y w l 1 0
def Z25 (d : D0) (w : I0) (l : I0) : Option (Int) := Z7r N (Z11 N N) d w l
def Z8n (rec_ : I0 -> R0 -> A0 -> Int -> L0 -> Int -> Option (Int)) (w2 : I0) (d2 : R0) (d3 : A0) (n : Int) (need : L0) (k : Int) : Option (Int) :=
 (Z1h N (d2, d3)).bind fun r2 =>
 bif decide (k < r2) then
  (Z47 N (d2, d3) k).bind fun p_r3 =>
  (Z3d N need p_r3.1).bind fun r5 =>
  bif r5 then
   (Z25 N (d2, d3) w2 p_r3.1).bind fun r6 =>
   rec_ w2 d2 d3 (w64 (n + r6)) need (w64 (k + 1))
  else
  rec_ w2 d2 d3 n need (w64 (k + 1))
 else
 some n
def Z7k (N : Nat) : Nat -> I0 -> R0 -> A0 -> Int -> L0 -> Int -> Option (Int)
 | 0, _, _, _, _, _, _ => none
 | k_ + 1, w2, d2, d3, n, need, k => Z8n N (Z7k N k_) w2 d2 d3 n need k
def Z9l (Z0b7 : I0 -> R0 -> A0 -> Int -> L0 -> Int -> Option (Int)) (d : D0) (w : I0) (q : Q0) : Option (Int) :=
 (Z46 N d q).bind fun r =>
 Z0b7 w d.1 d.2 0 r 0
def Z7f (d : D0) (w : I0) (q : Q0) : Option (Int) := Z9l N (Z7k N N) d w q
def Z2d (N : Nat) (Z5e : I0 -> Int -> L0 -> Int -> Option (Int)) (rec_ : I0 -> Int -> L0 -> Int -> Int -> Int -> Option (Int)) (w3 : I0) (n2 : Int) (b2 : L0) (i2 : Int) (s : Int) (k : Int) : Option (Int) :=
 grd (inb i2 b2) <|
 bif decide (k < ((at_ [] b2 i2).length : Int)) then
  grd (inb i2 b2) <|
  grd (inb k (at_ [] b2 i2)) <|
  grd (inb (at_ 0 (at_ [] b2 i2) k) w3) <|
  rec_ w3 n2 b2 i2 (w64 (s + (at_ 0 w3 (at_ 0 (at_ [] b2 i2) k)))) (w64 (k + 1))
 else
 Z5e w3 (w64 (n2 * s)) b2 (w64 (i2 + 1))
def Z0w (Z5e : I0 -> Int -> L0 -> Int -> Option (Int)) (N : Nat) : Nat -> I0 -> Int -> L0 -> Int -> Int -> Int -> Option (Int)
 | 0, _, _, _, _, _, _ => none
 | k_ + 1, w3, n2, b2, i2, s, k => Z2d N Z5e (Z0w Z5e N k_) w3 n2 b2 i2 s k
def Z3e (N : Nat) (Z0a6 : I0 -> Int -> L0 -> Int -> Int -> Int -> Option (Int)) (rec_ : I0 -> Int -> L0 -> Int -> Option (Int)) (w2 : I0) (n : Int) (b : L0) (i : Int) : Option (Int) :=
 bif decide (i < (b.length : Int)) then Z0a6 w2 n b i 0 0
 else
 some n
def Z0p (N : Nat) : Nat -> I0 -> Int -> L0 -> Int -> Option (Int)
 | 0, _, _, _, _ => none
 | k_ + 1, w2, n, b, i => Z3e N (Z0w (Z0p N k_) N N) (Z0p N k_) w2 n b i
def Z84 (Z0a7 : I0 -> Int -> L0 -> Int -> Option (Int)) (d : D0) (w : I0) : Option (Int) :=
 (Z0l N d w).bind fun r =>
 bif (!r) then some 0
 else
 (Z22 N d).bind fun r2 =>
 Z0a7 w 1 r2 0
def Z2f (d : D0) (w : I0) : Option (Int) := Z84 N (Z0p N N) d w
def Z8k (N : Nat) (rec_ : Int -> Int -> Option (Int)) (a2 : Int) (b2 : Int) : Option (Int) :=
 bif (b2 != 0) then
  grz b2 <|
  rec_ b2 (a2.tmod b2)
 else
 some a2
def Z76 (N : Nat) : Nat -> Int -> Int -> Option (Int)
 | 0, _, _ => none
 | k_ + 1, a2, b2 => Z8k N (Z76 N k_) a2 b2
def Z96 (N : Nat) (Z0b2 : Int -> Int -> Option (Int)) (a : Int) (b : Int) : Option (Int) :=
 Z0b2 a b
def Z7n (a : Int) (b : Int) : Option (Int) := Z96 N (Z76 N N) a b
def Z55 (n : Int) (m : Int) : Option (Int × Int) :=
 (Z7n N n m).bind fun r =>
 grz r <|
 grz r <|
 some ((w64 (n.tdiv r)), (w64 (m.tdiv r)))
def Z38 (d : D0) (w : I0) (q : Q0) : Option ((Int × Int) × Bool) :=
 (Z29 N d q).bind fun r =>
 bif (!r) then some ((0, 0), false)
 else
 (Z0l N d w).bind fun r2 =>
 bif (!r2) then some ((0, 0), false)
 else
 (Z7f N d w q).bind fun r3 =>
 (Z2f N d w).bind fun r4 =>
 (Z55 N r3 r4).bind fun r5 =>
 some (r5, true)
def Z0h (N : Nat) (n : Int) (low : Int) (high : Int) : Option (Bool) :=
 bif decide (low <= n) then some (decide (n <= high))
 else
 some false
def Z1y (relation : ByteArray × Int × Int) : Option (Bool) :=
 bif ((relation.1.size : Int) == 1) then
  (byteAt relation.1 0).bind fun b =>
  bif decide ((b.toNat : Int) >= 97) then
   (byteAt relation.1 0).bind fun b2 =>
   bif decide ((b2.toNat : Int) <= 122) then
    (Z0h N relation.2.1 1 3).bind fun r =>
    bif r then
     (Z0h N relation.2.2 0 relation.2.1).bind fun r2 =>
     some r2
    else
    some false
   else
   some false
  else
  some false
 else
 some false
def Z2u (rec_ : R0 -> R0 -> Int -> Int -> Option (Bool)) (relations2 : R0) (t5 : R0) (t6 : Int) (t7 : Int) : Option (Bool) :=
 bif decide (t7 < t6) then
  grd (inb t7 t5) <|
  (Z1y N ((at_ (⟨#[]⟩, (0, 0)) t5 t7).1, ((at_ (⟨#[]⟩, (0, 0)) t5 t7).2))).bind fun r =>
  bif (!r) then some false
  else
  bif decide (t7 > 0) then
   grd (inb (w64 (t7 - 1)) relations2) <|
   bif (!slt ((at_ (⟨#[]⟩, (0, 0)) relations2 (w64 (t7 - 1))).1) ((at_ (⟨#[]⟩, (0, 0)) t5 t7).1)) then some false
   else
   rec_ relations2 t5 t6 (w64 (t7 + 1))
  else
  rec_ relations2 t5 t6 (w64 (t7 + 1))
 else
 some (decide ((relations2.length : Int) <= 4))
def Z1f (N : Nat) : Nat -> R0 -> R0 -> Int -> Int -> Option (Bool)
 | 0, _, _, _, _ => none
 | k_ + 1, relations2, t5, t6, t7 => Z2u N (Z1f N k_) relations2 t5 t6 t7
def Z5w (N : Nat) (Z97 : R0 -> R0 -> Int -> Int -> Option (Bool)) (relations : R0) : Option (Bool) :=
 Z97 relations relations (relations.length : Int) 0
def Z0s (relations : R0) : Option (Bool) := Z5w N (Z1f N N) relations
def Z3z (v : Int) : Option (Bool) :=
 (Z0h N v 0 9).bind fun r =>
 some (!r)
def Z0t (rec_ : I0 -> Int -> Int -> Option (Int)) (s2 : I0) (t7 : Int) (t8 : Int) : Option (Int) :=
 bif decide (t8 < t7) then
  grd (inb t8 s2) <|
  (Z3z N (at_ 0 s2 t8)).bind fun r =>
  bif r then some t8
  else
  rec_ s2 t7 (w64 (t8 + 1))
 else
 some (-1)
def Z0a (N : Nat) : Nat -> I0 -> Int -> Int -> Option (Int)
 | 0, _, _, _ => none
 | k_ + 1, s2, t7, t8 => Z0t N (Z0a N k_) s2 t7 t8
def Z1z (N : Nat) (Z77 : I0 -> Int -> Int -> Option (Int)) (s : I0) : Option (Int) :=
 Z77 s (s.length : Int) 0
def Z0g (s : I0) : Option (Int) := Z1z N (Z0a N N) s
def Z0b (s : I0) : Option (Bool) :=
 (Z0g N s).bind fun r =>
 some (decide (r >= 0))
def Z48 (list : I0) : Option (Bool) :=
 (Z0b N list).bind fun r =>
 some (!r)
def Z6p (relations : R0) (fact : Int × List Int) : Option (Bool) :=
 (Z0h N fact.1 0 (w64 ((relations.length : Int) - 1))).bind fun r =>
 bif r then
  grd (inb fact.1 relations) <|
  bif ((fact.2.length : Int) == (((at_ (⟨#[]⟩, (0, 0)) relations fact.1).2).1)) then
   (Z48 N fact.2).bind fun r2 =>
   some r2
  else
  some false
 else
 some false
def Z78 (N : Nat) (a : Int) (b : Int) : Option (Int) :=
 bif decide (a < b) then some (-1)
 else
 bif decide (a > b) then some 1
 else
 some 0
def Z56 (N : Nat) (x : Int) : Option (Bool) :=
 some (x != x)
def Z3s (x : Int) (y : Int) : Option (Int) :=
 (Z56 N x).bind fun r =>
 (Z56 N y).bind fun r2 =>
 bif r then
  bif r2 then some 0
  else
  some (-1)
 else
 bif r2 then some 1
 else
 bif decide (x < y) then some (-1)
 else
 bif decide (x > y) then some 1
 else
 some 0
def Z1k (rec_ : I0 -> I0 -> I0 -> Int -> Int -> Option (Int)) (s12 : I0) (s22 : I0) (t9 : I0) (t10 : Int) (t11 : Int) : Option (Int) :=
 bif decide (t11 < t10) then
  grd (inb t11 t9) <|
  bif decide (t11 >= (s22.length : Int)) then some 1
  else
  grd (inb t11 s22) <|
  (Z3s N (at_ 0 t9 t11) (at_ 0 s22 t11)).bind fun r =>
  bif (r != 0) then some r
  else
  rec_ s12 s22 t9 t10 (w64 (t11 + 1))
 else
 bif decide ((s12.length : Int) < (s22.length : Int)) then some (-1)
 else
 some 0
def Z0z (N : Nat) : Nat -> I0 -> I0 -> I0 -> Int -> Int -> Option (Int)
 | 0, _, _, _, _, _ => none
 | k_ + 1, s12, s22, t9, t10, t11 => Z1k N (Z0z N k_) s12 s22 t9 t10 t11
def Z5f (N : Nat) (Z90 : I0 -> I0 -> I0 -> Int -> Int -> Option (Int)) (s1 : I0) (s2 : I0) : Option (Int) :=
 Z90 s1 s2 s1 (s1.length : Int) 0
def Z17 (s1 : I0) (s2 : I0) : Option (Int) := Z5f N (Z0z N N) s1 s2
def Z2q (a : Int × List Int) (b : Int × List Int) : Option (Int) :=
 bif (a.1 != b.1) then
  (Z78 N a.1 b.1).bind fun r =>
  some r
 else
 (Z17 N a.2 b.2).bind fun r2 =>
 some r2
def Z3m (rec_ : R0 -> A0 -> A0 -> Int -> Int -> Option (Bool)) (db2 : R0) (db3 : A0) (t16 : A0) (t17 : Int) (t18 : Int) : Option (Bool) :=
 bif decide (t18 < t17) then
  grd (inb t18 t16) <|
  (Z6p N db2 (at_ (0, []) t16 t18)).bind fun r2 =>
  bif (!r2) then some false
  else
  bif decide (t18 > 0) then
   grd (inb (w64 (t18 - 1)) db3) <|
   (Z2q N (at_ (0, []) db3 (w64 (t18 - 1))) (at_ (0, []) t16 t18)).bind fun r3 =>
   bif decide (r3 >= 0) then some false
   else
   rec_ db2 db3 t16 t17 (w64 (t18 + 1))
  else
  rec_ db2 db3 t16 t17 (w64 (t18 + 1))
 else
 some true
def Z1r (N : Nat) : Nat -> R0 -> A0 -> A0 -> Int -> Int -> Option (Bool)
 | 0, _, _, _, _, _ => none
 | k_ + 1, db2, db3, t16, t17, t18 => Z3m N (Z1r N k_) db2 db3 t16 t17 t18
def Z6q (Z9m : R0 -> A0 -> A0 -> Int -> Int -> Option (Bool)) (db : D0) : Option (Bool) :=
 (Z0s N db.1).bind fun r =>
 bif (!r) then some false
 else
 bif decide ((db.2.length : Int) > 14) then some false
 else
 Z9m db.1 db.2 db.2 (db.2.length : Int) 0
def Z12 (db : D0) : Option (Bool) := Z6q N (Z1r N N) db
def Z5g (rec_ : I0 -> Int -> I0 -> Int -> Int -> Option (Bool)) (indices2 : I0) (n2 : Int) (t7 : I0) (t8 : Int) (t9 : Int) : Option (Bool) :=
 bif decide (t9 < t8) then
  grd (inb t9 t7) <|
  (Z0h N (at_ 0 t7 t9) 0 (w64 (n2 - 1))).bind fun r =>
  bif (!r) then some false
  else
  bif decide (t9 > 0) then
   grd (inb (w64 (t9 - 1)) indices2) <|
   bif decide ((at_ 0 indices2 (w64 (t9 - 1))) >= (at_ 0 t7 t9)) then some false
   else
   rec_ indices2 n2 t7 t8 (w64 (t9 + 1))
  else
  rec_ indices2 n2 t7 t8 (w64 (t9 + 1))
 else
 some true
def Z3f (N : Nat) : Nat -> I0 -> Int -> I0 -> Int -> Int -> Option (Bool)
 | 0, _, _, _, _, _ => none
 | k_ + 1, indices2, n2, t7, t8, t9 => Z5g N (Z3f N k_) indices2 n2 t7 t8 t9
def Z8e (N : Nat) (Z0ae : I0 -> Int -> I0 -> Int -> Int -> Option (Bool)) (indices : I0) (n : Int) : Option (Bool) :=
 Z0ae indices n indices (indices.length : Int) 0
def Z3t (indices : I0) (n : Int) : Option (Bool) := Z8e N (Z3f N N) indices n
def Z2k (N : Nat) (own : Int × List Int) (c1 : Int × List Int) : Option (Bool) :=
 some (own.1 == c1.1)
def Z0m (rec_ : A0 -> (Int × List Int) -> Int -> Int -> Option (Int)) (s2 : A0) (f : Int × List Int) (t7 : Int) (t8 : Int) : Option (Int) :=
 bif decide (t8 < t7) then
  grd (inb t8 s2) <|
  (Z2k N (at_ (0, []) s2 t8) f).bind fun r =>
  bif r then some t8
  else
  rec_ s2 f t7 (w64 (t8 + 1))
 else
 some (-1)
def Z4 (N : Nat) : Nat -> A0 -> (Int × List Int) -> Int -> Int -> Option (Int)
 | 0, _, _, _, _ => none
 | k_ + 1, s2, f, t7, t8 => Z0m N (Z4 N k_) s2 f t7 t8
def Z1b (N : Nat) (Z66 : A0 -> (Int × List Int) -> Int -> Int -> Option (Int)) (s : A0) (c : Int × List Int) : Option (Int) :=
 Z66 s c (s.length : Int) 0
def Z7 (s : A0) (c : Int × List Int) : Option (Int) := Z1b N (Z4 N N) s c
def Z1 (s : A0) (c : Int × List Int) : Option (Bool) :=
 (Z7 N s c).bind fun r =>
 some (decide (r >= 0))
def Z4m (N : Nat) (rec_ : I0 -> L0 -> Int -> Int -> Option I0) (newslice : I0) (t25 : L0) (t26 : Int) (t27 : Int) : Option I0 :=
 bif decide (t27 < t26) then
  grd (inb t27 t25) <|
  grd (appOk newslice (at_ [] t25 t27) 8) <|
  rec_ (newslice ++ (at_ [] t25 t27)) t25 t26 (w64 (t27 + 1))
 else
 some newslice
def Z1g (N : Nat) : Nat -> I0 -> L0 -> Int -> Int -> Option I0
 | 0, _, _, _, _ => none
 | k_ + 1, newslice, t25, t26, t27 => Z4m N (Z1g N k_) newslice t25 t26 t27
def Z4n (Z98 : I0 -> L0 -> Int -> Int -> Option I0) (rec_ : L0 -> Int -> L0 -> Int -> Int -> Option I0) (slices2 : L0) (size : Int) (t9 : L0) (t10 : Int) (t11 : Int) : Option I0 :=
 bif decide (t11 < t10) then
  grd (inb t11 t9) <|
  bif decide ((w64 (size + ((at_ [] t9 t11).length : Int))) < 0) then none
  else
  rec_ slices2 (w64 (size + ((at_ [] t9 t11).length : Int))) t9 t10 (w64 (t11 + 1))
 else
 (Z7b N [] size).bind fun r =>
 Z98 r slices2 (slices2.length : Int) 0
def Z2a (N : Nat) : Nat -> L0 -> Int -> L0 -> Int -> Int -> Option I0
 | 0, _, _, _, _, _ => none
 | k_ + 1, slices2, size, t9, t10, t11 => Z4n N (Z1g N N) (Z2a N k_) slices2 size t9 t10 t11
def Z5x (N : Nat) (Z99 : L0 -> Int -> L0 -> Int -> Int -> Option I0) (slices : L0) : Option I0 :=
 Z99 slices 0 slices (slices.length : Int) 0
def Z1d (slices : L0) : Option I0 := Z5x N (Z2a N N) slices
def Z5h (a : I0) (b : I0) : Option I0 :=
 (Z1d N [a, b]).bind fun r =>
 (Z10 N r).bind fun m =>
 (Z67 N m).bind fun r2 =>
 some r2
def Z68 (rec_ : I0 -> I0 -> Int -> Int -> Option I0) (out : I0) (t8 : I0) (t9 : Int) (t10 : Int) : Option I0 :=
 bif decide (t10 < t9) then
  grd (inb t10 t8) <|
  (Z0h N (at_ 0 t8 t10) 0 3).bind fun r =>
  bif r then
   grd (appOk out [(at_ 0 t8 t10)] 8) <|
   rec_ (out ++ [(at_ 0 t8 t10)]) t8 t9 (w64 (t10 + 1))
  else
  rec_ out t8 t9 (w64 (t10 + 1))
 else
 (Z5h N out []).bind fun r2 =>
 some r2
def Z3g (N : Nat) : Nat -> I0 -> I0 -> Int -> Int -> Option I0
 | 0, _, _, _, _ => none
 | k_ + 1, out, t8, t9, t10 => Z68 N (Z3g N k_) out t8 t9 t10
def Z7g (N : Nat) (Z9q : I0 -> I0 -> Int -> Int -> Option I0) (atom : Int × List Int) : Option I0 :=
 Z9q [] atom.2 (atom.2.length : Int) 0
def Z2g (atom : Int × List Int) : Option I0 := Z7g N (Z3g N N) atom
def Z4h (Z4z : R0 -> Int -> A0 -> I0 -> I0 -> A0 -> Int -> Int -> Option (Bool)) (rec_ : R0 -> Int -> A0 -> I0 -> I0 -> Int -> I0 -> A0 -> Int -> Int -> I0 -> Int -> Int -> Option (Bool)) (relations3 : R0) (query5 : Int) (query6 : A0) (query7 : I0) (occurring2 : I0) (atom : Int) (atom2 : I0) (t362 : A0) (t372 : Int) (t382 : Int) (t71 : I0) (t72 : Int) (t73 : Int) : Option (Bool) :=
 bif decide (t73 < t72) then
  grd (inb t73 t71) <|
  (Z0h N (at_ 0 t71 t73) (-10) (w64 (query5 - 1))).bind fun r7 =>
  bif (!r7) then some false
  else
  rec_ relations3 query5 query6 query7 occurring2 atom atom2 t362 t372 t382 t71 t72 (w64 (t73 + 1))
 else
 (Z2g N (atom, atom2)).bind fun r8 =>
 (Z5h N occurring2 r8).bind fun r9 =>
 Z4z relations3 query5 query6 query7 r9 t362 t372 (w64 (t382 + 1))
def Z20 (Z4z : R0 -> Int -> A0 -> I0 -> I0 -> A0 -> Int -> Int -> Option (Bool)) (N : Nat) : Nat -> R0 -> Int -> A0 -> I0 -> I0 -> Int -> I0 -> A0 -> Int -> Int -> I0 -> Int -> Int -> Option (Bool)
 | 0, _, _, _, _, _, _, _, _, _, _, _, _, _ => none
 | k_ + 1, relations3, query5, query6, query7, occurring2, atom, atom2, t362, t372, t382, t71, t72, t73 => Z4h N Z4z (Z20 Z4z N k_) relations3 query5 query6 query7 occurring2 atom atom2 t362 t372 t382 t71 t72 t73
def Z6r (Z9z : R0 -> Int -> A0 -> I0 -> I0 -> Int -> I0 -> A0 -> Int -> Int -> I0 -> Int -> Int -> Option (Bool)) (rec_ : R0 -> Int -> A0 -> I0 -> I0 -> A0 -> Int -> Int -> Option (Bool)) (relations2 : R0) (query2 : Int) (query3 : A0) (query4 : I0) (occurring : I0) (t36 : A0) (t37 : Int) (t38 : Int) : Option (Bool) :=
 bif decide (t38 < t37) then
  grd (inb t38 t36) <|
  (Z0h N ((at_ (0, []) t36 t38).1) 0 (w64 ((relations2.length : Int) - 1))).bind fun r5 =>
  bif (!r5) then some false
  else
  grd (inb ((at_ (0, []) t36 t38).1) relations2) <|
  bif ((((at_ (0, []) t36 t38).2).length : Int) != (((at_ (⟨#[]⟩, (0, 0)) relations2 ((at_ (0, []) t36 t38).1)).2).1)) then some false
  else
  grd (subOk 0 t38 query3.length) <|
  (Z1 N (query3.take t38.toNat) (at_ (0, []) t36 t38)).bind fun r6 =>
  bif r6 then some false
  else
  Z9z relations2 query2 query3 query4 occurring ((at_ (0, []) t36 t38).1) ((at_ (0, []) t36 t38).2) t36 t37 t38 ((at_ (0, []) t36 t38).2) (((at_ (0, []) t36 t38).2).length : Int) 0
 else
 some ((occurring.length : Int) == query2)
def Z2l (N : Nat) : Nat -> R0 -> Int -> A0 -> I0 -> I0 -> A0 -> Int -> Int -> Option (Bool)
 | 0, _, _, _, _, _, _, _, _ => none
 | k_ + 1, relations2, query2, query3, query4, occurring, t36, t37, t38 => Z6r N (Z20 (Z2l N k_) N N) (Z2l N k_) relations2 query2 query3 query4 occurring t36 t37 t38
def Z7s (Z0a0 : R0 -> Int -> A0 -> I0 -> I0 -> A0 -> Int -> Int -> Option (Bool)) (relations : R0) (query : Q0) : Option (Bool) :=
 (Z0s N relations).bind fun r =>
 bif (!r) then some false
 else
 (Z0h N query.1 0 4).bind fun r2 =>
 bif (!r2) then some false
 else
 (Z0h N (query.2.1.length : Int) 1 3).bind fun r3 =>
 bif (!r3) then some false
 else
 (Z3t N query.2.2 query.1).bind fun r4 =>
 bif (!r4) then some false
 else
 Z0a0 relations query.1 query.2.1 query.2.2 [] query.2.1 (query.2.1.length : Int) 0
def Z2r (relations : R0) (query : Q0) : Option (Bool) := Z7s N (Z2l N N) relations query
def Z2b (db : D0) (query : Q0) : Option (Bool) :=
 (Z12 N db).bind fun r =>
 bif r then
  (Z2r N db.1 query).bind fun r2 =>
  some r2
 else
 some false
def Z1s (w : Int) : Option (Bool) :=
 (Z0h N w 1 9).bind fun r =>
 some (!r)
def Z0k (rec_ : I0 -> Int -> Int -> Option (Int)) (s2 : I0) (t7 : Int) (t8 : Int) : Option (Int) :=
 bif decide (t8 < t7) then
  grd (inb t8 s2) <|
  (Z1s N (at_ 0 s2 t8)).bind fun r =>
  bif r then some t8
  else
  rec_ s2 t7 (w64 (t8 + 1))
 else
 some (-1)
def Z2 (N : Nat) : Nat -> I0 -> Int -> Int -> Option (Int)
 | 0, _, _, _ => none
 | k_ + 1, s2, t7, t8 => Z0k N (Z2 N k_) s2 t7 t8
def Z18 (N : Nat) (Z5y : I0 -> Int -> Int -> Option (Int)) (s : I0) : Option (Int) :=
 Z5y s (s.length : Int) 0
def Z6 (s : I0) : Option (Int) := Z18 N (Z2 N N) s
def Z3 (s : I0) : Option (Bool) :=
 (Z6 N s).bind fun r =>
 some (decide (r >= 0))
def Z13 (db : D0) (weights : I0) : Option (Bool) :=
 (Z12 N db).bind fun r =>
 bif r then
  bif ((weights.length : Int) == (db.2.length : Int)) then
   (Z3 N weights).bind fun r2 =>
   some (!r2)
  else
  some false
 else
 some false
def Z4o (n : Int) : Option I0 :=
 (Z6i N [(-1)] n).bind fun r =>
 some r
def Z50 (N : Nat) (t : Int) : Option (Bool) :=
 some (decide (t >= 0))
def Z40 (N : Nat) (v : Int) : Option (Int) :=
 some (w64 ((-1) - v))
def Z8o (rec_ : I0 -> I0 -> I0 -> Int -> Int -> Option (List Int × Bool)) (from_2 : I0) (out : I0) (t13 : I0) (t14 : Int) (t15 : Int) : Option (List Int × Bool) :=
 bif decide (t15 < t14) then
  grd (inb t15 t13) <|
  (Z50 N (at_ 0 t13 t15)).bind fun r2 =>
  bif (!r2) then
   (Z40 N (at_ 0 t13 t15)).bind fun r3 =>
   grd (inb t15 from_2) <|
   bif (r3 != (at_ 0 from_2 t15)) then some ([], false)
   else
   rec_ from_2 out t13 t14 (w64 (t15 + 1))
  else
  grd (inb (at_ 0 t13 t15) out) <|
  bif decide ((at_ 0 out (at_ 0 t13 t15)) < 0) then
   grd (inb t15 from_2) <|
   grd (inb (at_ 0 t13 t15) out) <|
   grd (inb (at_ 0 t13 t15) out) <|
   letv (out.set (at_ 0 t13 t15).toNat (at_ 0 from_2 t15)) fun u =>
   rec_ from_2 u t13 t14 (w64 (t15 + 1))
  else
  grd (inb (at_ 0 t13 t15) out) <|
  grd (inb t15 from_2) <|
  bif ((at_ 0 out (at_ 0 t13 t15)) != (at_ 0 from_2 t15)) then some ([], false)
  else
  rec_ from_2 out t13 t14 (w64 (t15 + 1))
 else
 some (out, true)
def Z7l (N : Nat) : Nat -> I0 -> I0 -> I0 -> Int -> Int -> Option (List Int × Bool)
 | 0, _, _, _, _, _ => none
 | k_ + 1, from_2, out, t13, t14, t15 => Z8o N (Z7l N k_) from_2 out t13 t14 t15
def Z9n (Z0b8 : I0 -> I0 -> I0 -> Int -> Int -> Option (List Int × Bool)) (values : I0) (terms : I0) (from_ : I0) : Option (List Int × Bool) :=
 (Z1j N values).bind fun r =>
 Z0b8 from_ r terms (terms.length : Int) 0
def Z7h (values : I0) (terms : I0) (from_ : I0) : Option (List Int × Bool) := Z9n N (Z7l N N) values terms from_
def Z4p (Rf : I0 -> I0 -> Q0 -> (List (List Int × List Int)) -> D0 -> Q0 -> D0 -> Option (List (List Int × List Int))) (rec_ : I0 -> I0 -> (List (List Int × List Int)) -> Q0 -> D0 -> Int -> I0 -> A0 -> Int -> Int -> Option (List (List Int × List Int))) (values2 : I0) (facts2 : I0) (t3 : List (List Int × List Int)) (t5c : Q0) (t5c2 : D0) (atom : Int) (atom2 : I0) (t34 : A0) (t35 : Int) (t36 : Int) : Option (List (List Int × List Int)) :=
 bif decide (t36 < t35) then
  grd (inb t36 t34) <|
  bif (((at_ (0, []) t34 t36).1) != atom) then
   rec_ values2 facts2 t3 t5c t5c2 atom atom2 t34 t35 (w64 (t36 + 1))
  else
  (Z7h N values2 atom2 ((at_ (0, []) t34 t36).2)).bind fun p_r3 =>
  bif p_r3.2 then
   (Z1j N facts2).bind fun r5 =>
   grd (appOk r5 [t36] 8) <|
   (Rf p_r3.1 (r5 ++ [t36]) t5c t3 t5c2 t5c t5c2).bind fun m =>
   rec_ values2 facts2 m t5c t5c2 atom atom2 t34 t35 (w64 (t36 + 1))
  else
  rec_ values2 facts2 t3 t5c t5c2 atom atom2 t34 t35 (w64 (t36 + 1))
 else
 some t3
def Z2c (N : Nat) (Rf : I0 -> I0 -> Q0 -> (List (List Int × List Int)) -> D0 -> Q0 -> D0 -> Option (List (List Int × List Int))) : Nat -> I0 -> I0 -> (List (List Int × List Int)) -> Q0 -> D0 -> Int -> I0 -> A0 -> Int -> Int -> Option (List (List Int × List Int))
 | 0, _, _, _, _, _, _, _, _, _, _ => none
 | k_ + 1, values2, facts2, t3, t5c, t5c2, atom, atom2, t34, t35, t36 => Z4p N Rf (Z2c N Rf k_) values2 facts2 t3 t5c t5c2 atom atom2 t34 t35 t36
def Z3u (Rf : I0 -> I0 -> Q0 -> (List (List Int × List Int)) -> D0 -> Q0 -> D0 -> Option (List (List Int × List Int))) (Z9a : I0 -> I0 -> (List (List Int × List Int)) -> Q0 -> D0 -> Int -> I0 -> A0 -> Int -> Int -> Option (List (List Int × List Int))) (values : I0) (facts : I0) (c2 : Q0) (c3 : List (List Int × List Int)) (c4 : D0) (sc2 : Q0) (sc4 : D0) : Option (List (List Int × List Int)) :=
 bif ((facts.length : Int) == (c2.2.1.length : Int)) then
  (Z1j N values).bind fun r =>
  (Z1j N facts).bind fun r2 =>
  grd (appOk c3 [(r, r2)] 48) <|
  some (c3 ++ [(r, r2)])
 else
 grd (inb (facts.length : Int) c2.2.1) <|
 Z9a values facts c3 sc2 sc4 ((at_ (0, []) c2.2.1 (facts.length : Int)).1) ((at_ (0, []) c2.2.1 (facts.length : Int)).2) c4.2 (c4.2.length : Int) 0
def Z0n (N : Nat) : Nat -> I0 -> I0 -> Q0 -> (List (List Int × List Int)) -> D0 -> Q0 -> D0 -> Option (List (List Int × List Int))
 | 0, _, _, _, _, _, _, _ => none
 | k_ + 1, values, facts, c2, c3, c4, sc2, sc4 => Z3u N (Z0n N k_) (Z2c N (Z0n N k_) N) values facts c2 c3 c4 sc2 sc4
def Z23 (values : I0) (facts : I0) (c2 : Q0) (c3 : List (List Int × List Int)) (c4 : D0) (sc2 : Q0) (sc4 : D0) : Option (List (List Int × List Int)) := Z0n N N values facts c2 c3 c4 sc2 sc4
def Z27 (db : D0) (query : Q0) : Option (List (List Int × List Int)) :=
 (Z2b N db query).bind fun r =>
 bif (!r) then some []
 else
 (Z4o N query.1).bind fun r2 =>
 (Z23 N r2 [] query [] db query db).bind fun m =>
 some m
def Z7t (rec_ : L0 -> (List (List Int × List Int)) -> Int -> Int -> Int -> Option L0) (out2 : L0) (t112 : List (List Int × List Int)) (t11n : Int) (t122 : Int) (t132 : Int) : Option L0 :=
 bif decide (t132 < t122) then
  grd (decide (t11n <= t132) && (inb t132 t112)) <|
  (Z10 N ((at_ ([], []) t112 t132).2)).bind fun m2 =>
  grd (appOk out2 [m2] 24) <|
  rec_ (out2 ++ [m2]) t112 (t132 + 1) t122 (w64 (t132 + 1))
 else
 some out2
def Z5b (N : Nat) : Nat -> L0 -> (List (List Int × List Int)) -> Int -> Int -> Int -> Option L0
 | 0, _, _, _, _, _ => none
 | k_ + 1, out2, t112, t11n, t122, t132 => Z7t N (Z5b N k_) out2 t112 t11n t122 t132
def Z7u (Z0ah : L0 -> (List (List Int × List Int)) -> Int -> Int -> Int -> Option L0) (rec_ : L0 -> (List (List Int × List Int)) -> Int -> Int -> Option L0) (out : L0) (t11 : List (List Int × List Int)) (t12 : Int) (t13 : Int) : Option L0 :=
 bif decide (t13 < t12) then
  grd (inb t13 t11) <|
  (Z10 N ((at_ ([], []) t11 t13).2)).bind fun m =>
  grd (appOk out [m] 24) <|
  Z0ah (out ++ [m]) t11 (t13 + 1) t12 (w64 (t13 + 1))
 else
 some out
def Z70 (N : Nat) : Nat -> L0 -> (List (List Int × List Int)) -> Int -> Int -> Option L0
 | 0, _, _, _, _ => none
 | k_ + 1, out, t11, t12, t13 => Z7u N (Z5b N k_) (Z70 N k_) out t11 t12 t13
def Z8l (Z0ai : L0 -> (List (List Int × List Int)) -> Int -> Int -> Option L0) (db : D0) (query : Q0) : Option L0 :=
 (Z27 N db query).bind fun r =>
 Z0ai [] r (r.length : Int) 0
def Z49 (db : D0) (query : Q0) : Option L0 := Z8l N (Z70 N N) db query
def Z32 (N : Nat) (rec_ : I0 -> I0 -> Int -> Int -> Option (Bool)) (s12 : I0) (s22 : I0) (t12 : Int) (t13 : Int) : Option (Bool) :=
 bif decide (t13 < t12) then
  grd (inb t13 s12) <|
  grd (inb t13 s22) <|
  bif ((at_ 0 s12 t13) != (at_ 0 s22 t13)) then some false
  else
  rec_ s12 s22 t12 (w64 (t13 + 1))
 else
 some true
def Z1l (N : Nat) : Nat -> I0 -> I0 -> Int -> Int -> Option (Bool)
 | 0, _, _, _, _ => none
 | k_ + 1, s12, s22, t12, t13 => Z32 N (Z1l N k_) s12 s22 t12 t13
def Z69 (N : Nat) (Z9e : I0 -> I0 -> Int -> Int -> Option (Bool)) (s1 : I0) (s2 : I0) : Option (Bool) :=
 bif ((s1.length : Int) != (s2.length : Int)) then some false
 else
 Z9e s1 s2 (s1.length : Int) 0
def Z1m (s1 : I0) (s2 : I0) : Option (Bool) := Z69 N (Z1l N N) s1 s2
def Z5z (relations : R0) (a : Int × List Int) (b : Int × List Int) : Option (Bool) :=
 bif (a.1 != b.1) then some false
 else
 grd (inb a.1 relations) <|
 grd (subOk 0 (((at_ (⟨#[]⟩, (0, 0)) relations a.1).2).2) a.2.length) <|
 grd (subOk 0 (((at_ (⟨#[]⟩, (0, 0)) relations a.1).2).2) b.2.length) <|
 (Z1m N (a.2.take (((at_ (⟨#[]⟩, (0, 0)) relations a.1).2).2).toNat) (b.2.take (((at_ (⟨#[]⟩, (0, 0)) relations a.1).2).2).toNat)).bind fun r =>
 some r
def Z7i (rec_ : R0 -> A0 -> L0 -> A0 -> Int -> Int -> Option L0) (db2 : R0) (db3 : A0) (out : L0) (t9 : A0) (t10 : Int) (t11 : Int) : Option L0 :=
 bif decide (t11 < t10) then
  grd (inb t11 t9) <|
  bif decide ((w64 ((out.length : Int) - 1)) >= 0) then
   grd (inb (w64 ((out.length : Int) - 1)) out) <|
   grd (inb 0 (at_ [] out (w64 ((out.length : Int) - 1)))) <|
   grd (inb (at_ 0 (at_ [] out (w64 ((out.length : Int) - 1))) 0) db3) <|
   (Z5z N db2 (at_ (0, []) db3 (at_ 0 (at_ [] out (w64 ((out.length : Int) - 1))) 0)) (at_ (0, []) t9 t11)).bind fun r =>
   bif r then
    grd (inb (w64 ((out.length : Int) - 1)) out) <|
    grd (inb (w64 ((out.length : Int) - 1)) out) <|
    grd (appOk (at_ [] out (w64 ((out.length : Int) - 1))) [t11] 8) <|
    grd (inb (w64 ((out.length : Int) - 1)) out) <|
    grd (growOk (w64 ((out.length : Int) - 1)) (w64 ((out.length : Int) - 1)) out) <|
    letv (out.set (w64 ((out.length : Int) - 1)).toNat ((at_ [] out (w64 ((out.length : Int) - 1))) ++ [t11])) fun u =>
    rec_ db2 db3 u t9 t10 (w64 (t11 + 1))
   else
   grd (appOk out [[t11]] 24) <|
   rec_ db2 db3 (out ++ [[t11]]) t9 t10 (w64 (t11 + 1))
  else
  grd (appOk out [[t11]] 24) <|
  rec_ db2 db3 (out ++ [[t11]]) t9 t10 (w64 (t11 + 1))
 else
 some out
def Z2m (N : Nat) : Nat -> R0 -> A0 -> L0 -> A0 -> Int -> Int -> Option L0
 | 0, _, _, _, _, _, _ => none
 | k_ + 1, db2, db3, out, t9, t10, t11 => Z7i N (Z2m N k_) db2 db3 out t9 t10 t11
def Z9b (N : Nat) (Z0b3 : R0 -> A0 -> L0 -> A0 -> Int -> Int -> Option L0) (db : D0) : Option L0 :=
 Z0b3 db.1 db.2 [] db.2 (db.2.length : Int) 0
def Z4i (db : D0) : Option L0 := Z9b N (Z2m N N) db
def Z4j (N : Nat) (rec_ : Int -> L0 -> Int -> Int -> Option (Int)) (out : Int) (t6 : L0) (t7 : Int) (t8 : Int) : Option (Int) :=
 bif decide (t8 < t7) then
  grd (inb t8 t6) <|
  rec_ (w64 (out * ((at_ [] t6 t8).length : Int))) t6 t7 (w64 (t8 + 1))
 else
 some out
def Z2n (N : Nat) : Nat -> Int -> L0 -> Int -> Int -> Option (Int)
 | 0, _, _, _, _ => none
 | k_ + 1, out, t6, t7, t8 => Z4j N (Z2n N k_) out t6 t7 t8
def Z7v (N : Nat) (Z0a1 : Int -> L0 -> Int -> Int -> Option (Int)) (list : L0) : Option (Int) :=
 Z0a1 1 list (list.length : Int) 0
def Z2s (list : L0) : Option (Int) := Z7v N (Z2n N N) list
def Z65 (N : Nat) (rec_ : L0 -> Int -> I0 -> Int -> Option I0) (list2 : L0) (rank2 : Int) (out : I0) (i : Int) : Option I0 :=
 bif decide (i >= 0) then
  grd (inb i list2) <|
  grd (inb i list2) <|
  grz ((at_ [] list2 i).length : Int) <|
  grd (inb (rank2.tmod ((at_ [] list2 i).length : Int)) (at_ [] list2 i)) <|
  grd (inb i out) <|
  grd (inb i out) <|
  letv (out.set i.toNat (at_ 0 (at_ [] list2 i) (rank2.tmod ((at_ [] list2 i).length : Int)))) fun u =>
  grd (inb i list2) <|
  grz ((at_ [] list2 i).length : Int) <|
  rec_ list2 (w64 (rank2.tdiv ((at_ [] list2 i).length : Int))) u (w64 (i - 1))
 else
 some out
def Z41 (N : Nat) : Nat -> L0 -> Int -> I0 -> Int -> Option I0
 | 0, _, _, _, _ => none
 | k_ + 1, list2, rank2, out, i => Z65 N (Z41 N k_) list2 rank2 out i
def Z8m (N : Nat) (Z0aj : L0 -> Int -> I0 -> Int -> Option I0) (list : L0) (rank : Int) : Option I0 :=
 grd (makeOk (list.length : Int) 8) <|
 Z0aj list rank (List.replicate (list.length : Int).toNat 0) (w64 ((list.length : Int) - 1))
def Z4a (list : L0) (rank : Int) : Option I0 := Z8m N (Z41 N N) list rank
def Z33 (N : Nat) (rec_ : I0 -> Int -> Int -> Int -> Option (Int)) (s2 : I0) (v2 : Int) (t7 : Int) (t8 : Int) : Option (Int) :=
 bif decide (t8 < t7) then
  grd (inb t8 s2) <|
  bif (v2 == (at_ 0 s2 t8)) then some t8
  else
  rec_ s2 v2 t7 (w64 (t8 + 1))
 else
 some (-1)
def Z1n (N : Nat) : Nat -> I0 -> Int -> Int -> Int -> Option (Int)
 | 0, _, _, _, _ => none
 | k_ + 1, s2, v2, t7, t8 => Z33 N (Z1n N k_) s2 v2 t7 t8
def Z6a (N : Nat) (Z9f : I0 -> Int -> Int -> Int -> Option (Int)) (s : I0) (v : Int) : Option (Int) :=
 Z9f s v (s.length : Int) 0
def Z2e (s : I0) (v : Int) : Option (Int) := Z6a N (Z1n N N) s v
def Z14 (s : I0) (v : Int) : Option (Bool) :=
 (Z2e N s v).bind fun r =>
 some (decide (r >= 0))
def Z4b (n : Int) (c1 : I0) : Option (Bool) :=
 (Z14 N c1 n).bind fun r =>
 some (!r)
def Z0v (rec_ : I0 -> I0 -> Int -> Int -> Option (Int)) (s2 : I0) (f : I0) (t7 : Int) (t8 : Int) : Option (Int) :=
 bif decide (t8 < t7) then
  grd (inb t8 s2) <|
  (Z4b N (at_ 0 s2 t8) f).bind fun r =>
  bif r then some t8
  else
  rec_ s2 f t7 (w64 (t8 + 1))
 else
 some (-1)
def Z0d (N : Nat) : Nat -> I0 -> I0 -> Int -> Int -> Option (Int)
 | 0, _, _, _, _ => none
 | k_ + 1, s2, f, t7, t8 => Z0v N (Z0d N k_) s2 f t7 t8
def Z21 (N : Nat) (Z7a : I0 -> I0 -> Int -> Int -> Option (Int)) (s : I0) (c : I0) : Option (Int) :=
 Z7a s c (s.length : Int) 0
def Z0i (s : I0) (c : I0) : Option (Int) := Z21 N (Z0d N N) s c
def Z0e (s : I0) (c : I0) : Option (Bool) :=
 (Z0i N s c).bind fun r =>
 some (decide (r >= 0))
def Z57 (a : I0) (b : I0) : Option (Bool) :=
 (Z0e N a b).bind fun r =>
 some (!r)
def Z42 (own : I0) (c1 : I0) : Option (Bool) :=
 (Z57 N own c1).bind fun r =>
 some r
def Z0q (rec_ : L0 -> I0 -> Int -> Int -> Option (Int)) (s2 : L0) (f : I0) (t7 : Int) (t8 : Int) : Option (Int) :=
 bif decide (t8 < t7) then
  grd (inb t8 s2) <|
  (Z42 N (at_ [] s2 t8) f).bind fun r =>
  bif r then some t8
  else
  rec_ s2 f t7 (w64 (t8 + 1))
 else
 some (-1)
def Z8 (N : Nat) : Nat -> L0 -> I0 -> Int -> Int -> Option (Int)
 | 0, _, _, _, _ => none
 | k_ + 1, s2, f, t7, t8 => Z0q N (Z8 N k_) s2 f t7 t8
def Z1o (N : Nat) (Z6s : L0 -> I0 -> Int -> Int -> Option (Int)) (s : L0) (c : I0) : Option (Int) :=
 Z6s s c (s.length : Int) 0
def Z0f (s : L0) (c : I0) : Option (Int) := Z1o N (Z8 N N) s c
def Z9 (s : L0) (c : I0) : Option (Bool) :=
 (Z0f N s c).bind fun r =>
 some (decide (r >= 0))
def Z3h (sets : L0) (set : I0) : Option (Bool) :=
 (Z9 N sets set).bind fun r =>
 some r
def Z85 (N : Nat) (rec_ : I0 -> Int -> I0 -> Int -> Int -> Option (Int)) (weights2 : I0) (out : Int) (t8 : I0) (t9 : Int) (t10 : Int) : Option (Int) :=
 bif decide (t10 < t9) then
  grd (inb t10 t8) <|
  grd (inb (at_ 0 t8 t10) weights2) <|
  rec_ weights2 (w64 (out * (at_ 0 weights2 (at_ 0 t8 t10)))) t8 t9 (w64 (t10 + 1))
 else
 some out
def Z60 (N : Nat) : Nat -> I0 -> Int -> I0 -> Int -> Int -> Option (Int)
 | 0, _, _, _, _, _ => none
 | k_ + 1, weights2, out, t8, t9, t10 => Z85 N (Z60 N k_) weights2 out t8 t9 t10
def Z8p (N : Nat) (Z0am : I0 -> Int -> I0 -> Int -> Int -> Option (Int)) (weights : I0) (indices : I0) : Option (Int) :=
 Z0am weights 1 indices (indices.length : Int) 0
def Z58 (weights : I0) (indices : I0) : Option (Int) := Z8p N (Z60 N N) weights indices
def Z3i (N : Nat) (Z5i : I0 -> Int -> L0 -> Int -> Int -> Option (Int)) (rec_ : I0 -> Int -> Int -> L0 -> Int -> Int -> Int -> I0 -> Int -> Int -> Option (Int)) (weights3 : I0) (out2 : Int) (sum : Int) (t162 : L0) (t172 : Int) (t182 : Int) (t22i : Int) (t22 : I0) (t23 : Int) (t24 : Int) : Option (Int) :=
 bif decide (t24 < t23) then
  grd (inb t24 t22) <|
  grd (inb (at_ 0 t22 t24) weights3) <|
  rec_ weights3 out2 (w64 (sum + (at_ 0 weights3 (at_ 0 t22 t24)))) t162 t172 t182 t22i t22 t23 (w64 (t24 + 1))
 else
 Z5i weights3 (w64 (out2 * sum)) t162 t172 (w64 (t182 + 1))
def Z15 (Z5i : I0 -> Int -> L0 -> Int -> Int -> Option (Int)) (N : Nat) : Nat -> I0 -> Int -> Int -> L0 -> Int -> Int -> Int -> I0 -> Int -> Int -> Option (Int)
 | 0, _, _, _, _, _, _, _, _, _, _ => none
 | k_ + 1, weights3, out2, sum, t162, t172, t182, t22i, t22, t23, t24 => Z3i N Z5i (Z15 Z5i N k_) weights3 out2 sum t162 t172 t182 t22i t22 t23 t24
def Z3j (N : Nat) (Z0a8 : I0 -> Int -> Int -> L0 -> Int -> Int -> Int -> I0 -> Int -> Int -> Option (Int)) (rec_ : I0 -> Int -> L0 -> Int -> Int -> Option (Int)) (weights2 : I0) (out : Int) (t16 : L0) (t17 : Int) (t18 : Int) : Option (Int) :=
 bif decide (t18 < t17) then
  grd (inb t18 t16) <|
  Z0a8 weights2 out 0 t16 t17 t18 t18 (at_ [] t16 t18) ((at_ [] t16 t18).length : Int) 0
 else
 some out
def Z0x (N : Nat) : Nat -> I0 -> Int -> L0 -> Int -> Int -> Option (Int)
 | 0, _, _, _, _, _ => none
 | k_ + 1, weights2, out, t16, t17, t18 => Z3j N (Z15 (Z0x N k_) N N) (Z0x N k_) weights2 out t16 t17 t18
def Z6h (Z0a9 : I0 -> Int -> L0 -> Int -> Int -> Option (Int)) (db : D0) (weights : I0) : Option (Int) :=
 (Z13 N db weights).bind fun r =>
 bif (!r) then some 0
 else
 (Z4i N db).bind fun r2 =>
 Z0a9 weights 1 r2 (r2.length : Int) 0
def Z1e (db : D0) (weights : I0) : Option (Int) := Z6h N (Z0x N N) db weights
def Z9c (N : Nat) (rec_ : Int -> Int -> Option (Int)) (a2 : Int) (b2 : Int) : Option (Int) :=
 bif (b2 != 0) then
  grz b2 <|
  rec_ b2 (a2.tmod b2)
 else
 some a2
def Z8f (N : Nat) : Nat -> Int -> Int -> Option (Int)
 | 0, _, _ => none
 | k_ + 1, a2, b2 => Z9c N (Z8f N k_) a2 b2
def Z0aa (N : Nat) (Z0b9 : Int -> Int -> Option (Int)) (a : Int) (b : Int) : Option (Int) :=
 Z0b9 a b
def Z8x (a : Int) (b : Int) : Option (Int) := Z0aa N (Z8f N N) a b
def Z4q (a : Int) (b : Int) : Option (Int × Int) :=
 (Z8x N a b).bind fun r =>
 grz (imax r 1) <|
 grz (imax r 1) <|
 some ((w64 (a.tdiv (imax r 1))), (w64 (b.tdiv (imax r 1))))
def Z79 (rec_ : I0 -> R0 -> A0 -> Int -> Int -> L0 -> L0 -> Int -> Int -> Int -> Option ((Int × Int) × Bool)) (weights2 : I0) (db2 : R0) (db3 : A0) (t6 : Int) (t62 : Int) (witnesses : L0) (list : L0) (sum : Int) (t30 : Int) (t31 : Int) : Option ((Int × Int) × Bool) :=
 bif decide (t31 < t30) then
  (Z4a N list t31).bind fun r6 =>
  (Z3h N witnesses r6).bind fun r7 =>
  bif r7 then
   (Z58 N weights2 r6).bind fun r8 =>
   rec_ weights2 db2 db3 t6 t62 witnesses list (w64 (sum + r8)) t30 (w64 (t31 + 1))
  else
  rec_ weights2 db2 db3 t6 t62 witnesses list sum t30 (w64 (t31 + 1))
 else
 (Z1e N (db2, db3) weights2).bind fun r9 =>
 (Z4q N sum r9).bind fun r10 =>
 some (r10, true)
def Z2y (N : Nat) : Nat -> I0 -> R0 -> A0 -> Int -> Int -> L0 -> L0 -> Int -> Int -> Int -> Option ((Int × Int) × Bool)
 | 0, _, _, _, _, _, _, _, _, _, _ => none
 | k_ + 1, weights2, db2, db3, t6, t62, witnesses, list, sum, t30, t31 => Z79 N (Z2y N k_) weights2 db2 db3 t6 t62 witnesses list sum t30 t31
def Z86 (Z0ab : I0 -> R0 -> A0 -> Int -> Int -> L0 -> L0 -> Int -> Int -> Int -> Option ((Int × Int) × Bool)) (db : D0) (weights : I0) (query : Q0) : Option ((Int × Int) × Bool) :=
 (Z2b N db query).bind fun r =>
 bif (!r) then some ((0, 0), false)
 else
 (Z13 N db weights).bind fun r2 =>
 bif (!r2) then some ((0, 0), false)
 else
 (Z49 N db query).bind fun r3 =>
 (Z4i N db).bind fun r4 =>
 (Z2s N r4).bind fun r5 =>
 Z0ab weights db.1 db.2 0 0 r3 r4 0 r5 0
def Z39 (db : D0) (weights : I0) (query : Q0) : Option ((Int × Int) × Bool) := Z86 N (Z2y N N) db weights query
def Z51 (N : Nat) (a : Int × Int) (b : Int × Int) : Option (Bool) :=
 bif (a.1 != b.1) then some false
 else
 bif (a.2 != b.2) then some false
 else
 some true
def Z3v (N : Nat) (a : ByteArray × Int × Int) (b : ByteArray × Int × Int) : Option (Bool) :=
 bif (!seq a.1 b.1) then some false
 else
 bif (a.2.1 != b.2.1) then some false
 else
 bif (a.2.2 != b.2.2) then some false
 else
 some true
def Z52 (rec_ : R0 -> R0 -> Int -> Option (Bool)) (a2 : R0) (b2 : R0) (i : Int) : Option (Bool) :=
 bif decide (i < (a2.length : Int)) then
  grd (inb i a2) <|
  grd (inb i b2) <|
  (Z3v N ((at_ (⟨#[]⟩, (0, 0)) a2 i).1, ((at_ (⟨#[]⟩, (0, 0)) a2 i).2)) ((at_ (⟨#[]⟩, (0, 0)) b2 i).1, ((at_ (⟨#[]⟩, (0, 0)) b2 i).2))).bind fun r =>
  bif (!r) then some false
  else
  rec_ a2 b2 (w64 (i + 1))
 else
 some true
def Z2z (N : Nat) : Nat -> R0 -> R0 -> Int -> Option (Bool)
 | 0, _, _, _ => none
 | k_ + 1, a2, b2, i => Z52 N (Z2z N k_) a2 b2 i
def Z87 (N : Nat) (Z0ac : R0 -> R0 -> Int -> Option (Bool)) (a : R0) (b : R0) : Option (Bool) :=
 bif ((a.length : Int) != (b.length : Int)) then some false
 else
 Z0ac a b 0
def Z3a (a : R0) (b : R0) : Option (Bool) := Z87 N (Z2z N N) a b
def Z7j (N : Nat) (rec_ : I0 -> I0 -> Int -> Option (Bool)) (a2 : I0) (b2 : I0) (i : Int) : Option (Bool) :=
 bif decide (i < (a2.length : Int)) then
  grd (inb i a2) <|
  grd (inb i b2) <|
  bif ((at_ 0 a2 i) != (at_ 0 b2 i)) then some false
  else
  rec_ a2 b2 (w64 (i + 1))
 else
 some true
def Z5m (N : Nat) : Nat -> I0 -> I0 -> Int -> Option (Bool)
 | 0, _, _, _ => none
 | k_ + 1, a2, b2, i => Z7j N (Z5m N k_) a2 b2 i
def Z9d (N : Nat) (Z0b4 : I0 -> I0 -> Int -> Option (Bool)) (a : I0) (b : I0) : Option (Bool) :=
 bif ((a.length : Int) != (b.length : Int)) then some false
 else
 Z0b4 a b 0
def Z24 (a : I0) (b : I0) : Option (Bool) := Z9d N (Z5m N N) a b
def Z6t (a : Int × List Int) (b : Int × List Int) : Option (Bool) :=
 bif (a.1 != b.1) then some false
 else
 (Z24 N a.2 b.2).bind fun r =>
 bif (!r) then some false
 else
 some true
def Z71 (rec_ : A0 -> A0 -> Int -> Option (Bool)) (a2 : A0) (b2 : A0) (i : Int) : Option (Bool) :=
 bif decide (i < (a2.length : Int)) then
  grd (inb i a2) <|
  grd (inb i b2) <|
  (Z6t N (at_ (0, []) a2 i) (at_ (0, []) b2 i)).bind fun r =>
  bif (!r) then some false
  else
  rec_ a2 b2 (w64 (i + 1))
 else
 some true
def Z53 (N : Nat) : Nat -> A0 -> A0 -> Int -> Option (Bool)
 | 0, _, _, _ => none
 | k_ + 1, a2, b2, i => Z71 N (Z53 N k_) a2 b2 i
def Z8y (N : Nat) (Z0av : A0 -> A0 -> Int -> Option (Bool)) (a : A0) (b : A0) : Option (Bool) :=
 bif ((a.length : Int) != (b.length : Int)) then some false
 else
 Z0av a b 0
def Z61 (a : A0) (b : A0) : Option (Bool) := Z8y N (Z53 N N) a b
def Z3w (a : D0) (b : D0) : Option (Bool) :=
 (Z3a N a.1 b.1).bind fun r =>
 bif (!r) then some false
 else
 (Z61 N a.2 b.2).bind fun r2 =>
 bif (!r2) then some false
 else
 some true
def Z6u (a : Int × List Int) (b : Int × List Int) : Option (Bool) :=
 bif (a.1 != b.1) then some false
 else
 (Z24 N a.2 b.2).bind fun r =>
 bif (!r) then some false
 else
 some true
def Z72 (rec_ : A0 -> A0 -> Int -> Option (Bool)) (a2 : A0) (b2 : A0) (i : Int) : Option (Bool) :=
 bif decide (i < (a2.length : Int)) then
  grd (inb i a2) <|
  grd (inb i b2) <|
  (Z6u N (at_ (0, []) a2 i) (at_ (0, []) b2 i)).bind fun r =>
  bif (!r) then some false
  else
  rec_ a2 b2 (w64 (i + 1))
 else
 some true
def Z54 (N : Nat) : Nat -> A0 -> A0 -> Int -> Option (Bool)
 | 0, _, _, _ => none
 | k_ + 1, a2, b2, i => Z72 N (Z54 N k_) a2 b2 i
def Z8z (N : Nat) (Z0aw : A0 -> A0 -> Int -> Option (Bool)) (a : A0) (b : A0) : Option (Bool) :=
 bif ((a.length : Int) != (b.length : Int)) then some false
 else
 Z0aw a b 0
def Z62 (a : A0) (b : A0) : Option (Bool) := Z8z N (Z54 N N) a b
def Z63 (a : Q0) (b : Q0) : Option (Bool) :=
 bif (a.1 != b.1) then some false
 else
 (Z62 N a.2.1 b.2.1).bind fun r =>
 bif (!r) then some false
 else
 (Z24 N a.2.2 b.2.2).bind fun r2 =>
 bif (!r2) then some false
 else
 some true
def laws_FnExactProbability (aDb : D0) (aWeights : I0) (aQuery : Q0) : Option (Bool) :=
 bif decide ((aWeights.length : Int) > 1048576) then some true
 else
 (Z3n N aDb 1048576).bind fun r =>
 bif decide (r < 0) then some true
 else
 (Z5p N aQuery r).bind fun r2 =>
 bif decide (r2 < 0) then some true
 else
 (Z28 N aDb).bind fun r3 =>
 (Z1c N aWeights).bind fun r4 =>
 (Z3p N aQuery).bind fun r5 =>
 (Z38 N r3 r4 r5).bind fun p_r6 =>
 (Z28 N aDb).bind fun r8 =>
 (Z1c N aWeights).bind fun r9 =>
 (Z3p N aQuery).bind fun r10 =>
 (Z39 N r8 r9 r10).bind fun p_r11 =>
 (Z51 N p_r11.1 p_r6.1).bind fun r13 =>
 bif (!r13) then some false
 else
 bif (!(p_r11.2 == p_r6.2)) then some false
 else
 (Z28 N aDb).bind fun r14 =>
 (Z3w N r8 r14).bind fun r15 =>
 bif (!r15) then some false
 else
 (Z1c N aWeights).bind fun r16 =>
 (Z24 N r9 r16).bind fun r17 =>
 bif (!r17) then some false
 else
 (Z3p N aQuery).bind fun r18 =>
 (Z63 N r10 r18).bind fun r19 =>
 bif (!r19) then some false
 else
 some true
end Go.PL
