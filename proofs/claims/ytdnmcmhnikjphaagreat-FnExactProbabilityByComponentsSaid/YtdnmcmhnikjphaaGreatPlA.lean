/- The functions read plainly. Conditions: none (definitions alone). -/
import GoSem.Core.View
import GoSem.Op.String

set_option linter.unusedVariables false
set_option linter.unusedSimpArgs false
set_option linter.unnecessarySimpa false

namespace Go.PL
def w64 (x : Int) : Int := IntKind.i64.wrap x
def w (k : IntKind) (x : Int) : Int := k.wrap x
def grd {α : Type} (c : Bool) (x : Option α) : Option α := bif c then x else none
def grz {α : Type} (b : Int) (x : Option α) : Option α := bif decide (b = 0) then none else x
def letv {α β : Type} (v : α) (k : α -> β) : β := k v
def at_ {α : Type} (d : α) (xs : List α) (i : Int) : α := xs.getD i.toNat d
def inb {α : Type} (i : Int) (xs : List α) : Bool := decide (0 <= i) && decide (i < (xs.length : Int))
def growOk {α : Type} (i' i : Int) (xs : List α) : Bool := decide (i' = i) && (decide (0 <= i') && decide (i' < (xs.length : Int)))
def appOk {α : Type} (s x : List α) (b : Nat) : Bool := decide ((s.length + x.length) * b <= 140737488355328)
def selOk {α : Type} (ix : List Int) (i : Int) (x : List α) (b : Nat) : Bool := ix.all (fun k => decide (k < i)) && decide ((x.length + 1) * b <= 140737488355328)
def selOk0 {α : Type} (x : List α) (b : Nat) : Bool := x.isEmpty && decide ((0 + 1) * b <= 140737488355328)
def makeOk (n : Int) (b : Nat) : Bool := decide (n = n) && (decide (0 <= n) && decide (n * b <= 140737488355328))
def byteAt (s : ByteArray) (n : Int) : Option UInt8 := if 0 <= n then s[n.toNat]? else none
def catOk (a b : ByteArray) : Bool := decide (a.size + b.size <= 140737488355328)
def seq (a b : ByteArray) : Bool := a.toList == b.toList
def slt (a b : ByteArray) : Bool := Op.bytesLess a.toList b.toList
def subOk (lo hi : Int) (n : Nat) : Bool := decide (0 <= lo) && (decide (lo <= hi) && decide (hi <= (n : Int)))
def sub (s : ByteArray) (lo hi : Int) : ByteArray := s.extract lo.toNat hi.toNat
def ofBytes (x : List Int) : ByteArray := ⟨(x.map fun n => UInt8.ofNat n.toNat).toArray⟩
def bits (op : BinOp) (k : IntKind) (a b : Int) : Int := match op with
 | .and => k.wrap ((BitVec.ofInt k.bits a &&& BitVec.ofInt k.bits b).toNat : Int)
 | .xor => k.wrap ((BitVec.ofInt k.bits a ^^^ BitVec.ofInt k.bits b).toNat : Int)
 | .or => k.wrap ((BitVec.ofInt k.bits a ||| BitVec.ofInt k.bits b).toNat : Int)
 | .shl => k.wrap (a * 2 ^ (min b.toNat k.bits))
 | .shr => a.fdiv (2 ^ (min b.toNat k.bits))
 | _ => 0
def imax (a b : Int) : Int := if b > a then b else a
def imin (a b : Int) : Int := if b < a then b else a
end Go.PL

namespace Go.PL
abbrev D0 : Type := List (ByteArray × Int × Int) × List (Int × List Int)
abbrev Q0 : Type := Int × List (Int × List Int) × List Int
abbrev C0 : Type := Int × Int × Int × Int × Int × Int × Int
abbrev R0 : Type := List (ByteArray × Int × Int)
abbrev A0 : Type := List (Int × List Int)
abbrev L0 : Type := List (List Int)
abbrev I0 : Type := List Int
abbrev E0 : Type := List (Int × Int)
abbrev T0 : Type := I0 -> R0 -> A0 -> Int -> A0 -> I0 -> Int -> Int -> L0 -> L0 -> Int -> Int -> Option ((Int × Int) × Bool)
abbrev T1 : Type := R0 -> A0 -> Int -> A0 -> I0 -> L0 -> I0 -> L0 -> Int -> Option L0
abbrev T2 : Type := R0 -> A0 -> Int -> A0 -> I0 -> L0 -> I0 -> L0 -> Int -> Int -> Int -> Int -> Option L0
abbrev T3 : Type := R0 -> A0 -> Int -> A0 -> I0 -> L0 -> I0 -> L0 -> Int -> Int -> Option L0
abbrev T4 : Type := R0 -> Int -> A0 -> I0 -> (List Bool) -> Int -> Int -> I0 -> Int -> Option Bool
abbrev T5 : Type := I0 -> I0 -> Q0 -> (List (List Int × List Int)) -> D0 -> Q0 -> D0 -> Option (List (List Int × List Int))
abbrev T6 : Type := R0 -> Int -> A0 -> I0 -> (List Bool) -> Int -> Option Bool
abbrev T7 : Type := I0 -> R0 -> A0 -> Int -> A0 -> I0 -> Int -> Int -> L0 -> L0 -> Int -> Int -> I0 -> R0 -> A0 -> I0 -> Int -> Option ((Int × Int) × Bool)
abbrev T8 : Type := Int -> I0 -> I0 -> R0 -> A0 -> Int -> A0 -> I0 -> (List (List Int × List Int)) -> Int -> Option (List (List Int × List Int))
abbrev T9 : Type := I0 -> I0 -> (List (List Int × List Int)) -> Q0 -> D0 -> Int -> I0 -> A0 -> Int -> Int -> Option (List (List Int × List Int))
abbrev T10 : Type := I0 -> R0 -> A0 -> Int -> A0 -> I0 -> Int -> Int -> L0 -> L0 -> Int -> Int -> I0 -> Int -> Option ((Int × Int) × Bool)
abbrev T11 : Type := R0 -> Int -> A0 -> I0 -> I0 -> A0 -> Int -> Int -> Option Bool
abbrev T12 : Type := R0 -> Int -> A0 -> I0 -> I0 -> Int -> I0 -> A0 -> Int -> Int -> I0 -> Int -> Int -> Option Bool
abbrev T13 : Type := I0 -> R0 -> A0 -> Int -> Int -> L0 -> L0 -> Int -> Int -> Int -> Option ((Int × Int) × Bool)
abbrev T14 : Type := D0 -> Q0 -> Int -> I0 -> I0 -> Option (List (List Int × List Int))
abbrev T15 : Type := I0 -> Int -> Int -> L0 -> Int -> Int -> Int -> I0 -> Int -> Int -> Option Int
abbrev T16 : Type := I0 -> R0 -> A0 -> Int -> Option Bool
abbrev T17 : Type := I0 -> I0 -> Int -> Int -> Option Int
abbrev T18 : Type := R0 -> A0 -> Int -> A0 -> I0 -> L0 -> I0 -> L0 -> Int -> I0 -> Int -> Option L0
abbrev T19 : Type := I0 -> I0 -> Int -> Option I0
abbrev T20 : Type := I0 -> Int -> L0 -> Int -> Int -> Option Int
abbrev T21 : Type := L0 -> (List (List Int × List Int)) -> Int -> Int -> Int -> Option L0
abbrev T22 : Type := I0 -> I0 -> Int -> Int -> Option I0
abbrev T23 : Type := R0 -> A0 -> L0 -> (List (List Int × List Int)) -> Int -> Option L0
abbrev T24 : Type := I0 -> R0 -> A0 -> R0 -> A0 -> R0 -> A0 -> Int -> Option (D0 × Bool)
abbrev T25 : Type := A0 -> Int -> Int -> Option Int
abbrev T26 : Type := I0 -> I0 -> Int -> Option Bool
abbrev T27 : Type := I0 -> Int -> Int -> Option Int
abbrev T28 : Type := A0 -> A0 -> Int -> Option Bool
abbrev T29 : Type := Int -> I0 -> Int -> I0 -> I0 -> Int -> Option (List Int × Bool)
abbrev T30 : Type := L0 -> (List (List Int × List Int)) -> Int -> Int -> Option L0
abbrev T31 : Type := I0 -> Int -> L0 -> Int -> Option Int
abbrev T32 : Type := R0 -> A0 -> Int -> A0 -> I0 -> L0 -> I0 -> Int -> Option L0
abbrev T33 : Type := I0 -> I0 -> I0 -> Int -> Int -> Option (List Int × Bool)
abbrev T34 : Type := A0 -> A0 -> Int -> Option A0
abbrev T35 : Type := Int -> A0 -> I0 -> (List Bool) -> Int -> Option Bool
abbrev T36 : Type := L0 -> I0 -> Int -> Option Bool
abbrev T37 : Type := Int -> Int -> Option Int
abbrev T38 : Type := A0 -> (Int × List Int) -> Int -> Int -> Option Int
abbrev T39 : Type := I0 -> Int -> L0 -> Int -> Int -> Int -> Option Int
abbrev T40 : Type := Int -> L0 -> I0 -> Int -> Option (List Int × Bool)
abbrev T41 : Type := I0 -> R0 -> A0 -> Int -> L0 -> Int -> Option Int
abbrev T42 : Type := L0 -> I0 -> Int -> Bool -> Int -> Option Bool
abbrev T43 : Type := I0 -> Int -> I0 -> Int -> Int -> Option Bool
abbrev T44 : Type := R0 -> A0 -> L0 -> A0 -> Int -> Int -> Option L0
abbrev T45 : Type := R0 -> A0 -> A0 -> Int -> Int -> Option Bool
abbrev T46 : Type := I0 -> Int -> I0 -> Int -> Int -> Option Int
abbrev T47 : Type := I0 -> I0 -> I0 -> Int -> Int -> Option Int
abbrev T48 : Type := L0 -> Int -> L0 -> Int -> Int -> Option I0
abbrev T49 : Type := Int -> R0 -> A0 -> I0 -> Int -> Option I0
abbrev T50 : Type := Int -> A0 -> I0 -> Int -> Option Bool
abbrev T51 : Type := R0 -> R0 -> Int -> Int -> Option Bool
abbrev T52 : Type := I0 -> I0 -> Int -> Int -> Option Bool
abbrev T53 : Type := Int -> L0 -> Int -> Int -> Option Int
abbrev T54 : Type := I0 -> Int -> Int -> Int -> Option Int
abbrev T55 : Type := L0 -> I0 -> Int -> Int -> Option Int
abbrev T56 : Type := I0 -> L0 -> Int -> Int -> Option I0
abbrev T57 : Type := L0 -> Int -> I0 -> Int -> Option I0
abbrev T58 : Type := Int -> I0 -> Int -> Option Bool
abbrev T59 : Type := R0 -> A0 -> L0 -> Int -> Option L0
abbrev T60 : Type := I0 -> Int -> Int -> Option Bool
abbrev T61 : Type := R0 -> Int -> Int -> Option Int
abbrev T62 : Type := R0 -> A0 -> Int -> Option Bool
abbrev T63 : Type := Int -> I0 -> Int -> Option Int
abbrev T64 : Type := R0 -> R0 -> Int -> Option Bool
abbrev T65 : Type := I0 -> I0 -> Int -> Option Int
abbrev T66 : Type := R0 -> R0 -> Int -> Option R0
abbrev T67 : Type := I0 -> L0 -> Int -> Option I0
abbrev T68 : Type := R0 -> Int -> Option Bool
abbrev T69 : Type := Int -> I0 -> Option I0
variable (N : Nat)
def Z86 (N : Nat) (s : I0) (n : Int) : Option I0 := grd (decide (0 <= n) && decide ((s.length + n.toNat) * 8 <= 140737488355328)) (some s)
def Z1b (N : Nat) (s : I0) : Option I0 := grd (decide (s.length < 4611686018427387904)) (some (s.mergeSort fun a b => decide (a <= b)))
def Z6y (N : Nat) (s : I0) : Option I0 := some (((List.range s.length).filter fun j => decide (j = 0 \/ s.toArray[j]! ≠ s.toArray[j - 1]!)).map fun j => s.toArray[j]!)
def Z7b (N : Nat) (s : I0) (n : Int) : Option I0 := grd (decide (s.length = 1) && (decide (0 <= n) && decide (n * 8 <= 140737488355328))) (some (List.replicate n.toNat (at_ 0 s 0)))
def Z1v (N : Nat) (s : I0) : Option I0 := grd (decide (s.length * 8 <= 140737488355328)) (some s)
def Z3e (N : Nat) (a : ByteArray × Int × Int) (b : Int) : Option Int :=
 bif decide ((w64 (b - (a.1.size : Int))) < 0) then some (-1)
 else
 some (w64 (b - (a.1.size : Int)))
def Z5c (b : T61) (a2 : R0) (a : Int) (i : Int) : Option Int :=
 bif decide (i < (a2.length : Int)) then
  grd (inb i a2) <|
  (Z3e N ((at_ (⟨#[]⟩, (0, 0)) a2 i).1, ((at_ (⟨#[]⟩, (0, 0)) a2 i).2)) a).bind fun r =>
  bif decide (r < 0) then some (-1)
  else
  b a2 r (w64 (i + 1))
 else
 some a
def Z3g (N : Nat) : Nat -> T61
 | 0 => fun _ _ _ => none
 | k_ + 1 => Z5c N (Z3g N k_)
def Z8t (N : Nat) (c : T61) (a : R0) (b : Int) : Option Int :=
 bif decide ((w64 (b - (a.length : Int))) < 0) then some (-1)
 else
 c a (w64 (b - (a.length : Int))) 0
def Z3r (a : R0) (b : Int) : Option Int := Z8t N (Z3g N N) a b
def Z3l (N : Nat) (a : I0) (b : Int) : Option Int :=
 bif decide ((w64 (b - (a.length : Int))) < 0) then some (-1)
 else
 some (w64 (b - (a.length : Int)))
def Z69 (a : Int × List Int) (b : Int) : Option Int :=
 (Z3l N a.2 b).bind fun r =>
 bif decide (r < 0) then some (-1)
 else
 some r
def Z7p (b : T25) (a2 : A0) (a : Int) (i : Int) : Option Int :=
 bif decide (i < (a2.length : Int)) then
  grd (inb i a2) <|
  (Z69 N (at_ (0, []) a2 i) a).bind fun r =>
  bif decide (r < 0) then some (-1)
  else
  b a2 r (w64 (i + 1))
 else
 some a
def Z5d (N : Nat) : Nat -> T25
 | 0 => fun _ _ _ => none
 | k_ + 1 => Z7p N (Z5d N k_)
def Z9p (N : Nat) (c : T25) (a : A0) (b : Int) : Option Int :=
 bif decide ((w64 (b - (a.length : Int))) < 0) then some (-1)
 else
 c a (w64 (b - (a.length : Int))) 0
def Z6f (a : A0) (b : Int) : Option Int := Z9p N (Z5d N N) a b
def Z49 (a : D0) (b : Int) : Option Int :=
 (Z3r N a.1 b).bind fun r =>
 bif decide (r < 0) then some (-1)
 else
 (Z6f N a.2 r).bind fun r2 =>
 bif decide (r2 < 0) then some (-1)
 else
 some r2
def Z6a (a : Int × List Int) (b : Int) : Option Int :=
 (Z3l N a.2 b).bind fun r =>
 bif decide (r < 0) then some (-1)
 else
 some r
def Z7q (b : T25) (a2 : A0) (a : Int) (i : Int) : Option Int :=
 bif decide (i < (a2.length : Int)) then
  grd (inb i a2) <|
  (Z6a N (at_ (0, []) a2 i) a).bind fun r =>
  bif decide (r < 0) then some (-1)
  else
  b a2 r (w64 (i + 1))
 else
 some a
def Z5e (N : Nat) : Nat -> T25
 | 0 => fun _ _ _ => none
 | k_ + 1 => Z7q N (Z5e N k_)
def Z9q (N : Nat) (c : T25) (a : A0) (b : Int) : Option Int :=
 bif decide ((w64 (b - (a.length : Int))) < 0) then some (-1)
 else
 c a (w64 (b - (a.length : Int))) 0
def Z6g (a : A0) (b : Int) : Option Int := Z9q N (Z5e N N) a b
def Z6h (a : Q0) (b : Int) : Option Int :=
 (Z6g N a.2.1 b).bind fun r =>
 bif decide (r < 0) then some (-1)
 else
 (Z3l N a.2.2 r).bind fun r2 =>
 bif decide (r2 < 0) then some (-1)
 else
 some r2
def Z4a (N : Nat) (a : ByteArray × Int × Int) : Option (ByteArray × Int × Int) :=
 some a
def Z5f (b : T66) (a2 : R0) (a : R0) (i : Int) : Option R0 :=
 bif decide (i < (a2.length : Int)) then
  grd (inb i a2) <|
  (Z4a N ((at_ (⟨#[]⟩, (0, 0)) a2 i).1, ((at_ (⟨#[]⟩, (0, 0)) a2 i).2))).bind fun r =>
  grd (inb i a) <|
  grd (inb i a) <|
  letv (a.set i.toNat r) fun u =>
  b a2 u (w64 (i + 1))
 else
 some a
def Z3h (N : Nat) : Nat -> T66
 | 0 => fun _ _ _ => none
 | k_ + 1 => Z5f N (Z3h N k_)
def Z8u (N : Nat) (b : T66) (a : R0) : Option R0 :=
 grd (makeOk (a.length : Int) 32) <|
 b a (List.replicate (a.length : Int).toNat (⟨#[]⟩, (0, 0))) 0
def Z3s (a : R0) : Option R0 := Z8u N (Z3h N N) a
def Z87 (N : Nat) (b : T19) (a2 : I0) (a : I0) (i : Int) : Option I0 :=
 bif decide (i < (a2.length : Int)) then
  grd (inb i a2) <|
  grd (inb i a) <|
  grd (inb i a) <|
  letv (a.set i.toNat (at_ 0 a2 i)) fun u =>
  b a2 u (w64 (i + 1))
 else
 some a
def Z6d (N : Nat) : Nat -> T19
 | 0 => fun _ _ _ => none
 | k_ + 1 => Z87 N (Z6d N k_)
def Z9z (N : Nat) (b : T19) (a : I0) : Option I0 :=
 grd (makeOk (a.length : Int) 8) <|
 b a (List.replicate (a.length : Int).toNat 0) 0
def Z1p (a : I0) : Option I0 := Z9z N (Z6d N N) a
def Z7c (a : Int × List Int) : Option (Int × List Int) :=
 (Z1p N a.2).bind fun r =>
 some (a.1, r)
def Z7r (b : T34) (a2 : A0) (a : A0) (i : Int) : Option A0 :=
 bif decide (i < (a2.length : Int)) then
  grd (inb i a2) <|
  (Z7c N (at_ (0, []) a2 i)).bind fun r =>
  grd (inb i a) <|
  grd (inb i a) <|
  letv (a.set i.toNat r) fun u =>
  b a2 u (w64 (i + 1))
 else
 some a
def Z5g (N : Nat) : Nat -> T34
 | 0 => fun _ _ _ => none
 | k_ + 1 => Z7r N (Z5g N k_)
def Z9r (N : Nat) (b : T34) (a : A0) : Option A0 :=
 grd (makeOk (a.length : Int) 32) <|
 b a (List.replicate (a.length : Int).toNat (0, [])) 0
def Z6i (a : A0) : Option A0 := Z9r N (Z5g N N) a
def Z2r (a : D0) : Option D0 :=
 (Z3s N a.1).bind fun r =>
 (Z6i N a.2).bind fun r2 =>
 some (r, r2)
def Z7d (a : Int × List Int) : Option (Int × List Int) :=
 (Z1p N a.2).bind fun r =>
 some (a.1, r)
def Z7s (b : T34) (a2 : A0) (a : A0) (i : Int) : Option A0 :=
 bif decide (i < (a2.length : Int)) then
  grd (inb i a2) <|
  (Z7d N (at_ (0, []) a2 i)).bind fun r =>
  grd (inb i a) <|
  grd (inb i a) <|
  letv (a.set i.toNat r) fun u =>
  b a2 u (w64 (i + 1))
 else
 some a
def Z5h (N : Nat) : Nat -> T34
 | 0 => fun _ _ _ => none
 | k_ + 1 => Z7s N (Z5h N k_)
def Z9s (N : Nat) (b : T34) (a : A0) : Option A0 :=
 grd (makeOk (a.length : Int) 32) <|
 b a (List.replicate (a.length : Int).toNat (0, [])) 0
def Z6j (a : A0) : Option A0 := Z9s N (Z5h N N) a
def Z4b (a : Q0) : Option Q0 :=
 (Z6j N a.2.1).bind fun r =>
 (Z1p N a.2.2).bind fun r2 =>
 some (a.1, r, r2)
def Z0s (N : Nat) (x : Int) (a : Int) (b : Int) : Option Bool :=
 bif decide (x >= a) then some (decide (x <= b))
 else
 some false
def Z5 (s : ByteArray × Int × Int) : Option Bool :=
 bif ((s.1.size : Int) == 1) then
  (byteAt s.1 0).bind fun b =>
  bif decide ((b.toNat : Int) >= 97) then
   (byteAt s.1 0).bind fun b2 =>
   bif decide ((b2.toNat : Int) <= 122) then
    (Z0s N s.2.1 1 3).bind fun r =>
    bif r then
     (Z0s N s.2.2 0 s.2.1).bind fun r2 =>
     some r2
    else
    some false
   else
   some false
  else
  some false
 else
 some false
def Z1i (a : T68) (l2 : R0) (i : Int) : Option Bool :=
 bif decide (i < (l2.length : Int)) then
  grd (inb i l2) <|
  (Z5 N ((at_ (⟨#[]⟩, (0, 0)) l2 i).1, ((at_ (⟨#[]⟩, (0, 0)) l2 i).2))).bind fun r =>
  bif (!r) then some false
  else
  bif decide (i > 0) then
   grd (inb (w64 (i - 1)) l2) <|
   grd (inb i l2) <|
   bif (!slt ((at_ (⟨#[]⟩, (0, 0)) l2 (w64 (i - 1))).1) ((at_ (⟨#[]⟩, (0, 0)) l2 i).1)) then some false
   else
   a l2 (w64 (i + 1))
  else
  a l2 (w64 (i + 1))
 else
 some (decide ((l2.length : Int) <= 4))
def Z0l (N : Nat) : Nat -> T68
 | 0 => fun _ _ => none
 | k_ + 1 => Z1i N (Z0l N k_)
def Z4c (N : Nat) (a : T68) (l : R0) : Option Bool :=
 a l 0
def Z0d (l : R0) : Option Bool := Z4c N (Z0l N N) l
def Z5i (a : T58) (f2 : Int) (f3 : I0) (i : Int) : Option Bool :=
 bif decide (i < (f3.length : Int)) then
  grd (inb i f3) <|
  (Z0s N (at_ 0 f3 i) 0 9).bind fun r3 =>
  bif (!r3) then some false
  else
  a f2 f3 (w64 (i + 1))
 else
 some true
def Z3i (N : Nat) : Nat -> T58
 | 0 => fun _ _ _ => none
 | k_ + 1 => Z5i N (Z3i N k_)
def Z8v (a : T58) (l : R0) (f : Int × List Int) : Option Bool :=
 (Z0d N l).bind fun r =>
 bif (!r) then some false
 else
 (Z0s N f.1 0 (w64 ((l.length : Int) - 1))).bind fun r2 =>
 bif (!r2) then some false
 else
 grd (inb f.1 l) <|
 bif ((f.2.length : Int) != (((at_ (⟨#[]⟩, (0, 0)) l f.1).2).1)) then some false
 else
 a f.1 f.2 0
def Z16 (l : R0) (f : Int × List Int) : Option Bool := Z8v N (Z3i N N) l f
def Z6k (N : Nat) (a : T65) (a2 : I0) (b2 : I0) (i : Int) : Option Int :=
 bif decide (i < (a2.length : Int)) then
  bif decide (i < (b2.length : Int)) then
   grd (inb i a2) <|
   grd (inb i b2) <|
   bif decide ((at_ 0 a2 i) < (at_ 0 b2 i)) then some (-1)
   else
   grd (inb i a2) <|
   grd (inb i b2) <|
   bif decide ((at_ 0 a2 i) > (at_ 0 b2 i)) then some 1
   else
   a a2 b2 (w64 (i + 1))
  else
  bif decide ((a2.length : Int) < (b2.length : Int)) then some (-1)
  else
  bif decide ((a2.length : Int) > (b2.length : Int)) then some 1
  else
  some 0
 else
 bif decide ((a2.length : Int) < (b2.length : Int)) then some (-1)
 else
 bif decide ((a2.length : Int) > (b2.length : Int)) then some 1
 else
 some 0
def Z4s (N : Nat) : Nat -> T65
 | 0 => fun _ _ _ => none
 | k_ + 1 => Z6k N (Z4s N k_)
def Z0bh (N : Nat) (c : T65) (a : I0) (b : I0) : Option Int :=
 c a b 0
def Z6b (a : I0) (b : I0) : Option Int := Z0bh N (Z4s N N) a b
def Z3a (a : Int × List Int) (b : Int × List Int) : Option Int :=
 bif decide (a.1 < b.1) then some (-1)
 else
 bif decide (a.1 > b.1) then some 1
 else
 (Z6b N a.2 b.2).bind fun r =>
 some r
def Z45 (a : T62) (d2 : R0) (d3 : A0) (i : Int) : Option Bool :=
 bif decide (i < (d3.length : Int)) then
  grd (inb i d3) <|
  (Z16 N d2 (at_ (0, []) d3 i)).bind fun r =>
  bif (!r) then some false
  else
  bif decide (i > 0) then
   grd (inb (w64 (i - 1)) d3) <|
   grd (inb i d3) <|
   (Z3a N (at_ (0, []) d3 (w64 (i - 1))) (at_ (0, []) d3 i)).bind fun r2 =>
   bif decide (r2 >= 0) then some false
   else
   a d2 d3 (w64 (i + 1))
  else
  a d2 d3 (w64 (i + 1))
 else
 (Z0d N d2).bind fun r3 =>
 bif r3 then some (decide ((d3.length : Int) <= 14))
 else
 some false
def Z22 (N : Nat) : Nat -> T62
 | 0 => fun _ _ _ => none
 | k_ + 1 => Z45 N (Z22 N k_)
def Z7e (N : Nat) (a : T62) (d : D0) : Option Bool :=
 a d.1 d.2 0
def Z0 (d : D0) : Option Bool := Z7e N (Z22 N N) d
def Z7f (d : T6) (c : T4) (l4 : R0) (q8 : Int) (q9 : A0) (b : I0) (a : List Bool) (i3 : Int) (a3 : Int) (a4 : I0) (k2 : Int) : Option Bool :=
 bif decide (k2 < (a4.length : Int)) then
  grd (inb k2 a4) <|
  (Z0s N (at_ 0 a4 k2) (-10) (w64 (q8 - 1))).bind fun r5 =>
  bif (!r5) then some false
  else
  grd (inb k2 a4) <|
  bif decide ((at_ 0 a4 k2) >= 0) then
   grd (inb k2 a4) <|
   grd (inb (at_ 0 a4 k2) a) <|
   grd (inb (at_ 0 a4 k2) a) <|
   letv (a.set (at_ 0 a4 k2).toNat true) fun u =>
   c l4 q8 q9 b u i3 a3 a4 (w64 (k2 + 1))
  else
  c l4 q8 q9 b a i3 a3 a4 (w64 (k2 + 1))
 else
 d l4 q8 q9 b a (w64 (i3 + 1))
def Z1m (a : T6) (N : Nat) : Nat -> T4
 | 0 => fun _ _ _ _ _ _ _ _ _ => none
 | k_ + 1 => Z7f N a (Z1m a N k_)
def Z4z (N : Nat) (e : T6) (c : T4) (d : T4) (l3 : R0) (q5 : Int) (q6 : A0) (q7 : I0) (b : List Bool) (i2 : Int) (a : Int) (a2 : I0) (k : Int) : Option Bool :=
 bif decide (k < i2) then
  grd (inb k q6) <|
  bif (((at_ (0, []) q6 k).1) == a) then some false
  else
  d l3 q5 q6 q7 b i2 a a2 (w64 (k + 1))
 else
 c l3 q5 q6 q7 b i2 a a2 0
def Z2a (a : T6) (N : Nat) : Nat -> T4
 | 0 => fun _ _ _ _ _ _ _ _ _ => none
 | k_ + 1 => Z4z N a (Z1m a N N) (Z2a a N k_)
def Z50 (c : T50) (b : Int) (d : A0) (a : I0) (i4 : Int) : Option Bool :=
 bif decide (i4 < (a.length : Int)) then
  grd (inb i4 a) <|
  (Z0s N (at_ 0 a i4) 0 (w64 (b - 1))).bind fun r6 =>
  bif (!r6) then some false
  else
  bif decide (i4 > 0) then
   grd (inb i4 a) <|
   grd (inb (w64 (i4 - 1)) a) <|
   bif decide ((at_ 0 a i4) <= (at_ 0 a (w64 (i4 - 1)))) then some false
   else
   c b d a (w64 (i4 + 1))
  else
  c b d a (w64 (i4 + 1))
 else
 some true
def Z2b (N : Nat) : Nat -> T50
 | 0 => fun _ _ _ _ => none
 | k_ + 1 => Z50 N (Z2b N k_)
def Z51 (N : Nat) (e : T50) (f : T35) (a : Int) (c : A0) (d : I0) (b : List Bool) (v : Int) : Option Bool :=
 bif decide (v < a) then
  grd (inb v b) <|
  bif (!(at_ false b v)) then some false
  else
  f a c d b (w64 (v + 1))
 else
 e a c d 0
def Z2c (N : Nat) : Nat -> T35
 | 0 => fun _ _ _ _ _ => none
 | k_ + 1 => Z51 N (Z2b N N) (Z2c N k_)
def Z7g (b : T4) (c : T35) (d : T6) (l2 : R0) (q2 : Int) (q3 : A0) (q4 : I0) (a : List Bool) (i : Int) : Option Bool :=
 bif decide (i < (q3.length : Int)) then
  grd (inb i q3) <|
  (Z0s N ((at_ (0, []) q3 i).1) 0 (w64 ((l2.length : Int) - 1))).bind fun r4 =>
  bif (!r4) then some false
  else
  grd (inb ((at_ (0, []) q3 i).1) l2) <|
  bif ((((at_ (0, []) q3 i).2).length : Int) != (((at_ (⟨#[]⟩, (0, 0)) l2 ((at_ (0, []) q3 i).1)).2).1)) then some false
  else
  b l2 q2 q3 q4 a i ((at_ (0, []) q3 i).1) ((at_ (0, []) q3 i).2) 0
 else
 c q2 q3 q4 a 0
def Z33 (N : Nat) : Nat -> T6
 | 0 => fun _ _ _ _ _ _ => none
 | k_ + 1 => Z7g N (Z2a (Z33 N k_) N N) (Z2c N N) (Z33 N k_)
def Z8h (a : T6) (l : R0) (q : Q0) : Option Bool :=
 (Z0d N l).bind fun r =>
 bif (!r) then some false
 else
 (Z0s N q.1 0 4).bind fun r2 =>
 bif (!r2) then some false
 else
 (Z0s N (q.2.1.length : Int) 1 3).bind fun r3 =>
 bif (!r3) then some false
 else
 grd (makeOk 4 1) <|
 a l q.1 q.2.1 q.2.2 (List.replicate (4 : Int).toNat false) 0
def Z3b (l : R0) (q : Q0) : Option Bool := Z8h N (Z33 N N) l q
def Z0u (d : D0) (q : Q0) : Option Bool :=
 (Z0 N d).bind fun r =>
 bif r then
  (Z3b N d.1 q).bind fun r2 =>
  some r2
 else
 some false
def Z46 (a : T16) (w2 : I0) (d2 : R0) (d3 : A0) (i : Int) : Option Bool :=
 bif decide (i < (w2.length : Int)) then
  grd (inb i w2) <|
  (Z0s N (at_ 0 w2 i) 1 9).bind fun r =>
  bif (!r) then some false
  else
  a w2 d2 d3 (w64 (i + 1))
 else
 (Z0 N (d2, d3)).bind fun r2 =>
 bif r2 then some ((w2.length : Int) == (d3.length : Int))
 else
 some false
def Z23 (N : Nat) : Nat -> T16
 | 0 => fun _ _ _ _ => none
 | k_ + 1 => Z46 N (Z23 N k_)
def Z7h (N : Nat) (a : T16) (d : D0) (w : I0) : Option Bool :=
 a w d.1 d.2 0
def Z0o (d : D0) (w : I0) : Option Bool := Z7h N (Z23 N N) d w
def Z74 (l : R0) (f : Int × List Int) : Option I0 :=
 (Z16 N l f).bind fun r =>
 bif (!r) then some []
 else
 grd (inb f.1 l) <|
 grd (subOk 0 (((at_ (⟨#[]⟩, (0, 0)) l f.1).2).2) f.2.length) <|
 grd (appOk [] (f.2.take (((at_ (⟨#[]⟩, (0, 0)) l f.1).2).2).toNat) 8) <|
 some (f.2.take (((at_ (⟨#[]⟩, (0, 0)) l f.1).2).2).toNat)
def Z3t (l : R0) (a : Int × List Int) (b : Int × List Int) : Option Bool :=
 (Z16 N l a).bind fun r =>
 bif r then
  (Z16 N l b).bind fun r2 =>
  bif r2 then
   bif (a.1 == b.1) then
    (Z74 N l a).bind fun r3 =>
    (Z74 N l b).bind fun r4 =>
    (Z6b N r3 r4).bind fun r5 =>
    some (r5 == 0)
   else
   some false
  else
  some false
 else
 some false
def Z7t (b : T49) (i2 : Int) (d2 : R0) (d3 : A0) (a : I0) (k : Int) : Option I0 :=
 bif decide (k < (d3.length : Int)) then
  (Z0 N (d2, d3)).bind fun r =>
  bif r then
   (Z0s N i2 0 (w64 ((d3.length : Int) - 1))).bind fun r2 =>
   bif r2 then
    grd (inb i2 d3) <|
    grd (inb k d3) <|
    (Z3t N d2 (at_ (0, []) d3 i2) (at_ (0, []) d3 k)).bind fun r3 =>
    bif r3 then
     grd (appOk a [k] 8) <|
     b i2 d2 d3 (a ++ [k]) (w64 (k + 1))
    else
    b i2 d2 d3 a (w64 (k + 1))
   else
   some a
  else
  some a
 else
 some a
def Z5j (N : Nat) : Nat -> T49
 | 0 => fun _ _ _ _ _ => none
 | k_ + 1 => Z7t N (Z5j N k_)
def Z0b0 (N : Nat) (a : T49) (d : D0) (i : Int) : Option I0 :=
 a i d.1 d.2 [] 0
def Z7x (d : D0) (i : Int) : Option I0 := Z0b0 N (Z5j N N) d i
def Z6l (b : T59) (d2 : R0) (d3 : A0) (a : L0) (i : Int) : Option L0 :=
 bif decide (i < (d3.length : Int)) then
  (Z0 N (d2, d3)).bind fun r =>
  bif r then
   (Z7x N (d2, d3) i).bind fun r2 =>
   grd (inb 0 r2) <|
   bif ((at_ 0 r2 0) == i) then
    grd (appOk a [r2] 24) <|
    b d2 d3 (a ++ [r2]) (w64 (i + 1))
   else
   b d2 d3 a (w64 (i + 1))
  else
  some a
 else
 some a
def Z4t (N : Nat) : Nat -> T59
 | 0 => fun _ _ _ _ => none
 | k_ + 1 => Z6l N (Z4t N k_)
def Z0a1 (N : Nat) (a : T59) (d : D0) : Option L0 :=
 a d.1 d.2 [] 0
def Z1f (d : D0) : Option L0 := Z0a1 N (Z4t N N) d
def Z94 (N : Nat) (a : T69) (n2 : Int) (l : I0) : Option I0 :=
 bif decide ((l.length : Int) < n2) then
  grd (appOk l [(-1)] 8) <|
  a n2 (l ++ [(-1)])
 else
 some l
def Z75 (N : Nat) : Nat -> T69
 | 0 => fun _ _ => none
 | k_ + 1 => Z94 N (Z75 N k_)
def Z9t (N : Nat) (a : T69) (n : Int) : Option I0 :=
 a n []
def Z55 (n : Int) : Option I0 := Z9t N (Z75 N N) n
def Z95 (N : Nat) (a : T29) (a2 : Int) (a3 : I0) (f2 : Int) (f3 : I0) (x : I0) (i : Int) : Option (List Int × Bool) :=
 bif decide (i < (a3.length : Int)) then
  grd (inb i a3) <|
  bif decide ((at_ 0 a3 i) < 0) then
   grd (inb i f3) <|
   bif ((w64 ((-1) - (at_ 0 a3 i))) != (at_ 0 f3 i)) then some (x, false)
   else
   a a2 a3 f2 f3 x (w64 (i + 1))
  else
  grd (inb (at_ 0 a3 i) x) <|
  bif decide ((at_ 0 x (at_ 0 a3 i)) >= 0) then
   grd (inb (at_ 0 a3 i) x) <|
   grd (inb i f3) <|
   bif ((at_ 0 x (at_ 0 a3 i)) != (at_ 0 f3 i)) then some (x, false)
   else
   grd (inb i f3) <|
   grd (inb (at_ 0 a3 i) x) <|
   grd (inb (at_ 0 a3 i) x) <|
   letv (x.set (at_ 0 a3 i).toNat (at_ 0 f3 i)) fun u =>
   a a2 a3 f2 f3 u (w64 (i + 1))
  else
  grd (inb i f3) <|
  grd (inb (at_ 0 a3 i) x) <|
  grd (inb (at_ 0 a3 i) x) <|
  letv (x.set (at_ 0 a3 i).toNat (at_ 0 f3 i)) fun u2 =>
  a a2 a3 f2 f3 u2 (w64 (i + 1))
 else
 some (x, true)
def Z76 (N : Nat) : Nat -> T29
 | 0 => fun _ _ _ _ _ _ => none
 | k_ + 1 => Z95 N (Z76 N k_)
def Z9u (N : Nat) (c : T29) (a : Int × List Int) (f : Int × List Int) (b : I0) : Option (List Int × Bool) :=
 grd (appOk [] b 8) <|
 bif (f.1 != a.1) then some (b, false)
 else
 bif ((f.2.length : Int) != (a.2.length : Int)) then some (b, false)
 else
 c a.1 a.2 f.1 f.2 b 0
def Z6m (a : Int × List Int) (f : Int × List Int) (b : I0) : Option (List Int × Bool) := Z9u N (Z76 N N) a f b
def Z96 (Rf : T14) (d : T8) (k2 : Int) (c : I0) (a : I0) (d2 : R0) (d3 : A0) (q2 : Int) (q3 : A0) (q4 : I0) (b : List (List Int × List Int)) (i : Int) : Option (List (List Int × List Int)) :=
 bif decide (i < (d3.length : Int)) then
  grd (inb k2 q3) <|
  grd (inb i d3) <|
  (Z6m N (at_ (0, []) q3 k2) (at_ (0, []) d3 i) c).bind fun e =>
  bif e.2 then
   grd (appOk [] a 8) <|
   grd (appOk a [i] 8) <|
   (Rf (d2, d3) (q2, q3, q4) (w64 (k2 + 1)) e.1 (a ++ [i])).bind fun r3 =>
   grd (appOk b r3 48) <|
   d k2 c a d2 d3 q2 q3 q4 (b ++ r3) (w64 (i + 1))
  else
  d k2 c a d2 d3 q2 q3 q4 b (w64 (i + 1))
 else
 some b
def Z77 (N : Nat) (Rf : T14) : Nat -> T8
 | 0 => fun _ _ _ _ _ _ _ _ _ _ => none
 | k_ + 1 => Z96 N Rf (Z77 N Rf k_)
def Z92 (N : Nat) (Rf : T14) (c : T8) (d : D0) (q : Q0) (k : Int) (a : I0) (b : I0) : Option (List (List Int × List Int)) :=
 bif (k == (q.2.1.length : Int)) then
  grd (appOk [] a 8) <|
  grd (appOk [] b 8) <|
  some [(a, b)]
 else
 c k a b d.1 d.2 q.1 q.2.1 q.2.2 [] 0
def Z34 (N : Nat) : Nat -> T14
 | 0 => fun _ _ _ _ _ => none
 | k_ + 1 => Z92 N (Z34 N k_) (Z77 N (Z34 N k_) N)
def Z7y (d : D0) (q : Q0) (k : Int) (a : I0) (b : I0) : Option (List (List Int × List Int)) := Z34 N N d q k a b
def Z2p (d : D0) (q : Q0) : Option (List (List Int × List Int)) :=
 (Z0u N d q).bind fun r =>
 bif (!r) then some []
 else
 (Z55 N q.1).bind fun r2 =>
 (Z7y N d q 0 r2 []).bind fun r3 =>
 some r3
def Z3v (N : Nat) (b : T19) (c : T22) (l3 : I0) (a : I0) (i2 : Int) (k : Int) : Option I0 :=
 bif decide (k > 0) then
  grd (inb (w64 (k - 1)) a) <|
  grd (inb i2 l3) <|
  bif decide ((at_ 0 a (w64 (k - 1))) > (at_ 0 l3 i2)) then c l3 a i2 (w64 (k - 1))
  else
  grd (subOk 0 k a.length) <|
  grd (appOk [] (a.take k.toNat) 8) <|
  grd (inb i2 l3) <|
  grd (appOk (a.take k.toNat) [(at_ 0 l3 i2)] 8) <|
  grd (subOk k (a.length : Int) a.length) <|
  grd (appOk ((a.take k.toNat) ++ [(at_ 0 l3 i2)]) (a.drop k.toNat) 8) <|
  b l3 (((a.take k.toNat) ++ [(at_ 0 l3 i2)]) ++ (a.drop k.toNat)) (w64 (i2 + 1))
 else
 grd (subOk 0 k a.length) <|
 grd (appOk [] (a.take k.toNat) 8) <|
 grd (inb i2 l3) <|
 grd (appOk (a.take k.toNat) [(at_ 0 l3 i2)] 8) <|
 grd (subOk k (a.length : Int) a.length) <|
 grd (appOk ((a.take k.toNat) ++ [(at_ 0 l3 i2)]) (a.drop k.toNat) 8) <|
 b l3 (((a.take k.toNat) ++ [(at_ 0 l3 i2)]) ++ (a.drop k.toNat)) (w64 (i2 + 1))
def Z2d (a : T19) (N : Nat) : Nat -> T22
 | 0 => fun _ _ _ _ => none
 | k_ + 1 => Z3v N a (Z2d a N k_)
def Z56 (N : Nat) (b : T22) (c : T19) (l2 : I0) (a : I0) (i : Int) : Option I0 :=
 bif decide (i < (l2.length : Int)) then b l2 a i (a.length : Int)
 else
 some a
def Z0w (N : Nat) : Nat -> T19
 | 0 => fun _ _ _ => none
 | k_ + 1 => Z56 N (Z2d (Z0w N k_) N N) (Z0w N k_)
def Z8o (N : Nat) (a : T19) (l : I0) : Option I0 :=
 a l [] 0
def Z17 (l : I0) : Option I0 := Z8o N (Z0w N N) l
def Z8p (a : T16) (l2 : I0) (d2 : R0) (d3 : A0) (i : Int) : Option Bool :=
 bif decide (i < (l2.length : Int)) then
  grd (inb i l2) <|
  (Z0s N (at_ 0 l2 i) 0 (w64 ((d3.length : Int) - 1))).bind fun r =>
  bif (!r) then some false
  else
  bif decide (i > 0) then
   grd (inb i l2) <|
   grd (inb (w64 (i - 1)) l2) <|
   bif decide ((at_ 0 l2 i) <= (at_ 0 l2 (w64 (i - 1)))) then some false
   else
   a l2 d2 d3 (w64 (i + 1))
  else
  a l2 d2 d3 (w64 (i + 1))
 else
 some true
def Z72 (N : Nat) : Nat -> T16
 | 0 => fun _ _ _ _ => none
 | k_ + 1 => Z8p N (Z72 N k_)
def Z0af (N : Nat) (a : T16) (d : D0) (l : I0) : Option Bool :=
 a l d.1 d.2 0
def Z5w (d : D0) (l : I0) : Option Bool := Z0af N (Z72 N N) d l
def Z7z (N : Nat) (a : T24) (l2 : I0) (d2 : R0) (d3 : A0) (t4 : R0) (b : A0) (x : R0) (x2 : A0) (i : Int) : Option (D0 × Bool) :=
 bif decide (i < (l2.length : Int)) then
  grd (inb i l2) <|
  grd (inb (at_ 0 l2 i) d3) <|
  grd (appOk [] ((at_ (0, []) d3 (at_ 0 l2 i)).2) 8) <|
  grd (appOk x2 [(at_ (0, []) d3 (at_ 0 l2 i))] 32) <|
  a l2 d2 d3 t4 b x (x2 ++ [(at_ (0, []) d3 (at_ 0 l2 i))]) (w64 (i + 1))
 else
 some ((x, x2), true)
def Z4r (N : Nat) : Nat -> T24
 | 0 => fun _ _ _ _ _ _ _ _ => none
 | k_ + 1 => Z7z N (Z4r N k_)
def Z8w (a : T24) (d : D0) (l : I0) : Option (D0 × Bool) :=
 (Z0 N d).bind fun r =>
 bif (!r) then some (([], []), false)
 else
 (Z5w N d l).bind fun r2 =>
 bif (!r2) then some (([], []), false)
 else
 grd (appOk [] d.1 32) <|
 a l d.1 d.2 [] [] d.1 [] 0
def Z1q (d : D0) (l : I0) : Option (D0 × Bool) := Z8w N (Z4r N N) d l
def Z4j (d : D0) : Option Bool :=
 (Z0 N d).bind fun r =>
 bif r then
  (Z1f N d).bind fun r2 =>
  some ((r2.length : Int) == (d.2.length : Int))
 else
 some false
def Z1n (d : D0) (l : I0) : Option Bool :=
 (Z1q N d l).bind fun a =>
 bif a.2 then
  (Z4j N a.1).bind fun r3 =>
  some r3
 else
 some false
def Z8i (b : T23) (d2 : R0) (d3 : A0) (a : L0) (l : List (List Int × List Int)) (i : Int) : Option L0 :=
 bif decide (i < (l.length : Int)) then
  grd (inb i l) <|
  (Z17 N ((at_ ([], []) l i).2)).bind fun r2 =>
  (Z1n N (d2, d3) r2).bind fun r3 =>
  bif r3 then
   grd (appOk a [r2] 24) <|
   b d2 d3 (a ++ [r2]) l (w64 (i + 1))
  else
  b d2 d3 a l (w64 (i + 1))
 else
 some a
def Z5u (N : Nat) : Nat -> T23
 | 0 => fun _ _ _ _ _ => none
 | k_ + 1 => Z8i N (Z5u N k_)
def Z9b (a : T23) (d : D0) (q : Q0) : Option L0 :=
 (Z2p N d q).bind fun r =>
 a d.1 d.2 [] r 0
def Z2k (d : D0) (q : Q0) : Option L0 := Z9b N (Z5u N N) d q
def Z8q (N : Nat) (a : T60) (l2 : I0) (x2 : Int) (i : Int) : Option Bool :=
 bif decide (i < (l2.length : Int)) then
  grd (inb i l2) <|
  bif ((at_ 0 l2 i) == x2) then some true
  else
  a l2 x2 (w64 (i + 1))
 else
 some false
def Z73 (N : Nat) : Nat -> T60
 | 0 => fun _ _ _ => none
 | k_ + 1 => Z8q N (Z73 N k_)
def Z0ag (N : Nat) (a : T60) (l : I0) (x : Int) : Option Bool :=
 a l x 0
def Z5x (l : I0) (x : Int) : Option Bool := Z0ag N (Z73 N N) l x
def Z8x (a : T26) (a2 : I0) (b2 : I0) (i : Int) : Option Bool :=
 bif decide (i < (a2.length : Int)) then
  grd (inb i a2) <|
  (Z5x N b2 (at_ 0 a2 i)).bind fun r =>
  bif r then some true
  else
  a a2 b2 (w64 (i + 1))
 else
 some false
def Z6n (N : Nat) : Nat -> T26
 | 0 => fun _ _ _ => none
 | k_ + 1 => Z8x N (Z6n N k_)
def Z9k (N : Nat) (c : T26) (a : I0) (b : I0) : Option Bool :=
 c a b 0
def Z4q (a : I0) (b : I0) : Option Bool := Z9k N (Z6n N N) a b
def Z5y (j : T3) (i : T2) (c : R0) (d : A0) (e : Int) (f : A0) (g : I0) (b5 : L0) (a : I0) (b : L0) (n4 : Int) (i4 : Int) (h : Int) (k2 : Int) : Option L0 :=
 bif decide (k2 < (b5.length : Int)) then
  grd (inb k2 b5) <|
  grd (inb i4 b) <|
  (Z4q N (at_ [] b5 k2) (at_ [] b i4)).bind fun r4 =>
  bif r4 then
   grd (inb k2 a) <|
   grd (inb k2 a) <|
   letv (a.set k2.toNat h) fun u =>
   i c d e f g b5 u b n4 i4 h (w64 (k2 + 1))
  else
  i c d e f g b5 a b n4 i4 h (w64 (k2 + 1))
 else
 j c d e f g b5 a b n4 (w64 (i4 + 1))
def Z24 (a : T3) (N : Nat) : Nat -> T2
 | 0 => fun _ _ _ _ _ _ _ _ _ _ _ _ => none
 | k_ + 1 => Z5y N a (Z24 a N k_)
def Z5z (i : T3) (h : T2) (g : T2) (d8 : R0) (d9 : A0) (c : Int) (d : A0) (e : I0) (b4 : L0) (a : I0) (b : L0) (n3 : Int) (i3 : Int) (f : Int) (k : Int) : Option L0 :=
 bif decide (k < (b4.length : Int)) then
  grd (inb k b4) <|
  grd (inb i3 b) <|
  (Z4q N (at_ [] b4 k) (at_ [] b i3)).bind fun r3 =>
  bif r3 then
   grd (inb k a) <|
   g d8 d9 c d e b4 a b n3 i3 (imin f (at_ 0 a k)) (w64 (k + 1))
  else
  g d8 d9 c d e b4 a b n3 i3 f (w64 (k + 1))
 else
 h d8 d9 c d e b4 a b n3 i3 f 0
def Z25 (a : T3) (N : Nat) : Nat -> T2
 | 0 => fun _ _ _ _ _ _ _ _ _ _ _ _ => none
 | k_ + 1 => Z5z N a (Z24 a N N) (Z25 a N k_)
def Z60 (N : Nat) (d : T1) (e : T2) (f : T3) (d6 : R0) (d7 : A0) (q8 : Int) (q9 : A0) (b : I0) (b3 : L0) (c : I0) (a : L0) (n2 : Int) (i2 : Int) : Option L0 :=
 bif decide (i2 < (a.length : Int)) then
  e d6 d7 q8 q9 b b3 c a n2 i2 (b3.length : Int) 0
 else
 d d6 d7 q8 q9 b b3 c a (w64 (n2 + 1))
def Z1j (a : T1) (N : Nat) : Nat -> T3
 | 0 => fun _ _ _ _ _ _ _ _ _ _ => none
 | k_ + 1 => Z60 N a (Z25 (Z1j a N k_) N N) (Z1j a N k_)
def Z61 (N : Nat) (i : T1) (j : T18) (d : R0) (e : A0) (f : Int) (g : A0) (h : I0) (b7 : L0) (a : I0) (c : L0) (i6 : Int) (b : I0) (k3 : Int) : Option L0 :=
 bif decide (k3 < (b7.length : Int)) then
  grd (inb k3 a) <|
  bif ((at_ 0 a k3) == i6) then
   grd (appOk b [k3] 8) <|
   j d e f g h b7 a c i6 (b ++ [k3]) (w64 (k3 + 1))
  else
  j d e f g h b7 a c i6 b (w64 (k3 + 1))
 else
 bif decide ((b.length : Int) > 0) then
  grd (appOk c [b] 24) <|
  i d e f g h b7 a (c ++ [b]) (w64 (i6 + 1))
 else
 i d e f g h b7 a c (w64 (i6 + 1))
def Z26 (a : T1) (N : Nat) : Nat -> T18
 | 0 => fun _ _ _ _ _ _ _ _ _ _ _ => none
 | k_ + 1 => Z61 N a (Z26 a N k_)
def Z47 (g : T18) (i : T1) (b : R0) (c : A0) (d : Int) (e : A0) (f : I0) (b6 : L0) (h : I0) (a : L0) (i5 : Int) : Option L0 :=
 bif decide (i5 < (b6.length : Int)) then
  (Z0u N (b, c) (d, e, f)).bind fun r5 =>
  bif r5 then
   g b c d e f b6 h a i5 [] 0
  else
  some a
 else
 some a
def Z1a (N : Nat) : Nat -> T1
 | 0 => fun _ _ _ _ _ _ _ _ _ => none
 | k_ + 1 => Z47 N (Z26 (Z1a N k_) N N) (Z1a N k_)
def Z62 (N : Nat) (b : T3) (c : T1) (e : T1) (d4 : R0) (d5 : A0) (q5 : Int) (q6 : A0) (q7 : I0) (b2 : L0) (a : I0) (d : L0) (n : Int) : Option L0 :=
 bif decide (n < (b2.length : Int)) then b d4 d5 q5 q6 q7 b2 a d n 0
 else
 c d4 d5 q5 q6 q7 b2 a [] 0
def Z1k (N : Nat) : Nat -> T1
 | 0 => fun _ _ _ _ _ _ _ _ _ => none
 | k_ + 1 => Z62 N (Z1j (Z1k N k_) N N) (Z1a N N) (Z1k N k_)
def Z63 (c : T1) (d : T32) (d2 : R0) (d3 : A0) (q2 : Int) (q3 : A0) (q4 : I0) (b : L0) (a : I0) (i : Int) : Option L0 :=
 bif decide (i < (b.length : Int)) then
  grd (appOk a [i] 8) <|
  d d2 d3 q2 q3 q4 b (a ++ [i]) (w64 (i + 1))
 else
 (Z2k N (d2, d3) (q2, q3, q4)).bind fun r2 =>
 c d2 d3 q2 q3 q4 b a r2 0
def Z39 (N : Nat) : Nat -> T32
 | 0 => fun _ _ _ _ _ _ _ _ => none
 | k_ + 1 => Z63 N (Z1k N N) (Z39 N k_)
def Z7i (a : T32) (d : D0) (q : Q0) : Option L0 :=
 (Z1f N d).bind fun r =>
 a d.1 d.2 q.1 q.2.1 q.2.2 r [] 0
def Z2e (d : D0) (q : Q0) : Option L0 := Z7i N (Z39 N N) d q
def Z2w (N : Nat) (a : T31) (b : T39) (w3 : I0) (n2 : Int) (b2 : L0) (i2 : Int) (s : Int) (k : Int) : Option Int :=
 grd (inb i2 b2) <|
 bif decide (k < ((at_ [] b2 i2).length : Int)) then
  grd (inb i2 b2) <|
  grd (inb k (at_ [] b2 i2)) <|
  grd (inb (at_ 0 (at_ [] b2 i2) k) w3) <|
  b w3 n2 b2 i2 (w64 (s + (at_ 0 w3 (at_ 0 (at_ [] b2 i2) k)))) (w64 (k + 1))
 else
 a w3 (w64 (n2 * s)) b2 (w64 (i2 + 1))
def Z14 (a : T31) (N : Nat) : Nat -> T39
 | 0 => fun _ _ _ _ _ _ => none
 | k_ + 1 => Z2w N a (Z14 a N k_)
def Z3w (N : Nat) (a : T39) (c : T31) (w2 : I0) (n : Int) (b : L0) (i : Int) : Option Int :=
 bif decide (i < (b.length : Int)) then a w2 n b i 0 0
 else
 some n
def Z0t (N : Nat) : Nat -> T31
 | 0 => fun _ _ _ _ => none
 | k_ + 1 => Z3w N (Z14 (Z0t N k_) N N) (Z0t N k_)
def Z8y (a : T31) (d : D0) (w : I0) : Option Int :=
 (Z0o N d w).bind fun r =>
 bif (!r) then some 0
 else
 (Z1f N d).bind fun r2 =>
 a w 1 r2 0
def Z18 (d : D0) (w : I0) : Option Int := Z8y N (Z0t N N) d w
def Z65 (N : Nat) (b : T67) (a : I0) (l : L0) (i : Int) : Option I0 :=
 bif decide (i < (l.length : Int)) then
  grd (inb i l) <|
  grd (appOk a [((at_ [] l i).length : Int)] 8) <|
  b (a ++ [((at_ [] l i).length : Int)]) l (w64 (i + 1))
 else
 some a
def Z3x (N : Nat) : Nat -> T67
 | 0 => fun _ _ _ => none
 | k_ + 1 => Z65 N (Z3x N k_)
def Z97 (a : T67) (d : D0) : Option I0 :=
 (Z1f N d).bind fun r =>
 a [] r 0
def Z4d (d : D0) : Option I0 := Z97 N (Z3x N N) d
def Z52 (N : Nat) (a : T63) (n : Int) (l : I0) (i : Int) : Option Int :=
 bif decide (i < (l.length : Int)) then
  grd (inb i l) <|
  a (w64 (n * (at_ 0 l i))) l (w64 (i + 1))
 else
 some n
def Z2f (N : Nat) : Nat -> T63
 | 0 => fun _ _ _ => none
 | k_ + 1 => Z52 N (Z2f N k_)
def Z8j (a : T63) (d : D0) : Option Int :=
 (Z0 N d).bind fun r =>
 bif (!r) then some 0
 else
 (Z4d N d).bind fun r2 =>
 a 1 r2 0
def Z1u (d : D0) : Option Int := Z8j N (Z2f N N) d
def Z6v (c : T40) (k2 : Int) (b : L0) (a : I0) (i : Int) : Option (List Int × Bool) :=
 bif decide (i >= 0) then
  grd (inb i b) <|
  grd (inb i b) <|
  grz ((at_ [] b i).length : Int) <|
  grd (inb (k2.tmod ((at_ [] b i).length : Int)) (at_ [] b i)) <|
  grd (appOk a [(at_ 0 (at_ [] b i) (k2.tmod ((at_ [] b i).length : Int)))] 8) <|
  grd (inb i b) <|
  grz ((at_ [] b i).length : Int) <|
  c (w64 (k2.tdiv ((at_ [] b i).length : Int))) b (a ++ [(at_ 0 (at_ [] b i) (k2.tmod ((at_ [] b i).length : Int)))]) (w64 (i - 1))
 else
 (Z17 N a).bind fun r4 =>
 some (r4, true)
def Z4k (N : Nat) : Nat -> T40
 | 0 => fun _ _ _ _ => none
 | k_ + 1 => Z6v N (Z4k N k_)
def Z9c (a : T40) (d : D0) (k : Int) : Option (List Int × Bool) :=
 (Z1u N d).bind fun r =>
 (Z0s N k 0 (w64 (r - 1))).bind fun r2 =>
 bif (!r2) then some ([], false)
 else
 (Z1f N d).bind fun r3 =>
 a k r3 [] (w64 ((r3.length : Int) - 1))
def Z4u (d : D0) (k : Int) : Option (List Int × Bool) := Z9c N (Z4k N N) d k
def Z9d (c : T36) (a : T42) (l3 : L0) (s3 : I0) (i2 : Int) (b : Bool) (k : Int) : Option Bool :=
 grd (inb i2 l3) <|
 bif decide (k < ((at_ [] l3 i2).length : Int)) then
  bif b then
   grd (inb i2 l3) <|
   grd (inb k (at_ [] l3 i2)) <|
   (Z5x N s3 (at_ 0 (at_ [] l3 i2) k)).bind fun r =>
   a l3 s3 i2 r (w64 (k + 1))
  else
  a l3 s3 i2 false (w64 (k + 1))
 else
 bif b then some true
 else
 c l3 s3 (w64 (i2 + 1))
def Z80 (a : T36) (N : Nat) : Nat -> T42
 | 0 => fun _ _ _ _ _ => none
 | k_ + 1 => Z9d N a (Z80 a N k_)
def Z88 (N : Nat) (a : T42) (b : T36) (l2 : L0) (s2 : I0) (i : Int) : Option Bool :=
 bif decide (i < (l2.length : Int)) then a l2 s2 i true 0
 else
 some false
def Z35 (N : Nat) : Nat -> T36
 | 0 => fun _ _ _ => none
 | k_ + 1 => Z88 N (Z80 (Z35 N k_) N N) (Z35 N k_)
def Z0a2 (N : Nat) (a : T36) (l : L0) (s : I0) : Option Bool :=
 a l s 0
def Z8f (l : L0) (s : I0) : Option Bool := Z0a2 N (Z35 N N) l s
def Z3y (l : L0) (s : I0) : Option Bool :=
 (Z8f N l s).bind fun r =>
 some r
def Z3m (N : Nat) (a : T17) (w2 : I0) (l2 : I0) (n : Int) (i : Int) : Option Int :=
 bif decide (i < (l2.length : Int)) then
  grd (inb i l2) <|
  grd (inb (at_ 0 l2 i) w2) <|
  a w2 l2 (w64 (n * (at_ 0 w2 (at_ 0 l2 i)))) (w64 (i + 1))
 else
 some n
def Z1c (N : Nat) : Nat -> T17
 | 0 => fun _ _ _ _ => none
 | k_ + 1 => Z3m N (Z1c N k_)
def Z8k (a : T17) (d : D0) (w : I0) (l : I0) : Option Int :=
 (Z0o N d w).bind fun r =>
 bif (!r) then some 0
 else
 (Z5w N d l).bind fun r2 =>
 bif (!r2) then some 0
 else
 a w l 1 0
def Z2o (d : D0) (w : I0) (l : I0) : Option Int := Z8k N (Z1c N N) d w l
def Z9l (b : T41) (w2 : I0) (d2 : R0) (d3 : A0) (n : Int) (a : L0) (k : Int) : Option Int :=
 (Z1u N (d2, d3)).bind fun r2 =>
 bif decide (k < r2) then
  (Z4u N (d2, d3) k).bind fun c =>
  (Z3y N a c.1).bind fun r5 =>
  bif r5 then
   (Z2o N (d2, d3) w2 c.1).bind fun r6 =>
   b w2 d2 d3 (w64 (n + r6)) a (w64 (k + 1))
  else
  b w2 d2 d3 n a (w64 (k + 1))
 else
 some n
def Z8d (N : Nat) : Nat -> T41
 | 0 => fun _ _ _ _ _ _ => none
 | k_ + 1 => Z9l N (Z8d N k_)
def Z0ao (a : T41) (d : D0) (w : I0) (q : Q0) : Option Int :=
 (Z2k N d q).bind fun r =>
 a w d.1 d.2 0 r 0
def Z78 (d : D0) (w : I0) (q : Q0) : Option Int := Z0ao N (Z8d N N) d w q
def Z9e (N : Nat) (a : T37) (a2 : Int) (b2 : Int) : Option Int :=
 bif (b2 != 0) then
  grz b2 <|
  a b2 (a2.tmod b2)
 else
 some a2
def Z81 (N : Nat) : Nat -> T37
 | 0 => fun _ _ => none
 | k_ + 1 => Z9e N (Z81 N k_)
def Z0a3 (N : Nat) (c : T37) (a : Int) (b : Int) : Option Int :=
 c a b
def Z8g (a : Int) (b : Int) : Option Int := Z0a3 N (Z81 N N) a b
def Z32 (n : Int) (m : Int) : Option (Int × Int) :=
 (Z8g N n m).bind fun r =>
 grz r <|
 grz r <|
 some ((w64 (n.tdiv r)), (w64 (m.tdiv r)))
def Z3n (Z6 : T0) (f : T7) (w4 : I0) (d6 : R0) (d7 : A0) (q8 : Int) (q9 : A0) (b : I0) (c : Int) (d : Int) (b3 : L0) (p3 : L0) (e : Int) (i3 : Int) (a : I0) (x : R0) (x2 : A0) (v : I0) (k2 : Int) : Option ((Int × Int) × Bool) :=
 bif decide (k2 < (a.length : Int)) then
  grd (inb k2 a) <|
  grd (inb (at_ 0 a k2) w4) <|
  grd (appOk v [(at_ 0 w4 (at_ 0 a k2))] 8) <|
  f w4 d6 d7 q8 q9 b c d b3 p3 e i3 a x x2 (v ++ [(at_ 0 w4 (at_ 0 a k2))]) (w64 (k2 + 1))
 else
 (Z18 N (x, x2) v).bind fun r8 =>
 (Z78 N (x, x2) v (q8, q9, b)).bind fun r9 =>
 Z6 w4 d6 d7 q8 q9 b c d b3 p3 (w64 (e * (w64 (r8 - r9)))) (w64 (i3 + 1))
def Z0z (Z6 : T0) (N : Nat) : Nat -> T7
 | 0 => fun _ _ _ _ _ _ _ _ _ _ _ _ _ _ _ _ _ => none
 | k_ + 1 => Z3n N Z6 (Z0z Z6 N k_)
def Z3o (Z6 : T0) (f : T7) (g : T10) (w3 : I0) (d4 : R0) (d5 : A0) (q5 : Int) (q6 : A0) (q7 : I0) (b : Int) (c : Int) (b2 : L0) (p2 : L0) (d : Int) (i2 : Int) (a : I0) (k : Int) : Option ((Int × Int) × Bool) :=
 grd (inb i2 p2) <|
 bif decide (k < ((at_ [] p2 i2).length : Int)) then
  grd (inb i2 p2) <|
  grd (inb k (at_ [] p2 i2)) <|
  grd (inb (at_ 0 (at_ [] p2 i2) k) b2) <|
  grd (appOk a (at_ [] b2 (at_ 0 (at_ [] p2 i2) k)) 8) <|
  g w3 d4 d5 q5 q6 q7 b c b2 p2 d i2 (a ++ (at_ [] b2 (at_ 0 (at_ [] p2 i2) k))) (w64 (k + 1))
 else
 (Z17 N a).bind fun r5 =>
 (Z1q N (d4, d5) r5).bind fun e =>
 f w3 d4 d5 q5 q6 q7 b c b2 p2 d i2 r5 e.1.1 e.1.2 [] 0
def Z10 (Z6 : T0) (N : Nat) : Nat -> T10
 | 0 => fun _ _ _ _ _ _ _ _ _ _ _ _ _ _ => none
 | k_ + 1 => Z3o N Z6 (Z0z Z6 N N) (Z10 Z6 N k_)
def Z21 (c : T10) (h : T0) (w2 : I0) (d2 : R0) (d3 : A0) (q2 : Int) (q3 : A0) (q4 : I0) (t6 : Int) (d : Int) (b : L0) (p : L0) (a : Int) (i : Int) : Option ((Int × Int) × Bool) :=
 bif decide (i < (p.length : Int)) then
  c w2 d2 d3 q2 q3 q4 t6 d b p a i [] 0
 else
 (Z18 N (d2, d3) w2).bind fun e =>
 (Z18 N (d2, d3) w2).bind fun f =>
 (Z32 N (w64 (e - a)) f).bind fun g =>
 some (g, true)
def Z0m (N : Nat) : Nat -> T0
 | 0 => fun _ _ _ _ _ _ _ _ _ _ _ _ => none
 | k_ + 1 => Z21 N (Z10 (Z0m N k_) N N) (Z0m N k_)
def Z2s (a : T0) (d : D0) (w : I0) (q : Q0) : Option ((Int × Int) × Bool) :=
 (Z0u N d q).bind fun r =>
 bif (!r) then some ((0, 0), false)
 else
 (Z0o N d w).bind fun r2 =>
 bif (!r2) then some ((0, 0), false)
 else
 (Z1f N d).bind fun r3 =>
 (Z2e N d q).bind fun r4 =>
 a w d.1 d.2 q.1 q.2.1 q.2.2 0 0 r3 r4 1 0
def Z0e (d : D0) (w : I0) (q : Q0) : Option ((Int × Int) × Bool) := Z2s N (Z0m N N) d w q
def Z0j (N : Nat) (n : Int) (a : Int) (b : Int) : Option Bool :=
 bif decide (a <= n) then some (decide (n <= b))
 else
 some false
def Z2g (a : ByteArray × Int × Int) : Option Bool :=
 bif ((a.1.size : Int) == 1) then
  (byteAt a.1 0).bind fun b =>
  bif decide ((b.toNat : Int) >= 97) then
   (byteAt a.1 0).bind fun b2 =>
   bif decide ((b2.toNat : Int) <= 122) then
    (Z0j N a.2.1 1 3).bind fun r =>
    bif r then
     (Z0j N a.2.2 0 a.2.1).bind fun r2 =>
     some r2
    else
    some false
   else
   some false
  else
  some false
 else
 some false
def Z3f (b : T51) (a : R0) (t5 : R0) (t6 : Int) (t7 : Int) : Option Bool :=
 bif decide (t7 < t6) then
  grd (inb t7 t5) <|
  (Z2g N ((at_ (⟨#[]⟩, (0, 0)) t5 t7).1, ((at_ (⟨#[]⟩, (0, 0)) t5 t7).2))).bind fun r =>
  bif (!r) then some false
  else
  bif decide (t7 > 0) then
   grd (inb (w64 (t7 - 1)) a) <|
   bif (!slt ((at_ (⟨#[]⟩, (0, 0)) a (w64 (t7 - 1))).1) ((at_ (⟨#[]⟩, (0, 0)) t5 t7).1)) then some false
   else
   b a t5 t6 (w64 (t7 + 1))
  else
  b a t5 t6 (w64 (t7 + 1))
 else
 some (decide ((a.length : Int) <= 4))
def Z1s (N : Nat) : Nat -> T51
 | 0 => fun _ _ _ _ => none
 | k_ + 1 => Z3f N (Z1s N k_)
def Z6o (N : Nat) (b : T51) (a : R0) : Option Bool :=
 b a a (a.length : Int) 0
def Z0y (a : R0) : Option Bool := Z6o N (Z1s N N) a
def Z4l (v : Int) : Option Bool :=
 (Z0j N v 0 9).bind fun r =>
 some (!r)
def Z11 (a : T27) (s2 : I0) (t7 : Int) (t8 : Int) : Option Int :=
 bif decide (t8 < t7) then
  grd (inb t8 s2) <|
  (Z4l N (at_ 0 s2 t8)).bind fun r =>
  bif r then some t8
  else
  a s2 t7 (w64 (t8 + 1))
 else
 some (-1)
def Z0b (N : Nat) : Nat -> T27
 | 0 => fun _ _ _ => none
 | k_ + 1 => Z11 N (Z0b N k_)
def Z2h (N : Nat) (a : T27) (s : I0) : Option Int :=
 a s (s.length : Int) 0
def Z0i (s : I0) : Option Int := Z2h N (Z0b N N) s
def Z0c (s : I0) : Option Bool :=
 (Z0i N s).bind fun r =>
 some (decide (r >= 0))
def Z4v (a : I0) : Option Bool :=
 (Z0c N a).bind fun r =>
 some (!r)
def Z7j (b : R0) (a : Int × List Int) : Option Bool :=
 (Z0j N a.1 0 (w64 ((b.length : Int) - 1))).bind fun r =>
 bif r then
  grd (inb a.1 b) <|
  bif ((a.2.length : Int) == (((at_ (⟨#[]⟩, (0, 0)) b a.1).2).1)) then
   (Z4v N a.2).bind fun r2 =>
   some r2
  else
  some false
 else
 some false
def Z83 (N : Nat) (a : Int) (b : Int) : Option Int :=
 bif decide (a < b) then some (-1)
 else
 bif decide (a > b) then some 1
 else
 some 0
def Z5q (N : Nat) (x : Int) : Option Bool :=
 some (x != x)
def Z4e (x : Int) (y : Int) : Option Int :=
 (Z5q N x).bind fun r =>
 (Z5q N y).bind fun r2 =>
 bif r then
  bif r2 then some 0
  else
  some (-1)
 else
 bif r2 then some 1
 else
 bif decide (x < y) then some (-1)
 else
 bif decide (x > y) then some 1
 else
 some 0
def Z1w (e : T47) (c : I0) (b : I0) (t9 : I0) (d : Int) (a : Int) : Option Int :=
 bif decide (a < d) then
  grd (inb a t9) <|
  bif decide (a >= (b.length : Int)) then some 1
  else
  grd (inb a b) <|
  (Z4e N (at_ 0 t9 a) (at_ 0 b a)).bind fun r =>
  bif (r != 0) then some r
  else
  e c b t9 d (w64 (a + 1))
 else
 bif decide ((c.length : Int) < (b.length : Int)) then some (-1)
 else
 some 0
def Z19 (N : Nat) : Nat -> T47
 | 0 => fun _ _ _ _ _ => none
 | k_ + 1 => Z1w N (Z19 N k_)
def Z8s (N : Nat) (a : T47) (s1 : I0) (s2 : I0) : Option Int :=
 a s1 s2 s1 (s1.length : Int) 0
def Z27 (s1 : I0) (s2 : I0) : Option Int := Z8s N (Z19 N N) s1 s2
def Z3c (a : Int × List Int) (b : Int × List Int) : Option Int :=
 bif (a.1 != b.1) then
  (Z83 N a.1 b.1).bind fun r =>
  some r
 else
 (Z27 N a.2 b.2).bind fun r2 =>
 some r2
def Z48 (f : T45) (d : R0) (c : A0) (b : A0) (e : Int) (a : Int) : Option Bool :=
 bif decide (a < e) then
  grd (inb a b) <|
  (Z7j N d (at_ (0, []) b a)).bind fun r2 =>
  bif (!r2) then some false
  else
  bif decide (a > 0) then
   grd (inb (w64 (a - 1)) c) <|
   (Z3c N (at_ (0, []) c (w64 (a - 1))) (at_ (0, []) b a)).bind fun r3 =>
   bif decide (r3 >= 0) then some false
   else
   f d c b e (w64 (a + 1))
  else
  f d c b e (w64 (a + 1))
 else
 some true
def Z28 (N : Nat) : Nat -> T45
 | 0 => fun _ _ _ _ _ => none
 | k_ + 1 => Z48 N (Z28 N k_)
def Z7k (a : T45) (db : D0) : Option Bool :=
 (Z0y N db.1).bind fun r =>
 bif (!r) then some false
 else
 bif decide ((db.2.length : Int) > 14) then some false
 else
 a db.1 db.2 db.2 (db.2.length : Int) 0
def Z1d (db : D0) : Option Bool := Z7k N (Z28 N N) db
def Z66 (b : T43) (a : I0) (n2 : Int) (t7 : I0) (t8 : Int) (t9 : Int) : Option Bool :=
 bif decide (t9 < t8) then
  grd (inb t9 t7) <|
  (Z0j N (at_ 0 t7 t9) 0 (w64 (n2 - 1))).bind fun r =>
  bif (!r) then some false
  else
  bif decide (t9 > 0) then
   grd (inb (w64 (t9 - 1)) a) <|
   bif decide ((at_ 0 a (w64 (t9 - 1))) >= (at_ 0 t7 t9)) then some false
   else
   b a n2 t7 t8 (w64 (t9 + 1))
  else
  b a n2 t7 t8 (w64 (t9 + 1))
 else
 some true
def Z3z (N : Nat) : Nat -> T43
 | 0 => fun _ _ _ _ _ => none
 | k_ + 1 => Z66 N (Z3z N k_)
def Z98 (N : Nat) (b : T43) (a : I0) (n : Int) : Option Bool :=
 b a n a (a.length : Int) 0
def Z4f (a : I0) (n : Int) : Option Bool := Z98 N (Z3z N N) a n
def Z36 (N : Nat) (a : Int × List Int) (c1 : Int × List Int) : Option Bool :=
 some (a.1 == c1.1)
def Z0q (a : T38) (s2 : A0) (f : Int × List Int) (t7 : Int) (t8 : Int) : Option Int :=
 bif decide (t8 < t7) then
  grd (inb t8 s2) <|
  (Z36 N (at_ (0, []) s2 t8) f).bind fun r =>
  bif r then some t8
  else
  a s2 f t7 (w64 (t8 + 1))
 else
 some (-1)
def Z4 (N : Nat) : Nat -> T38
 | 0 => fun _ _ _ _ => none
 | k_ + 1 => Z0q N (Z4 N k_)
def Z1o (N : Nat) (a : T38) (s : A0) (c : Int × List Int) : Option Int :=
 a s c (s.length : Int) 0
def Z8 (s : A0) (c : Int × List Int) : Option Int := Z1o N (Z4 N N) s c
def Z1 (s : A0) (c : Int × List Int) : Option Bool :=
 (Z8 N s c).bind fun r =>
 some (decide (r >= 0))
def Z57 (N : Nat) (e : T56) (c : I0) (b : L0) (d : Int) (a : Int) : Option I0 :=
 bif decide (a < d) then
  grd (inb a b) <|
  grd (appOk c (at_ [] b a) 8) <|
  e (c ++ (at_ [] b a)) b d (w64 (a + 1))
 else
 some c
def Z1t (N : Nat) : Nat -> T56
 | 0 => fun _ _ _ _ => none
 | k_ + 1 => Z57 N (Z1t N k_)
def Z58 (e : T56) (f : T48) (b : L0) (c : Int) (t9 : L0) (d : Int) (a : Int) : Option I0 :=
 bif decide (a < d) then
  grd (inb a t9) <|
  bif decide ((w64 (c + ((at_ [] t9 a).length : Int))) < 0) then none
  else
  f b (w64 (c + ((at_ [] t9 a).length : Int))) t9 d (w64 (a + 1))
 else
 (Z86 N [] c).bind fun r =>
 e r b (b.length : Int) 0
def Z2t (N : Nat) : Nat -> T48
 | 0 => fun _ _ _ _ _ => none
 | k_ + 1 => Z58 N (Z1t N N) (Z2t N k_)
def Z8z (N : Nat) (b : T48) (a : L0) : Option I0 :=
 b a 0 a (a.length : Int) 0
def Z2l (a : L0) : Option I0 := Z8z N (Z2t N N) a
def Z67 (a : I0) (b : I0) : Option I0 :=
 (Z2l N [a, b]).bind fun r =>
 (Z1b N r).bind fun m =>
 (Z6y N m).bind fun r2 =>
 some r2
def Z6z (c : T22) (b : I0) (t8 : I0) (t9 : Int) (a : Int) : Option I0 :=
 bif decide (a < t9) then
  grd (inb a t8) <|
  (Z0j N (at_ 0 t8 a) 0 3).bind fun r =>
  bif r then
   grd (appOk b [(at_ 0 t8 a)] 8) <|
   c (b ++ [(at_ 0 t8 a)]) t8 t9 (w64 (a + 1))
  else
  c b t8 t9 (w64 (a + 1))
 else
 (Z67 N b []).bind fun r2 =>
 some r2
def Z40 (N : Nat) : Nat -> T22
 | 0 => fun _ _ _ _ => none
 | k_ + 1 => Z6z N (Z40 N k_)
def Z89 (N : Nat) (b : T22) (a : Int × List Int) : Option I0 :=
 b [] a.2 (a.2.length : Int) 0
def Z30 (a : Int × List Int) : Option I0 := Z89 N (Z40 N N) a
def Z53 (n : T11) (o : T12) (d : R0) (b : Int) (e : A0) (f : I0) (g : I0) (h : Int) (i : I0) (j : A0) (k : Int) (l : Int) (c : I0) (m : Int) (a : Int) : Option Bool :=
 bif decide (a < m) then
  grd (inb a c) <|
  (Z0j N (at_ 0 c a) (-10) (w64 (b - 1))).bind fun r7 =>
  bif (!r7) then some false
  else
  o d b e f g h i j k l c m (w64 (a + 1))
 else
 (Z30 N (h, i)).bind fun r8 =>
 (Z67 N g r8).bind fun r9 =>
 n d b e f r9 j k (w64 (l + 1))
def Z2i (a : T11) (N : Nat) : Nat -> T12
 | 0 => fun _ _ _ _ _ _ _ _ _ _ _ _ _ => none
 | k_ + 1 => Z53 N a (Z2i a N k_)
def Z7l (h : T12) (j : T11) (c : R0) (e : Int) (d : A0) (i : I0) (f : I0) (b : A0) (g : Int) (a : Int) : Option Bool :=
 bif decide (a < g) then
  grd (inb a b) <|
  (Z0j N ((at_ (0, []) b a).1) 0 (w64 ((c.length : Int) - 1))).bind fun r5 =>
  bif (!r5) then some false
  else
  grd (inb ((at_ (0, []) b a).1) c) <|
  bif ((((at_ (0, []) b a).2).length : Int) != (((at_ (⟨#[]⟩, (0, 0)) c ((at_ (0, []) b a).1)).2).1)) then some false
  else
  grd (subOk 0 a d.length) <|
  (Z1 N (d.take a.toNat) (at_ (0, []) b a)).bind fun r6 =>
  bif r6 then some false
  else
  h c e d i f ((at_ (0, []) b a).1) ((at_ (0, []) b a).2) b g a ((at_ (0, []) b a).2) (((at_ (0, []) b a).2).length : Int) 0
 else
 some ((f.length : Int) == e)
def Z37 (N : Nat) : Nat -> T11
 | 0 => fun _ _ _ _ _ _ _ _ => none
 | k_ + 1 => Z7l N (Z2i (Z37 N k_) N N) (Z37 N k_)
def Z8l (c : T11) (b : R0) (a : Q0) : Option Bool :=
 (Z0y N b).bind fun r =>
 bif (!r) then some false
 else
 (Z0j N a.1 0 4).bind fun r2 =>
 bif (!r2) then some false
 else
 (Z0j N (a.2.1.length : Int) 1 3).bind fun r3 =>
 bif (!r3) then some false
 else
 (Z4f N a.2.2 a.1).bind fun r4 =>
 bif (!r4) then some false
 else
 c b a.1 a.2.1 a.2.2 [] a.2.1 (a.2.1.length : Int) 0
def Z3d (a : R0) (b : Q0) : Option Bool := Z8l N (Z37 N N) a b
def Z2u (db : D0) (a : Q0) : Option Bool :=
 (Z1d N db).bind fun r =>
 bif r then
  (Z3d N db.1 a).bind fun r2 =>
  some r2
 else
 some false
def Z29 (w : Int) : Option Bool :=
 (Z0j N w 1 9).bind fun r =>
 some (!r)
def Z0n (a : T27) (s2 : I0) (t7 : Int) (t8 : Int) : Option Int :=
 bif decide (t8 < t7) then
  grd (inb t8 s2) <|
  (Z29 N (at_ 0 s2 t8)).bind fun r =>
  bif r then some t8
  else
  a s2 t7 (w64 (t8 + 1))
 else
 some (-1)
def Z2 (N : Nat) : Nat -> T27
 | 0 => fun _ _ _ => none
 | k_ + 1 => Z0n N (Z2 N k_)
def Z1l (N : Nat) (a : T27) (s : I0) : Option Int :=
 a s (s.length : Int) 0
def Z7 (s : I0) : Option Int := Z1l N (Z2 N N) s
def Z3 (s : I0) : Option Bool :=
 (Z7 N s).bind fun r =>
 some (decide (r >= 0))
def Z1e (db : D0) (a : I0) : Option Bool :=
 (Z1d N db).bind fun r =>
 bif r then
  bif ((a.length : Int) == (db.2.length : Int)) then
   (Z3 N a).bind fun r2 =>
   some (!r2)
  else
  some false
 else
 some false
def Z59 (n : Int) : Option I0 :=
 (Z7b N [(-1)] n).bind fun r =>
 some r
def Z5l (N : Nat) (t : Int) : Option Bool :=
 some (decide (t >= 0))
def Z4m (N : Nat) (v : Int) : Option Int :=
 some (w64 ((-1) - v))
def Z9m (f : T33) (d : I0) (c : I0) (b : I0) (e : Int) (a : Int) : Option (List Int × Bool) :=
 bif decide (a < e) then
  grd (inb a b) <|
  (Z5l N (at_ 0 b a)).bind fun r2 =>
  bif (!r2) then
   (Z4m N (at_ 0 b a)).bind fun r3 =>
   grd (inb a d) <|
   bif (r3 != (at_ 0 d a)) then some ([], false)
   else
   f d c b e (w64 (a + 1))
  else
  grd (inb (at_ 0 b a) c) <|
  bif decide ((at_ 0 c (at_ 0 b a)) < 0) then
   grd (inb a d) <|
   grd (inb (at_ 0 b a) c) <|
   grd (inb (at_ 0 b a) c) <|
   letv (c.set (at_ 0 b a).toNat (at_ 0 d a)) fun u =>
   f d u b e (w64 (a + 1))
  else
  grd (inb (at_ 0 b a) c) <|
  grd (inb a d) <|
  bif ((at_ 0 c (at_ 0 b a)) != (at_ 0 d a)) then some ([], false)
  else
  f d c b e (w64 (a + 1))
 else
 some (c, true)
def Z8e (N : Nat) : Nat -> T33
 | 0 => fun _ _ _ _ _ => none
 | k_ + 1 => Z9m N (Z8e N k_)
def Z0aq (b : T33) (c : I0) (a : I0) (d : I0) : Option (List Int × Bool) :=
 (Z1v N c).bind fun r =>
 b d r a (a.length : Int) 0
def Z8a (a : I0) (b : I0) (c : I0) : Option (List Int × Bool) := Z0aq N (Z8e N N) a b c
def Z5a (Rf : T5) (j : T9) (e : I0) (f : I0) (t3 : List (List Int × List Int)) (c : Q0) (d : D0) (g : Int) (h : I0) (b : A0) (i : Int) (a : Int) : Option (List (List Int × List Int)) :=
 bif decide (a < i) then
  grd (inb a b) <|
  bif (((at_ (0, []) b a).1) != g) then
   j e f t3 c d g h b i (w64 (a + 1))
  else
  (Z8a N e h ((at_ (0, []) b a).2)).bind fun k =>
  bif k.2 then
   (Z1v N f).bind fun r5 =>
   grd (appOk r5 [a] 8) <|
   (Rf k.1 (r5 ++ [a]) c t3 d c d).bind fun m =>
   j e f m c d g h b i (w64 (a + 1))
  else
  j e f t3 c d g h b i (w64 (a + 1))
 else
 some t3
def Z2v (N : Nat) (Rf : T5) : Nat -> T9
 | 0 => fun _ _ _ _ _ _ _ _ _ _ => none
 | k_ + 1 => Z5a N Rf (Z2v N Rf k_)
def Z4g (Rf : T5) (c : T9) (b : I0) (a : I0) (c2 : Q0) (c3 : List (List Int × List Int)) (c4 : D0) (d : Q0) (e : D0) : Option (List (List Int × List Int)) :=
 bif ((a.length : Int) == (c2.2.1.length : Int)) then
  (Z1v N b).bind fun r =>
  (Z1v N a).bind fun r2 =>
  grd (appOk c3 [(r, r2)] 48) <|
  some (c3 ++ [(r, r2)])
 else
 grd (inb (a.length : Int) c2.2.1) <|
 c b a c3 d e ((at_ (0, []) c2.2.1 (a.length : Int)).1) ((at_ (0, []) c2.2.1 (a.length : Int)).2) c4.2 (c4.2.length : Int) 0
def Z0r (N : Nat) : Nat -> T5
 | 0 => fun _ _ _ _ _ _ _ => none
 | k_ + 1 => Z4g N (Z0r N k_) (Z2v N (Z0r N k_) N)
def Z2m (a : I0) (b : I0) (c2 : Q0) (c3 : List (List Int × List Int)) (c4 : D0) (c : Q0) (d : D0) : Option (List (List Int × List Int)) := Z0r N N a b c2 c3 c4 c d
def Z2q (db : D0) (a : Q0) : Option (List (List Int × List Int)) :=
 (Z2u N db a).bind fun r =>
 bif (!r) then some []
 else
 (Z59 N a.1).bind fun r2 =>
 (Z2m N r2 [] a [] db a db).bind fun m =>
 some m
def Z8m (e : T21) (b : L0) (c : List (List Int × List Int)) (f : Int) (d : Int) (a : Int) : Option L0 :=
 bif decide (a < d) then
  grd (decide (f <= a) && (inb a c)) <|
  (Z1b N ((at_ ([], []) c a).2)).bind fun m2 =>
  grd (appOk b [m2] 24) <|
  e (b ++ [m2]) c (a + 1) d (w64 (a + 1))
 else
 some b
def Z5v (N : Nat) : Nat -> T21
 | 0 => fun _ _ _ _ _ => none
 | k_ + 1 => Z8m N (Z5v N k_)
def Z8n (e : T21) (f : T30) (b : L0) (c : List (List Int × List Int)) (d : Int) (a : Int) : Option L0 :=
 bif decide (a < d) then
  grd (inb a c) <|
  (Z1b N ((at_ ([], []) c a).2)).bind fun m =>
  grd (appOk b [m] 24) <|
  e (b ++ [m]) c (a + 1) d (w64 (a + 1))
 else
 some b
def Z7u (N : Nat) : Nat -> T30
 | 0 => fun _ _ _ _ => none
 | k_ + 1 => Z8n N (Z5v N k_) (Z7u N k_)
def Z9i (a : T30) (db : D0) (b : Q0) : Option L0 :=
 (Z2q N db b).bind fun r =>
 a [] r (r.length : Int) 0
def Z4w (db : D0) (a : Q0) : Option L0 := Z9i N (Z7u N N) db a
def Z3p (N : Nat) (e : T52) (b : I0) (c : I0) (d : Int) (a : Int) : Option Bool :=
 bif decide (a < d) then
  grd (inb a b) <|
  grd (inb a c) <|
  bif ((at_ 0 b a) != (at_ 0 c a)) then some false
  else
  e b c d (w64 (a + 1))
 else
 some true
def Z1x (N : Nat) : Nat -> T52
 | 0 => fun _ _ _ _ => none
 | k_ + 1 => Z3p N (Z1x N k_)
def Z70 (N : Nat) (a : T52) (s1 : I0) (s2 : I0) : Option Bool :=
 bif ((s1.length : Int) != (s2.length : Int)) then some false
 else
 a s1 s2 (s1.length : Int) 0
def Z1y (s1 : I0) (s2 : I0) : Option Bool := Z70 N (Z1x N N) s1 s2
def Z6q (c : R0) (a : Int × List Int) (b : Int × List Int) : Option Bool :=
 bif (a.1 != b.1) then some false
 else
 grd (inb a.1 c) <|
 grd (subOk 0 (((at_ (⟨#[]⟩, (0, 0)) c a.1).2).2) a.2.length) <|
 grd (subOk 0 (((at_ (⟨#[]⟩, (0, 0)) c a.1).2).2) b.2.length) <|
 (Z1y N (a.2.take (((at_ (⟨#[]⟩, (0, 0)) c a.1).2).2).toNat) (b.2.take (((at_ (⟨#[]⟩, (0, 0)) c a.1).2).2).toNat)).bind fun r =>
 some r
def Z8b (f : T44) (d : R0) (c : A0) (a : L0) (t9 : A0) (e : Int) (b : Int) : Option L0 :=
 bif decide (b < e) then
  grd (inb b t9) <|
  bif decide ((w64 ((a.length : Int) - 1)) >= 0) then
   grd (inb (w64 ((a.length : Int) - 1)) a) <|
   grd (inb 0 (at_ [] a (w64 ((a.length : Int) - 1)))) <|
   grd (inb (at_ 0 (at_ [] a (w64 ((a.length : Int) - 1))) 0) c) <|
   (Z6q N d (at_ (0, []) c (at_ 0 (at_ [] a (w64 ((a.length : Int) - 1))) 0)) (at_ (0, []) t9 b)).bind fun r =>
   bif r then
    grd (inb (w64 ((a.length : Int) - 1)) a) <|
    grd (inb (w64 ((a.length : Int) - 1)) a) <|
    grd (appOk (at_ [] a (w64 ((a.length : Int) - 1))) [b] 8) <|
    grd (inb (w64 ((a.length : Int) - 1)) a) <|
    grd (growOk (w64 ((a.length : Int) - 1)) (w64 ((a.length : Int) - 1)) a) <|
    letv (a.set (w64 ((a.length : Int) - 1)).toNat ((at_ [] a (w64 ((a.length : Int) - 1))) ++ [b])) fun u =>
    f d c u t9 e (w64 (b + 1))
   else
   grd (appOk a [[b]] 24) <|
   f d c (a ++ [[b]]) t9 e (w64 (b + 1))
  else
  grd (appOk a [[b]] 24) <|
  f d c (a ++ [[b]]) t9 e (w64 (b + 1))
 else
 some a
def Z41 (N : Nat) : Nat -> T44
 | 0 => fun _ _ _ _ _ _ => none
 | k_ + 1 => Z8b N (Z41 N k_)
def Z0bi (N : Nat) (a : T44) (db : D0) : Option L0 :=
 a db.1 db.2 [] db.2 (db.2.length : Int) 0
def Z6c (db : D0) : Option L0 := Z0bi N (Z41 N N) db
def Z54 (N : Nat) (b : T53) (a : Int) (t6 : L0) (t7 : Int) (t8 : Int) : Option Int :=
 bif decide (t8 < t7) then
  grd (inb t8 t6) <|
  b (w64 (a * ((at_ [] t6 t8).length : Int))) t6 t7 (w64 (t8 + 1))
 else
 some a
def Z38 (N : Nat) : Nat -> T53
 | 0 => fun _ _ _ _ => none
 | k_ + 1 => Z54 N (Z38 N k_)
def Z9o (N : Nat) (b : T53) (a : L0) : Option Int :=
 b 1 a (a.length : Int) 0
def Z4n (a : L0) : Option Int := Z9o N (Z38 N N) a
def Z6w (N : Nat) (d : T57) (a : L0) (c : Int) (b : I0) (i : Int) : Option I0 :=
 bif decide (i >= 0) then
  grd (inb i a) <|
  grd (inb i a) <|
  grz ((at_ [] a i).length : Int) <|
  grd (inb (c.tmod ((at_ [] a i).length : Int)) (at_ [] a i)) <|
  grd (inb i b) <|
  grd (inb i b) <|
  letv (b.set i.toNat (at_ 0 (at_ [] a i) (c.tmod ((at_ [] a i).length : Int)))) fun u =>
  grd (inb i a) <|
  grz ((at_ [] a i).length : Int) <|
  d a (w64 (c.tdiv ((at_ [] a i).length : Int))) u (w64 (i - 1))
 else
 some b
def Z4o (N : Nat) : Nat -> T57
 | 0 => fun _ _ _ _ => none
 | k_ + 1 => Z6w N (Z4o N k_)
def Z9j (N : Nat) (b : T57) (a : L0) (c : Int) : Option I0 :=
 grd (makeOk (a.length : Int) 8) <|
 b a c (List.replicate (a.length : Int).toNat 0) (w64 ((a.length : Int) - 1))
def Z4x (a : L0) (b : Int) : Option I0 := Z9j N (Z4o N N) a b
def Z3q (N : Nat) (a : T54) (s2 : I0) (v2 : Int) (t7 : Int) (t8 : Int) : Option Int :=
 bif decide (t8 < t7) then
  grd (inb t8 s2) <|
  bif (v2 == (at_ 0 s2 t8)) then some t8
  else
  a s2 v2 t7 (w64 (t8 + 1))
 else
 some (-1)
def Z1z (N : Nat) : Nat -> T54
 | 0 => fun _ _ _ _ => none
 | k_ + 1 => Z3q N (Z1z N k_)
def Z71 (N : Nat) (a : T54) (s : I0) (v : Int) : Option Int :=
 a s v (s.length : Int) 0
def Z2x (s : I0) (v : Int) : Option Int := Z71 N (Z1z N N) s v
def Z1g (s : I0) (v : Int) : Option Bool :=
 (Z2x N s v).bind fun r =>
 some (decide (r >= 0))
def Z4y (n : Int) (c1 : I0) : Option Bool :=
 (Z1g N c1 n).bind fun r =>
 some (!r)
def Z13 (a : T17) (s2 : I0) (f : I0) (t7 : Int) (t8 : Int) : Option Int :=
 bif decide (t8 < t7) then
  grd (inb t8 s2) <|
  (Z4y N (at_ 0 s2 t8) f).bind fun r =>
  bif r then some t8
  else
  a s2 f t7 (w64 (t8 + 1))
 else
 some (-1)
def Z0f (N : Nat) : Nat -> T17
 | 0 => fun _ _ _ _ => none
 | k_ + 1 => Z13 N (Z0f N k_)
def Z2j (N : Nat) (a : T17) (s : I0) (c : I0) : Option Int :=
 a s c (s.length : Int) 0
def Z0k (s : I0) (c : I0) : Option Int := Z2j N (Z0f N N) s c
def Z0g (s : I0) (c : I0) : Option Bool :=
 (Z0k N s c).bind fun r =>
 some (decide (r >= 0))
def Z5r (a : I0) (b : I0) : Option Bool :=
 (Z0g N a b).bind fun r =>
 some (!r)
def Z4p (a : I0) (c1 : I0) : Option Bool :=
 (Z5r N a c1).bind fun r =>
 some r
def Z0v (a : T55) (s2 : L0) (f : I0) (t7 : Int) (t8 : Int) : Option Int :=
 bif decide (t8 < t7) then
  grd (inb t8 s2) <|
  (Z4p N (at_ [] s2 t8) f).bind fun r =>
  bif r then some t8
  else
  a s2 f t7 (w64 (t8 + 1))
 else
 some (-1)
def Z9 (N : Nat) : Nat -> T55
 | 0 => fun _ _ _ _ => none
 | k_ + 1 => Z0v N (Z9 N k_)
def Z20 (N : Nat) (a : T55) (s : L0) (c : I0) : Option Int :=
 a s c (s.length : Int) 0
def Z0h (s : L0) (c : I0) : Option Int := Z20 N (Z9 N N) s c
def Z0a (s : L0) (c : I0) : Option Bool :=
 (Z0h N s c).bind fun r =>
 some (decide (r >= 0))
def Z42 (a : L0) (b : I0) : Option Bool :=
 (Z0a N a b).bind fun r =>
 some r
def Z90 (N : Nat) (d : T46) (b : I0) (c : Int) (t8 : I0) (t9 : Int) (a : Int) : Option Int :=
 bif decide (a < t9) then
  grd (inb a t8) <|
  grd (inb (at_ 0 t8 a) b) <|
  d b (w64 (c * (at_ 0 b (at_ 0 t8 a)))) t8 t9 (w64 (a + 1))
 else
 some c
def Z6r (N : Nat) : Nat -> T46
 | 0 => fun _ _ _ _ _ => none
 | k_ + 1 => Z90 N (Z6r N k_)
def Z9n (N : Nat) (b : T46) (c : I0) (a : I0) : Option Int :=
 b c 1 a (a.length : Int) 0
def Z5s (a : I0) (b : I0) : Option Int := Z9n N (Z6r N N) a b
def Z43 (N : Nat) (j : T20) (k : T15) (b : I0) (d : Int) (e : Int) (f : L0) (g : Int) (h : Int) (l : Int) (c : I0) (i : Int) (a : Int) : Option Int :=
 bif decide (a < i) then
  grd (inb a c) <|
  grd (inb (at_ 0 c a) b) <|
  k b d (w64 (e + (at_ 0 b (at_ 0 c a)))) f g h l c i (w64 (a + 1))
 else
 j b (w64 (d * e)) f g (w64 (h + 1))
def Z1h (a : T20) (N : Nat) : Nat -> T15
 | 0 => fun _ _ _ _ _ _ _ _ _ _ => none
 | k_ + 1 => Z43 N a (Z1h a N k_)
def Z44 (N : Nat) (e : T15) (g : T20) (f : I0) (c : Int) (b : L0) (d : Int) (a : Int) : Option Int :=
 bif decide (a < d) then
  grd (inb a b) <|
  e f c 0 b d a a (at_ [] b a) ((at_ [] b a).length : Int) 0
 else
 some c
def Z15 (N : Nat) : Nat -> T20
 | 0 => fun _ _ _ _ _ => none
 | k_ + 1 => Z44 N (Z1h (Z15 N k_) N N) (Z15 N k_)
def Z79 (b : T20) (db : D0) (a : I0) : Option Int :=
 (Z1e N db a).bind fun r =>
 bif (!r) then some 0
 else
 (Z6c N db).bind fun r2 =>
 b a 1 r2 (r2.length : Int) 0
def Z1r (db : D0) (a : I0) : Option Int := Z79 N (Z15 N N) db a
def Z0a8 (N : Nat) (a : T37) (a2 : Int) (b2 : Int) : Option Int :=
 bif (b2 != 0) then
  grz b2 <|
  a b2 (a2.tmod b2)
 else
 some a2
def Z99 (N : Nat) : Nat -> T37
 | 0 => fun _ _ => none
 | k_ + 1 => Z0a8 N (Z99 N k_)
def Z0be (N : Nat) (c : T37) (a : Int) (b : Int) : Option Int :=
 c a b
def Z9v (a : Int) (b : Int) : Option Int := Z0be N (Z99 N N) a b
def Z5b (a : Int) (b : Int) : Option (Int × Int) :=
 (Z9v N a b).bind fun r =>
 grz (imax r 1) <|
 grz (imax r 1) <|
 some ((w64 (a.tdiv (imax r 1))), (w64 (b.tdiv (imax r 1))))
def Z84 (i : T13) (a : I0) (c : R0) (d : A0) (t6 : Int) (j : Int) (e : L0) (f : L0) (g : Int) (h : Int) (b : Int) : Option ((Int × Int) × Bool) :=
 bif decide (b < h) then
  (Z4x N f b).bind fun r6 =>
  (Z42 N e r6).bind fun r7 =>
  bif r7 then
   (Z5s N a r6).bind fun r8 =>
   i a c d t6 j e f (w64 (g + r8)) h (w64 (b + 1))
  else
  i a c d t6 j e f g h (w64 (b + 1))
 else
 (Z1r N (c, d) a).bind fun r9 =>
 (Z5b N g r9).bind fun k =>
 some (k, true)
def Z3j (N : Nat) : Nat -> T13
 | 0 => fun _ _ _ _ _ _ _ _ _ _ => none
 | k_ + 1 => Z84 N (Z3j N k_)
def Z7a (c : T13) (db : D0) (a : I0) (b : Q0) : Option ((Int × Int) × Bool) :=
 (Z2u N db b).bind fun r =>
 bif (!r) then some ((0, 0), false)
 else
 (Z1e N db a).bind fun r2 =>
 bif (!r2) then some ((0, 0), false)
 else
 (Z4w N db b).bind fun r3 =>
 (Z6c N db).bind fun r4 =>
 (Z4n N r4).bind fun r5 =>
 c a db.1 db.2 0 0 r3 r4 0 r5 0
def Z31 (db : D0) (a : I0) (b : Q0) : Option ((Int × Int) × Bool) := Z7a N (Z3j N N) db a b
def Z0x (db : D0) (b : I0) (c : Q0) : Option ((Int × Int) × Bool) :=
 (Z31 N db b c).bind fun a =>
 some (a.1, a.2)
def Z5m (N : Nat) (a : Int × Int) (b : Int × Int) : Option Bool :=
 bif (a.1 != b.1) then some false
 else
 bif (a.2 != b.2) then some false
 else
 some true
def Z4h (N : Nat) (a : ByteArray × Int × Int) (b : ByteArray × Int × Int) : Option Bool :=
 bif (!seq a.1 b.1) then some false
 else
 bif (a.2.1 != b.2.1) then some false
 else
 bif (a.2.2 != b.2.2) then some false
 else
 some true
def Z5n (a : T64) (a2 : R0) (b2 : R0) (i : Int) : Option Bool :=
 bif decide (i < (a2.length : Int)) then
  grd (inb i a2) <|
  grd (inb i b2) <|
  (Z4h N ((at_ (⟨#[]⟩, (0, 0)) a2 i).1, ((at_ (⟨#[]⟩, (0, 0)) a2 i).2)) ((at_ (⟨#[]⟩, (0, 0)) b2 i).1, ((at_ (⟨#[]⟩, (0, 0)) b2 i).2))).bind fun r =>
  bif (!r) then some false
  else
  a a2 b2 (w64 (i + 1))
 else
 some true
def Z3k (N : Nat) : Nat -> T64
 | 0 => fun _ _ _ => none
 | k_ + 1 => Z5n N (Z3k N k_)
def Z91 (N : Nat) (c : T64) (a : R0) (b : R0) : Option Bool :=
 bif ((a.length : Int) != (b.length : Int)) then some false
 else
 c a b 0
def Z3u (a : R0) (b : R0) : Option Bool := Z91 N (Z3k N N) a b
def Z8c (N : Nat) (a : T26) (a2 : I0) (b2 : I0) (i : Int) : Option Bool :=
 bif decide (i < (a2.length : Int)) then
  grd (inb i a2) <|
  grd (inb i b2) <|
  bif ((at_ 0 a2 i) != (at_ 0 b2 i)) then some false
  else
  a a2 b2 (w64 (i + 1))
 else
 some true
def Z6e (N : Nat) : Nat -> T26
 | 0 => fun _ _ _ => none
 | k_ + 1 => Z8c N (Z6e N k_)
def Z0a9 (N : Nat) (c : T26) (a : I0) (b : I0) : Option Bool :=
 bif ((a.length : Int) != (b.length : Int)) then some false
 else
 c a b 0
def Z2n (a : I0) (b : I0) : Option Bool := Z0a9 N (Z6e N N) a b
def Z7n (a : Int × List Int) (b : Int × List Int) : Option Bool :=
 bif (a.1 != b.1) then some false
 else
 (Z2n N a.2 b.2).bind fun r =>
 bif (!r) then some false
 else
 some true
def Z7v (a : T28) (a2 : A0) (b2 : A0) (i : Int) : Option Bool :=
 bif decide (i < (a2.length : Int)) then
  grd (inb i a2) <|
  grd (inb i b2) <|
  (Z7n N (at_ (0, []) a2 i) (at_ (0, []) b2 i)).bind fun r =>
  bif (!r) then some false
  else
  a a2 b2 (w64 (i + 1))
 else
 some true
def Z5o (N : Nat) : Nat -> T28
 | 0 => fun _ _ _ => none
 | k_ + 1 => Z7v N (Z5o N k_)
def Z9w (N : Nat) (c : T28) (a : A0) (b : A0) : Option Bool :=
 bif ((a.length : Int) != (b.length : Int)) then some false
 else
 c a b 0
def Z6s (a : A0) (b : A0) : Option Bool := Z9w N (Z5o N N) a b
def Z4i (a : D0) (b : D0) : Option Bool :=
 (Z3u N a.1 b.1).bind fun r =>
 bif (!r) then some false
 else
 (Z6s N a.2 b.2).bind fun r2 =>
 bif (!r2) then some false
 else
 some true
def Z7o (a : Int × List Int) (b : Int × List Int) : Option Bool :=
 bif (a.1 != b.1) then some false
 else
 (Z2n N a.2 b.2).bind fun r =>
 bif (!r) then some false
 else
 some true
def Z7w (a : T28) (a2 : A0) (b2 : A0) (i : Int) : Option Bool :=
 bif decide (i < (a2.length : Int)) then
  grd (inb i a2) <|
  grd (inb i b2) <|
  (Z7o N (at_ (0, []) a2 i) (at_ (0, []) b2 i)).bind fun r =>
  bif (!r) then some false
  else
  a a2 b2 (w64 (i + 1))
 else
 some true
def Z5p (N : Nat) : Nat -> T28
 | 0 => fun _ _ _ => none
 | k_ + 1 => Z7w N (Z5p N k_)
def Z9x (N : Nat) (c : T28) (a : A0) (b : A0) : Option Bool :=
 bif ((a.length : Int) != (b.length : Int)) then some false
 else
 c a b 0
def Z6t (a : A0) (b : A0) : Option Bool := Z9x N (Z5p N N) a b
def Z6u (a : Q0) (b : Q0) : Option Bool :=
 bif (a.1 != b.1) then some false
 else
 (Z6t N a.2.1 b.2.1).bind fun r =>
 bif (!r) then some false
 else
 (Z2n N a.2.2 b.2.2).bind fun r2 =>
 bif (!r2) then some false
 else
 some true
def laws_FnExactProbabilityByComponents (a : D0) (b : I0) (c : Q0) : Option Bool :=
 bif decide ((b.length : Int) > 1048576) then some true
 else
 (Z49 N a 1048576).bind fun r =>
 bif decide (r < 0) then some true
 else
 (Z6h N c r).bind fun r2 =>
 bif decide (r2 < 0) then some true
 else
 (Z2r N a).bind fun r3 =>
 (Z1p N b).bind fun r4 =>
 (Z4b N c).bind fun r5 =>
 (Z0e N r3 r4 r5).bind fun d =>
 (Z2r N a).bind fun r8 =>
 (Z1p N b).bind fun r9 =>
 (Z4b N c).bind fun e =>
 (Z0x N r8 r9 e).bind fun f =>
 (Z5m N f.1 d.1).bind fun g =>
 bif (!g) then some false
 else
 bif (!(f.2 == d.2)) then some false
 else
 (Z2r N a).bind fun h =>
 (Z4i N r8 h).bind fun i =>
 bif (!i) then some false
 else
 (Z1p N b).bind fun j =>
 (Z2n N r9 j).bind fun k =>
 bif (!k) then some false
 else
 (Z4b N c).bind fun l =>
 (Z6u N e l).bind fun m =>
 bif (!m) then some false
 else
 some true
end Go.PL
