/- The functions read plainly. Conditions: none (definitions alone). -/
import GoSem.Core.View
import GoSem.Op.String

set_option linter.unusedVariables false
set_option linter.unusedSimpArgs false
set_option linter.unnecessarySimpa false

namespace Go.PL
def w64 (x : Int) : Int := IntKind.i64.wrap x
def w (k : IntKind) (x : Int) : Int := k.wrap x
def grd {α : Type} (c : Bool) (x : Option α) : Option α := bif c then x else none
def grz {α : Type} (b : Int) (x : Option α) : Option α := bif decide (b = 0) then none else x
def letv {α β : Type} (v : α) (k : α -> β) : β := k v
def at_ {α : Type} (d : α) (xs : List α) (i : Int) : α := xs.getD i.toNat d
def inb {α : Type} (i : Int) (xs : List α) : Bool := decide (0 <= i) && decide (i < (xs.length : Int))
def growOk {α : Type} (i' i : Int) (xs : List α) : Bool := decide (i' = i) && (decide (0 <= i') && decide (i' < (xs.length : Int)))
def appOk {α : Type} (s x : List α) (b : Nat) : Bool := decide ((s.length + x.length) * b <= 140737488355328)
def selOk {α : Type} (ix : List Int) (i : Int) (x : List α) (b : Nat) : Bool := ix.all (fun k => decide (k < i)) && decide ((x.length + 1) * b <= 140737488355328)
def selOk0 {α : Type} (x : List α) (b : Nat) : Bool := x.isEmpty && decide ((0 + 1) * b <= 140737488355328)
def makeOk (n : Int) (b : Nat) : Bool := decide (n = n) && (decide (0 <= n) && decide (n * b <= 140737488355328))
def byteAt (s : ByteArray) (n : Int) : Option UInt8 := if 0 <= n then s[n.toNat]? else none
def catOk (a b : ByteArray) : Bool := decide (a.size + b.size <= 140737488355328)
def seq (a b : ByteArray) : Bool := a.toList == b.toList
def slt (a b : ByteArray) : Bool := Op.bytesLess a.toList b.toList
def subOk (lo hi : Int) (n : Nat) : Bool := decide (0 <= lo) && (decide (lo <= hi) && decide (hi <= (n : Int)))
def sub (s : ByteArray) (lo hi : Int) : ByteArray := s.extract lo.toNat hi.toNat
def ofBytes (x : List Int) : ByteArray := ⟨(x.map fun n => UInt8.ofNat n.toNat).toArray⟩
def bits (op : BinOp) (k : IntKind) (a b : Int) : Int := match op with
 | .and => k.wrap ((BitVec.ofInt k.bits a &&& BitVec.ofInt k.bits b).toNat : Int)
 | .xor => k.wrap ((BitVec.ofInt k.bits a ^^^ BitVec.ofInt k.bits b).toNat : Int)
 | .or => k.wrap ((BitVec.ofInt k.bits a ||| BitVec.ofInt k.bits b).toNat : Int)
 | .shl => k.wrap (a * 2 ^ (min b.toNat k.bits))
 | .shr => a.fdiv (2 ^ (min b.toNat k.bits))
 | _ => 0
def imax (a b : Int) : Int := if b > a then b else a
def imin (a b : Int) : Int := if b < a then b else a
end Go.PL

namespace Go.PL
abbrev D0 : Type := List (ByteArray × Int × Int) × List (Int × List Int)
abbrev Q0 : Type := Int × List (Int × List Int) × List Int
abbrev C0 : Type := Int × Int × Int × Int × Int × Int × Int
abbrev R0 : Type := List (ByteArray × Int × Int)
abbrev A0 : Type := List (Int × List Int)
abbrev L0 : Type := List (List Int)
abbrev I0 : Type := List Int
abbrev E0 : Type := List (Int × Int)
abbrev T0 : Type := I0 -> Int -> Int -> R0 -> A0 -> R0 -> A0 -> Int -> Int -> Option ((List Int × Int × Int) × List (ByteArray × Int × Int) × List (Int × List Int))
abbrev T1 : Type := I0 -> Int -> Int -> Int -> A0 -> I0 -> Int -> A0 -> I0 -> Int -> Int -> Int -> Int -> Option ((List Int × Int × Int) × Int × List (Int × List Int) × List Int)
abbrev T2 : Type := R0 -> A0 -> Int -> A0 -> I0 -> L0 -> I0 -> L0 -> Int -> Option L0
abbrev T3 : Type := I0 -> Int -> Int -> Int -> A0 -> I0 -> Int -> A0 -> I0 -> Int -> Int -> Int -> Int -> Int -> I0 -> Int -> Option ((List Int × Int × Int) × Int × List (Int × List Int) × List Int)
abbrev T4 : Type := R0 -> ByteArray -> Int -> A0 -> I0 -> Int -> A0 -> I0 -> (List ByteArray) -> Int -> Option (Q0 × Bool)
abbrev T5 : Type := R0 -> A0 -> Int -> A0 -> I0 -> L0 -> I0 -> L0 -> Int -> Int -> Int -> Int -> Option L0
abbrev T6 : Type := R0 -> A0 -> Int -> A0 -> I0 -> L0 -> I0 -> L0 -> Int -> Int -> Option L0
abbrev T7 : Type := R0 -> Int -> A0 -> I0 -> (List Bool) -> Int -> Int -> I0 -> Int -> Option Bool
abbrev T8 : Type := I0 -> I0 -> Q0 -> (List (List Int × List Int)) -> D0 -> Q0 -> D0 -> Option (List (List Int × List Int))
abbrev T9 : Type := I0 -> Int -> Int -> Int -> A0 -> I0 -> Int -> A0 -> I0 -> Int -> Option ((List Int × Int × Int) × Int × List (Int × List Int) × List Int)
abbrev T10 : Type := R0 -> Int -> A0 -> I0 -> (List Bool) -> Int -> Option Bool
abbrev T11 : Type := R0 -> Int -> A0 -> I0 -> ByteArray -> Int -> Option ByteArray
abbrev T12 : Type := I0 -> I0 -> (List (List Int × List Int)) -> Q0 -> D0 -> Int -> I0 -> A0 -> Int -> Int -> Option (List (List Int × List Int))
abbrev T13 : Type := Int -> I0 -> I0 -> R0 -> A0 -> Int -> A0 -> I0 -> (List (List Int × List Int)) -> Int -> Option (List (List Int × List Int))
abbrev T14 : Type := R0 -> ByteArray -> Int -> A0 -> I0 -> Int -> A0 -> I0 -> (List ByteArray) -> Int -> Int -> I0 -> Int -> Option (Q0 × Bool)
abbrev T15 : Type := R0 -> A0 -> Int -> A0 -> I0 -> L0 -> L0 -> Int -> Int -> Option Int
abbrev T16 : Type := I0 -> Int -> Int -> R0 -> Int -> Int -> I0 -> Int -> I0 -> Option ((List Int × Int × Int) × Int × List Int)
abbrev T17 : Type := Int -> A0 -> I0 -> Int -> A0 -> I0 -> I0 -> Int -> Int -> Option Q0
abbrev T18 : Type := R0 -> Int -> A0 -> I0 -> I0 -> A0 -> Int -> Int -> Option Bool
abbrev T19 : Type := R0 -> ByteArray -> Int -> A0 -> I0 -> (List ByteArray) -> Int -> A0 -> I0 -> Int -> Option (Q0 × Bool)
abbrev T20 : Type := Int -> A0 -> I0 -> Int -> A0 -> I0 -> I0 -> Int -> Option Q0
abbrev T21 : Type := R0 -> Int -> A0 -> I0 -> I0 -> Int -> I0 -> A0 -> Int -> Int -> I0 -> Int -> Int -> Option Bool
abbrev T22 : Type := I0 -> R0 -> A0 -> Int -> Int -> L0 -> L0 -> Int -> Int -> Int -> Option ((Int × Int) × Bool)
abbrev T23 : Type := D0 -> Q0 -> Int -> I0 -> I0 -> Option (List (List Int × List Int))
abbrev T24 : Type := I0 -> Int -> Int -> R0 -> A0 -> I0 -> Int -> Option ((List Int × Int × Int) × List Int)
abbrev T25 : Type := Int -> A0 -> I0 -> Int -> A0 -> I0 -> I0 -> Int -> Int -> Int -> Int -> Int -> Option Q0
abbrev T26 : Type := ByteArray -> Int -> (List ByteArray) -> Int -> Int -> Option (List ByteArray)
abbrev T27 : Type := R0 -> A0 -> Int -> A0 -> I0 -> L0 -> L0 -> Int -> Int -> I0 -> Int -> Option Int
abbrev T28 : Type := I0 -> Int -> Int -> L0 -> Int -> Int -> Int -> I0 -> Int -> Int -> Option Int
abbrev T29 : Type := I0 -> I0 -> Int -> Int -> Option Int
abbrev T30 : Type := I0 -> R0 -> A0 -> Int -> Option Bool
abbrev T31 : Type := R0 -> A0 -> Int -> A0 -> I0 -> L0 -> I0 -> L0 -> Int -> I0 -> Int -> Option L0
abbrev T32 : Type := I0 -> Int -> L0 -> Int -> Int -> Option Int
abbrev T33 : Type := Int -> A0 -> I0 -> Int -> A0 -> I0 -> Int -> A0 -> I0 -> Int -> Option Q0
abbrev T34 : Type := L0 -> (List (List Int × List Int)) -> Int -> Int -> Int -> Option L0
abbrev T35 : Type := I0 -> I0 -> Int -> Int -> Option I0
abbrev T36 : Type := R0 -> A0 -> Int -> A0 -> I0 -> Int -> Int -> I0 -> Int -> Option Bool
abbrev T37 : Type := R0 -> A0 -> L0 -> (List (List Int × List Int)) -> Int -> Option L0
abbrev T38 : Type := I0 -> R0 -> A0 -> R0 -> A0 -> R0 -> A0 -> Int -> Option (D0 × Bool)
abbrev T39 : Type := I0 -> Int -> Int -> Option Int
abbrev T40 : Type := L0 -> (List (List Int × List Int)) -> Int -> Int -> Option L0
abbrev T41 : Type := Int -> I0 -> Int -> I0 -> I0 -> Int -> Option (List Int × Bool)
abbrev T42 : Type := I0 -> Int -> L0 -> Int -> Option Int
abbrev T43 : Type := Int -> I0 -> R0 -> A0 -> R0 -> A0 -> Int -> Option (D0 × Bool)
abbrev T44 : Type := R0 -> A0 -> Int -> A0 -> I0 -> Int -> L0 -> Int -> Option Int
abbrev T45 : Type := R0 -> Int -> I0 -> ByteArray -> Int -> Option ByteArray
abbrev T46 : Type := Bool -> R0 -> A0 -> L0 -> Int -> Option (List Int × Bool)
abbrev T47 : Type := I0 -> I0 -> I0 -> Int -> Int -> Option (List Int × Bool)
abbrev T48 : Type := R0 -> A0 -> Int -> A0 -> I0 -> L0 -> I0 -> Int -> Option L0
abbrev T49 : Type := Int -> A0 -> I0 -> (List Bool) -> Int -> Option Bool
abbrev T50 : Type := L0 -> I0 -> Int -> Option Bool
abbrev T51 : Type := A0 -> (Int × List Int) -> Int -> Int -> Option Int
abbrev T52 : Type := Int -> Int -> Option Int
abbrev T53 : Type := I0 -> Int -> Int -> Option (List Int × Int × Int)
abbrev T54 : Type := Int -> L0 -> I0 -> Int -> Option (List Int × Bool)
abbrev T55 : Type := I0 -> Int -> L0 -> Int -> Int -> Int -> Option Int
abbrev T56 : Type := R0 -> A0 -> R0 -> A0 -> R0 -> A0 -> Int -> Option D0
abbrev T57 : Type := I0 -> R0 -> A0 -> Int -> L0 -> Int -> Option Int
abbrev T58 : Type := Int -> ByteArray -> Bool -> Option ByteArray
abbrev T59 : Type := L0 -> I0 -> Int -> Bool -> Int -> Option Bool
abbrev T60 : Type := I0 -> I0 -> Int -> Option I0
abbrev T61 : Type := I0 -> Int -> I0 -> Int -> Int -> Option Bool
abbrev T62 : Type := R0 -> A0 -> L0 -> A0 -> Int -> Int -> Option L0
abbrev T63 : Type := R0 -> A0 -> A0 -> Int -> Int -> Option Bool
abbrev T64 : Type := I0 -> Int -> I0 -> Int -> Int -> Option Int
abbrev T65 : Type := R0 -> A0 -> Int -> I0 -> Int -> Option Int
abbrev T66 : Type := I0 -> I0 -> I0 -> Int -> Int -> Option Int
abbrev T67 : Type := ByteArray -> Int -> Option (Int × Bool)
abbrev T68 : Type := L0 -> Int -> L0 -> Int -> Int -> Option I0
abbrev T69 : Type := Int -> R0 -> A0 -> I0 -> Int -> Option I0
abbrev T70 : Type := R0 -> ByteArray -> Int -> Option Int
abbrev T71 : Type := Int -> A0 -> I0 -> Int -> Option Bool
abbrev T72 : Type := R0 -> R0 -> Int -> Int -> Option Bool
abbrev T73 : Type := I0 -> I0 -> Int -> Int -> Option Bool
abbrev T74 : Type := Int -> L0 -> Int -> Int -> Option Int
abbrev T75 : Type := I0 -> Int -> Int -> Int -> Option Int
abbrev T76 : Type := L0 -> I0 -> Int -> Int -> Option Int
abbrev T77 : Type := I0 -> L0 -> Int -> Int -> Option I0
abbrev T78 : Type := L0 -> Int -> I0 -> Int -> Option I0
abbrev T79 : Type := Int -> I0 -> Int -> Option Bool
abbrev T80 : Type := R0 -> A0 -> L0 -> Int -> Option L0
abbrev T81 : Type := I0 -> Int -> Int -> Option Bool
abbrev T82 : Type := R0 -> A0 -> Int -> Option Bool
abbrev T83 : Type := Int -> I0 -> Int -> Option Int
abbrev T84 : Type := I0 -> I0 -> Int -> Option Bool
abbrev T85 : Type := I0 -> I0 -> Int -> Option Int
abbrev T86 : Type := I0 -> L0 -> Int -> Option I0
abbrev T87 : Type := R0 -> Int -> Option Bool
abbrev T88 : Type := Int -> I0 -> Option I0
variable (N : Nat)
def Z8i (N : Nat) (s : I0) (n : Int) : Option I0 := grd (decide (0 <= n) && decide ((s.length + n.toNat) * 8 <= 140737488355328)) (some s)
def Z1d (N : Nat) (s : I0) : Option I0 := grd (decide (s.length < 4611686018427387904)) (some (s.mergeSort fun a b => decide (a <= b)))
def Z74 (N : Nat) (s : I0) : Option I0 := some (((List.range s.length).filter fun j => decide (j = 0 \/ s.toArray[j]! ≠ s.toArray[j - 1]!)).map fun j => s.toArray[j]!)
def Z7j (N : Nat) (s : I0) (n : Int) : Option I0 := grd (decide (s.length = 1) && (decide (0 <= n) && decide (n * 8 <= 140737488355328))) (some (List.replicate n.toNat (at_ 0 s 0)))
def Z1z (N : Nat) (s : I0) : Option I0 := grd (decide (s.length * 8 <= 140737488355328)) (some s)
def Z0ay (N : Nat) (a : I0) : Option Bool :=
 some (decide ((a.length : Int) > 1048576))
def Z0aj (N : Nat) (b : T53) (a : I0) (h : Int) (i : Int) : Option (List Int × Int × Int) :=
 bif decide (i < (a.length : Int)) then
  bif decide (i < 4000) then
   grd (inb i a) <|
   b a (bits .and .i64 (w64 ((w64 ((w64 (h * 131)) + (w64 (at_ 0 a i)))) + 7)) 1073741823) (w64 (i + 1))
  else
  some (a, 0, h)
 else
 some (a, 0, h)
def Z8u (N : Nat) : Nat -> T53
 | 0 => fun _ _ _ => none
 | k_ + 1 => Z0aj N (Z8u N k_)
def Z0bm (N : Nat) (b : T53) (a : I0) : Option (List Int × Int × Int) :=
 b a (w64 (10101 + (a.length : Int))) 0
def Z8j (a : I0) : Option (List Int × Int × Int) := Z0bm N (Z8u N N) a
def Z3d (N : Nat) (c : List Int × Int × Int) : Option ((List Int × Int × Int) × Int) :=
 grd (decide (0 <= 33)) <|
 grd (decide (0 <= 45)) <|
 bif decide (c.2.1 < (c.1.length : Int)) then
  grd (inb c.2.1 c.1) <|
  some ((c.1, (w64 (c.2.1 + 1)), (w64 ((w64 (c.2.2 * 6364136223846793005)) + 1442695040888963407))), (bits .and .i64 (w64 ((bits .and .i64 (bits .xor .i64 (bits .shr .i64 (w64 ((w64 (c.2.2 * 6364136223846793005)) + 1442695040888963407)) 33) (bits .shr .i64 (w64 ((w64 (c.2.2 * 6364136223846793005)) + 1442695040888963407)) 45)) 255) + (w64 (at_ 0 c.1 c.2.1)))) 255))
 else
 some ((c.1, c.2.1, (w64 ((w64 (c.2.2 * 6364136223846793005)) + 1442695040888963407))), (bits .and .i64 (bits .xor .i64 (bits .shr .i64 (w64 ((w64 (c.2.2 * 6364136223846793005)) + 1442695040888963407)) 33) (bits .shr .i64 (w64 ((w64 (c.2.2 * 6364136223846793005)) + 1442695040888963407)) 45)) 255))
def Z0 (c : List Int × Int × Int) (n : Int) : Option ((List Int × Int × Int) × Int) :=
 bif decide (n <= 0) then some (c, 0)
 else
 bif decide (n <= 256) then
  (Z3d N c).bind fun a =>
  grz n <|
  some ((c.1, a.1.2), (a.2.tmod n))
 else
 (Z3d N c).bind fun b =>
 (Z3d N (c.1, b.1.2)).bind fun d =>
 (Z3d N (c.1, d.1.2)).bind fun e =>
 (Z3d N (c.1, e.1.2)).bind fun f =>
 grz n <|
 some ((c.1, f.1.2), ((w64 ((w64 ((w64 ((w64 (b.2 * 16777216)) + (w64 (d.2 * 65536)))) + (w64 (e.2 * 256)))) + f.2)).tmod n))
def Z0n (c : List Int × Int × Int) (a : I0) : Option ((List Int × Int × Int) × Int) :=
 (Z0 N c (a.length : Int)).bind fun b =>
 grd (inb b.2 a) <|
 some ((c.1, b.1.2), (at_ 0 a b.2))
def Z7k (c : List Int × Int × Int) : Option ((List Int × Int × Int) × List (ByteArray × Int × Int)) :=
 (Z0n N c [1, 1, 2, 0]).bind fun a =>
 (Z0 N (c.1, a.1.2) 2).bind fun b =>
 some ((c.1, b.1.2), [(⟨#[114]⟩, 2, 1), (⟨#[115]⟩, 2, 1), (⟨#[116]⟩, 2, a.2), (⟨#[117]⟩, 3, (w64 (1 + b.2)))])
def Z0a8 (c : T16) (c2 : I0) (c3 : Int) (c4 : Int) (l2 : R0) (b : Int) (t6 : Int) (d : I0) (f : Int) (f2 : I0) : Option ((List Int × Int × Int) × Int × List Int) :=
 grd (inb f l2) <|
 bif decide ((f2.length : Int) < (((at_ (⟨#[]⟩, (0, 0)) l2 f).2).1)) then
  (Z0 N (c2, c3, c4) b).bind fun a =>
  grd (appOk f2 [a.2] 8) <|
  c c2 a.1.2.1 a.1.2.2 l2 b t6 d f (f2 ++ [a.2])
 else
 some ((c2, c3, c4), (f, f2))
def Z80 (N : Nat) : Nat -> T16
 | 0 => fun _ _ _ _ _ _ _ _ _ => none
 | k_ + 1 => Z0a8 N (Z80 N k_)
def Z0d2 (b : T16) (c : List Int × Int × Int) (l : R0) (d : Int) : Option ((List Int × Int × Int) × Int × List Int) :=
 (Z0 N c (l.length : Int)).bind fun a =>
 b c.1 a.1.2.1 a.1.2.2 l d 0 [] a.2 []
def Z57 (c : List Int × Int × Int) (l : R0) (a : Int) : Option ((List Int × Int × Int) × Int × List Int) := Z0d2 N (Z80 N N) c l a
def Z0a9 (N : Nat) (a : T56) (d2 : R0) (d3 : A0) (t2 : R0) (b : A0) (x : R0) (x2 : A0) (i : Int) : Option D0 :=
 bif decide (i < (d3.length : Int)) then
  grd (inb i d3) <|
  grd (inb i d3) <|
  grd (appOk [] ((at_ (0, []) d3 i).2) 8) <|
  grd (appOk x2 [(at_ (0, []) d3 i)] 32) <|
  a d2 d3 t2 b x (x2 ++ [(at_ (0, []) d3 i)]) (w64 (i + 1))
 else
 some (x, x2)
def Z81 (N : Nat) : Nat -> T56
 | 0 => fun _ _ _ _ _ _ _ => none
 | k_ + 1 => Z0a9 N (Z81 N k_)
def Z0b6 (N : Nat) (a : T56) (d : D0) : Option D0 :=
 grd (appOk [] d.1 32) <|
 a d.1 d.2 [] [] d.1 [] 0
def Z7l (d : D0) : Option D0 := Z0b6 N (Z81 N N) d
def Z0j (N : Nat) (x : Int) (a : Int) (b : Int) : Option Bool :=
 bif decide (x >= a) then some (decide (x <= b))
 else
 some false
def Z8 (s : ByteArray × Int × Int) : Option Bool :=
 bif ((s.1.size : Int) == 1) then
  (byteAt s.1 0).bind fun b =>
  bif decide ((b.toNat : Int) >= 97) then
   (byteAt s.1 0).bind fun b2 =>
   bif decide ((b2.toNat : Int) <= 122) then
    (Z0j N s.2.1 1 3).bind fun r =>
    bif r then
     (Z0j N s.2.2 0 s.2.1).bind fun r2 =>
     some r2
    else
    some false
   else
   some false
  else
  some false
 else
 some false
def Z1l (a : T87) (l2 : R0) (i : Int) : Option Bool :=
 bif decide (i < (l2.length : Int)) then
  grd (inb i l2) <|
  (Z8 N ((at_ (⟨#[]⟩, (0, 0)) l2 i).1, ((at_ (⟨#[]⟩, (0, 0)) l2 i).2))).bind fun r =>
  bif (!r) then some false
  else
  bif decide (i > 0) then
   grd (inb (w64 (i - 1)) l2) <|
   grd (inb i l2) <|
   bif (!slt ((at_ (⟨#[]⟩, (0, 0)) l2 (w64 (i - 1))).1) ((at_ (⟨#[]⟩, (0, 0)) l2 i).1)) then some false
   else
   a l2 (w64 (i + 1))
  else
  a l2 (w64 (i + 1))
 else
 some (decide ((l2.length : Int) <= 4))
def Z0o (N : Nat) : Nat -> T87
 | 0 => fun _ _ => none
 | k_ + 1 => Z1l N (Z0o N k_)
def Z4h (N : Nat) (a : T87) (l : R0) : Option Bool :=
 a l 0
def Z0f (l : R0) : Option Bool := Z4h N (Z0o N N) l
def Z5q (a : T79) (f2 : Int) (f3 : I0) (i : Int) : Option Bool :=
 bif decide (i < (f3.length : Int)) then
  grd (inb i f3) <|
  (Z0j N (at_ 0 f3 i) 0 9).bind fun r3 =>
  bif (!r3) then some false
  else
  a f2 f3 (w64 (i + 1))
 else
 some true
def Z3t (N : Nat) : Nat -> T79
 | 0 => fun _ _ _ => none
 | k_ + 1 => Z5q N (Z3t N k_)
def Z9c (a : T79) (l : R0) (f : Int × List Int) : Option Bool :=
 (Z0f N l).bind fun r =>
 bif (!r) then some false
 else
 (Z0j N f.1 0 (w64 ((l.length : Int) - 1))).bind fun r2 =>
 bif (!r2) then some false
 else
 grd (inb f.1 l) <|
 bif ((f.2.length : Int) != (((at_ (⟨#[]⟩, (0, 0)) l f.1).2).1)) then some false
 else
 a f.1 f.2 0
def Z0r (l : R0) (f : Int × List Int) : Option Bool := Z9c N (Z3t N N) l f
def Z6p (N : Nat) (a : T85) (a2 : I0) (b2 : I0) (i : Int) : Option Int :=
 bif decide (i < (a2.length : Int)) then
  bif decide (i < (b2.length : Int)) then
   grd (inb i a2) <|
   grd (inb i b2) <|
   bif decide ((at_ 0 a2 i) < (at_ 0 b2 i)) then some (-1)
   else
   grd (inb i a2) <|
   grd (inb i b2) <|
   bif decide ((at_ 0 a2 i) > (at_ 0 b2 i)) then some 1
   else
   a a2 b2 (w64 (i + 1))
  else
  bif decide ((a2.length : Int) < (b2.length : Int)) then some (-1)
  else
  bif decide ((a2.length : Int) > (b2.length : Int)) then some 1
  else
  some 0
 else
 bif decide ((a2.length : Int) < (b2.length : Int)) then some (-1)
 else
 bif decide ((a2.length : Int) > (b2.length : Int)) then some 1
 else
 some 0
def Z4x (N : Nat) : Nat -> T85
 | 0 => fun _ _ _ => none
 | k_ + 1 => Z6p N (Z4x N k_)
def Z0d3 (N : Nat) (c : T85) (a : I0) (b : I0) : Option Int :=
 c a b 0
def Z6l (a : I0) (b : I0) : Option Int := Z0d3 N (Z4x N N) a b
def Z1c (a : Int × List Int) (b : Int × List Int) : Option Int :=
 bif decide (a.1 < b.1) then some (-1)
 else
 bif decide (a.1 > b.1) then some 1
 else
 (Z6l N a.2 b.2).bind fun r =>
 some r
def Z4c (a : T82) (d2 : R0) (d3 : A0) (i : Int) : Option Bool :=
 bif decide (i < (d3.length : Int)) then
  grd (inb i d3) <|
  (Z0r N d2 (at_ (0, []) d3 i)).bind fun r =>
  bif (!r) then some false
  else
  bif decide (i > 0) then
   grd (inb (w64 (i - 1)) d3) <|
   grd (inb i d3) <|
   (Z1c N (at_ (0, []) d3 (w64 (i - 1))) (at_ (0, []) d3 i)).bind fun r2 =>
   bif decide (r2 >= 0) then some false
   else
   a d2 d3 (w64 (i + 1))
  else
  a d2 d3 (w64 (i + 1))
 else
 (Z0f N d2).bind fun r3 =>
 bif r3 then some (decide ((d3.length : Int) <= 14))
 else
 some false
def Z2a (N : Nat) : Nat -> T82
 | 0 => fun _ _ _ => none
 | k_ + 1 => Z4c N (Z2a N k_)
def Z7m (N : Nat) (a : T82) (d : D0) : Option Bool :=
 a d.1 d.2 0
def Z1 (d : D0) : Option Bool := Z7m N (Z2a N N) d
def Z8x (a : T65) (d2 : R0) (d3 : A0) (f2 : Int) (f3 : I0) (i : Int) : Option Int :=
 bif decide (i < (d3.length : Int)) then
  grd (inb i d3) <|
  (Z1c N (at_ (0, []) d3 i) (f2, f3)).bind fun r =>
  bif (r == 0) then some i
  else
  a d2 d3 f2 f3 (w64 (i + 1))
 else
 some (-1)
def Z61 (N : Nat) : Nat -> T65
 | 0 => fun _ _ _ _ _ => none
 | k_ + 1 => Z8x N (Z61 N k_)
def Z0bo (N : Nat) (a : T65) (d : D0) (f : Int × List Int) : Option Int :=
 a d.1 d.2 f.1 f.2 0
def Z6n (d : D0) (f : Int × List Int) : Option Int := Z0bo N (Z61 N N) d f
def Z3n (d : D0) (f : Int × List Int) : Option Bool :=
 (Z1 N d).bind fun r =>
 bif r then
  (Z6n N d f).bind fun r2 =>
  some (decide (r2 >= 0))
 else
 some false
def Z8k (a : T43) (f2 : Int) (f3 : I0) (t4 : R0) (b : A0) (x : R0) (x2 : A0) (k : Int) : Option (D0 × Bool) :=
 bif decide (k < (x2.length : Int)) then
  grd (inb k x2) <|
  (Z1c N (at_ (0, []) x2 k) (f2, f3)).bind fun r5 =>
  bif decide (r5 < 0) then a f2 f3 t4 b x x2 (w64 (k + 1))
  else
  grd (appOk [] f3 8) <|
  grd (subOk k (x2.length : Int) x2.length) <|
  grd (appOk [(f2, f3)] (x2.drop k.toNat) 32) <|
  grd (subOk 0 k x2.length) <|
  grd (appOk [] (x2.take k.toNat) 32) <|
  grd (appOk (x2.take k.toNat) ([(f2, f3)] ++ (x2.drop k.toNat)) 32) <|
  some ((x, ((x2.take k.toNat) ++ ([(f2, f3)] ++ (x2.drop k.toNat)))), true)
 else
 grd (appOk [] f3 8) <|
 grd (subOk k (x2.length : Int) x2.length) <|
 grd (appOk [(f2, f3)] (x2.drop k.toNat) 32) <|
 grd (subOk 0 k x2.length) <|
 grd (appOk [] (x2.take k.toNat) 32) <|
 grd (appOk (x2.take k.toNat) ([(f2, f3)] ++ (x2.drop k.toNat)) 32) <|
 some ((x, ((x2.take k.toNat) ++ ([(f2, f3)] ++ (x2.drop k.toNat)))), true)
def Z5f (N : Nat) : Nat -> T43
 | 0 => fun _ _ _ _ _ _ _ => none
 | k_ + 1 => Z8k N (Z5f N k_)
def Z9u (a : T43) (d : D0) (f : Int × List Int) : Option (D0 × Bool) :=
 (Z7l N d).bind fun r =>
 (Z1 N d).bind fun r2 =>
 bif (!r2) then some (r, false)
 else
 (Z0r N d.1 f).bind fun r3 =>
 bif (!r3) then some (r, false)
 else
 (Z3n N d f).bind fun r4 =>
 bif r4 then some (r, false)
 else
 bif ((d.2.length : Int) == 14) then some (r, false)
 else
 a f.1 f.2 [] [] r.1 r.2 0
def Z3q (d : D0) (f : Int × List Int) : Option (D0 × Bool) := Z9u N (Z5f N N) d f
def Z0az (d : T0) (c5 : I0) (c6 : Int) (c7 : Int) (e : R0) (f : A0) (d3 : R0) (d4 : A0) (b : Int) (n2 : Int) : Option ((List Int × Int × Int) × List (ByteArray × Int × Int) × List (Int × List Int)) :=
 bif decide (n2 > 0) then
  (Z57 N (c5, c6, c7) d3 b).bind fun a =>
  (Z3q N (d3, d4) a.2).bind fun c =>
  d c5 a.1.2.1 a.1.2.2 e f c.1.1 c.1.2 b (w64 (n2 - 1))
 else
 some ((c5, c6, c7), (d3, d4))
def Z82 (N : Nat) : Nat -> T0
 | 0 => fun _ _ _ _ _ _ _ _ _ => none
 | k_ + 1 => Z0az N (Z82 N k_)
def Z0b0 (e : T0) (g : T0) (c2 : I0) (c3 : Int) (c4 : Int) (t2 : R0) (f : A0) (d : R0) (d2 : A0) (b : Int) (n : Int) : Option ((List Int × Int × Int) × List (ByteArray × Int × Int) × List (Int × List Int)) :=
 bif decide (n > 0) then
  (Z57 N (c2, c3, c4) d b).bind fun a =>
  (Z3q N (d, d2) a.2).bind fun c =>
  e c2 a.1.2.1 a.1.2.2 t2 f c.1.1 c.1.2 b (w64 (n - 1))
 else
 some ((c2, c3, c4), (d, d2))
def Z0ak (N : Nat) : Nat -> T0
 | 0 => fun _ _ _ _ _ _ _ _ _ => none
 | k_ + 1 => Z0b0 N (Z82 N k_) (Z0ak N k_)
def Z0du (e : T0) (c : List Int × Int × Int) : Option ((List Int × Int × Int) × List (ByteArray × Int × Int) × List (Int × List Int)) :=
 (Z7k N c).bind fun b =>
 (Z0n N (c.1, b.1.2) [2, 2, 3, 3]).bind fun d =>
 (Z0 N (c.1, d.1.2) 11).bind fun a =>
 e c.1 a.1.2.1 a.1.2.2 [] [] b.2 [] d.2 (w64 (2 + a.2))
def Z8h (c : List Int × Int × Int) : Option ((List Int × Int × Int) × List (ByteArray × Int × Int) × List (Int × List Int)) := Z0du N (Z0ak N N) c
def Z26 (c : List Int × Int × Int) (n : Int) : Option ((List Int × Int × Int) × Bool) :=
 (Z0 N c n).bind fun a =>
 some ((c.1, a.1.2), (a.2 == 0))
def Z9v (N : Nat) (a : T33) (q2 : Int) (q3 : A0) (q4 : I0) (t2 : Int) (b : A0) (c : I0) (x : Int) (x2 : A0) (x3 : I0) (i : Int) : Option Q0 :=
 bif decide (i < (q3.length : Int)) then
  grd (inb i q3) <|
  grd (inb i q3) <|
  grd (appOk [] ((at_ (0, []) q3 i).2) 8) <|
  grd (appOk x2 [(at_ (0, []) q3 i)] 32) <|
  a q2 q3 q4 t2 b c x (x2 ++ [(at_ (0, []) q3 i)]) x3 (w64 (i + 1))
 else
 some (x, x2, x3)
def Z7b (N : Nat) : Nat -> T33
 | 0 => fun _ _ _ _ _ _ _ _ _ _ => none
 | k_ + 1 => Z9v N (Z7b N k_)
def Z0b1 (N : Nat) (a : T33) (q : Q0) : Option Q0 :=
 grd (appOk [] q.2.2 8) <|
 a q.1 q.2.1 q.2.2 0 [] [] q.1 [] q.2.2 0
def Z6q (q : Q0) : Option Q0 := Z0b1 N (Z7b N N) q
def Z9d (N : Nat) (f : T17) (g : T25) (b : Int) (c : A0) (d : I0) (x7 : Int) (x8 : A0) (x9 : I0) (a : I0) (i3 : Int) (k2 : Int) (t : Int) (e : Int) (j : Int) : Option Q0 :=
 bif decide (j < (a.length : Int)) then
  grd (inb j a) <|
  bif ((at_ 0 a j) == t) then g b c d x7 x8 x9 a i3 k2 t j (w64 (j + 1))
  else
  g b c d x7 x8 x9 a i3 k2 t e (w64 (j + 1))
 else
 bif decide (e < 0) then
  grd (appOk a [t] 8) <|
  grd (inb i3 x8) <|
  grd (inb k2 ((at_ (0, []) x8 i3).2)) <|
  letv (x8.set i3.toNat ((at_ (0, []) x8 i3).1, (((at_ (0, []) x8 i3).2).set k2.toNat (a.length : Int)))) fun u =>
  f b c d x7 u x9 (a ++ [t]) i3 (w64 (k2 + 1))
 else
 grd (inb i3 x8) <|
 grd (inb k2 ((at_ (0, []) x8 i3).2)) <|
 letv (x8.set i3.toNat ((at_ (0, []) x8 i3).1, (((at_ (0, []) x8 i3).2).set k2.toNat e))) fun u2 =>
 f b c d x7 u2 x9 a i3 (w64 (k2 + 1))
def Z4y (a : T17) (N : Nat) : Nat -> T25
 | 0 => fun _ _ _ _ _ _ _ _ _ _ _ _ => none
 | k_ + 1 => Z9d N a (Z4y a N k_)
def Z9e (N : Nat) (e : T20) (f : T25) (g : T17) (a : Int) (b : A0) (c : I0) (x4 : Int) (x5 : A0) (x6 : I0) (d : I0) (i2 : Int) (k : Int) : Option Q0 :=
 grd (inb i2 x5) <|
 bif decide (k < (((at_ (0, []) x5 i2).2).length : Int)) then
  grd (inb i2 x5) <|
  grd (inb k ((at_ (0, []) x5 i2).2)) <|
  bif decide ((at_ 0 ((at_ (0, []) x5 i2).2) k) < 0) then g a b c x4 x5 x6 d i2 (w64 (k + 1))
  else
  f a b c x4 x5 x6 d i2 k (at_ 0 ((at_ (0, []) x5 i2).2) k) (-1) 0
 else
 e a b c x4 x5 x6 d (w64 (i2 + 1))
def Z3z (a : T20) (N : Nat) : Nat -> T17
 | 0 => fun _ _ _ _ _ _ _ _ _ => none
 | k_ + 1 => Z9e N a (Z4y (Z3z a N k_) N N) (Z3z a N k_)
def Z9f (N : Nat) (b : T17) (e : T20) (t2 : Int) (c : A0) (d : I0) (x : Int) (x2 : A0) (x3 : I0) (a : I0) (i : Int) : Option Q0 :=
 bif decide (i < (x2.length : Int)) then b t2 c d x x2 x3 a i 0
 else
 some ((a.length : Int), x2, x3)
def Z4z (N : Nat) : Nat -> T20
 | 0 => fun _ _ _ _ _ _ _ _ => none
 | k_ + 1 => Z9f N (Z3z (Z4z N k_) N N) (Z4z N k_)
def Z0al (a : T20) (q : Q0) : Option Q0 :=
 (Z6q N q).bind fun r =>
 a 0 [] [] r.1 r.2.1 r.2.2 [] 0
def Z5w (q : Q0) : Option Q0 := Z0al N (Z4z N N) q
def Z9g (k : T1) (j : T3) (c5 : I0) (c6 : Int) (c7 : Int) (e : Int) (f : A0) (g : I0) (q4 : Int) (q5 : A0) (q6 : I0) (n2 : Int) (b : Int) (h : Int) (i2 : Int) (a : Int) (a2 : I0) (m4 : Int) : Option ((List Int × Int × Int) × Int × List (Int × List Int) × List Int) :=
 bif decide (m4 > 0) then
  (Z26 N (c5, c6, c7) 12).bind fun i =>
  bif i.2 then
   (Z0 N (c5, i.1.2) 2).bind fun c =>
   grd (appOk a2 [(w64 ((-1) - c.2))] 8) <|
   j c5 c.1.2.1 c.1.2.2 e f g q4 q5 q6 n2 b h i2 a (a2 ++ [(w64 ((-1) - c.2))]) (w64 (m4 - 1))
  else
  (Z0 N (c5, i.1.2) b).bind fun d =>
  grd (appOk a2 [d.2] 8) <|
  j c5 d.1.2.1 d.1.2.2 e f g q4 q5 q6 n2 b h i2 a (a2 ++ [d.2]) (w64 (m4 - 1))
 else
 grd (appOk q5 [(a, a2)] 32) <|
 k c5 c6 c7 e f g q4 (q5 ++ [(a, a2)]) q6 n2 b h (w64 (i2 + 1))
def Z50 (a : T1) (N : Nat) : Nat -> T3
 | 0 => fun _ _ _ _ _ _ _ _ _ _ _ _ _ _ _ _ => none
 | k_ + 1 => Z9g N a (Z50 a N k_)
def Z9h (b : T3) (f : T1) (c2 : I0) (c3 : Int) (c4 : Int) (t2 : Int) (c : A0) (d : I0) (q : Int) (q2 : A0) (q3 : I0) (n : Int) (e : Int) (a : Int) (i : Int) : Option ((List Int × Int × Int) × Int × List (Int × List Int) × List Int) :=
 bif decide (i < n) then
  grz 4 <|
  grz 3 <|
  b c2 c3 c4 t2 c d q q2 q3 n e a i ((w64 (a + i)).tmod 4) [] (w64 (2 + (w64 (((w64 (a + i)).tmod 4).tdiv 3))))
 else
 (Z5w N (q, q2, q3)).bind fun r7 =>
 some ((c2, c3, c4), r7)
def Z51 (N : Nat) : Nat -> T1
 | 0 => fun _ _ _ _ _ _ _ _ _ _ _ _ _ => none
 | k_ + 1 => Z9h N (Z50 (Z51 N k_) N N) (Z51 N k_)
def Z0c9 (e : T1) (c : List Int × Int × Int) : Option ((List Int × Int × Int) × Int × List (Int × List Int) × List Int) :=
 (Z0 N c 3).bind fun b =>
 (Z0 N (c.1, b.1.2) 4).bind fun d =>
 (Z0 N (c.1, d.1.2) 4).bind fun a =>
 e c.1 a.1.2.1 a.1.2.2 0 [] [] 0 [] [] (w64 (1 + b.2)) (w64 (1 + d.2)) a.2 0
def Z78 (c : List Int × Int × Int) : Option ((List Int × Int × Int) × Int × List (Int × List Int) × List Int) := Z0c9 N (Z51 N N) c
def Z58 (c : List Int × Int × Int) (a : List ByteArray) : Option ((List Int × Int × Int) × ByteArray) :=
 (Z0 N c (a.length : Int)).bind fun b =>
 grd (inb b.2 a) <|
 some ((c.1, b.1.2), (at_ (⟨#[]⟩) a b.2))
def Z0ca (N : Nat) (e : T26) (s2 : ByteArray) (d : Int) (c : List ByteArray) (a : Int) (i : Int) : Option (List ByteArray) :=
 bif decide (i < (s2.size : Int)) then
  (byteAt s2 i).bind fun b =>
  bif ((b.toNat : Int) == d) then
   grd (subOk a i s2.size) <|
   grd (appOk c [(sub s2 a i)] 16) <|
   e s2 d (c ++ [(sub s2 a i)]) (w64 (i + 1)) (w64 (i + 1))
  else
  e s2 d c a (w64 (i + 1))
 else
 grd (subOk a (s2.size : Int) s2.size) <|
 grd (appOk c [(sub s2 a (s2.size : Int))] 16) <|
 some (c ++ [(sub s2 a (s2.size : Int))])
def Z0b8 (N : Nat) : Nat -> T26
 | 0 => fun _ _ _ _ _ => none
 | k_ + 1 => Z0ca N (Z0b8 N k_)
def Z0dd (N : Nat) (a : T26) (s : ByteArray) (b : Int) : Option (List ByteArray) :=
 a s b [] 0 0
def Z9q (s : ByteArray) (a : Int) : Option (List ByteArray) := Z0dd N (Z0b8 N N) s a
def Z83 (t : Int) : Option (Int × Bool) :=
 bif decide (t >= 0) then some (0, false)
 else
 (Z0j N (w64 ((-1) - t)) 0 9).bind fun r =>
 bif (!r) then some (0, false)
 else
 some ((w64 ((-1) - t)), true)
def Z0av (N : Nat) (c : T58) (n2 : Int) (a : ByteArray) (b : Bool) : Option ByteArray :=
 bif (n2 != 0) then
  grz 10 <|
  bif decide ((n2.tmod 10) < 0) then
   grd (catOk (ofBytes [(w .u8 (w64 (48 + (w64 (0 - (n2.tmod 10))))))]) a) <|
   grz 10 <|
   c (w64 (n2.tdiv 10)) ((ofBytes [(w .u8 (w64 (48 + (w64 (0 - (n2.tmod 10))))))]) ++ a) b
  else
  grd (catOk (ofBytes [(w .u8 (w64 (48 + (n2.tmod 10))))]) a) <|
  grz 10 <|
  c (w64 (n2.tdiv 10)) ((ofBytes [(w .u8 (w64 (48 + (n2.tmod 10))))]) ++ a) b
 else
 bif b then
  grd (catOk (⟨#[45]⟩) a) <|
  some ((⟨#[45]⟩) ++ a)
 else
 some a
def Z9w (N : Nat) : Nat -> T58
 | 0 => fun _ _ _ => none
 | k_ + 1 => Z0av N (Z9w N k_)
def Z0bp (N : Nat) (a : T58) (n : Int) : Option ByteArray :=
 bif (n == 0) then some (⟨#[48]⟩)
 else
 a n (⟨#[]⟩) (decide (n < 0))
def Z84 (n : Int) : Option ByteArray := Z0bp N (Z9w N N) n
def Z27 (t : Int) : Option ByteArray :=
 (Z83 N t).bind fun a =>
 bif a.2 then
  (Z84 N a.1).bind fun r3 =>
  some r3
 else
 (Z0j N t 0 3).bind fun r4 =>
 bif (!r4) then some (⟨#[]⟩)
 else
 grd (subOk t (w64 (t + 1)) (⟨#[120, 121, 122, 119]⟩ : ByteArray).size) <|
 some (sub (⟨#[120, 121, 122, 119]⟩ : ByteArray) t (w64 (t + 1)))
def Z0aw (a : T67) (s2 : ByteArray) (t : Int) : Option (Int × Bool) :=
 bif decide (t < 4) then
  (Z27 N t).bind fun r =>
  bif (seq r s2) then some (t, true)
  else
  a s2 (w64 (t + 1))
 else
 some (0, false)
def Z9x (N : Nat) : Nat -> T67
 | 0 => fun _ _ => none
 | k_ + 1 => Z0aw N (Z9x N k_)
def Z0bq (N : Nat) (a : T67) (s : ByteArray) : Option (Int × Bool) :=
 a s (-10)
def Z6o (s : ByteArray) : Option (Int × Bool) := Z0bq N (Z9x N N) s
def Z9s (N : Nat) (b : T70) (l2 : R0) (a : ByteArray) (i : Int) : Option Int :=
 bif decide (i < (l2.length : Int)) then
  grd (inb i l2) <|
  bif (seq ((at_ (⟨#[]⟩, (0, 0)) l2 i).1) a) then some i
  else
  b l2 a (w64 (i + 1))
 else
 some (-1)
def Z85 (N : Nat) : Nat -> T70
 | 0 => fun _ _ _ => none
 | k_ + 1 => Z9s N (Z85 N k_)
def Z0am (N : Nat) (a : T70) (l : R0) (b : ByteArray) : Option Int :=
 a l b 0
def Z5g (l : R0) (a : ByteArray) : Option Int := Z0am N (Z85 N N) l a
def Z7n (d : T10) (c : T7) (l4 : R0) (q8 : Int) (q9 : A0) (b : I0) (a : List Bool) (i3 : Int) (a3 : Int) (a4 : I0) (k2 : Int) : Option Bool :=
 bif decide (k2 < (a4.length : Int)) then
  grd (inb k2 a4) <|
  (Z0j N (at_ 0 a4 k2) (-10) (w64 (q8 - 1))).bind fun r5 =>
  bif (!r5) then some false
  else
  grd (inb k2 a4) <|
  bif decide ((at_ 0 a4 k2) >= 0) then
   grd (inb k2 a4) <|
   grd (inb (at_ 0 a4 k2) a) <|
   grd (inb (at_ 0 a4 k2) a) <|
   letv (a.set (at_ 0 a4 k2).toNat true) fun u =>
   c l4 q8 q9 b u i3 a3 a4 (w64 (k2 + 1))
  else
  c l4 q8 q9 b a i3 a3 a4 (w64 (k2 + 1))
 else
 d l4 q8 q9 b a (w64 (i3 + 1))
def Z1q (a : T10) (N : Nat) : Nat -> T7
 | 0 => fun _ _ _ _ _ _ _ _ _ => none
 | k_ + 1 => Z7n N a (Z1q a N k_)
def Z59 (N : Nat) (e : T10) (c : T7) (d : T7) (l3 : R0) (q5 : Int) (q6 : A0) (q7 : I0) (b : List Bool) (i2 : Int) (a : Int) (a2 : I0) (k : Int) : Option Bool :=
 bif decide (k < i2) then
  grd (inb k q6) <|
  bif (((at_ (0, []) q6 k).1) == a) then some false
  else
  d l3 q5 q6 q7 b i2 a a2 (w64 (k + 1))
 else
 c l3 q5 q6 q7 b i2 a a2 0
def Z2j (a : T10) (N : Nat) : Nat -> T7
 | 0 => fun _ _ _ _ _ _ _ _ _ => none
 | k_ + 1 => Z59 N a (Z1q a N N) (Z2j a N k_)
def Z5a (c : T71) (b : Int) (d : A0) (a : I0) (i4 : Int) : Option Bool :=
 bif decide (i4 < (a.length : Int)) then
  grd (inb i4 a) <|
  (Z0j N (at_ 0 a i4) 0 (w64 (b - 1))).bind fun r6 =>
  bif (!r6) then some false
  else
  bif decide (i4 > 0) then
   grd (inb i4 a) <|
   grd (inb (w64 (i4 - 1)) a) <|
   bif decide ((at_ 0 a i4) <= (at_ 0 a (w64 (i4 - 1)))) then some false
   else
   c b d a (w64 (i4 + 1))
  else
  c b d a (w64 (i4 + 1))
 else
 some true
def Z2k (N : Nat) : Nat -> T71
 | 0 => fun _ _ _ _ => none
 | k_ + 1 => Z5a N (Z2k N k_)
def Z5b (N : Nat) (e : T71) (f : T49) (a : Int) (c : A0) (d : I0) (b : List Bool) (v : Int) : Option Bool :=
 bif decide (v < a) then
  grd (inb v b) <|
  bif (!(at_ false b v)) then some false
  else
  f a c d b (w64 (v + 1))
 else
 e a c d 0
def Z2l (N : Nat) : Nat -> T49
 | 0 => fun _ _ _ _ _ => none
 | k_ + 1 => Z5b N (Z2k N N) (Z2l N k_)
def Z7o (b : T7) (c : T49) (d : T10) (l2 : R0) (q2 : Int) (q3 : A0) (q4 : I0) (a : List Bool) (i : Int) : Option Bool :=
 bif decide (i < (q3.length : Int)) then
  grd (inb i q3) <|
  (Z0j N ((at_ (0, []) q3 i).1) 0 (w64 ((l2.length : Int) - 1))).bind fun r4 =>
  bif (!r4) then some false
  else
  grd (inb ((at_ (0, []) q3 i).1) l2) <|
  bif ((((at_ (0, []) q3 i).2).length : Int) != (((at_ (⟨#[]⟩, (0, 0)) l2 ((at_ (0, []) q3 i).1)).2).1)) then some false
  else
  b l2 q2 q3 q4 a i ((at_ (0, []) q3 i).1) ((at_ (0, []) q3 i).2) 0
 else
 c q2 q3 q4 a 0
def Z3f (N : Nat) : Nat -> T10
 | 0 => fun _ _ _ _ _ _ => none
 | k_ + 1 => Z7o N (Z2j (Z3f N k_) N N) (Z2l N N) (Z3f N k_)
def Z8y (a : T10) (l : R0) (q : Q0) : Option Bool :=
 (Z0f N l).bind fun r =>
 bif (!r) then some false
 else
 (Z0j N q.1 0 4).bind fun r2 =>
 bif (!r2) then some false
 else
 (Z0j N (q.2.1.length : Int) 1 3).bind fun r3 =>
 bif (!r3) then some false
 else
 grd (makeOk 4 1) <|
 a l q.1 q.2.1 q.2.2 (List.replicate (4 : Int).toNat false) 0
def Z1y (l : R0) (q : Q0) : Option Bool := Z8y N (Z3f N N) l q
def Z0bg (a : T45) (l2 : R0) (a2 : Int) (a3 : I0) (s : ByteArray) (i : Int) : Option ByteArray :=
 bif decide (i < (a3.length : Int)) then
  grd (inb a2 l2) <|
  bif (i == (((at_ (⟨#[]⟩, (0, 0)) l2 a2).2).2)) then
   grd (catOk s (⟨#[124]⟩)) <|
   grd (inb i a3) <|
   (Z27 N (at_ 0 a3 i)).bind fun r =>
   grd (catOk (s ++ (⟨#[124]⟩)) r) <|
   a l2 a2 a3 ((s ++ (⟨#[124]⟩)) ++ r) (w64 (i + 1))
  else
  grd (inb i a3) <|
  (Z27 N (at_ 0 a3 i)).bind fun r2 =>
  grd (catOk s r2) <|
  a l2 a2 a3 (s ++ r2) (w64 (i + 1))
 else
 some s
def Z0an (N : Nat) : Nat -> T45
 | 0 => fun _ _ _ _ _ => none
 | k_ + 1 => Z0bg N (Z0an N k_)
def Z0cj (N : Nat) (b : T45) (l : R0) (a : Int × List Int) : Option ByteArray :=
 grd (inb a.1 l) <|
 b l a.1 a.2 ((at_ (⟨#[]⟩, (0, 0)) l a.1).1) 0
def Z86 (l : R0) (a : Int × List Int) : Option ByteArray := Z0cj N (Z0an N N) l a
def Z0ag (a : T11) (l3 : R0) (q5 : Int) (q6 : A0) (q7 : I0) (s2 : ByteArray) (i2 : Int) : Option ByteArray :=
 bif decide (i2 < (q6.length : Int)) then
  bif decide (i2 > 0) then
   grd (catOk s2 (⟨#[32]⟩)) <|
   grd (inb i2 q6) <|
   (Z86 N l3 (at_ (0, []) q6 i2)).bind fun r3 =>
   grd (catOk (s2 ++ (⟨#[32]⟩)) r3) <|
   a l3 q5 q6 q7 ((s2 ++ (⟨#[32]⟩)) ++ r3) (w64 (i2 + 1))
  else
  grd (inb i2 q6) <|
  (Z86 N l3 (at_ (0, []) q6 i2)).bind fun r4 =>
  grd (catOk s2 r4) <|
  a l3 q5 q6 q7 (s2 ++ r4) (w64 (i2 + 1))
 else
 some s2
def Z8z (N : Nat) : Nat -> T11
 | 0 => fun _ _ _ _ _ _ => none
 | k_ + 1 => Z0ag N (Z8z N k_)
def Z0ah (a : T11) (b : T11) (l2 : R0) (q2 : Int) (q3 : A0) (q4 : I0) (s : ByteArray) (i : Int) : Option ByteArray :=
 bif decide (i < (q4.length : Int)) then
  grd (inb i q4) <|
  (Z27 N (at_ 0 q4 i)).bind fun r2 =>
  grd (catOk s r2) <|
  b l2 q2 q3 q4 (s ++ r2) (w64 (i + 1))
 else
 grd (catOk s (⟨#[63]⟩)) <|
 a l2 q2 q3 q4 (s ++ (⟨#[63]⟩)) 0
def Z90 (N : Nat) : Nat -> T11
 | 0 => fun _ _ _ _ _ _ => none
 | k_ + 1 => Z0ah N (Z8z N N) (Z90 N k_)
def Z0b4 (a : T11) (l : R0) (q : Q0) : Option ByteArray :=
 (Z1y N l q).bind fun r =>
 bif (!r) then some (⟨#[]⟩)
 else
 a l q.1 q.2.1 q.2.2 (⟨#[]⟩) 0
def Z6r (l : R0) (q : Q0) : Option ByteArray := Z0b4 N (Z90 N N) l q
def Z0ao (h : T4) (f : T14) (l4 : R0) (s4 : ByteArray) (c : Int) (d : A0) (e : I0) (q7 : Int) (q8 : A0) (q9 : I0) (p2 : List ByteArray) (i3 : Int) (a : Int) (a2 : I0) (k : Int) : Option (Q0 × Bool) :=
 grd (inb i3 p2) <|
 bif decide (k < ((at_ (⟨#[]⟩) p2 i3).size : Int)) then
  bif (k == 0) then
   grd (inb i3 p2) <|
   grd (subOk 0 1 (at_ (⟨#[]⟩) p2 i3).size) <|
   (Z5g N l4 (sub (at_ (⟨#[]⟩) p2 i3) 0 1)).bind fun r5 =>
   f l4 s4 c d e q7 q8 q9 p2 i3 r5 a2 (w64 (k + 1))
  else
  grd (inb i3 p2) <|
  (byteAt (at_ (⟨#[]⟩) p2 i3) k).bind fun b =>
  bif ((b.toNat : Int) == 124) then f l4 s4 c d e q7 q8 q9 p2 i3 a a2 (w64 (k + 1))
  else
  grd (inb i3 p2) <|
  grd (subOk k (w64 (k + 1)) (at_ (⟨#[]⟩) p2 i3).size) <|
  (Z6o N (sub (at_ (⟨#[]⟩) p2 i3) k (w64 (k + 1)))).bind fun g =>
  grd (appOk a2 [g.1] 8) <|
  f l4 s4 c d e (imax q7 (w64 (g.1 + 1))) q8 q9 p2 i3 a (a2 ++ [g.1]) (w64 (k + 1))
 else
 grd (appOk q8 [(a, a2)] 32) <|
 h l4 s4 c d e q7 (q8 ++ [(a, a2)]) q9 p2 (w64 (i3 + 1))
def Z9i (a : T4) (N : Nat) : Nat -> T14
 | 0 => fun _ _ _ _ _ _ _ _ _ _ _ _ _ => none
 | k_ + 1 => Z0ao N a (Z9i a N k_)
def Z0ap (a : T14) (e : T4) (l3 : R0) (s3 : ByteArray) (b : Int) (c : A0) (d : I0) (q4 : Int) (q5 : A0) (q6 : I0) (p : List ByteArray) (i2 : Int) : Option (Q0 × Bool) :=
 bif decide (i2 < (p.length : Int)) then a l3 s3 b c d q4 q5 q6 p i2 0 [] 0
 else
 (Z6r N l3 (q4, q5, q6)).bind fun r8 =>
 bif (!seq r8 s3) then some ((0, [], []), false)
 else
 some ((q4, q5, q6), true)
def Z7c (N : Nat) : Nat -> T4
 | 0 => fun _ _ _ _ _ _ _ _ _ _ => none
 | k_ + 1 => Z0ap N (Z9i (Z7c N k_) N N) (Z7c N k_)
def Z0aq (d : T4) (e : T19) (l2 : R0) (s2 : ByteArray) (t4 : Int) (a : A0) (b : I0) (w : List ByteArray) (q : Int) (q2 : A0) (q3 : I0) (i : Int) : Option (Q0 × Bool) :=
 grd (inb 0 w) <|
 bif decide (i < ((at_ (⟨#[]⟩) w 0).size : Int)) then
  grd (inb 0 w) <|
  grd (subOk i (w64 (i + 1)) (at_ (⟨#[]⟩) w 0).size) <|
  (Z6o N (sub (at_ (⟨#[]⟩) w 0) i (w64 (i + 1)))).bind fun c =>
  grd (appOk q3 [c.1] 8) <|
  e l2 s2 t4 a b w q q2 (q3 ++ [c.1]) (w64 (i + 1))
 else
 grd (inb 1 w) <|
 (Z9q N (at_ (⟨#[]⟩) w 1) 32).bind fun r4 =>
 d l2 s2 t4 a b q q2 q3 r4 0
def Z9j (N : Nat) : Nat -> T19
 | 0 => fun _ _ _ _ _ _ _ _ _ _ => none
 | k_ + 1 => Z0aq N (Z7c N N) (Z9j N k_)
def Z0bh (a : T19) (l : R0) (s : ByteArray) : Option (Q0 × Bool) :=
 (Z9q N s 63).bind fun r =>
 bif ((r.length : Int) != 2) then some ((0, [], []), false)
 else
 a l s 0 [] [] r 0 [] [] 0
def Z28 (l : R0) (s : ByteArray) : Option (Q0 × Bool) := Z0bh N (Z9j N N) l s
def Z5x (c : List Int × Int × Int) (l : R0) : Option ((List Int × Int × Int) × Int × List (Int × List Int) × List Int) :=
 (Z58 N c [⟨#[63, 114, 120, 124, 121, 32, 115, 121, 124, 122]⟩, ⟨#[63, 114, 120, 124, 121, 32, 115, 121, 124, 120]⟩, ⟨#[63, 114, 120, 124, 121, 32, 115, 122, 124, 121]⟩, ⟨#[63, 114, 120, 124, 121, 32, 115, 120, 124, 122]⟩, ⟨#[63, 114, 120, 124, 49]⟩, ⟨#[63, 114, 120, 124, 120]⟩, ⟨#[63, 114, 120, 124, 121, 32, 115, 121, 124, 49]⟩, ⟨#[63, 114, 120, 124, 121, 32, 115, 121, 124, 122, 32, 114]⟩, ⟨#[63, 114, 120, 124, 121]⟩, ⟨#[63, 114, 120, 124, 122, 32, 115, 121, 124, 122]⟩]).bind fun a =>
 (Z28 N l a.2).bind fun b =>
 bif (!b.2) then
  (Z28 N l (⟨#[63, 114, 120, 124, 121, 32, 115, 121, 124, 122]⟩)).bind fun d =>
  some ((c.1, a.1.2), d.1)
 else
 some ((c.1, a.1.2), b.1)
def Z9y (b : T9) (c2 : I0) (c3 : Int) (c4 : Int) (t4 : Int) (c : A0) (d : I0) (q : Int) (q2 : A0) (q3 : I0) (v : Int) : Option ((List Int × Int × Int) × Int × List (Int × List Int) × List Int) :=
 bif decide (v < q) then
  (Z26 N (c2, c3, c4) 3).bind fun a =>
  bif a.2 then
   grd (appOk q3 [v] 8) <|
   b c2 a.1.2.1 a.1.2.2 t4 c d q q2 (q3 ++ [v]) (w64 (v + 1))
  else
  b c2 a.1.2.1 a.1.2.2 t4 c d q q2 q3 (w64 (v + 1))
 else
 some ((c2, c3, c4), (q, q2, q3))
def Z5r (N : Nat) : Nat -> T9
 | 0 => fun _ _ _ _ _ _ _ _ _ _ => none
 | k_ + 1 => Z9y N (Z5r N k_)
def Z0ck (g : T9) (c : List Int × Int × Int) (l : R0) : Option ((List Int × Int × Int) × Int × List (Int × List Int) × List Int) :=
 (Z78 N c).bind fun a =>
 (Z26 N (c.1, a.1.2) 3).bind fun f =>
 bif f.2 then
  (Z5x N (c.1, f.1.2) l).bind fun b =>
  (Z26 N (c.1, b.1.2) 4).bind fun d =>
  bif d.2 then g c.1 d.1.2.1 d.1.2.2 0 [] [] b.2.1 b.2.2.1 b.2.2.2 0
  else
  some ((c.1, d.1.2), b.2)
 else
 (Z26 N (c.1, f.1.2) 4).bind fun e =>
 bif e.2 then g c.1 e.1.2.1 e.1.2.2 0 [] [] a.2.1 a.2.2.1 a.2.2.2 0
 else
 some ((c.1, e.1.2), a.2)
def Z5h (c : List Int × Int × Int) (l : R0) : Option ((List Int × Int × Int) × Int × List (Int × List Int) × List Int) := Z0ck N (Z5r N N) c l
def Z8l (c : List Int × Int × Int) (l : R0) : Option ((List Int × Int × Int) × Int × List Int) :=
 (Z57 N c l 4).bind fun a =>
 (Z0 N (c.1, a.1.2) 10).bind fun b =>
 bif (b.2 == 0) then
  (Z0 N (c.1, b.1.2) 6).bind fun d =>
  some ((c.1, d.1.2), ((w64 (d.2 - 1)), a.2.2))
 else
 bif (b.2 == 1) then
  grd (appOk a.2.2 [1] 8) <|
  some ((c.1, b.1.2), (a.2.1, (a.2.2 ++ [1])))
 else
 bif (b.2 == 2) then
  (Z0n N (c.1, b.1.2) [(-1), 10, 9]).bind fun e =>
  grd (inb 0 a.2.2) <|
  grd (inb 0 a.2.2) <|
  letv (a.2.2.set 0 e.2) fun u =>
  some ((c.1, e.1.2), (a.2.1, u))
 else
 some ((c.1, b.1.2), a.2)
def Z8m (c : List Int × Int × Int) : Option ((List Int × Int × Int) × ByteArray × Int × Int) :=
 (Z58 N c [⟨#[114]⟩, ⟨#[122]⟩, ⟨#[97]⟩, ⟨#[]⟩, ⟨#[82]⟩, ⟨#[97, 98]⟩]).bind fun a =>
 (Z0 N (c.1, a.1.2) 6).bind fun b =>
 (Z0 N (c.1, b.1.2) 5).bind fun d =>
 some ((c.1, d.1.2), (a.2, (w64 (b.2 - 1)), (w64 (d.2 - 1))))
def Z8n (c : List Int × Int × Int) : Option ((List Int × Int × Int) × List (ByteArray × Int × Int) × List (Int × List Int)) :=
 (Z8h N c).bind fun a =>
 (Z0 N (c.1, a.1.2) 14).bind fun b =>
 bif (b.2 == 0) then
  (Z8l N (c.1, b.1.2) a.2.1).bind fun e =>
  grd (appOk a.2.2 [e.2] 32) <|
  some ((c.1, e.1.2), (a.2.1, (a.2.2 ++ [e.2])))
 else
 bif (b.2 == 1) then
  (Z0 N (c.1, b.1.2) 4).bind fun f =>
  grd (subOk 0 f.2 a.2.1.length) <|
  some ((c.1, f.1.2), ((a.2.1.take f.2.toNat), a.2.2))
 else
 bif (b.2 == 2) then
  (Z0 N (c.1, b.1.2) 4).bind fun d =>
  (Z8m N (c.1, d.1.2)).bind fun g =>
  grd (inb d.2 a.2.1) <|
  grd (inb d.2 a.2.1) <|
  letv (a.2.1.set d.2.toNat g.2) fun u =>
  some ((c.1, g.1.2), (u, a.2.2))
 else
 some ((c.1, b.1.2), a.2)
def Z7p (c : List Int × Int × Int) (l : R0) : Option ((List Int × Int × Int) × Int × List (Int × List Int) × List Int) :=
 (Z5h N c l).bind fun a =>
 (Z0 N (c.1, a.1.2) 14).bind fun b =>
 bif (b.2 == 0) then
  (Z0n N (c.1, b.1.2) [(-1), (w64 (a.2.1 + 1)), 5]).bind fun f =>
  some ((c.1, f.1.2), (f.2, a.2.2))
 else
 bif (b.2 == 1) then
  (Z0 N (c.1, b.1.2) 6).bind fun d =>
  grd (appOk a.2.2.1 [((w64 (d.2 - 1)), [0, 0])] 32) <|
  some ((c.1, d.1.2), (a.2.1, (a.2.2.1 ++ [((w64 (d.2 - 1)), [0, 0])]), a.2.2.2))
 else
 bif (b.2 == 2) then
  grd (inb 0 a.2.2.1) <|
  (Z0n N (c.1, b.1.2) [(-11), 4, 3]).bind fun g =>
  grd (inb 0 ((at_ (0, []) a.2.2.1 0).2)) <|
  letv (a.2.2.1.set 0 ((at_ (0, []) a.2.2.1 0).1, (((at_ (0, []) a.2.2.1 0).2).set 0 g.2))) fun u =>
  some ((c.1, g.1.2), (a.2.1, u, a.2.2.2))
 else
 bif (b.2 == 3) then
  (Z0 N (c.1, b.1.2) 5).bind fun e =>
  grd (appOk a.2.2.2 [e.2] 8) <|
  some ((c.1, e.1.2), (a.2.1, a.2.2.1, (a.2.2.2 ++ [e.2])))
 else
 some ((c.1, b.1.2), a.2)
def Z5i (f : I0) : Option ((List Int × Int × Int) × D0 × Int × List (Int × List Int) × List Int) :=
 (Z8j N f).bind fun r =>
 (Z8h N r).bind fun a =>
 (Z5h N (r.1, a.1.2) a.2.1).bind fun c =>
 (Z0 N (r.1, c.1.2) 20).bind fun b =>
 bif (b.2 == 0) then
  (Z8n N (r.1, b.1.2)).bind fun d =>
  some ((r.1, d.1.2), d.2, c.2)
 else
 bif (b.2 == 1) then
  (Z7p N (r.1, b.1.2) a.2.1).bind fun e =>
  some ((r.1, e.1.2), a.2, e.2)
 else
 some ((r.1, b.1.2), a.2, c.2)
def Z8o (e : T24) (c2 : I0) (c3 : Int) (c4 : Int) (d2 : R0) (d3 : A0) (w : I0) (c : Int) : Option ((List Int × Int × Int) × List Int) :=
 bif decide ((w.length : Int) < (d3.length : Int)) then
  (Z0 N (c2, c3, c4) c).bind fun a =>
  grd (appOk w [(w64 (1 + a.2))] 8) <|
  e c2 a.1.2.1 a.1.2.2 d2 d3 (w ++ [(w64 (1 + a.2))]) c
 else
 bif decide ((w.length : Int) > 0) then
  (Z26 N (c2, c3, c4) 14).bind fun b =>
  bif b.2 then
   (Z0n N (c2, b.1.2) [0, 10, (-1)]).bind fun d =>
   grd (inb 0 w) <|
   grd (inb 0 w) <|
   letv (w.set 0 d.2) fun u =>
   some ((c2, d.1.2), u)
  else
  some ((c2, b.1.2), w)
 else
 some ((c2, c3, c4), w)
def Z5j (N : Nat) : Nat -> T24
 | 0 => fun _ _ _ _ _ _ _ => none
 | k_ + 1 => Z8o N (Z5j N k_)
def Z0bi (b : T24) (c : List Int × Int × Int) (d : D0) : Option ((List Int × Int × Int) × List Int) :=
 (Z0n N c [1, 3, 9]).bind fun a =>
 b c.1 a.1.2.1 a.1.2.2 d.1 d.2 [] a.2
def Z5s (c : List Int × Int × Int) (d : D0) : Option ((List Int × Int × Int) × List Int) := Z0bi N (Z5j N N) c d
def Z2m (b : I0) : Option (D0 × List Int × Int × List (Int × List Int) × List Int) :=
 (Z5i N b).bind fun a =>
 (Z5s N a.1 a.2.1).bind fun c =>
 some (a.2.1, c.2, a.2.2)
def Z0l (N : Nat) (n : Int) (a : Int) (b : Int) : Option Bool :=
 bif decide (a <= n) then some (decide (n <= b))
 else
 some false
def Z2n (a : ByteArray × Int × Int) : Option Bool :=
 bif ((a.1.size : Int) == 1) then
  (byteAt a.1 0).bind fun b =>
  bif decide ((b.toNat : Int) >= 97) then
   (byteAt a.1 0).bind fun b2 =>
   bif decide ((b2.toNat : Int) <= 122) then
    (Z0l N a.2.1 1 3).bind fun r =>
    bif r then
     (Z0l N a.2.2 0 a.2.1).bind fun r2 =>
     some r2
    else
    some false
   else
   some false
  else
  some false
 else
 some false
def Z3r (b : T72) (a : R0) (t5 : R0) (t6 : Int) (t7 : Int) : Option Bool :=
 bif decide (t7 < t6) then
  grd (inb t7 t5) <|
  (Z2n N ((at_ (⟨#[]⟩, (0, 0)) t5 t7).1, ((at_ (⟨#[]⟩, (0, 0)) t5 t7).2))).bind fun r =>
  bif (!r) then some false
  else
  bif decide (t7 > 0) then
   grd (inb (w64 (t7 - 1)) a) <|
   bif (!slt ((at_ (⟨#[]⟩, (0, 0)) a (w64 (t7 - 1))).1) ((at_ (⟨#[]⟩, (0, 0)) t5 t7).1)) then some false
   else
   b a t5 t6 (w64 (t7 + 1))
  else
  b a t5 t6 (w64 (t7 + 1))
 else
 some (decide ((a.length : Int) <= 4))
def Z1w (N : Nat) : Nat -> T72
 | 0 => fun _ _ _ _ => none
 | k_ + 1 => Z3r N (Z1w N k_)
def Z6s (N : Nat) (b : T72) (a : R0) : Option Bool :=
 b a a (a.length : Int) 0
def Z10 (a : R0) : Option Bool := Z6s N (Z1w N N) a
def Z4n (v : Int) : Option Bool :=
 (Z0l N v 0 9).bind fun r =>
 some (!r)
def Z11 (a : T39) (s2 : I0) (t7 : Int) (t8 : Int) : Option Int :=
 bif decide (t8 < t7) then
  grd (inb t8 s2) <|
  (Z4n N (at_ 0 s2 t8)).bind fun r =>
  bif r then some t8
  else
  a s2 t7 (w64 (t8 + 1))
 else
 some (-1)
def Z0d (N : Nat) : Nat -> T39
 | 0 => fun _ _ _ => none
 | k_ + 1 => Z11 N (Z0d N k_)
def Z2o (N : Nat) (a : T39) (s : I0) : Option Int :=
 a s (s.length : Int) 0
def Z0k (s : I0) : Option Int := Z2o N (Z0d N N) s
def Z0e (s : I0) : Option Bool :=
 (Z0k N s).bind fun r =>
 some (decide (r >= 0))
def Z52 (a : I0) : Option Bool :=
 (Z0e N a).bind fun r =>
 some (!r)
def Z7q (b : R0) (a : Int × List Int) : Option Bool :=
 (Z0l N a.1 0 (w64 ((b.length : Int) - 1))).bind fun r =>
 bif r then
  grd (inb a.1 b) <|
  bif ((a.2.length : Int) == (((at_ (⟨#[]⟩, (0, 0)) b a.1).2).1)) then
   (Z52 N a.2).bind fun r2 =>
   some r2
  else
  some false
 else
 some false
def Z88 (N : Nat) (a : Int) (b : Int) : Option Int :=
 bif decide (a < b) then some (-1)
 else
 bif decide (a > b) then some 1
 else
 some 0
def Z5y (N : Nat) (x : Int) : Option Bool :=
 some (x != x)
def Z4i (x : Int) (y : Int) : Option Int :=
 (Z5y N x).bind fun r =>
 (Z5y N y).bind fun r2 =>
 bif r then
  bif r2 then some 0
  else
  some (-1)
 else
 bif r2 then some 1
 else
 bif decide (x < y) then some (-1)
 else
 bif decide (x > y) then some 1
 else
 some 0
def Z20 (e : T66) (c : I0) (b : I0) (t9 : I0) (d : Int) (a : Int) : Option Int :=
 bif decide (a < d) then
  grd (inb a t9) <|
  bif decide (a >= (b.length : Int)) then some 1
  else
  grd (inb a b) <|
  (Z4i N (at_ 0 t9 a) (at_ 0 b a)).bind fun r =>
  bif (r != 0) then some r
  else
  e c b t9 d (w64 (a + 1))
 else
 bif decide ((c.length : Int) < (b.length : Int)) then some (-1)
 else
 some 0
def Z17 (N : Nat) : Nat -> T66
 | 0 => fun _ _ _ _ _ => none
 | k_ + 1 => Z20 N (Z17 N k_)
def Z97 (N : Nat) (a : T66) (s1 : I0) (s2 : I0) : Option Int :=
 a s1 s2 s1 (s1.length : Int) 0
def Z2b (s1 : I0) (s2 : I0) : Option Int := Z97 N (Z17 N N) s1 s2
def Z3o (a : Int × List Int) (b : Int × List Int) : Option Int :=
 bif (a.1 != b.1) then
  (Z88 N a.1 b.1).bind fun r =>
  some r
 else
 (Z2b N a.2 b.2).bind fun r2 =>
 some r2
def Z4d (f : T63) (d : R0) (c : A0) (b : A0) (e : Int) (a : Int) : Option Bool :=
 bif decide (a < e) then
  grd (inb a b) <|
  (Z7q N d (at_ (0, []) b a)).bind fun r2 =>
  bif (!r2) then some false
  else
  bif decide (a > 0) then
   grd (inb (w64 (a - 1)) c) <|
   (Z3o N (at_ (0, []) c (w64 (a - 1))) (at_ (0, []) b a)).bind fun r3 =>
   bif decide (r3 >= 0) then some false
   else
   f d c b e (w64 (a + 1))
  else
  f d c b e (w64 (a + 1))
 else
 some true
def Z2c (N : Nat) : Nat -> T63
 | 0 => fun _ _ _ _ _ => none
 | k_ + 1 => Z4d N (Z2c N k_)
def Z7r (a : T63) (db : D0) : Option Bool :=
 (Z10 N db.1).bind fun r =>
 bif (!r) then some false
 else
 bif decide ((db.2.length : Int) > 14) then some false
 else
 a db.1 db.2 db.2 (db.2.length : Int) 0
def Z1e (db : D0) : Option Bool := Z7r N (Z2c N N) db
def Z67 (b : T61) (a : I0) (n2 : Int) (t7 : I0) (t8 : Int) (t9 : Int) : Option Bool :=
 bif decide (t9 < t8) then
  grd (inb t9 t7) <|
  (Z0l N (at_ 0 t7 t9) 0 (w64 (n2 - 1))).bind fun r =>
  bif (!r) then some false
  else
  bif decide (t9 > 0) then
   grd (inb (w64 (t9 - 1)) a) <|
   bif decide ((at_ 0 a (w64 (t9 - 1))) >= (at_ 0 t7 t9)) then some false
   else
   b a n2 t7 t8 (w64 (t9 + 1))
  else
  b a n2 t7 t8 (w64 (t9 + 1))
 else
 some true
def Z42 (N : Nat) : Nat -> T61
 | 0 => fun _ _ _ _ _ => none
 | k_ + 1 => Z67 N (Z42 N k_)
def Z9z (N : Nat) (b : T61) (a : I0) (n : Int) : Option Bool :=
 b a n a (a.length : Int) 0
def Z4j (a : I0) (n : Int) : Option Bool := Z9z N (Z42 N N) a n
def Z3g (N : Nat) (a : Int × List Int) (c1 : Int × List Int) : Option Bool :=
 some (a.1 == c1.1)
def Z0s (a : T51) (s2 : A0) (f : Int × List Int) (t7 : Int) (t8 : Int) : Option Int :=
 bif decide (t8 < t7) then
  grd (inb t8 s2) <|
  (Z3g N (at_ (0, []) s2 t8) f).bind fun r =>
  bif r then some t8
  else
  a s2 f t7 (w64 (t8 + 1))
 else
 some (-1)
def Z7 (N : Nat) : Nat -> T51
 | 0 => fun _ _ _ _ => none
 | k_ + 1 => Z0s N (Z7 N k_)
def Z1r (N : Nat) (a : T51) (s : A0) (c : Int × List Int) : Option Int :=
 a s c (s.length : Int) 0
def Z0a (s : A0) (c : Int × List Int) : Option Int := Z1r N (Z7 N N) s c
def Z3 (s : A0) (c : Int × List Int) : Option Bool :=
 (Z0a N s c).bind fun r =>
 some (decide (r >= 0))
def Z5k (N : Nat) (e : T77) (c : I0) (b : L0) (d : Int) (a : Int) : Option I0 :=
 bif decide (a < d) then
  grd (inb a b) <|
  grd (appOk c (at_ [] b a) 8) <|
  e (c ++ (at_ [] b a)) b d (w64 (a + 1))
 else
 some c
def Z1x (N : Nat) : Nat -> T77
 | 0 => fun _ _ _ _ => none
 | k_ + 1 => Z5k N (Z1x N k_)
def Z5l (e : T77) (f : T68) (b : L0) (c : Int) (t9 : L0) (d : Int) (a : Int) : Option I0 :=
 bif decide (a < d) then
  grd (inb a t9) <|
  bif decide ((w64 (c + ((at_ [] t9 a).length : Int))) < 0) then none
  else
  f b (w64 (c + ((at_ [] t9 a).length : Int))) t9 d (w64 (a + 1))
 else
 (Z8i N [] c).bind fun r =>
 e r b (b.length : Int) 0
def Z32 (N : Nat) : Nat -> T68
 | 0 => fun _ _ _ _ _ => none
 | k_ + 1 => Z5l N (Z1x N N) (Z32 N k_)
def Z9k (N : Nat) (b : T68) (a : L0) : Option I0 :=
 b a 0 a (a.length : Int) 0
def Z2w (a : L0) : Option I0 := Z9k N (Z32 N N) a
def Z68 (a : I0) (b : I0) : Option I0 :=
 (Z2w N [a, b]).bind fun r =>
 (Z1d N r).bind fun m =>
 (Z74 N m).bind fun r2 =>
 some r2
def Z75 (c : T35) (b : I0) (t8 : I0) (t9 : Int) (a : Int) : Option I0 :=
 bif decide (a < t9) then
  grd (inb a t8) <|
  (Z0l N (at_ 0 t8 a) 0 3).bind fun r =>
  bif r then
   grd (appOk b [(at_ 0 t8 a)] 8) <|
   c (b ++ [(at_ 0 t8 a)]) t8 t9 (w64 (a + 1))
  else
  c b t8 t9 (w64 (a + 1))
 else
 (Z68 N b []).bind fun r2 =>
 some r2
def Z43 (N : Nat) : Nat -> T35
 | 0 => fun _ _ _ _ => none
 | k_ + 1 => Z75 N (Z43 N k_)
def Z8p (N : Nat) (b : T35) (a : Int × List Int) : Option I0 :=
 b [] a.2 (a.2.length : Int) 0
def Z39 (a : Int × List Int) : Option I0 := Z8p N (Z43 N N) a
def Z5c (n : T18) (o : T21) (d : R0) (b : Int) (e : A0) (f : I0) (g : I0) (h : Int) (i : I0) (j : A0) (k : Int) (l : Int) (c : I0) (m : Int) (a : Int) : Option Bool :=
 bif decide (a < m) then
  grd (inb a c) <|
  (Z0l N (at_ 0 c a) (-10) (w64 (b - 1))).bind fun r7 =>
  bif (!r7) then some false
  else
  o d b e f g h i j k l c m (w64 (a + 1))
 else
 (Z39 N (h, i)).bind fun r8 =>
 (Z68 N g r8).bind fun r9 =>
 n d b e f r9 j k (w64 (l + 1))
def Z2p (a : T18) (N : Nat) : Nat -> T21
 | 0 => fun _ _ _ _ _ _ _ _ _ _ _ _ _ => none
 | k_ + 1 => Z5c N a (Z2p a N k_)
def Z7s (h : T21) (j : T18) (c : R0) (e : Int) (d : A0) (i : I0) (f : I0) (b : A0) (g : Int) (a : Int) : Option Bool :=
 bif decide (a < g) then
  grd (inb a b) <|
  (Z0l N ((at_ (0, []) b a).1) 0 (w64 ((c.length : Int) - 1))).bind fun r5 =>
  bif (!r5) then some false
  else
  grd (inb ((at_ (0, []) b a).1) c) <|
  bif ((((at_ (0, []) b a).2).length : Int) != (((at_ (⟨#[]⟩, (0, 0)) c ((at_ (0, []) b a).1)).2).1)) then some false
  else
  grd (subOk 0 a d.length) <|
  (Z3 N (d.take a.toNat) (at_ (0, []) b a)).bind fun r6 =>
  bif r6 then some false
  else
  h c e d i f ((at_ (0, []) b a).1) ((at_ (0, []) b a).2) b g a ((at_ (0, []) b a).2) (((at_ (0, []) b a).2).length : Int) 0
 else
 some ((f.length : Int) == e)
def Z3h (N : Nat) : Nat -> T18
 | 0 => fun _ _ _ _ _ _ _ _ => none
 | k_ + 1 => Z7s N (Z2p (Z3h N k_) N N) (Z3h N k_)
def Z91 (c : T18) (b : R0) (a : Q0) : Option Bool :=
 (Z10 N b).bind fun r =>
 bif (!r) then some false
 else
 (Z0l N a.1 0 4).bind fun r2 =>
 bif (!r2) then some false
 else
 (Z0l N (a.2.1.length : Int) 1 3).bind fun r3 =>
 bif (!r3) then some false
 else
 (Z4j N a.2.2 a.1).bind fun r4 =>
 bif (!r4) then some false
 else
 c b a.1 a.2.1 a.2.2 [] a.2.1 (a.2.1.length : Int) 0
def Z3p (a : R0) (b : Q0) : Option Bool := Z91 N (Z3h N N) a b
def Z33 (db : D0) (a : Q0) : Option Bool :=
 (Z1e N db).bind fun r =>
 bif r then
  (Z3p N db.1 a).bind fun r2 =>
  some r2
 else
 some false
def Z2d (w : Int) : Option Bool :=
 (Z0l N w 1 9).bind fun r =>
 some (!r)
def Z0p (a : T39) (s2 : I0) (t7 : Int) (t8 : Int) : Option Int :=
 bif decide (t8 < t7) then
  grd (inb t8 s2) <|
  (Z2d N (at_ 0 s2 t8)).bind fun r =>
  bif r then some t8
  else
  a s2 t7 (w64 (t8 + 1))
 else
 some (-1)
def Z5 (N : Nat) : Nat -> T39
 | 0 => fun _ _ _ => none
 | k_ + 1 => Z0p N (Z5 N k_)
def Z1m (N : Nat) (a : T39) (s : I0) : Option Int :=
 a s (s.length : Int) 0
def Z9 (s : I0) : Option Int := Z1m N (Z5 N N) s
def Z6 (s : I0) : Option Bool :=
 (Z9 N s).bind fun r =>
 some (decide (r >= 0))
def Z1f (db : D0) (a : I0) : Option Bool :=
 (Z1e N db).bind fun r =>
 bif r then
  bif ((a.length : Int) == (db.2.length : Int)) then
   (Z6 N a).bind fun r2 =>
   some (!r2)
  else
  some false
 else
 some false
def Z5m (n : Int) : Option I0 :=
 (Z7j N [(-1)] n).bind fun r =>
 some r
def Z5u (N : Nat) (t : Int) : Option Bool :=
 some (decide (t >= 0))
def Z4o (N : Nat) (v : Int) : Option Int :=
 some (w64 ((-1) - v))
def Z0ar (f : T47) (d : I0) (c : I0) (b : I0) (e : Int) (a : Int) : Option (List Int × Bool) :=
 bif decide (a < e) then
  grd (inb a b) <|
  (Z5u N (at_ 0 b a)).bind fun r2 =>
  bif (!r2) then
   (Z4o N (at_ 0 b a)).bind fun r3 =>
   grd (inb a d) <|
   bif (r3 != (at_ 0 d a)) then some ([], false)
   else
   f d c b e (w64 (a + 1))
  else
  grd (inb (at_ 0 b a) c) <|
  bif decide ((at_ 0 c (at_ 0 b a)) < 0) then
   grd (inb a d) <|
   grd (inb (at_ 0 b a) c) <|
   grd (inb (at_ 0 b a) c) <|
   letv (c.set (at_ 0 b a).toNat (at_ 0 d a)) fun u =>
   f d u b e (w64 (a + 1))
  else
  grd (inb (at_ 0 b a) c) <|
  grd (inb a d) <|
  bif ((at_ 0 c (at_ 0 b a)) != (at_ 0 d a)) then some ([], false)
  else
  f d c b e (w64 (a + 1))
 else
 some (c, true)
def Z8v (N : Nat) : Nat -> T47
 | 0 => fun _ _ _ _ _ => none
 | k_ + 1 => Z0ar N (Z8v N k_)
def Z0bt (b : T47) (c : I0) (a : I0) (d : I0) : Option (List Int × Bool) :=
 (Z1z N c).bind fun r =>
 b d r a (a.length : Int) 0
def Z8q (a : I0) (b : I0) (c : I0) : Option (List Int × Bool) := Z0bt N (Z8v N N) a b c
def Z5n (Rf : T8) (j : T12) (e : I0) (f : I0) (t3 : List (List Int × List Int)) (c : Q0) (d : D0) (g : Int) (h : I0) (b : A0) (i : Int) (a : Int) : Option (List (List Int × List Int)) :=
 bif decide (a < i) then
  grd (inb a b) <|
  bif (((at_ (0, []) b a).1) != g) then
   j e f t3 c d g h b i (w64 (a + 1))
  else
  (Z8q N e h ((at_ (0, []) b a).2)).bind fun k =>
  bif k.2 then
   (Z1z N f).bind fun r5 =>
   grd (appOk r5 [a] 8) <|
   (Rf k.1 (r5 ++ [a]) c t3 d c d).bind fun m =>
   j e f m c d g h b i (w64 (a + 1))
  else
  j e f t3 c d g h b i (w64 (a + 1))
 else
 some t3
def Z34 (N : Nat) (Rf : T8) : Nat -> T12
 | 0 => fun _ _ _ _ _ _ _ _ _ _ => none
 | k_ + 1 => Z5n N Rf (Z34 N Rf k_)
def Z4k (Rf : T8) (c : T12) (b : I0) (a : I0) (c2 : Q0) (c3 : List (List Int × List Int)) (c4 : D0) (d : Q0) (e : D0) : Option (List (List Int × List Int)) :=
 bif ((a.length : Int) == (c2.2.1.length : Int)) then
  (Z1z N b).bind fun r =>
  (Z1z N a).bind fun r2 =>
  grd (appOk c3 [(r, r2)] 48) <|
  some (c3 ++ [(r, r2)])
 else
 grd (inb (a.length : Int) c2.2.1) <|
 c b a c3 d e ((at_ (0, []) c2.2.1 (a.length : Int)).1) ((at_ (0, []) c2.2.1 (a.length : Int)).2) c4.2 (c4.2.length : Int) 0
def Z0t (N : Nat) : Nat -> T8
 | 0 => fun _ _ _ _ _ _ _ => none
 | k_ + 1 => Z4k N (Z0t N k_) (Z34 N (Z0t N k_) N)
def Z2x (a : I0) (b : I0) (c2 : Q0) (c3 : List (List Int × List Int)) (c4 : D0) (c : Q0) (d : D0) : Option (List (List Int × List Int)) := Z0t N N a b c2 c3 c4 c d
def Z30 (db : D0) (a : Q0) : Option (List (List Int × List Int)) :=
 (Z33 N db a).bind fun r =>
 bif (!r) then some []
 else
 (Z5m N a.1).bind fun r2 =>
 (Z2x N r2 [] a [] db a db).bind fun m =>
 some m
def Z92 (e : T34) (b : L0) (c : List (List Int × List Int)) (f : Int) (d : Int) (a : Int) : Option L0 :=
 bif decide (a < d) then
  grd (decide (f <= a) && (inb a c)) <|
  (Z1d N ((at_ ([], []) c a).2)).bind fun m2 =>
  grd (appOk b [m2] 24) <|
  e (b ++ [m2]) c (a + 1) d (w64 (a + 1))
 else
 some b
def Z64 (N : Nat) : Nat -> T34
 | 0 => fun _ _ _ _ _ => none
 | k_ + 1 => Z92 N (Z64 N k_)
def Z93 (e : T34) (f : T40) (b : L0) (c : List (List Int × List Int)) (d : Int) (a : Int) : Option L0 :=
 bif decide (a < d) then
  grd (inb a c) <|
  (Z1d N ((at_ ([], []) c a).2)).bind fun m =>
  grd (appOk b [m] 24) <|
  e (b ++ [m]) c (a + 1) d (w64 (a + 1))
 else
 some b
def Z7y (N : Nat) : Nat -> T40
 | 0 => fun _ _ _ _ => none
 | k_ + 1 => Z93 N (Z64 N k_) (Z7y N k_)
def Z0aa (a : T40) (db : D0) (b : Q0) : Option L0 :=
 (Z30 N db b).bind fun r =>
 a [] r (r.length : Int) 0
def Z53 (db : D0) (a : Q0) : Option L0 := Z0aa N (Z7y N N) db a
def Z3x (N : Nat) (e : T73) (b : I0) (c : I0) (d : Int) (a : Int) : Option Bool :=
 bif decide (a < d) then
  grd (inb a b) <|
  grd (inb a c) <|
  bif ((at_ 0 b a) != (at_ 0 c a)) then some false
  else
  e b c d (w64 (a + 1))
 else
 some true
def Z21 (N : Nat) : Nat -> T73
 | 0 => fun _ _ _ _ => none
 | k_ + 1 => Z3x N (Z21 N k_)
def Z76 (N : Nat) (a : T73) (s1 : I0) (s2 : I0) : Option Bool :=
 bif ((s1.length : Int) != (s2.length : Int)) then some false
 else
 a s1 s2 (s1.length : Int) 0
def Z22 (s1 : I0) (s2 : I0) : Option Bool := Z76 N (Z21 N N) s1 s2
def Z6u (c : R0) (a : Int × List Int) (b : Int × List Int) : Option Bool :=
 bif (a.1 != b.1) then some false
 else
 grd (inb a.1 c) <|
 grd (subOk 0 (((at_ (⟨#[]⟩, (0, 0)) c a.1).2).2) a.2.length) <|
 grd (subOk 0 (((at_ (⟨#[]⟩, (0, 0)) c a.1).2).2) b.2.length) <|
 (Z22 N (a.2.take (((at_ (⟨#[]⟩, (0, 0)) c a.1).2).2).toNat) (b.2.take (((at_ (⟨#[]⟩, (0, 0)) c a.1).2).2).toNat)).bind fun r =>
 some r
def Z8r (f : T62) (d : R0) (c : A0) (a : L0) (t9 : A0) (e : Int) (b : Int) : Option L0 :=
 bif decide (b < e) then
  grd (inb b t9) <|
  bif decide ((w64 ((a.length : Int) - 1)) >= 0) then
   grd (inb (w64 ((a.length : Int) - 1)) a) <|
   grd (inb 0 (at_ [] a (w64 ((a.length : Int) - 1)))) <|
   grd (inb (at_ 0 (at_ [] a (w64 ((a.length : Int) - 1))) 0) c) <|
   (Z6u N d (at_ (0, []) c (at_ 0 (at_ [] a (w64 ((a.length : Int) - 1))) 0)) (at_ (0, []) t9 b)).bind fun r =>
   bif r then
    grd (inb (w64 ((a.length : Int) - 1)) a) <|
    grd (inb (w64 ((a.length : Int) - 1)) a) <|
    grd (appOk (at_ [] a (w64 ((a.length : Int) - 1))) [b] 8) <|
    grd (inb (w64 ((a.length : Int) - 1)) a) <|
    grd (growOk (w64 ((a.length : Int) - 1)) (w64 ((a.length : Int) - 1)) a) <|
    letv (a.set (w64 ((a.length : Int) - 1)).toNat ((at_ [] a (w64 ((a.length : Int) - 1))) ++ [b])) fun u =>
    f d c u t9 e (w64 (b + 1))
   else
   grd (appOk a [[b]] 24) <|
   f d c (a ++ [[b]]) t9 e (w64 (b + 1))
  else
  grd (appOk a [[b]] 24) <|
  f d c (a ++ [[b]]) t9 e (w64 (b + 1))
 else
 some a
def Z44 (N : Nat) : Nat -> T62
 | 0 => fun _ _ _ _ _ _ => none
 | k_ + 1 => Z8r N (Z44 N k_)
def Z0d4 (N : Nat) (a : T62) (db : D0) : Option L0 :=
 a db.1 db.2 [] db.2 (db.2.length : Int) 0
def Z6m (db : D0) : Option L0 := Z0d4 N (Z44 N N) db
def Z5d (N : Nat) (b : T74) (a : Int) (t6 : L0) (t7 : Int) (t8 : Int) : Option Int :=
 bif decide (t8 < t7) then
  grd (inb t8 t6) <|
  b (w64 (a * ((at_ [] t6 t8).length : Int))) t6 t7 (w64 (t8 + 1))
 else
 some a
def Z3i (N : Nat) : Nat -> T74
 | 0 => fun _ _ _ _ => none
 | k_ + 1 => Z5d N (Z3i N k_)
def Z0ax (N : Nat) (b : T74) (a : L0) : Option Int :=
 b 1 a (a.length : Int) 0
def Z4p (a : L0) : Option Int := Z0ax N (Z3i N N) a
def Z71 (N : Nat) (d : T78) (a : L0) (c : Int) (b : I0) (i : Int) : Option I0 :=
 bif decide (i >= 0) then
  grd (inb i a) <|
  grd (inb i a) <|
  grz ((at_ [] a i).length : Int) <|
  grd (inb (c.tmod ((at_ [] a i).length : Int)) (at_ [] a i)) <|
  grd (inb i b) <|
  grd (inb i b) <|
  letv (b.set i.toNat (at_ 0 (at_ [] a i) (c.tmod ((at_ [] a i).length : Int)))) fun u =>
  grd (inb i a) <|
  grz ((at_ [] a i).length : Int) <|
  d a (w64 (c.tdiv ((at_ [] a i).length : Int))) u (w64 (i - 1))
 else
 some b
def Z4q (N : Nat) : Nat -> T78
 | 0 => fun _ _ _ _ => none
 | k_ + 1 => Z71 N (Z4q N k_)
def Z0ab (N : Nat) (b : T78) (a : L0) (c : Int) : Option I0 :=
 grd (makeOk (a.length : Int) 8) <|
 b a c (List.replicate (a.length : Int).toNat 0) (w64 ((a.length : Int) - 1))
def Z54 (a : L0) (b : Int) : Option I0 := Z0ab N (Z4q N N) a b
def Z3y (N : Nat) (a : T75) (s2 : I0) (v2 : Int) (t7 : Int) (t8 : Int) : Option Int :=
 bif decide (t8 < t7) then
  grd (inb t8 s2) <|
  bif (v2 == (at_ 0 s2 t8)) then some t8
  else
  a s2 v2 t7 (w64 (t8 + 1))
 else
 some (-1)
def Z23 (N : Nat) : Nat -> T75
 | 0 => fun _ _ _ _ => none
 | k_ + 1 => Z3y N (Z23 N k_)
def Z77 (N : Nat) (a : T75) (s : I0) (v : Int) : Option Int :=
 a s v (s.length : Int) 0
def Z35 (s : I0) (v : Int) : Option Int := Z77 N (Z23 N N) s v
def Z1i (s : I0) (v : Int) : Option Bool :=
 (Z35 N s v).bind fun r =>
 some (decide (r >= 0))
def Z55 (n : Int) (c1 : I0) : Option Bool :=
 (Z1i N c1 n).bind fun r =>
 some (!r)
def Z13 (a : T29) (s2 : I0) (f : I0) (t7 : Int) (t8 : Int) : Option Int :=
 bif decide (t8 < t7) then
  grd (inb t8 s2) <|
  (Z55 N (at_ 0 s2 t8) f).bind fun r =>
  bif r then some t8
  else
  a s2 f t7 (w64 (t8 + 1))
 else
 some (-1)
def Z0g (N : Nat) : Nat -> T29
 | 0 => fun _ _ _ _ => none
 | k_ + 1 => Z13 N (Z0g N k_)
def Z2v (N : Nat) (a : T29) (s : I0) (c : I0) : Option Int :=
 a s c (s.length : Int) 0
def Z0m (s : I0) (c : I0) : Option Int := Z2v N (Z0g N N) s c
def Z0h (s : I0) (c : I0) : Option Bool :=
 (Z0m N s c).bind fun r =>
 some (decide (r >= 0))
def Z5z (a : I0) (b : I0) : Option Bool :=
 (Z0h N a b).bind fun r =>
 some (!r)
def Z4r (a : I0) (c1 : I0) : Option Bool :=
 (Z5z N a c1).bind fun r =>
 some r
def Z0x (a : T76) (s2 : L0) (f : I0) (t7 : Int) (t8 : Int) : Option Int :=
 bif decide (t8 < t7) then
  grd (inb t8 s2) <|
  (Z4r N (at_ [] s2 t8) f).bind fun r =>
  bif r then some t8
  else
  a s2 f t7 (w64 (t8 + 1))
 else
 some (-1)
def Z0b (N : Nat) : Nat -> T76
 | 0 => fun _ _ _ _ => none
 | k_ + 1 => Z0x N (Z0b N k_)
def Z24 (N : Nat) (a : T76) (s : L0) (c : I0) : Option Int :=
 a s c (s.length : Int) 0
def Z0i (s : L0) (c : I0) : Option Int := Z24 N (Z0b N N) s c
def Z0c (s : L0) (c : I0) : Option Bool :=
 (Z0i N s c).bind fun r =>
 some (decide (r >= 0))
def Z45 (a : L0) (b : I0) : Option Bool :=
 (Z0c N a b).bind fun r =>
 some r
def Z9l (N : Nat) (d : T64) (b : I0) (c : Int) (t8 : I0) (t9 : Int) (a : Int) : Option Int :=
 bif decide (a < t9) then
  grd (inb a t8) <|
  grd (inb (at_ 0 t8 a) b) <|
  d b (w64 (c * (at_ 0 b (at_ 0 t8 a)))) t8 t9 (w64 (a + 1))
 else
 some c
def Z6v (N : Nat) : Nat -> T64
 | 0 => fun _ _ _ _ _ => none
 | k_ + 1 => Z9l N (Z6v N k_)
def Z0as (N : Nat) (b : T64) (c : I0) (a : I0) : Option Int :=
 b c 1 a (a.length : Int) 0
def Z60 (a : I0) (b : I0) : Option Int := Z0as N (Z6v N N) a b
def Z46 (N : Nat) (j : T32) (k : T28) (b : I0) (d : Int) (e : Int) (f : L0) (g : Int) (h : Int) (l : Int) (c : I0) (i : Int) (a : Int) : Option Int :=
 bif decide (a < i) then
  grd (inb a c) <|
  grd (inb (at_ 0 c a) b) <|
  k b d (w64 (e + (at_ 0 b (at_ 0 c a)))) f g h l c i (w64 (a + 1))
 else
 j b (w64 (d * e)) f g (w64 (h + 1))
def Z1k (a : T32) (N : Nat) : Nat -> T28
 | 0 => fun _ _ _ _ _ _ _ _ _ _ => none
 | k_ + 1 => Z46 N a (Z1k a N k_)
def Z47 (N : Nat) (e : T28) (g : T32) (f : I0) (c : Int) (b : L0) (d : Int) (a : Int) : Option Int :=
 bif decide (a < d) then
  grd (inb a b) <|
  e f c 0 b d a a (at_ [] b a) ((at_ [] b a).length : Int) 0
 else
 some c
def Z15 (N : Nat) : Nat -> T32
 | 0 => fun _ _ _ _ _ => none
 | k_ + 1 => Z47 N (Z1k (Z15 N k_) N N) (Z15 N k_)
def Z7d (b : T32) (db : D0) (a : I0) : Option Int :=
 (Z1f N db a).bind fun r =>
 bif (!r) then some 0
 else
 (Z6m N db).bind fun r2 =>
 b a 1 r2 (r2.length : Int) 0
def Z1u (db : D0) (a : I0) : Option Int := Z7d N (Z15 N N) db a
def Z0bd (N : Nat) (a : T52) (a2 : Int) (b2 : Int) : Option Int :=
 bif (b2 != 0) then
  grz b2 <|
  a b2 (a2.tmod b2)
 else
 some a2
def Z0a5 (N : Nat) : Nat -> T52
 | 0 => fun _ _ => none
 | k_ + 1 => Z0bd N (Z0a5 N k_)
def Z0cx (N : Nat) (c : T52) (a : Int) (b : Int) : Option Int :=
 c a b
def Z0b2 (a : Int) (b : Int) : Option Int := Z0cx N (Z0a5 N N) a b
def Z5o (a : Int) (b : Int) : Option (Int × Int) :=
 (Z0b2 N a b).bind fun r =>
 grz (imax r 1) <|
 grz (imax r 1) <|
 some ((w64 (a.tdiv (imax r 1))), (w64 (b.tdiv (imax r 1))))
def Z89 (i : T22) (a : I0) (c : R0) (d : A0) (t6 : Int) (j : Int) (e : L0) (f : L0) (g : Int) (h : Int) (b : Int) : Option ((Int × Int) × Bool) :=
 bif decide (b < h) then
  (Z54 N f b).bind fun r6 =>
  (Z45 N e r6).bind fun r7 =>
  bif r7 then
   (Z60 N a r6).bind fun r8 =>
   i a c d t6 j e f (w64 (g + r8)) h (w64 (b + 1))
  else
  i a c d t6 j e f g h (w64 (b + 1))
 else
 (Z1u N (c, d) a).bind fun r9 =>
 (Z5o N g r9).bind fun k =>
 some (k, true)
def Z3u (N : Nat) : Nat -> T22
 | 0 => fun _ _ _ _ _ _ _ _ _ _ => none
 | k_ + 1 => Z89 N (Z3u N k_)
def Z9m (c : T22) (db : D0) (a : I0) (b : Q0) : Option ((Int × Int) × Bool) :=
 (Z33 N db b).bind fun r =>
 bif (!r) then some ((0, 0), false)
 else
 (Z1f N db a).bind fun r2 =>
 bif (!r2) then some ((0, 0), false)
 else
 (Z53 N db b).bind fun r3 =>
 (Z6m N db).bind fun r4 =>
 (Z4p N r4).bind fun r5 =>
 c a db.1 db.2 0 0 r3 r4 0 r5 0
def Z18 (db : D0) (a : I0) (b : Q0) : Option ((Int × Int) × Bool) := Z9m N (Z3u N N) db a b
def Z0y (db : D0) (b : I0) (c : Q0) : Option ((Int × Int) × Bool) :=
 (Z18 N db b c).bind fun a =>
 some (a.1, a.2)
def Z2 (d : D0) (q : Q0) : Option Bool :=
 (Z1 N d).bind fun r =>
 bif r then
  (Z1y N d.1 q).bind fun r2 =>
  some r2
 else
 some false
def Z4e (a : T30) (w2 : I0) (d2 : R0) (d3 : A0) (i : Int) : Option Bool :=
 bif decide (i < (w2.length : Int)) then
  grd (inb i w2) <|
  (Z0j N (at_ 0 w2 i) 1 9).bind fun r =>
  bif (!r) then some false
  else
  a w2 d2 d3 (w64 (i + 1))
 else
 (Z1 N (d2, d3)).bind fun r2 =>
 bif r2 then some ((w2.length : Int) == (d3.length : Int))
 else
 some false
def Z2e (N : Nat) : Nat -> T30
 | 0 => fun _ _ _ _ => none
 | k_ + 1 => Z4e N (Z2e N k_)
def Z7u (N : Nat) (a : T30) (d : D0) (w : I0) : Option Bool :=
 a w d.1 d.2 0
def Z0u (d : D0) (w : I0) : Option Bool := Z7u N (Z2e N N) d w
def Z0a0 (N : Nat) (a : T88) (n2 : Int) (l : I0) : Option I0 :=
 bif decide ((l.length : Int) < n2) then
  grd (appOk l [(-1)] 8) <|
  a n2 (l ++ [(-1)])
 else
 some l
def Z7e (N : Nat) : Nat -> T88
 | 0 => fun _ _ => none
 | k_ + 1 => Z0a0 N (Z7e N k_)
def Z0co (N : Nat) (a : T88) (n : Int) : Option I0 :=
 a n []
def Z6w (n : Int) : Option I0 := Z0co N (Z7e N N) n
def Z0a1 (N : Nat) (a : T41) (a2 : Int) (a3 : I0) (f2 : Int) (f3 : I0) (x : I0) (i : Int) : Option (List Int × Bool) :=
 bif decide (i < (a3.length : Int)) then
  grd (inb i a3) <|
  bif decide ((at_ 0 a3 i) < 0) then
   grd (inb i f3) <|
   bif ((w64 ((-1) - (at_ 0 a3 i))) != (at_ 0 f3 i)) then some (x, false)
   else
   a a2 a3 f2 f3 x (w64 (i + 1))
  else
  grd (inb (at_ 0 a3 i) x) <|
  bif decide ((at_ 0 x (at_ 0 a3 i)) >= 0) then
   grd (inb (at_ 0 a3 i) x) <|
   grd (inb i f3) <|
   bif ((at_ 0 x (at_ 0 a3 i)) != (at_ 0 f3 i)) then some (x, false)
   else
   grd (inb i f3) <|
   grd (inb (at_ 0 a3 i) x) <|
   grd (inb (at_ 0 a3 i) x) <|
   letv (x.set (at_ 0 a3 i).toNat (at_ 0 f3 i)) fun u =>
   a a2 a3 f2 f3 u (w64 (i + 1))
  else
  grd (inb i f3) <|
  grd (inb (at_ 0 a3 i) x) <|
  grd (inb (at_ 0 a3 i) x) <|
  letv (x.set (at_ 0 a3 i).toNat (at_ 0 f3 i)) fun u2 =>
  a a2 a3 f2 f3 u2 (w64 (i + 1))
 else
 some (x, true)
def Z7f (N : Nat) : Nat -> T41
 | 0 => fun _ _ _ _ _ _ => none
 | k_ + 1 => Z0a1 N (Z7f N k_)
def Z0b3 (N : Nat) (c : T41) (a : Int × List Int) (f : Int × List Int) (b : I0) : Option (List Int × Bool) :=
 grd (appOk [] b 8) <|
 bif (f.1 != a.1) then some (b, false)
 else
 bif ((f.2.length : Int) != (a.2.length : Int)) then some (b, false)
 else
 c a.1 a.2 f.1 f.2 b 0
def Z6x (a : Int × List Int) (f : Int × List Int) (b : I0) : Option (List Int × Bool) := Z0b3 N (Z7f N N) a f b
def Z0a2 (Rf : T23) (d : T13) (k2 : Int) (c : I0) (a : I0) (d2 : R0) (d3 : A0) (q2 : Int) (q3 : A0) (q4 : I0) (b : List (List Int × List Int)) (i : Int) : Option (List (List Int × List Int)) :=
 bif decide (i < (d3.length : Int)) then
  grd (inb k2 q3) <|
  grd (inb i d3) <|
  (Z6x N (at_ (0, []) q3 k2) (at_ (0, []) d3 i) c).bind fun e =>
  bif e.2 then
   grd (appOk [] a 8) <|
   grd (appOk a [i] 8) <|
   (Rf (d2, d3) (q2, q3, q4) (w64 (k2 + 1)) e.1 (a ++ [i])).bind fun r3 =>
   grd (appOk b r3 48) <|
   d k2 c a d2 d3 q2 q3 q4 (b ++ r3) (w64 (i + 1))
  else
  d k2 c a d2 d3 q2 q3 q4 b (w64 (i + 1))
 else
 some b
def Z7g (N : Nat) (Rf : T23) : Nat -> T13
 | 0 => fun _ _ _ _ _ _ _ _ _ _ => none
 | k_ + 1 => Z0a2 N Rf (Z7g N Rf k_)
def Z9r (N : Nat) (Rf : T23) (c : T13) (d : D0) (q : Q0) (k : Int) (a : I0) (b : I0) : Option (List (List Int × List Int)) :=
 bif (k == (q.2.1.length : Int)) then
  grd (appOk [] a 8) <|
  grd (appOk [] b 8) <|
  some [(a, b)]
 else
 c k a b d.1 d.2 q.1 q.2.1 q.2.2 [] 0
def Z3j (N : Nat) : Nat -> T23
 | 0 => fun _ _ _ _ _ => none
 | k_ + 1 => Z9r N (Z3j N k_) (Z7g N (Z3j N k_) N)
def Z8a (d : D0) (q : Q0) (k : Int) (a : I0) (b : I0) : Option (List (List Int × List Int)) := Z3j N N d q k a b
def Z31 (d : D0) (q : Q0) : Option (List (List Int × List Int)) :=
 (Z2 N d q).bind fun r =>
 bif (!r) then some []
 else
 (Z6w N q.1).bind fun r2 =>
 (Z8a N d q 0 r2 []).bind fun r3 =>
 some r3
def Z48 (N : Nat) (b : T60) (c : T35) (l3 : I0) (a : I0) (i2 : Int) (k : Int) : Option I0 :=
 bif decide (k > 0) then
  grd (inb (w64 (k - 1)) a) <|
  grd (inb i2 l3) <|
  bif decide ((at_ 0 a (w64 (k - 1))) > (at_ 0 l3 i2)) then c l3 a i2 (w64 (k - 1))
  else
  grd (subOk 0 k a.length) <|
  grd (appOk [] (a.take k.toNat) 8) <|
  grd (inb i2 l3) <|
  grd (appOk (a.take k.toNat) [(at_ 0 l3 i2)] 8) <|
  grd (subOk k (a.length : Int) a.length) <|
  grd (appOk ((a.take k.toNat) ++ [(at_ 0 l3 i2)]) (a.drop k.toNat) 8) <|
  b l3 (((a.take k.toNat) ++ [(at_ 0 l3 i2)]) ++ (a.drop k.toNat)) (w64 (i2 + 1))
 else
 grd (subOk 0 k a.length) <|
 grd (appOk [] (a.take k.toNat) 8) <|
 grd (inb i2 l3) <|
 grd (appOk (a.take k.toNat) [(at_ 0 l3 i2)] 8) <|
 grd (subOk k (a.length : Int) a.length) <|
 grd (appOk ((a.take k.toNat) ++ [(at_ 0 l3 i2)]) (a.drop k.toNat) 8) <|
 b l3 (((a.take k.toNat) ++ [(at_ 0 l3 i2)]) ++ (a.drop k.toNat)) (w64 (i2 + 1))
def Z2q (a : T60) (N : Nat) : Nat -> T35
 | 0 => fun _ _ _ _ => none
 | k_ + 1 => Z48 N a (Z2q a N k_)
def Z5p (N : Nat) (b : T35) (c : T60) (l2 : I0) (a : I0) (i : Int) : Option I0 :=
 bif decide (i < (l2.length : Int)) then b l2 a i (a.length : Int)
 else
 some a
def Z0z (N : Nat) : Nat -> T60
 | 0 => fun _ _ _ => none
 | k_ + 1 => Z5p N (Z2q (Z0z N k_) N N) (Z0z N k_)
def Z98 (N : Nat) (a : T60) (l : I0) : Option I0 :=
 a l [] 0
def Z19 (l : I0) : Option I0 := Z98 N (Z0z N N) l
def Z99 (a : T30) (l2 : I0) (d2 : R0) (d3 : A0) (i : Int) : Option Bool :=
 bif decide (i < (l2.length : Int)) then
  grd (inb i l2) <|
  (Z0j N (at_ 0 l2 i) 0 (w64 ((d3.length : Int) - 1))).bind fun r =>
  bif (!r) then some false
  else
  bif decide (i > 0) then
   grd (inb i l2) <|
   grd (inb (w64 (i - 1)) l2) <|
   bif decide ((at_ 0 l2 i) <= (at_ 0 l2 (w64 (i - 1)))) then some false
   else
   a l2 d2 d3 (w64 (i + 1))
  else
  a l2 d2 d3 (w64 (i + 1))
 else
 some true
def Z79 (N : Nat) : Nat -> T30
 | 0 => fun _ _ _ _ => none
 | k_ + 1 => Z99 N (Z79 N k_)
def Z0bv (N : Nat) (a : T30) (d : D0) (l : I0) : Option Bool :=
 a l d.1 d.2 0
def Z6a (d : D0) (l : I0) : Option Bool := Z0bv N (Z79 N N) d l
def Z8b (N : Nat) (a : T38) (l2 : I0) (d2 : R0) (d3 : A0) (t4 : R0) (b : A0) (x : R0) (x2 : A0) (i : Int) : Option (D0 × Bool) :=
 bif decide (i < (l2.length : Int)) then
  grd (inb i l2) <|
  grd (inb (at_ 0 l2 i) d3) <|
  grd (appOk [] ((at_ (0, []) d3 (at_ 0 l2 i)).2) 8) <|
  grd (appOk x2 [(at_ (0, []) d3 (at_ 0 l2 i))] 32) <|
  a l2 d2 d3 t4 b x (x2 ++ [(at_ (0, []) d3 (at_ 0 l2 i))]) (w64 (i + 1))
 else
 some ((x, x2), true)
def Z4w (N : Nat) : Nat -> T38
 | 0 => fun _ _ _ _ _ _ _ _ => none
 | k_ + 1 => Z8b N (Z4w N k_)
def Z9n (a : T38) (d : D0) (l : I0) : Option (D0 × Bool) :=
 (Z1 N d).bind fun r =>
 bif (!r) then some (([], []), false)
 else
 (Z6a N d l).bind fun r2 =>
 bif (!r2) then some (([], []), false)
 else
 grd (appOk [] d.1 32) <|
 a l d.1 d.2 [] [] d.1 [] 0
def Z1v (d : D0) (l : I0) : Option (D0 × Bool) := Z9n N (Z4w N N) d l
def Z7h (l : R0) (f : Int × List Int) : Option I0 :=
 (Z0r N l f).bind fun r =>
 bif (!r) then some []
 else
 grd (inb f.1 l) <|
 grd (subOk 0 (((at_ (⟨#[]⟩, (0, 0)) l f.1).2).2) f.2.length) <|
 grd (appOk [] (f.2.take (((at_ (⟨#[]⟩, (0, 0)) l f.1).2).2).toNat) 8) <|
 some (f.2.take (((at_ (⟨#[]⟩, (0, 0)) l f.1).2).2).toNat)
def Z40 (l : R0) (a : Int × List Int) (b : Int × List Int) : Option Bool :=
 (Z0r N l a).bind fun r =>
 bif r then
  (Z0r N l b).bind fun r2 =>
  bif r2 then
   bif (a.1 == b.1) then
    (Z7h N l a).bind fun r3 =>
    (Z7h N l b).bind fun r4 =>
    (Z6l N r3 r4).bind fun r5 =>
    some (r5 == 0)
   else
   some false
  else
  some false
 else
 some false
def Z7z (b : T69) (i2 : Int) (d2 : R0) (d3 : A0) (a : I0) (k : Int) : Option I0 :=
 bif decide (k < (d3.length : Int)) then
  (Z1 N (d2, d3)).bind fun r =>
  bif r then
   (Z0j N i2 0 (w64 ((d3.length : Int) - 1))).bind fun r2 =>
   bif r2 then
    grd (inb i2 d3) <|
    grd (inb k d3) <|
    (Z40 N d2 (at_ (0, []) d3 i2) (at_ (0, []) d3 k)).bind fun r3 =>
    bif r3 then
     grd (appOk a [k] 8) <|
     b i2 d2 d3 (a ++ [k]) (w64 (k + 1))
    else
    b i2 d2 d3 a (w64 (k + 1))
   else
   some a
  else
  some a
 else
 some a
def Z5v (N : Nat) : Nat -> T69
 | 0 => fun _ _ _ _ _ => none
 | k_ + 1 => Z7z N (Z5v N k_)
def Z0cp (N : Nat) (a : T69) (d : D0) (i : Int) : Option I0 :=
 a i d.1 d.2 [] 0
def Z8c (d : D0) (i : Int) : Option I0 := Z0cp N (Z5v N N) d i
def Z6y (b : T80) (d2 : R0) (d3 : A0) (a : L0) (i : Int) : Option L0 :=
 bif decide (i < (d3.length : Int)) then
  (Z1 N (d2, d3)).bind fun r =>
  bif r then
   (Z8c N (d2, d3) i).bind fun r2 =>
   grd (inb 0 r2) <|
   bif ((at_ 0 r2 0) == i) then
    grd (appOk a [r2] 24) <|
    b d2 d3 (a ++ [r2]) (w64 (i + 1))
   else
   b d2 d3 a (w64 (i + 1))
  else
  some a
 else
 some a
def Z56 (N : Nat) : Nat -> T80
 | 0 => fun _ _ _ _ => none
 | k_ + 1 => Z6y N (Z56 N k_)
def Z0be (N : Nat) (a : T80) (d : D0) : Option L0 :=
 a d.1 d.2 [] 0
def Z1h (d : D0) : Option L0 := Z0be N (Z56 N N) d
def Z4s (d : D0) : Option Bool :=
 (Z1 N d).bind fun r =>
 bif r then
  (Z1h N d).bind fun r2 =>
  some ((r2.length : Int) == (d.2.length : Int))
 else
 some false
def Z1s (d : D0) (l : I0) : Option Bool :=
 (Z1v N d l).bind fun a =>
 bif a.2 then
  (Z4s N a.1).bind fun r3 =>
  some r3
 else
 some false
def Z94 (b : T37) (d2 : R0) (d3 : A0) (a : L0) (l : List (List Int × List Int)) (i : Int) : Option L0 :=
 bif decide (i < (l.length : Int)) then
  grd (inb i l) <|
  (Z19 N ((at_ ([], []) l i).2)).bind fun r2 =>
  (Z1s N (d2, d3) r2).bind fun r3 =>
  bif r3 then
   grd (appOk a [r2] 24) <|
   b d2 d3 (a ++ [r2]) l (w64 (i + 1))
  else
  b d2 d3 a l (w64 (i + 1))
 else
 some a
def Z66 (N : Nat) : Nat -> T37
 | 0 => fun _ _ _ _ _ => none
 | k_ + 1 => Z94 N (Z66 N k_)
def Z0ac (a : T37) (d : D0) (q : Q0) : Option L0 :=
 (Z31 N d q).bind fun r =>
 a d.1 d.2 [] r 0
def Z14 (d : D0) (q : Q0) : Option L0 := Z0ac N (Z66 N N) d q
def Z6b (N : Nat) (b : T86) (a : I0) (l : L0) (i : Int) : Option I0 :=
 bif decide (i < (l.length : Int)) then
  grd (inb i l) <|
  grd (appOk a [((at_ [] l i).length : Int)] 8) <|
  b (a ++ [((at_ [] l i).length : Int)]) l (w64 (i + 1))
 else
 some a
def Z49 (N : Nat) : Nat -> T86
 | 0 => fun _ _ _ => none
 | k_ + 1 => Z6b N (Z49 N k_)
def Z0a3 (a : T86) (d : D0) : Option I0 :=
 (Z1h N d).bind fun r =>
 a [] r 0
def Z4l (d : D0) : Option I0 := Z0a3 N (Z49 N N) d
def Z5e (N : Nat) (a : T83) (n : Int) (l : I0) (i : Int) : Option Int :=
 bif decide (i < (l.length : Int)) then
  grd (inb i l) <|
  a (w64 (n * (at_ 0 l i))) l (w64 (i + 1))
 else
 some n
def Z2r (N : Nat) : Nat -> T83
 | 0 => fun _ _ _ => none
 | k_ + 1 => Z5e N (Z2r N k_)
def Z95 (a : T83) (d : D0) : Option Int :=
 (Z1 N d).bind fun r =>
 bif (!r) then some 0
 else
 (Z4l N d).bind fun r2 =>
 a 1 r2 0
def Z4 (d : D0) : Option Int := Z95 N (Z2r N N) d
def Z72 (c : T54) (k2 : Int) (b : L0) (a : I0) (i : Int) : Option (List Int × Bool) :=
 bif decide (i >= 0) then
  grd (inb i b) <|
  grd (inb i b) <|
  grz ((at_ [] b i).length : Int) <|
  grd (inb (k2.tmod ((at_ [] b i).length : Int)) (at_ [] b i)) <|
  grd (appOk a [(at_ 0 (at_ [] b i) (k2.tmod ((at_ [] b i).length : Int)))] 8) <|
  grd (inb i b) <|
  grz ((at_ [] b i).length : Int) <|
  c (w64 (k2.tdiv ((at_ [] b i).length : Int))) b (a ++ [(at_ 0 (at_ [] b i) (k2.tmod ((at_ [] b i).length : Int)))]) (w64 (i - 1))
 else
 (Z19 N a).bind fun r4 =>
 some (r4, true)
def Z4t (N : Nat) : Nat -> T54
 | 0 => fun _ _ _ _ => none
 | k_ + 1 => Z72 N (Z4t N k_)
def Z0ad (a : T54) (d : D0) (k : Int) : Option (List Int × Bool) :=
 (Z4 N d).bind fun r =>
 (Z0j N k 0 (w64 (r - 1))).bind fun r2 =>
 bif (!r2) then some ([], false)
 else
 (Z1h N d).bind fun r3 =>
 a k r3 [] (w64 ((r3.length : Int) - 1))
def Z25 (d : D0) (k : Int) : Option (List Int × Bool) := Z0ad N (Z4t N N) d k
def Z9a (N : Nat) (a : T81) (l2 : I0) (x2 : Int) (i : Int) : Option Bool :=
 bif decide (i < (l2.length : Int)) then
  grd (inb i l2) <|
  bif ((at_ 0 l2 i) == x2) then some true
  else
  a l2 x2 (w64 (i + 1))
 else
 some false
def Z7a (N : Nat) : Nat -> T81
 | 0 => fun _ _ _ => none
 | k_ + 1 => Z9a N (Z7a N k_)
def Z0bw (N : Nat) (a : T81) (l : I0) (x : Int) : Option Bool :=
 a l x 0
def Z6c (l : I0) (x : Int) : Option Bool := Z0bw N (Z7a N N) l x
def Z0ae (c : T50) (a : T59) (l3 : L0) (s3 : I0) (i2 : Int) (b : Bool) (k : Int) : Option Bool :=
 grd (inb i2 l3) <|
 bif decide (k < ((at_ [] l3 i2).length : Int)) then
  bif b then
   grd (inb i2 l3) <|
   grd (inb k (at_ [] l3 i2)) <|
   (Z6c N s3 (at_ 0 (at_ [] l3 i2) k)).bind fun r =>
   a l3 s3 i2 r (w64 (k + 1))
  else
  a l3 s3 i2 false (w64 (k + 1))
 else
 bif b then some true
 else
 c l3 s3 (w64 (i2 + 1))
def Z8d (a : T50) (N : Nat) : Nat -> T59
 | 0 => fun _ _ _ _ _ => none
 | k_ + 1 => Z0ae N a (Z8d a N k_)
def Z8s (N : Nat) (a : T59) (b : T50) (l2 : L0) (s2 : I0) (i : Int) : Option Bool :=
 bif decide (i < (l2.length : Int)) then a l2 s2 i true 0
 else
 some false
def Z3k (N : Nat) : Nat -> T50
 | 0 => fun _ _ _ => none
 | k_ + 1 => Z8s N (Z8d (Z3k N k_) N N) (Z3k N k_)
def Z0bf (N : Nat) (a : T50) (l : L0) (s : I0) : Option Bool :=
 a l s 0
def Z29 (l : L0) (s : I0) : Option Bool := Z0bf N (Z3k N N) l s
def Z2y (l : L0) (s : I0) : Option Bool :=
 (Z29 N l s).bind fun r =>
 some r
def Z3v (N : Nat) (a : T29) (w2 : I0) (l2 : I0) (n : Int) (i : Int) : Option Int :=
 bif decide (i < (l2.length : Int)) then
  grd (inb i l2) <|
  grd (inb (at_ 0 l2 i) w2) <|
  a w2 l2 (w64 (n * (at_ 0 w2 (at_ 0 l2 i)))) (w64 (i + 1))
 else
 some n
def Z1g (N : Nat) : Nat -> T29
 | 0 => fun _ _ _ _ => none
 | k_ + 1 => Z3v N (Z1g N k_)
def Z96 (a : T29) (d : D0) (w : I0) (l : I0) : Option Int :=
 (Z0u N d w).bind fun r =>
 bif (!r) then some 0
 else
 (Z6a N d l).bind fun r2 =>
 bif (!r2) then some 0
 else
 a w l 1 0
def Z2z (d : D0) (w : I0) (l : I0) : Option Int := Z96 N (Z1g N N) d w l
def Z0at (b : T57) (w2 : I0) (d2 : R0) (d3 : A0) (n : Int) (a : L0) (k : Int) : Option Int :=
 (Z4 N (d2, d3)).bind fun r2 =>
 bif decide (k < r2) then
  (Z25 N (d2, d3) k).bind fun c =>
  (Z2y N a c.1).bind fun r5 =>
  bif r5 then
   (Z2z N (d2, d3) w2 c.1).bind fun r6 =>
   b w2 d2 d3 (w64 (n + r6)) a (w64 (k + 1))
  else
  b w2 d2 d3 n a (w64 (k + 1))
 else
 some n
def Z8w (N : Nat) : Nat -> T57
 | 0 => fun _ _ _ _ _ _ => none
 | k_ + 1 => Z0at N (Z8w N k_)
def Z0bx (a : T57) (d : D0) (w : I0) (q : Q0) : Option Int :=
 (Z14 N d q).bind fun r =>
 a w d.1 d.2 0 r 0
def Z8t (d : D0) (w : I0) (q : Q0) : Option Int := Z0bx N (Z8w N N) d w q
def Z36 (N : Nat) (a : T42) (b : T55) (w3 : I0) (n2 : Int) (b2 : L0) (i2 : Int) (s : Int) (k : Int) : Option Int :=
 grd (inb i2 b2) <|
 bif decide (k < ((at_ [] b2 i2).length : Int)) then
  grd (inb i2 b2) <|
  grd (inb k (at_ [] b2 i2)) <|
  grd (inb (at_ 0 (at_ [] b2 i2) k) w3) <|
  b w3 n2 b2 i2 (w64 (s + (at_ 0 w3 (at_ 0 (at_ [] b2 i2) k)))) (w64 (k + 1))
 else
 a w3 (w64 (n2 * s)) b2 (w64 (i2 + 1))
def Z16 (a : T42) (N : Nat) : Nat -> T55
 | 0 => fun _ _ _ _ _ _ => none
 | k_ + 1 => Z36 N a (Z16 a N k_)
def Z4a (N : Nat) (a : T55) (c : T42) (w2 : I0) (n : Int) (b : L0) (i : Int) : Option Int :=
 bif decide (i < (b.length : Int)) then a w2 n b i 0 0
 else
 some n
def Z0w (N : Nat) : Nat -> T42
 | 0 => fun _ _ _ _ => none
 | k_ + 1 => Z4a N (Z16 (Z0w N k_) N N) (Z0w N k_)
def Z9o (a : T42) (d : D0) (w : I0) : Option Int :=
 (Z0u N d w).bind fun r =>
 bif (!r) then some 0
 else
 (Z1h N d).bind fun r2 =>
 a w 1 r2 0
def Z2s (d : D0) (w : I0) : Option Int := Z9o N (Z0w N N) d w
def Z0af (N : Nat) (a : T52) (a2 : Int) (b2 : Int) : Option Int :=
 bif (b2 != 0) then
  grz b2 <|
  a b2 (a2.tmod b2)
 else
 some a2
def Z8e (N : Nat) : Nat -> T52
 | 0 => fun _ _ => none
 | k_ + 1 => Z0af N (Z8e N k_)
def Z0a7 (N : Nat) (c : T52) (a : Int) (b : Int) : Option Int :=
 c a b
def Z3w (a : Int) (b : Int) : Option Int := Z0a7 N (Z8e N N) a b
def Z3e (n : Int) (m : Int) : Option (Int × Int) :=
 (Z3w N n m).bind fun r =>
 grz r <|
 grz r <|
 some ((w64 (n.tdiv r)), (w64 (m.tdiv r)))
def Z1j (d : D0) (w : I0) (q : Q0) : Option ((Int × Int) × Bool) :=
 (Z2 N d q).bind fun r =>
 bif (!r) then some ((0, 0), false)
 else
 (Z0u N d w).bind fun r2 =>
 bif (!r2) then some ((0, 0), false)
 else
 (Z8t N d w q).bind fun r3 =>
 (Z2s N d w).bind fun r4 =>
 (Z3e N r3 r4).bind fun r5 =>
 some (r5, true)
def Z9p (a : T84) (a2 : I0) (b2 : I0) (i : Int) : Option Bool :=
 bif decide (i < (a2.length : Int)) then
  grd (inb i a2) <|
  (Z6c N b2 (at_ 0 a2 i)).bind fun r =>
  bif r then some true
  else
  a a2 b2 (w64 (i + 1))
 else
 some false
def Z6z (N : Nat) : Nat -> T84
 | 0 => fun _ _ _ => none
 | k_ + 1 => Z9p N (Z6z N k_)
def Z0au (N : Nat) (c : T84) (a : I0) (b : I0) : Option Bool :=
 c a b 0
def Z4u (a : I0) (b : I0) : Option Bool := Z0au N (Z6z N N) a b
def Z6e (j : T6) (i : T5) (c : R0) (d : A0) (e : Int) (f : A0) (g : I0) (b5 : L0) (a : I0) (b : L0) (n4 : Int) (i4 : Int) (h : Int) (k2 : Int) : Option L0 :=
 bif decide (k2 < (b5.length : Int)) then
  grd (inb k2 b5) <|
  grd (inb i4 b) <|
  (Z4u N (at_ [] b5 k2) (at_ [] b i4)).bind fun r4 =>
  bif r4 then
   grd (inb k2 a) <|
   grd (inb k2 a) <|
   letv (a.set k2.toNat h) fun u =>
   i c d e f g b5 u b n4 i4 h (w64 (k2 + 1))
  else
  i c d e f g b5 a b n4 i4 h (w64 (k2 + 1))
 else
 j c d e f g b5 a b n4 (w64 (i4 + 1))
def Z2f (a : T6) (N : Nat) : Nat -> T5
 | 0 => fun _ _ _ _ _ _ _ _ _ _ _ _ => none
 | k_ + 1 => Z6e N a (Z2f a N k_)
def Z6f (i : T6) (h : T5) (g : T5) (d8 : R0) (d9 : A0) (c : Int) (d : A0) (e : I0) (b4 : L0) (a : I0) (b : L0) (n3 : Int) (i3 : Int) (f : Int) (k : Int) : Option L0 :=
 bif decide (k < (b4.length : Int)) then
  grd (inb k b4) <|
  grd (inb i3 b) <|
  (Z4u N (at_ [] b4 k) (at_ [] b i3)).bind fun r3 =>
  bif r3 then
   grd (inb k a) <|
   g d8 d9 c d e b4 a b n3 i3 (imin f (at_ 0 a k)) (w64 (k + 1))
  else
  g d8 d9 c d e b4 a b n3 i3 f (w64 (k + 1))
 else
 h d8 d9 c d e b4 a b n3 i3 f 0
def Z2g (a : T6) (N : Nat) : Nat -> T5
 | 0 => fun _ _ _ _ _ _ _ _ _ _ _ _ => none
 | k_ + 1 => Z6f N a (Z2f a N N) (Z2g a N k_)
def Z6g (N : Nat) (d : T2) (e : T5) (f : T6) (d6 : R0) (d7 : A0) (q8 : Int) (q9 : A0) (b : I0) (b3 : L0) (c : I0) (a : L0) (n2 : Int) (i2 : Int) : Option L0 :=
 bif decide (i2 < (a.length : Int)) then
  e d6 d7 q8 q9 b b3 c a n2 i2 (b3.length : Int) 0
 else
 d d6 d7 q8 q9 b b3 c a (w64 (n2 + 1))
def Z1n (a : T2) (N : Nat) : Nat -> T6
 | 0 => fun _ _ _ _ _ _ _ _ _ _ => none
 | k_ + 1 => Z6g N a (Z2g (Z1n a N k_) N N) (Z1n a N k_)
def Z6h (N : Nat) (i : T2) (j : T31) (d : R0) (e : A0) (f : Int) (g : A0) (h : I0) (b7 : L0) (a : I0) (c : L0) (i6 : Int) (b : I0) (k3 : Int) : Option L0 :=
 bif decide (k3 < (b7.length : Int)) then
  grd (inb k3 a) <|
  bif ((at_ 0 a k3) == i6) then
   grd (appOk b [k3] 8) <|
   j d e f g h b7 a c i6 (b ++ [k3]) (w64 (k3 + 1))
  else
  j d e f g h b7 a c i6 b (w64 (k3 + 1))
 else
 bif decide ((b.length : Int) > 0) then
  grd (appOk c [b] 24) <|
  i d e f g h b7 a (c ++ [b]) (w64 (i6 + 1))
 else
 i d e f g h b7 a c (w64 (i6 + 1))
def Z2h (a : T2) (N : Nat) : Nat -> T31
 | 0 => fun _ _ _ _ _ _ _ _ _ _ _ => none
 | k_ + 1 => Z6h N a (Z2h a N k_)
def Z4f (g : T31) (i : T2) (b : R0) (c : A0) (d : Int) (e : A0) (f : I0) (b6 : L0) (h : I0) (a : L0) (i5 : Int) : Option L0 :=
 bif decide (i5 < (b6.length : Int)) then
  (Z2 N (b, c) (d, e, f)).bind fun r5 =>
  bif r5 then
   g b c d e f b6 h a i5 [] 0
  else
  some a
 else
 some a
def Z1a (N : Nat) : Nat -> T2
 | 0 => fun _ _ _ _ _ _ _ _ _ => none
 | k_ + 1 => Z4f N (Z2h (Z1a N k_) N N) (Z1a N k_)
def Z6i (N : Nat) (b : T6) (c : T2) (e : T2) (d4 : R0) (d5 : A0) (q5 : Int) (q6 : A0) (q7 : I0) (b2 : L0) (a : I0) (d : L0) (n : Int) : Option L0 :=
 bif decide (n < (b2.length : Int)) then b d4 d5 q5 q6 q7 b2 a d n 0
 else
 c d4 d5 q5 q6 q7 b2 a [] 0
def Z1o (N : Nat) : Nat -> T2
 | 0 => fun _ _ _ _ _ _ _ _ _ => none
 | k_ + 1 => Z6i N (Z1n (Z1o N k_) N N) (Z1a N N) (Z1o N k_)
def Z6j (c : T2) (d : T48) (d2 : R0) (d3 : A0) (q2 : Int) (q3 : A0) (q4 : I0) (b : L0) (a : I0) (i : Int) : Option L0 :=
 bif decide (i < (b.length : Int)) then
  grd (appOk a [i] 8) <|
  d d2 d3 q2 q3 q4 b (a ++ [i]) (w64 (i + 1))
 else
 (Z14 N (d2, d3) (q2, q3, q4)).bind fun r2 =>
 c d2 d3 q2 q3 q4 b a r2 0
def Z3m (N : Nat) : Nat -> T48
 | 0 => fun _ _ _ _ _ _ _ _ => none
 | k_ + 1 => Z6j N (Z1o N N) (Z3m N k_)
def Z7v (a : T48) (d : D0) (q : Q0) : Option L0 :=
 (Z1h N d).bind fun r =>
 a d.1 d.2 q.1 q.2.1 q.2.2 r [] 0
def Z2t (d : D0) (q : Q0) : Option L0 := Z7v N (Z3m N N) d q
def Z41 (a : T44) (d2 : R0) (d3 : A0) (q2 : Int) (q3 : A0) (q4 : I0) (n : Int) (l : L0) (k : Int) : Option Int :=
 (Z4 N (d2, d3)).bind fun r2 =>
 bif decide (k < r2) then
  (Z2 N (d2, d3) (q2, q3, q4)).bind fun r3 =>
  bif r3 then
   (Z25 N (d2, d3) k).bind fun b =>
   (Z29 N l b.1).bind fun r6 =>
   bif r6 then a d2 d3 q2 q3 q4 (w64 (n + 1)) l (w64 (k + 1))
   else
   a d2 d3 q2 q3 q4 n l (w64 (k + 1))
  else
  some n
 else
 some n
def Z1t (N : Nat) : Nat -> T44
 | 0 => fun _ _ _ _ _ _ _ _ => none
 | k_ + 1 => Z41 N (Z1t N k_)
def Z4v (a : T44) (d : D0) (q : Q0) : Option Int :=
 (Z14 N d q).bind fun r =>
 a d.1 d.2 q.1 q.2.1 q.2.2 0 r 0
def Z0q (d : D0) (q : Q0) : Option Int := Z4v N (Z1t N N) d q
def Z6k (d : T15) (e : T27) (d4 : R0) (d5 : A0) (q5 : Int) (q6 : A0) (q7 : I0) (b2 : L0) (p2 : L0) (b : Int) (i2 : Int) (a : I0) (k : Int) : Option Int :=
 grd (inb i2 p2) <|
 bif decide (k < ((at_ [] p2 i2).length : Int)) then
  grd (inb i2 p2) <|
  grd (inb k (at_ [] p2 i2)) <|
  grd (inb (at_ 0 (at_ [] p2 i2) k) b2) <|
  grd (appOk a (at_ [] b2 (at_ 0 (at_ [] p2 i2) k)) 8) <|
  e d4 d5 q5 q6 q7 b2 p2 b i2 (a ++ (at_ [] b2 (at_ 0 (at_ [] p2 i2) k))) (w64 (k + 1))
 else
 (Z19 N a).bind fun r4 =>
 (Z1v N (d4, d5) r4).bind fun c =>
 (Z4 N c.1).bind fun r7 =>
 (Z0q N c.1 (q5, q6, q7)).bind fun r8 =>
 d d4 d5 q5 q6 q7 b2 p2 (w64 (b * (w64 (r7 - r8)))) (w64 (i2 + 1))
def Z2i (a : T15) (N : Nat) : Nat -> T27
 | 0 => fun _ _ _ _ _ _ _ _ _ _ _ => none
 | k_ + 1 => Z6k N a (Z2i a N k_)
def Z4g (N : Nat) (c : T27) (d : T15) (d2 : R0) (d3 : A0) (q2 : Int) (q3 : A0) (q4 : I0) (b : L0) (p : L0) (a : Int) (i : Int) : Option Int :=
 bif decide (i < (p.length : Int)) then c d2 d3 q2 q3 q4 b p a i [] 0
 else
 some a
def Z1p (N : Nat) : Nat -> T15
 | 0 => fun _ _ _ _ _ _ _ _ _ => none
 | k_ + 1 => Z4g N (Z2i (Z1p N k_) N N) (Z1p N k_)
def Z7w (a : T15) (d : D0) (q : Q0) : Option Int :=
 (Z2 N d q).bind fun r =>
 bif (!r) then some 0
 else
 (Z1h N d).bind fun r2 =>
 (Z2t N d q).bind fun r3 =>
 a d.1 d.2 q.1 q.2.1 q.2.2 r2 r3 1 0
def Z2u (d : D0) (q : Q0) : Option Int := Z7w N (Z1p N N) d q
def Z3l (d : D0) (q : Q0) : Option Int :=
 (Z2 N d q).bind fun r =>
 bif (!r) then some 0
 else
 (Z4 N d).bind fun r2 =>
 (Z2u N d q).bind fun r3 =>
 some (w64 (r2 - r3))
def Z1b (d : D0) (q : Q0) : Option ((Int × Int) × Bool) :=
 (Z2 N d q).bind fun r =>
 bif (!r) then some ((0, 0), false)
 else
 (Z3l N d q).bind fun r2 =>
 (Z4 N d).bind fun r3 =>
 (Z3w N r2 r3).bind fun r4 =>
 grz r4 <|
 grz r4 <|
 some (((w64 (r2.tdiv r4)), (w64 (r3.tdiv r4))), true)
def Z0a4 (c : T46) (a : Bool) (d2 : R0) (d3 : A0) (l : L0) (k : Int) : Option (List Int × Bool) :=
 (Z4 N (d2, d3)).bind fun r3 =>
 bif decide (k < r3) then
  (Z25 N (d2, d3) k).bind fun b =>
  (Z29 N l b.1).bind fun r6 =>
  bif (r6 == a) then some (b.1, true)
  else
  c a d2 d3 l (w64 (k + 1))
 else
 some ([], false)
def Z7i (N : Nat) : Nat -> T46
 | 0 => fun _ _ _ _ _ => none
 | k_ + 1 => Z0a4 N (Z7i N k_)
def Z8f (a : T46) (d : D0) (q : Q0) (b : Bool) : Option (List Int × Bool) :=
 (Z2 N d q).bind fun r =>
 bif (!r) then some ([], false)
 else
 (Z14 N d q).bind fun r2 =>
 a b d.1 d.2 r2 0
def Z3c (d : D0) (q : Q0) (a : Bool) : Option (List Int × Bool) := Z8f N (Z7i N N) d q a
def Z37 (d : D0) (q : Q0) : Option (List Int × Bool) :=
 (Z3c N d q false).bind fun a =>
 some (a.1, a.2)
def Z4b (d : D0) (q : Q0) : Option Bool :=
 (Z37 N d q).bind fun a =>
 (Z2 N d q).bind fun r3 =>
 bif r3 then some (!a.2)
 else
 some false
def Z38 (d : D0) (q : Q0) : Option (List Int × Bool) :=
 (Z3c N d q true).bind fun a =>
 some (a.1, a.2)
def Z3s (d : D0) (q : Q0) : Option Bool :=
 (Z38 N d q).bind fun a =>
 some a.2
def laws_FnProbability_l0_b (f : T36) (d : R0) (d2 : A0) (q : Int) (q2 : A0) (q3 : I0) (a : Int) (a2 : Int) (b : I0) (i : Int) : Option Bool :=
 bif decide (i < (d2.length : Int)) then
  grd (appOk b [3] 8) <|
  f d d2 q q2 q3 a a2 (b ++ [3]) (w64 (i + 1))
 else
 (Z18 N (d, d2) b (q, q2, q3)).bind fun c =>
 (Z1b N (d, d2) (q, q2, q3)).bind fun e =>
 bif c.2 then
  bif ((c.1.1 == e.1.1) && (c.1.2 == e.1.2)) then
   bif decide (a >= 0) then
    bif decide (a <= a2) then
     bif decide (a2 > 0) then
      (Z4b N (d, d2) (q, q2, q3)).bind fun g =>
      bif ((a == a2) == g) then
       (Z3s N (d, d2) (q, q2, q3)).bind fun h =>
       some ((decide (a > 0)) == h)
      else
      some false
     else
     some false
    else
    some false
   else
   some false
  else
  some false
 else
 some false
def laws_FnProbability_l0 (N : Nat) : Nat -> T36
 | 0 => fun _ _ _ _ _ _ _ _ _ => none
 | k_ + 1 => laws_FnProbability_l0_b N (laws_FnProbability_l0 N k_)
def laws_FnProbability_b (f : T36) (e : I0) : Option Bool :=
 (Z0ay N e).bind fun r =>
 bif r then some true
 else
 (Z2m N e).bind fun a =>
 (Z18 N a.1 a.2.1 a.2.2).bind fun b =>
 (Z0y N a.1 a.2.1 a.2.2).bind fun d =>
 (Z1j N a.1 a.2.1 a.2.2).bind fun c =>
 bif (!(b.2 == c.2)) then some false
 else
 bif (!(d.2 == c.2)) then some false
 else
 bif (!((b.1.1 == c.1.1) && (b.1.2 == c.1.2))) then some false
 else
 bif (!((d.1.1 == c.1.1) && (d.1.2 == c.1.2))) then some false
 else
 bif (!b.2) then some ((b.1.1 == 0) && (b.1.2 == 0))
 else
 f a.1.1 a.1.2 a.2.2.1 a.2.2.2.1 a.2.2.2.2 b.1.1 b.1.2 [] 0
def laws_FnProbability (a : I0) : Option Bool := laws_FnProbability_b N (laws_FnProbability_l0 N N) a
end Go.PL
