/- The functions read plainly. Conditions: none (definitions alone). -/
import GoSem.Core.View
import GoSem.Op.String

set_option linter.unusedVariables false
set_option linter.unusedSimpArgs false
set_option linter.unnecessarySimpa false

namespace Go.PL
def w64 (x : Int) : Int := IntKind.i64.wrap x
def w (k : IntKind) (x : Int) : Int := k.wrap x
def grd {α : Type} (c : Bool) (x : Option α) : Option α := bif c then x else none
def grz {α : Type} (b : Int) (x : Option α) : Option α := bif decide (b = 0) then none else x
def letv {α β : Type} (v : α) (k : α -> β) : β := k v
def at_ {α : Type} (d : α) (xs : List α) (i : Int) : α := xs.getD i.toNat d
def inb {α : Type} (i : Int) (xs : List α) : Bool := decide (0 <= i) && decide (i < (xs.length : Int))
def growOk {α : Type} (i' i : Int) (xs : List α) : Bool := decide (i' = i) && (decide (0 <= i') && decide (i' < (xs.length : Int)))
def appOk {α : Type} (s x : List α) (b : Nat) : Bool := decide ((s.length + x.length) * b <= 140737488355328)
def selOk {α : Type} (ix : List Int) (i : Int) (x : List α) (b : Nat) : Bool := ix.all (fun k => decide (k < i)) && decide ((x.length + 1) * b <= 140737488355328)
def selOk0 {α : Type} (x : List α) (b : Nat) : Bool := x.isEmpty && decide ((0 + 1) * b <= 140737488355328)
def makeOk (n : Int) (b : Nat) : Bool := decide (n = n) && (decide (0 <= n) && decide (n * b <= 140737488355328))
def byteAt (s : ByteArray) (n : Int) : Option UInt8 := if 0 <= n then s[n.toNat]? else none
def catOk (a b : ByteArray) : Bool := decide (a.size + b.size <= 140737488355328)
def seq (a b : ByteArray) : Bool := a.toList == b.toList
def slt (a b : ByteArray) : Bool := Op.bytesLess a.toList b.toList
def subOk (lo hi : Int) (n : Nat) : Bool := decide (0 <= lo) && (decide (lo <= hi) && decide (hi <= (n : Int)))
def sub (s : ByteArray) (lo hi : Int) : ByteArray := s.extract lo.toNat hi.toNat
def ofBytes (x : List Int) : ByteArray := ⟨(x.map fun n => UInt8.ofNat n.toNat).toArray⟩
def bits (op : BinOp) (k : IntKind) (a b : Int) : Int := match op with
 | .and => k.wrap ((BitVec.ofInt k.bits a &&& BitVec.ofInt k.bits b).toNat : Int)
 | .xor => k.wrap ((BitVec.ofInt k.bits a ^^^ BitVec.ofInt k.bits b).toNat : Int)
 | .or => k.wrap ((BitVec.ofInt k.bits a ||| BitVec.ofInt k.bits b).toNat : Int)
 | .shl => k.wrap (a * 2 ^ (min b.toNat k.bits))
 | .shr => a.fdiv (2 ^ (min b.toNat k.bits))
 | _ => 0
def imax (a b : Int) : Int := if b > a then b else a
def imin (a b : Int) : Int := if b < a then b else a
end Go.PL

namespace Go.PL
abbrev D0 : Type := List (ByteArray × Int × Int) × List (Int × List Int)
abbrev Q0 : Type := Int × List (Int × List Int) × List Int
abbrev C0 : Type := Int × Int × Int × Int × Int × Int × Int
abbrev R0 : Type := List (ByteArray × Int × Int)
abbrev A0 : Type := List (Int × List Int)
abbrev L0 : Type := List (List Int)
abbrev I0 : Type := List Int
abbrev E0 : Type := List (Int × Int)
abbrev T0 : Type := I0 -> Int -> Int -> R0 -> A0 -> R0 -> A0 -> Int -> Int -> Option ((List Int × Int × Int) × List (ByteArray × Int × Int) × List (Int × List Int))
abbrev T1 : Type := I0 -> Int -> Int -> R0 -> A0 -> R0 -> A0 -> Option ((List Int × Int × Int) × List (ByteArray × Int × Int) × List (Int × List Int))
abbrev T2 : Type := I0 -> Int -> Int -> Int -> A0 -> I0 -> Int -> A0 -> I0 -> Int -> Int -> Int -> Int -> Option ((List Int × Int × Int) × Int × List (Int × List Int) × List Int)
abbrev T3 : Type := I0 -> Int -> Int -> Int -> A0 -> I0 -> Int -> A0 -> I0 -> Int -> Int -> Int -> Int -> Int -> I0 -> Int -> Option ((List Int × Int × Int) × Int × List (Int × List Int) × List Int)
abbrev T4 : Type := R0 -> ByteArray -> Int -> A0 -> I0 -> Int -> A0 -> I0 -> (List ByteArray) -> Int -> Option (Q0 × Bool)
abbrev T5 : Type := R0 -> Int -> A0 -> I0 -> (List Bool) -> Int -> Int -> I0 -> Int -> Option Bool
abbrev T6 : Type := R0 -> A0 -> R0 -> A0 -> R0 -> A0 -> I0 -> Int -> Int -> Option (D0 × Bool)
abbrev T7 : Type := I0 -> I0 -> Q0 -> (List (List Int × List Int)) -> D0 -> Q0 -> D0 -> Option (List (List Int × List Int))
abbrev T8 : Type := I0 -> Int -> Int -> Int -> A0 -> I0 -> Int -> A0 -> I0 -> Int -> Option ((List Int × Int × Int) × Int × List (Int × List Int) × List Int)
abbrev T9 : Type := R0 -> Int -> A0 -> I0 -> (List Bool) -> Int -> Option Bool
abbrev T10 : Type := R0 -> Int -> A0 -> I0 -> ByteArray -> Int -> Option ByteArray
abbrev T11 : Type := I0 -> I0 -> (List (List Int × List Int)) -> Q0 -> D0 -> Int -> I0 -> A0 -> Int -> Int -> Option (List (List Int × List Int))
abbrev T12 : Type := Int -> I0 -> I0 -> R0 -> A0 -> Int -> A0 -> I0 -> (List (List Int × List Int)) -> Int -> Option (List (List Int × List Int))
abbrev T13 : Type := R0 -> ByteArray -> Int -> A0 -> I0 -> Int -> A0 -> I0 -> (List ByteArray) -> Int -> Int -> I0 -> Int -> Option (Q0 × Bool)
abbrev T14 : Type := I0 -> Int -> Int -> R0 -> Int -> Int -> I0 -> Int -> I0 -> Option ((List Int × Int × Int) × Int × List Int)
abbrev T15 : Type := Int -> A0 -> I0 -> Int -> A0 -> I0 -> I0 -> Int -> Int -> Option Q0
abbrev T16 : Type := R0 -> Int -> A0 -> I0 -> I0 -> A0 -> Int -> Int -> Option Bool
abbrev T17 : Type := R0 -> ByteArray -> Int -> A0 -> I0 -> (List ByteArray) -> Int -> A0 -> I0 -> Int -> Option (Q0 × Bool)
abbrev T18 : Type := R0 -> A0 -> (List C0) -> Int -> A0 -> I0 -> L0 -> Bool -> I0 -> Bool -> Int -> Int -> Option Bool
abbrev T19 : Type := Int -> A0 -> I0 -> Int -> A0 -> I0 -> I0 -> Int -> Option Q0
abbrev T20 : Type := Int -> L0 -> L0 -> L0 -> Int -> Int -> Option L0
abbrev T21 : Type := R0 -> Int -> A0 -> I0 -> I0 -> Int -> I0 -> A0 -> Int -> Int -> I0 -> Int -> Int -> Option Bool
abbrev T22 : Type := Int -> (List C0) -> D0 -> E0 -> Int -> Int -> Option E0
abbrev T23 : Type := D0 -> Q0 -> Int -> I0 -> I0 -> Option (List (List Int × List Int))
abbrev T24 : Type := (List C0) -> R0 -> A0 -> E0 -> Int -> Int -> Option E0
abbrev T25 : Type := Int -> A0 -> I0 -> Int -> A0 -> I0 -> I0 -> Int -> Int -> Int -> Int -> Int -> Option Q0
abbrev T26 : Type := I0 -> Int -> Int -> (List C0) -> Int -> Option ((List Int × Int × Int) × List C0)
abbrev T27 : Type := L0 -> Bool -> R0 -> A0 -> Int -> A0 -> I0 -> L0 -> Int -> Option (List Int × Bool)
abbrev T28 : Type := ByteArray -> Int -> (List ByteArray) -> Int -> Int -> Option (List ByteArray)
abbrev T29 : Type := L0 -> R0 -> A0 -> Int -> A0 -> I0 -> L0 -> Int -> Int -> Option (List Int × Bool)
abbrev T30 : Type := (List C0) -> R0 -> A0 -> E0 -> Int -> Option E0
abbrev T31 : Type := R0 -> A0 -> Int -> A0 -> I0 -> L0 -> Int -> Int -> Option (List Int × Bool)
abbrev T32 : Type := Int -> A0 -> I0 -> Int -> A0 -> I0 -> Int -> A0 -> I0 -> Int -> Option Q0
abbrev T33 : Type := I0 -> I0 -> Int -> Int -> Option I0
abbrev T34 : Type := L0 -> L0 -> Int -> Int -> Option L0
abbrev T35 : Type := Int -> (List C0) -> D0 -> E0 -> Int -> Int -> Int -> Int -> Option E0
abbrev T36 : Type := (List C0) -> R0 -> A0 -> E0 -> Int -> Int -> Bool -> Int -> Option E0
abbrev T37 : Type := R0 -> A0 -> L0 -> (List (List Int × List Int)) -> Int -> Option L0
abbrev T38 : Type := Int -> I0 -> Int -> Option Bool
abbrev T39 : Type := Int -> Int -> R0 -> A0 -> (List C0) -> Int -> Int -> Option Bool
abbrev T40 : Type := I0 -> R0 -> A0 -> R0 -> A0 -> R0 -> A0 -> Int -> Option (D0 × Bool)
abbrev T41 : Type := Int -> I0 -> Int -> I0 -> I0 -> Int -> Option (List Int × Bool)
abbrev T42 : Type := Int -> I0 -> R0 -> A0 -> R0 -> A0 -> Int -> Option (D0 × Bool)
abbrev T43 : Type := R0 -> Int -> I0 -> ByteArray -> Int -> Option ByteArray
abbrev T44 : Type := I0 -> I0 -> I0 -> Int -> Int -> Option (List Int × Bool)
abbrev T45 : Type := Int -> A0 -> I0 -> (List Bool) -> Int -> Option Bool
abbrev T46 : Type := Int -> E0 -> I0 -> Int -> L0 -> Bool -> Int -> Option L0
abbrev T47 : Type := L0 -> I0 -> Int -> Option Bool
abbrev T48 : Type := A0 -> (Int × List Int) -> Int -> Int -> Option Int
abbrev T49 : Type := Int -> L0 -> I0 -> L0 -> L0 -> Int -> Int -> Option L0
abbrev T50 : Type := I0 -> Int -> Int -> Option (List Int × Int × Int)
abbrev T51 : Type := R0 -> A0 -> R0 -> A0 -> A0 -> Int -> Int -> Option D0
abbrev T52 : Type := R0 -> A0 -> R0 -> A0 -> R0 -> A0 -> Int -> Option D0
abbrev T53 : Type := Int -> ByteArray -> Bool -> Option ByteArray
abbrev T54 : Type := L0 -> I0 -> Int -> Bool -> Int -> Option Bool
abbrev T55 : Type := I0 -> I0 -> Int -> Option I0
abbrev T56 : Type := Int -> E0 -> I0 -> Int -> Option L0
abbrev T57 : Type := Int -> E0 -> E0 -> Int -> Int -> Option Bool
abbrev T58 : Type := I0 -> Int -> I0 -> Int -> Int -> Option Bool
abbrev T59 : Type := R0 -> A0 -> A0 -> Int -> Int -> Option Bool
abbrev T60 : Type := R0 -> A0 -> Int -> I0 -> Int -> Option Int
abbrev T61 : Type := I0 -> I0 -> I0 -> Int -> Int -> Option Int
abbrev T62 : Type := ByteArray -> Int -> Option (Int × Bool)
abbrev T63 : Type := L0 -> Int -> L0 -> Int -> Int -> Option I0
abbrev T64 : Type := I0 -> L0 -> L0 -> Int -> Int -> Option L0
abbrev T65 : Type := Int -> R0 -> A0 -> I0 -> Int -> Option I0
abbrev T66 : Type := R0 -> ByteArray -> Int -> Option Int
abbrev T67 : Type := Int -> A0 -> I0 -> Int -> Option Bool
abbrev T68 : Type := R0 -> R0 -> Int -> Int -> Option Bool
abbrev T69 : Type := I0 -> I0 -> Int -> Int -> Option Bool
abbrev T70 : Type := I0 -> Int -> Int -> Int -> Option Int
abbrev T71 : Type := E0 -> I0 -> Int -> Int -> Option Bool
abbrev T72 : Type := Int -> E0 -> I0 -> Int -> Option Bool
abbrev T73 : Type := E0 -> I0 -> Int -> Int -> Option Int
abbrev T74 : Type := I0 -> R0 -> A0 -> Int -> Option Bool
abbrev T75 : Type := Int -> I0 -> Int -> E0 -> L0 -> Int -> E0 -> Option L0
abbrev T76 : Type := I0 -> L0 -> Int -> Int -> Option I0
abbrev T77 : Type := Int -> E0 -> Int -> Option Bool
abbrev T78 : Type := I0 -> Int -> Int -> Option Bool
abbrev T79 : Type := R0 -> A0 -> L0 -> Int -> Option L0
abbrev T80 : Type := R0 -> A0 -> Int -> Option Bool
abbrev T81 : Type := I0 -> Int -> Int -> Option Int
abbrev T82 : Type := E0 -> I0 -> Int -> Option Bool
abbrev T83 : Type := I0 -> I0 -> Int -> Option Bool
abbrev T84 : Type := L0 -> L0 -> Int -> Option Bool
abbrev T85 : Type := Int -> L0 -> Int -> Option Int
abbrev T86 : Type := I0 -> I0 -> Int -> Option Int
abbrev T87 : Type := R0 -> Int -> Option Bool
abbrev T88 : Type := Int -> I0 -> Option I0
variable (N : Nat)
def Z14 (N : Nat) (s : I0) : Option I0 := grd (decide (s.length * 8 <= 140737488355328)) (some s)
def Z8g (N : Nat) (s : I0) (n : Int) : Option I0 := grd (decide (0 <= n) && decide ((s.length + n.toNat) * 8 <= 140737488355328)) (some s)
def Z8h (N : Nat) (s : I0) : Option I0 := grd (decide (s.length < 4611686018427387904)) (some (s.mergeSort fun a b => decide (a <= b)))
def Z70 (N : Nat) (s : I0) : Option I0 := some (((List.range s.length).filter fun j => decide (j = 0 \/ s.toArray[j]! ≠ s.toArray[j - 1]!)).map fun j => s.toArray[j]!)
def Z7j (N : Nat) (s : I0) (n : Int) : Option I0 := grd (decide (s.length = 1) && (decide (0 <= n) && decide (n * 8 <= 140737488355328))) (some (List.replicate n.toNat (at_ 0 s 0)))
def Z0b0 (N : Nat) (a : I0) : Option Bool :=
 some (decide ((a.length : Int) > 1048576))
def Z0ai (N : Nat) (b : T50) (a : I0) (h : Int) (i : Int) : Option (List Int × Int × Int) :=
 bif decide (i < (a.length : Int)) then
  bif decide (i < 4000) then
   grd (inb i a) <|
   b a (bits .and .i64 (w64 ((w64 ((w64 (h * 131)) + (w64 (at_ 0 a i)))) + 7)) 1073741823) (w64 (i + 1))
  else
  some (a, 0, h)
 else
 some (a, 0, h)
def Z8v (N : Nat) : Nat -> T50
 | 0 => fun _ _ _ => none
 | k_ + 1 => Z0ai N (Z8v N k_)
def Z0bs (N : Nat) (b : T50) (a : I0) : Option (List Int × Int × Int) :=
 b a (w64 (10101 + (a.length : Int))) 0
def Z8i (a : I0) : Option (List Int × Int × Int) := Z0bs N (Z8v N N) a
def Z3j (N : Nat) (c : List Int × Int × Int) : Option ((List Int × Int × Int) × Int) :=
 grd (decide (0 <= 33)) <|
 grd (decide (0 <= 45)) <|
 bif decide (c.2.1 < (c.1.length : Int)) then
  grd (inb c.2.1 c.1) <|
  some ((c.1, (w64 (c.2.1 + 1)), (w64 ((w64 (c.2.2 * 6364136223846793005)) + 1442695040888963407))), (bits .and .i64 (w64 ((bits .and .i64 (bits .xor .i64 (bits .shr .i64 (w64 ((w64 (c.2.2 * 6364136223846793005)) + 1442695040888963407)) 33) (bits .shr .i64 (w64 ((w64 (c.2.2 * 6364136223846793005)) + 1442695040888963407)) 45)) 255) + (w64 (at_ 0 c.1 c.2.1)))) 255))
 else
 some ((c.1, c.2.1, (w64 ((w64 (c.2.2 * 6364136223846793005)) + 1442695040888963407))), (bits .and .i64 (bits .xor .i64 (bits .shr .i64 (w64 ((w64 (c.2.2 * 6364136223846793005)) + 1442695040888963407)) 33) (bits .shr .i64 (w64 ((w64 (c.2.2 * 6364136223846793005)) + 1442695040888963407)) 45)) 255))
def Z1 (c : List Int × Int × Int) (n : Int) : Option ((List Int × Int × Int) × Int) :=
 bif decide (n <= 0) then some (c, 0)
 else
 bif decide (n <= 256) then
  (Z3j N c).bind fun a =>
  grz n <|
  some ((c.1, a.1.2), (a.2.tmod n))
 else
 (Z3j N c).bind fun b =>
 (Z3j N (c.1, b.1.2)).bind fun d =>
 (Z3j N (c.1, d.1.2)).bind fun e =>
 (Z3j N (c.1, e.1.2)).bind fun f =>
 grz n <|
 some ((c.1, f.1.2), ((w64 ((w64 ((w64 ((w64 (b.2 * 16777216)) + (w64 (d.2 * 65536)))) + (w64 (e.2 * 256)))) + f.2)).tmod n))
def Z0y (c : List Int × Int × Int) (a : I0) : Option ((List Int × Int × Int) × Int) :=
 (Z1 N c (a.length : Int)).bind fun b =>
 grd (inb b.2 a) <|
 some ((c.1, b.1.2), (at_ 0 a b.2))
def Z7k (c : List Int × Int × Int) : Option ((List Int × Int × Int) × List (ByteArray × Int × Int)) :=
 (Z0y N c [1, 1, 2, 0]).bind fun a =>
 (Z1 N (c.1, a.1.2) 2).bind fun b =>
 some ((c.1, b.1.2), [(⟨#[114]⟩, 2, 1), (⟨#[115]⟩, 2, 1), (⟨#[116]⟩, 2, a.2), (⟨#[117]⟩, 3, (w64 (1 + b.2)))])
def Z0a7 (c : T14) (c2 : I0) (c3 : Int) (c4 : Int) (l2 : R0) (b : Int) (t6 : Int) (d : I0) (f : Int) (f2 : I0) : Option ((List Int × Int × Int) × Int × List Int) :=
 grd (inb f l2) <|
 bif decide ((f2.length : Int) < (((at_ (⟨#[]⟩, (0, 0)) l2 f).2).1)) then
  (Z1 N (c2, c3, c4) b).bind fun a =>
  grd (appOk f2 [a.2] 8) <|
  c c2 a.1.2.1 a.1.2.2 l2 b t6 d f (f2 ++ [a.2])
 else
 some ((c2, c3, c4), (f, f2))
def Z80 (N : Nat) : Nat -> T14
 | 0 => fun _ _ _ _ _ _ _ _ _ => none
 | k_ + 1 => Z0a7 N (Z80 N k_)
def Z0d1 (b : T14) (c : List Int × Int × Int) (l : R0) (d : Int) : Option ((List Int × Int × Int) × Int × List Int) :=
 (Z1 N c (l.length : Int)).bind fun a =>
 b c.1 a.1.2.1 a.1.2.2 l d 0 [] a.2 []
def Z7l (c : List Int × Int × Int) (l : R0) (a : Int) : Option ((List Int × Int × Int) × Int × List Int) := Z0d1 N (Z80 N N) c l a
def Z0a8 (N : Nat) (a : T52) (d2 : R0) (d3 : A0) (t2 : R0) (b : A0) (x : R0) (x2 : A0) (i : Int) : Option D0 :=
 bif decide (i < (d3.length : Int)) then
  grd (inb i d3) <|
  grd (inb i d3) <|
  grd (appOk [] ((at_ (0, []) d3 i).2) 8) <|
  grd (appOk x2 [(at_ (0, []) d3 i)] 32) <|
  a d2 d3 t2 b x (x2 ++ [(at_ (0, []) d3 i)]) (w64 (i + 1))
 else
 some (x, x2)
def Z81 (N : Nat) : Nat -> T52
 | 0 => fun _ _ _ _ _ _ _ => none
 | k_ + 1 => Z0a8 N (Z81 N k_)
def Z0bd (N : Nat) (a : T52) (d : D0) : Option D0 :=
 grd (appOk [] d.1 32) <|
 a d.1 d.2 [] [] d.1 [] 0
def Z7m (d : D0) : Option D0 := Z0bd N (Z81 N N) d
def Z5 (N : Nat) (x : Int) (a : Int) (b : Int) : Option Bool :=
 bif decide (x >= a) then some (decide (x <= b))
 else
 some false
def Z0c (s : ByteArray × Int × Int) : Option Bool :=
 bif ((s.1.size : Int) == 1) then
  (byteAt s.1 0).bind fun b =>
  bif decide ((b.toNat : Int) >= 97) then
   (byteAt s.1 0).bind fun b2 =>
   bif decide ((b2.toNat : Int) <= 122) then
    (Z5 N s.2.1 1 3).bind fun r =>
    bif r then
     (Z5 N s.2.2 0 s.2.1).bind fun r2 =>
     some r2
    else
    some false
   else
   some false
  else
  some false
 else
 some false
def Z1k (a : T87) (l2 : R0) (i : Int) : Option Bool :=
 bif decide (i < (l2.length : Int)) then
  grd (inb i l2) <|
  (Z0c N ((at_ (⟨#[]⟩, (0, 0)) l2 i).1, ((at_ (⟨#[]⟩, (0, 0)) l2 i).2))).bind fun r =>
  bif (!r) then some false
  else
  bif decide (i > 0) then
   grd (inb (w64 (i - 1)) l2) <|
   grd (inb i l2) <|
   bif (!slt ((at_ (⟨#[]⟩, (0, 0)) l2 (w64 (i - 1))).1) ((at_ (⟨#[]⟩, (0, 0)) l2 i).1)) then some false
   else
   a l2 (w64 (i + 1))
  else
  a l2 (w64 (i + 1))
 else
 some (decide ((l2.length : Int) <= 4))
def Z0o (N : Nat) : Nat -> T87
 | 0 => fun _ _ => none
 | k_ + 1 => Z1k N (Z0o N k_)
def Z4o (N : Nat) (a : T87) (l : R0) : Option Bool :=
 a l 0
def Z0h (l : R0) : Option Bool := Z4o N (Z0o N N) l
def Z61 (a : T38) (f2 : Int) (f3 : I0) (i : Int) : Option Bool :=
 bif decide (i < (f3.length : Int)) then
  grd (inb i f3) <|
  (Z5 N (at_ 0 f3 i) 0 9).bind fun r3 =>
  bif (!r3) then some false
  else
  a f2 f3 (w64 (i + 1))
 else
 some true
def Z44 (N : Nat) : Nat -> T38
 | 0 => fun _ _ _ => none
 | k_ + 1 => Z61 N (Z44 N k_)
def Z9d (a : T38) (l : R0) (f : Int × List Int) : Option Bool :=
 (Z0h N l).bind fun r =>
 bif (!r) then some false
 else
 (Z5 N f.1 0 (w64 ((l.length : Int) - 1))).bind fun r2 =>
 bif (!r2) then some false
 else
 grd (inb f.1 l) <|
 bif ((f.2.length : Int) != (((at_ (⟨#[]⟩, (0, 0)) l f.1).2).1)) then some false
 else
 a f.1 f.2 0
def Z0r (l : R0) (f : Int × List Int) : Option Bool := Z9d N (Z44 N N) l f
def Z6o (N : Nat) (a : T86) (a2 : I0) (b2 : I0) (i : Int) : Option Int :=
 bif decide (i < (a2.length : Int)) then
  bif decide (i < (b2.length : Int)) then
   grd (inb i a2) <|
   grd (inb i b2) <|
   bif decide ((at_ 0 a2 i) < (at_ 0 b2 i)) then some (-1)
   else
   grd (inb i a2) <|
   grd (inb i b2) <|
   bif decide ((at_ 0 a2 i) > (at_ 0 b2 i)) then some 1
   else
   a a2 b2 (w64 (i + 1))
  else
  bif decide ((a2.length : Int) < (b2.length : Int)) then some (-1)
  else
  bif decide ((a2.length : Int) > (b2.length : Int)) then some 1
  else
  some 0
 else
 bif decide ((a2.length : Int) < (b2.length : Int)) then some (-1)
 else
 bif decide ((a2.length : Int) > (b2.length : Int)) then some 1
 else
 some 0
def Z59 (N : Nat) : Nat -> T86
 | 0 => fun _ _ _ => none
 | k_ + 1 => Z6o N (Z59 N k_)
def Z0d2 (N : Nat) (c : T86) (a : I0) (b : I0) : Option Int :=
 c a b 0
def Z6l (a : I0) (b : I0) : Option Int := Z0d2 N (Z59 N N) a b
def Z1c (a : Int × List Int) (b : Int × List Int) : Option Int :=
 bif decide (a.1 < b.1) then some (-1)
 else
 bif decide (a.1 > b.1) then some 1
 else
 (Z6l N a.2 b.2).bind fun r =>
 some r
def Z4l (a : T80) (d2 : R0) (d3 : A0) (i : Int) : Option Bool :=
 bif decide (i < (d3.length : Int)) then
  grd (inb i d3) <|
  (Z0r N d2 (at_ (0, []) d3 i)).bind fun r =>
  bif (!r) then some false
  else
  bif decide (i > 0) then
   grd (inb (w64 (i - 1)) d3) <|
   grd (inb i d3) <|
   (Z1c N (at_ (0, []) d3 (w64 (i - 1))) (at_ (0, []) d3 i)).bind fun r2 =>
   bif decide (r2 >= 0) then some false
   else
   a d2 d3 (w64 (i + 1))
  else
  a d2 d3 (w64 (i + 1))
 else
 (Z0h N d2).bind fun r3 =>
 bif r3 then some (decide ((d3.length : Int) <= 14))
 else
 some false
def Z2m (N : Nat) : Nat -> T80
 | 0 => fun _ _ _ => none
 | k_ + 1 => Z4l N (Z2m N k_)
def Z7n (N : Nat) (a : T80) (d : D0) : Option Bool :=
 a d.1 d.2 0
def Z0 (d : D0) : Option Bool := Z7n N (Z2m N N) d
def Z90 (a : T60) (d2 : R0) (d3 : A0) (f2 : Int) (f3 : I0) (i : Int) : Option Int :=
 bif decide (i < (d3.length : Int)) then
  grd (inb i d3) <|
  (Z1c N (at_ (0, []) d3 i) (f2, f3)).bind fun r =>
  bif (r == 0) then some i
  else
  a d2 d3 f2 f3 (w64 (i + 1))
 else
 some (-1)
def Z6c (N : Nat) : Nat -> T60
 | 0 => fun _ _ _ _ _ => none
 | k_ + 1 => Z90 N (Z6c N k_)
def Z0bu (N : Nat) (a : T60) (d : D0) (f : Int × List Int) : Option Int :=
 a d.1 d.2 f.1 f.2 0
def Z6m (d : D0) (f : Int × List Int) : Option Int := Z0bu N (Z6c N N) d f
def Z3x (d : D0) (f : Int × List Int) : Option Bool :=
 (Z0 N d).bind fun r =>
 bif r then
  (Z6m N d f).bind fun r2 =>
  some (decide (r2 >= 0))
 else
 some false
def Z8j (a : T42) (f2 : Int) (f3 : I0) (t4 : R0) (b : A0) (x : R0) (x2 : A0) (k : Int) : Option (D0 × Bool) :=
 bif decide (k < (x2.length : Int)) then
  grd (inb k x2) <|
  (Z1c N (at_ (0, []) x2 k) (f2, f3)).bind fun r5 =>
  bif decide (r5 < 0) then a f2 f3 t4 b x x2 (w64 (k + 1))
  else
  grd (appOk [] f3 8) <|
  grd (subOk k (x2.length : Int) x2.length) <|
  grd (appOk [(f2, f3)] (x2.drop k.toNat) 32) <|
  grd (subOk 0 k x2.length) <|
  grd (appOk [] (x2.take k.toNat) 32) <|
  grd (appOk (x2.take k.toNat) ([(f2, f3)] ++ (x2.drop k.toNat)) 32) <|
  some ((x, ((x2.take k.toNat) ++ ([(f2, f3)] ++ (x2.drop k.toNat)))), true)
 else
 grd (appOk [] f3 8) <|
 grd (subOk k (x2.length : Int) x2.length) <|
 grd (appOk [(f2, f3)] (x2.drop k.toNat) 32) <|
 grd (subOk 0 k x2.length) <|
 grd (appOk [] (x2.take k.toNat) 32) <|
 grd (appOk (x2.take k.toNat) ([(f2, f3)] ++ (x2.drop k.toNat)) 32) <|
 some ((x, ((x2.take k.toNat) ++ ([(f2, f3)] ++ (x2.drop k.toNat)))), true)
def Z5p (N : Nat) : Nat -> T42
 | 0 => fun _ _ _ _ _ _ _ => none
 | k_ + 1 => Z8j N (Z5p N k_)
def Z9v (a : T42) (d : D0) (f : Int × List Int) : Option (D0 × Bool) :=
 (Z7m N d).bind fun r =>
 (Z0 N d).bind fun r2 =>
 bif (!r2) then some (r, false)
 else
 (Z0r N d.1 f).bind fun r3 =>
 bif (!r3) then some (r, false)
 else
 (Z3x N d f).bind fun r4 =>
 bif r4 then some (r, false)
 else
 bif ((d.2.length : Int) == 14) then some (r, false)
 else
 a f.1 f.2 [] [] r.1 r.2 0
def Z42 (d : D0) (f : Int × List Int) : Option (D0 × Bool) := Z9v N (Z5p N N) d f
def Z0b1 (d : T0) (c5 : I0) (c6 : Int) (c7 : Int) (e : R0) (f : A0) (d3 : R0) (d4 : A0) (b : Int) (n2 : Int) : Option ((List Int × Int × Int) × List (ByteArray × Int × Int) × List (Int × List Int)) :=
 bif decide (n2 > 0) then
  (Z7l N (c5, c6, c7) d3 b).bind fun a =>
  (Z42 N (d3, d4) a.2).bind fun c =>
  d c5 a.1.2.1 a.1.2.2 e f c.1.1 c.1.2 b (w64 (n2 - 1))
 else
 some ((c5, c6, c7), (d3, d4))
def Z82 (N : Nat) : Nat -> T0
 | 0 => fun _ _ _ _ _ _ _ _ _ => none
 | k_ + 1 => Z0b1 N (Z82 N k_)
def Z0b2 (e : T0) (g : T0) (c2 : I0) (c3 : Int) (c4 : Int) (t2 : R0) (f : A0) (d : R0) (d2 : A0) (b : Int) (n : Int) : Option ((List Int × Int × Int) × List (ByteArray × Int × Int) × List (Int × List Int)) :=
 bif decide (n > 0) then
  (Z7l N (c2, c3, c4) d b).bind fun a =>
  (Z42 N (d, d2) a.2).bind fun c =>
  e c2 a.1.2.1 a.1.2.2 t2 f c.1.1 c.1.2 b (w64 (n - 1))
 else
 some ((c2, c3, c4), (d, d2))
def Z0aj (N : Nat) : Nat -> T0
 | 0 => fun _ _ _ _ _ _ _ _ _ => none
 | k_ + 1 => Z0b2 N (Z82 N k_) (Z0aj N k_)
def Z0dp (e : T0) (c : List Int × Int × Int) : Option ((List Int × Int × Int) × List (ByteArray × Int × Int) × List (Int × List Int)) :=
 (Z7k N c).bind fun b =>
 (Z0y N (c.1, b.1.2) [2, 2, 3, 3]).bind fun d =>
 (Z1 N (c.1, d.1.2) 11).bind fun a =>
 e c.1 a.1.2.1 a.1.2.2 [] [] b.2 [] d.2 (w64 (2 + a.2))
def Z0ac (c : List Int × Int × Int) : Option ((List Int × Int × Int) × List (ByteArray × Int × Int) × List (Int × List Int)) := Z0dp N (Z0aj N N) c
def Z0ak (N : Nat) (a : T1) (c5 : I0) (c6 : Int) (c7 : Int) (b : R0) (c : A0) (d3 : R0) (d4 : A0) : Option ((List Int × Int × Int) × List (ByteArray × Int × Int) × List (Int × List Int)) :=
 bif decide ((d4.length : Int) > 9) then
  grd (subOk 0 (w64 ((d4.length : Int) - 1)) d4.length) <|
  a c5 c6 c7 b c d3 (d4.take (w64 ((d4.length : Int) - 1)).toNat)
 else
 some ((c5, c6, c7), (d3, d4))
def Z75 (N : Nat) : Nat -> T1
 | 0 => fun _ _ _ _ _ _ _ => none
 | k_ + 1 => Z0ak N (Z75 N k_)
def Z0al (N : Nat) (a : T1) (c : T1) (c2 : I0) (c3 : Int) (c4 : Int) (t2 : R0) (b : A0) (d : R0) (d2 : A0) : Option ((List Int × Int × Int) × List (ByteArray × Int × Int) × List (Int × List Int)) :=
 bif decide ((d2.length : Int) > 9) then
  grd (subOk 0 (w64 ((d2.length : Int) - 1)) d2.length) <|
  a c2 c3 c4 t2 b d (d2.take (w64 ((d2.length : Int) - 1)).toNat)
 else
 some ((c2, c3, c4), (d, d2))
def Z0a5 (N : Nat) : Nat -> T1
 | 0 => fun _ _ _ _ _ _ _ => none
 | k_ + 1 => Z0al N (Z75 N k_) (Z0a5 N k_)
def Z0db (b : T1) (c : List Int × Int × Int) : Option ((List Int × Int × Int) × List (ByteArray × Int × Int) × List (Int × List Int)) :=
 (Z0ac N c).bind fun a =>
 b c.1 a.1.2.1 a.1.2.2 [] [] a.2.1 a.2.2
def Z9q (c : List Int × Int × Int) : Option ((List Int × Int × Int) × List (ByteArray × Int × Int) × List (Int × List Int)) := Z0db N (Z0a5 N N) c
def Z2h (c : List Int × Int × Int) (n : Int) : Option ((List Int × Int × Int) × Bool) :=
 (Z1 N c n).bind fun a =>
 some ((c.1, a.1.2), (a.2 == 0))
def Z9w (N : Nat) (a : T32) (q2 : Int) (q3 : A0) (q4 : I0) (t2 : Int) (b : A0) (c : I0) (x : Int) (x2 : A0) (x3 : I0) (i : Int) : Option Q0 :=
 bif decide (i < (q3.length : Int)) then
  grd (inb i q3) <|
  grd (inb i q3) <|
  grd (appOk [] ((at_ (0, []) q3 i).2) 8) <|
  grd (appOk x2 [(at_ (0, []) q3 i)] 32) <|
  a q2 q3 q4 t2 b c x (x2 ++ [(at_ (0, []) q3 i)]) x3 (w64 (i + 1))
 else
 some (x, x2, x3)
def Z7b (N : Nat) : Nat -> T32
 | 0 => fun _ _ _ _ _ _ _ _ _ _ => none
 | k_ + 1 => Z9w N (Z7b N k_)
def Z0b3 (N : Nat) (a : T32) (q : Q0) : Option Q0 :=
 grd (appOk [] q.2.2 8) <|
 a q.1 q.2.1 q.2.2 0 [] [] q.1 [] q.2.2 0
def Z6p (q : Q0) : Option Q0 := Z0b3 N (Z7b N N) q
def Z9e (N : Nat) (f : T15) (g : T25) (b : Int) (c : A0) (d : I0) (x7 : Int) (x8 : A0) (x9 : I0) (a : I0) (i3 : Int) (k2 : Int) (t : Int) (e : Int) (j : Int) : Option Q0 :=
 bif decide (j < (a.length : Int)) then
  grd (inb j a) <|
  bif ((at_ 0 a j) == t) then g b c d x7 x8 x9 a i3 k2 t j (w64 (j + 1))
  else
  g b c d x7 x8 x9 a i3 k2 t e (w64 (j + 1))
 else
 bif decide (e < 0) then
  grd (appOk a [t] 8) <|
  grd (inb i3 x8) <|
  grd (inb k2 ((at_ (0, []) x8 i3).2)) <|
  letv (x8.set i3.toNat ((at_ (0, []) x8 i3).1, (((at_ (0, []) x8 i3).2).set k2.toNat (a.length : Int)))) fun u =>
  f b c d x7 u x9 (a ++ [t]) i3 (w64 (k2 + 1))
 else
 grd (inb i3 x8) <|
 grd (inb k2 ((at_ (0, []) x8 i3).2)) <|
 letv (x8.set i3.toNat ((at_ (0, []) x8 i3).1, (((at_ (0, []) x8 i3).2).set k2.toNat e))) fun u2 =>
 f b c d x7 u2 x9 a i3 (w64 (k2 + 1))
def Z5a (a : T15) (N : Nat) : Nat -> T25
 | 0 => fun _ _ _ _ _ _ _ _ _ _ _ _ => none
 | k_ + 1 => Z9e N a (Z5a a N k_)
def Z9f (N : Nat) (e : T19) (f : T25) (g : T15) (a : Int) (b : A0) (c : I0) (x4 : Int) (x5 : A0) (x6 : I0) (d : I0) (i2 : Int) (k : Int) : Option Q0 :=
 grd (inb i2 x5) <|
 bif decide (k < (((at_ (0, []) x5 i2).2).length : Int)) then
  grd (inb i2 x5) <|
  grd (inb k ((at_ (0, []) x5 i2).2)) <|
  bif decide ((at_ 0 ((at_ (0, []) x5 i2).2) k) < 0) then g a b c x4 x5 x6 d i2 (w64 (k + 1))
  else
  f a b c x4 x5 x6 d i2 k (at_ 0 ((at_ (0, []) x5 i2).2) k) (-1) 0
 else
 e a b c x4 x5 x6 d (w64 (i2 + 1))
def Z4e (a : T19) (N : Nat) : Nat -> T15
 | 0 => fun _ _ _ _ _ _ _ _ _ => none
 | k_ + 1 => Z9f N a (Z5a (Z4e a N k_) N N) (Z4e a N k_)
def Z9g (N : Nat) (b : T15) (e : T19) (t2 : Int) (c : A0) (d : I0) (x : Int) (x2 : A0) (x3 : I0) (a : I0) (i : Int) : Option Q0 :=
 bif decide (i < (x2.length : Int)) then b t2 c d x x2 x3 a i 0
 else
 some ((a.length : Int), x2, x3)
def Z5b (N : Nat) : Nat -> T19
 | 0 => fun _ _ _ _ _ _ _ _ => none
 | k_ + 1 => Z9g N (Z4e (Z5b N k_) N N) (Z5b N k_)
def Z0am (a : T19) (q : Q0) : Option Q0 :=
 (Z6p N q).bind fun r =>
 a 0 [] [] r.1 r.2.1 r.2.2 [] 0
def Z66 (q : Q0) : Option Q0 := Z0am N (Z5b N N) q
def Z9h (k : T2) (j : T3) (c5 : I0) (c6 : Int) (c7 : Int) (e : Int) (f : A0) (g : I0) (q4 : Int) (q5 : A0) (q6 : I0) (n2 : Int) (b : Int) (h : Int) (i2 : Int) (a : Int) (a2 : I0) (m4 : Int) : Option ((List Int × Int × Int) × Int × List (Int × List Int) × List Int) :=
 bif decide (m4 > 0) then
  (Z2h N (c5, c6, c7) 12).bind fun i =>
  bif i.2 then
   (Z1 N (c5, i.1.2) 2).bind fun c =>
   grd (appOk a2 [(w64 ((-1) - c.2))] 8) <|
   j c5 c.1.2.1 c.1.2.2 e f g q4 q5 q6 n2 b h i2 a (a2 ++ [(w64 ((-1) - c.2))]) (w64 (m4 - 1))
  else
  (Z1 N (c5, i.1.2) b).bind fun d =>
  grd (appOk a2 [d.2] 8) <|
  j c5 d.1.2.1 d.1.2.2 e f g q4 q5 q6 n2 b h i2 a (a2 ++ [d.2]) (w64 (m4 - 1))
 else
 grd (appOk q5 [(a, a2)] 32) <|
 k c5 c6 c7 e f g q4 (q5 ++ [(a, a2)]) q6 n2 b h (w64 (i2 + 1))
def Z5c (a : T2) (N : Nat) : Nat -> T3
 | 0 => fun _ _ _ _ _ _ _ _ _ _ _ _ _ _ _ _ => none
 | k_ + 1 => Z9h N a (Z5c a N k_)
def Z9i (b : T3) (f : T2) (c2 : I0) (c3 : Int) (c4 : Int) (t2 : Int) (c : A0) (d : I0) (q : Int) (q2 : A0) (q3 : I0) (n : Int) (e : Int) (a : Int) (i : Int) : Option ((List Int × Int × Int) × Int × List (Int × List Int) × List Int) :=
 bif decide (i < n) then
  grz 4 <|
  grz 3 <|
  b c2 c3 c4 t2 c d q q2 q3 n e a i ((w64 (a + i)).tmod 4) [] (w64 (2 + (w64 (((w64 (a + i)).tmod 4).tdiv 3))))
 else
 (Z66 N (q, q2, q3)).bind fun r7 =>
 some ((c2, c3, c4), r7)
def Z5d (N : Nat) : Nat -> T2
 | 0 => fun _ _ _ _ _ _ _ _ _ _ _ _ _ => none
 | k_ + 1 => Z9i N (Z5c (Z5d N k_) N N) (Z5d N k_)
def Z0c5 (e : T2) (c : List Int × Int × Int) : Option ((List Int × Int × Int) × Int × List (Int × List Int) × List Int) :=
 (Z1 N c 3).bind fun b =>
 (Z1 N (c.1, b.1.2) 4).bind fun d =>
 (Z1 N (c.1, d.1.2) 4).bind fun a =>
 e c.1 a.1.2.1 a.1.2.2 0 [] [] 0 [] [] (w64 (1 + b.2)) (w64 (1 + d.2)) a.2 0
def Z76 (c : List Int × Int × Int) : Option ((List Int × Int × Int) × Int × List (Int × List Int) × List Int) := Z0c5 N (Z5d N N) c
def Z7o (c : List Int × Int × Int) (a : List ByteArray) : Option ((List Int × Int × Int) × ByteArray) :=
 (Z1 N c (a.length : Int)).bind fun b =>
 grd (inb b.2 a) <|
 some ((c.1, b.1.2), (at_ (⟨#[]⟩) a b.2))
def Z0c6 (N : Nat) (e : T28) (s2 : ByteArray) (d : Int) (c : List ByteArray) (a : Int) (i : Int) : Option (List ByteArray) :=
 bif decide (i < (s2.size : Int)) then
  (byteAt s2 i).bind fun b =>
  bif ((b.toNat : Int) == d) then
   grd (subOk a i s2.size) <|
   grd (appOk c [(sub s2 a i)] 16) <|
   e s2 d (c ++ [(sub s2 a i)]) (w64 (i + 1)) (w64 (i + 1))
  else
  e s2 d c a (w64 (i + 1))
 else
 grd (subOk a (s2.size : Int) s2.size) <|
 grd (appOk c [(sub s2 a (s2.size : Int))] 16) <|
 some (c ++ [(sub s2 a (s2.size : Int))])
def Z0bf (N : Nat) : Nat -> T28
 | 0 => fun _ _ _ _ _ => none
 | k_ + 1 => Z0c6 N (Z0bf N k_)
def Z0dc (N : Nat) (a : T28) (s : ByteArray) (b : Int) : Option (List ByteArray) :=
 a s b [] 0 0
def Z9r (s : ByteArray) (a : Int) : Option (List ByteArray) := Z0dc N (Z0bf N N) s a
def Z83 (t : Int) : Option (Int × Bool) :=
 bif decide (t >= 0) then some (0, false)
 else
 (Z5 N (w64 ((-1) - t)) 0 9).bind fun r =>
 bif (!r) then some (0, false)
 else
 some ((w64 ((-1) - t)), true)
def Z0ay (N : Nat) (c : T53) (n2 : Int) (a : ByteArray) (b : Bool) : Option ByteArray :=
 bif (n2 != 0) then
  grz 10 <|
  bif decide ((n2.tmod 10) < 0) then
   grd (catOk (ofBytes [(w .u8 (w64 (48 + (w64 (0 - (n2.tmod 10))))))]) a) <|
   grz 10 <|
   c (w64 (n2.tdiv 10)) ((ofBytes [(w .u8 (w64 (48 + (w64 (0 - (n2.tmod 10))))))]) ++ a) b
  else
  grd (catOk (ofBytes [(w .u8 (w64 (48 + (n2.tmod 10))))]) a) <|
  grz 10 <|
  c (w64 (n2.tdiv 10)) ((ofBytes [(w .u8 (w64 (48 + (n2.tmod 10))))]) ++ a) b
 else
 bif b then
  grd (catOk (⟨#[45]⟩) a) <|
  some ((⟨#[45]⟩) ++ a)
 else
 some a
def Z9x (N : Nat) : Nat -> T53
 | 0 => fun _ _ _ => none
 | k_ + 1 => Z0ay N (Z9x N k_)
def Z0bv (N : Nat) (a : T53) (n : Int) : Option ByteArray :=
 bif (n == 0) then some (⟨#[48]⟩)
 else
 a n (⟨#[]⟩) (decide (n < 0))
def Z84 (n : Int) : Option ByteArray := Z0bv N (Z9x N N) n
def Z2i (t : Int) : Option ByteArray :=
 (Z83 N t).bind fun a =>
 bif a.2 then
  (Z84 N a.1).bind fun r3 =>
  some r3
 else
 (Z5 N t 0 3).bind fun r4 =>
 bif (!r4) then some (⟨#[]⟩)
 else
 grd (subOk t (w64 (t + 1)) (⟨#[120, 121, 122, 119]⟩ : ByteArray).size) <|
 some (sub (⟨#[120, 121, 122, 119]⟩ : ByteArray) t (w64 (t + 1)))
def Z0az (a : T62) (s2 : ByteArray) (t : Int) : Option (Int × Bool) :=
 bif decide (t < 4) then
  (Z2i N t).bind fun r =>
  bif (seq r s2) then some (t, true)
  else
  a s2 (w64 (t + 1))
 else
 some (0, false)
def Z9y (N : Nat) : Nat -> T62
 | 0 => fun _ _ => none
 | k_ + 1 => Z0az N (Z9y N k_)
def Z0bw (N : Nat) (a : T62) (s : ByteArray) : Option (Int × Bool) :=
 a s (-10)
def Z6n (s : ByteArray) : Option (Int × Bool) := Z0bw N (Z9y N N) s
def Z9u (N : Nat) (b : T66) (l2 : R0) (a : ByteArray) (i : Int) : Option Int :=
 bif decide (i < (l2.length : Int)) then
  grd (inb i l2) <|
  bif (seq ((at_ (⟨#[]⟩, (0, 0)) l2 i).1) a) then some i
  else
  b l2 a (w64 (i + 1))
 else
 some (-1)
def Z85 (N : Nat) : Nat -> T66
 | 0 => fun _ _ _ => none
 | k_ + 1 => Z9u N (Z85 N k_)
def Z0an (N : Nat) (a : T66) (l : R0) (b : ByteArray) : Option Int :=
 a l b 0
def Z5q (l : R0) (a : ByteArray) : Option Int := Z0an N (Z85 N N) l a
def Z7p (d : T9) (c : T5) (l4 : R0) (q8 : Int) (q9 : A0) (b : I0) (a : List Bool) (i3 : Int) (a3 : Int) (a4 : I0) (k2 : Int) : Option Bool :=
 bif decide (k2 < (a4.length : Int)) then
  grd (inb k2 a4) <|
  (Z5 N (at_ 0 a4 k2) (-10) (w64 (q8 - 1))).bind fun r5 =>
  bif (!r5) then some false
  else
  grd (inb k2 a4) <|
  bif decide ((at_ 0 a4 k2) >= 0) then
   grd (inb k2 a4) <|
   grd (inb (at_ 0 a4 k2) a) <|
   grd (inb (at_ 0 a4 k2) a) <|
   letv (a.set (at_ 0 a4 k2).toNat true) fun u =>
   c l4 q8 q9 b u i3 a3 a4 (w64 (k2 + 1))
  else
  c l4 q8 q9 b a i3 a3 a4 (w64 (k2 + 1))
 else
 d l4 q8 q9 b a (w64 (i3 + 1))
def Z1x (a : T9) (N : Nat) : Nat -> T5
 | 0 => fun _ _ _ _ _ _ _ _ _ => none
 | k_ + 1 => Z7p N a (Z1x a N k_)
def Z5k (N : Nat) (e : T9) (c : T5) (d : T5) (l3 : R0) (q5 : Int) (q6 : A0) (q7 : I0) (b : List Bool) (i2 : Int) (a : Int) (a2 : I0) (k : Int) : Option Bool :=
 bif decide (k < i2) then
  grd (inb k q6) <|
  bif (((at_ (0, []) q6 k).1) == a) then some false
  else
  d l3 q5 q6 q7 b i2 a a2 (w64 (k + 1))
 else
 c l3 q5 q6 q7 b i2 a a2 0
def Z2p (a : T9) (N : Nat) : Nat -> T5
 | 0 => fun _ _ _ _ _ _ _ _ _ => none
 | k_ + 1 => Z5k N a (Z1x a N N) (Z2p a N k_)
def Z5l (c : T67) (b : Int) (d : A0) (a : I0) (i4 : Int) : Option Bool :=
 bif decide (i4 < (a.length : Int)) then
  grd (inb i4 a) <|
  (Z5 N (at_ 0 a i4) 0 (w64 (b - 1))).bind fun r6 =>
  bif (!r6) then some false
  else
  bif decide (i4 > 0) then
   grd (inb i4 a) <|
   grd (inb (w64 (i4 - 1)) a) <|
   bif decide ((at_ 0 a i4) <= (at_ 0 a (w64 (i4 - 1)))) then some false
   else
   c b d a (w64 (i4 + 1))
  else
  c b d a (w64 (i4 + 1))
 else
 some true
def Z2q (N : Nat) : Nat -> T67
 | 0 => fun _ _ _ _ => none
 | k_ + 1 => Z5l N (Z2q N k_)
def Z5m (N : Nat) (e : T67) (f : T45) (a : Int) (c : A0) (d : I0) (b : List Bool) (v : Int) : Option Bool :=
 bif decide (v < a) then
  grd (inb v b) <|
  bif (!(at_ false b v)) then some false
  else
  f a c d b (w64 (v + 1))
 else
 e a c d 0
def Z2r (N : Nat) : Nat -> T45
 | 0 => fun _ _ _ _ _ => none
 | k_ + 1 => Z5m N (Z2q N N) (Z2r N k_)
def Z7q (b : T5) (c : T45) (d : T9) (l2 : R0) (q2 : Int) (q3 : A0) (q4 : I0) (a : List Bool) (i : Int) : Option Bool :=
 bif decide (i < (q3.length : Int)) then
  grd (inb i q3) <|
  (Z5 N ((at_ (0, []) q3 i).1) 0 (w64 ((l2.length : Int) - 1))).bind fun r4 =>
  bif (!r4) then some false
  else
  grd (inb ((at_ (0, []) q3 i).1) l2) <|
  bif ((((at_ (0, []) q3 i).2).length : Int) != (((at_ (⟨#[]⟩, (0, 0)) l2 ((at_ (0, []) q3 i).1)).2).1)) then some false
  else
  b l2 q2 q3 q4 a i ((at_ (0, []) q3 i).1) ((at_ (0, []) q3 i).2) 0
 else
 c q2 q3 q4 a 0
def Z3l (N : Nat) : Nat -> T9
 | 0 => fun _ _ _ _ _ _ => none
 | k_ + 1 => Z7q N (Z2p (Z3l N k_) N N) (Z2r N N) (Z3l N k_)
def Z91 (a : T9) (l : R0) (q : Q0) : Option Bool :=
 (Z0h N l).bind fun r =>
 bif (!r) then some false
 else
 (Z5 N q.1 0 4).bind fun r2 =>
 bif (!r2) then some false
 else
 (Z5 N (q.2.1.length : Int) 1 3).bind fun r3 =>
 bif (!r3) then some false
 else
 grd (makeOk 4 1) <|
 a l q.1 q.2.1 q.2.2 (List.replicate (4 : Int).toNat false) 0
def Z29 (l : R0) (q : Q0) : Option Bool := Z91 N (Z3l N N) l q
def Z0bm (a : T43) (l2 : R0) (a2 : Int) (a3 : I0) (s : ByteArray) (i : Int) : Option ByteArray :=
 bif decide (i < (a3.length : Int)) then
  grd (inb a2 l2) <|
  bif (i == (((at_ (⟨#[]⟩, (0, 0)) l2 a2).2).2)) then
   grd (catOk s (⟨#[124]⟩)) <|
   grd (inb i a3) <|
   (Z2i N (at_ 0 a3 i)).bind fun r =>
   grd (catOk (s ++ (⟨#[124]⟩)) r) <|
   a l2 a2 a3 ((s ++ (⟨#[124]⟩)) ++ r) (w64 (i + 1))
  else
  grd (inb i a3) <|
  (Z2i N (at_ 0 a3 i)).bind fun r2 =>
  grd (catOk s r2) <|
  a l2 a2 a3 (s ++ r2) (w64 (i + 1))
 else
 some s
def Z0ao (N : Nat) : Nat -> T43
 | 0 => fun _ _ _ _ _ => none
 | k_ + 1 => Z0bm N (Z0ao N k_)
def Z0cn (N : Nat) (b : T43) (l : R0) (a : Int × List Int) : Option ByteArray :=
 grd (inb a.1 l) <|
 b l a.1 a.2 ((at_ (⟨#[]⟩, (0, 0)) l a.1).1) 0
def Z86 (l : R0) (a : Int × List Int) : Option ByteArray := Z0cn N (Z0ao N N) l a
def Z0ad (a : T10) (l3 : R0) (q5 : Int) (q6 : A0) (q7 : I0) (s2 : ByteArray) (i2 : Int) : Option ByteArray :=
 bif decide (i2 < (q6.length : Int)) then
  bif decide (i2 > 0) then
   grd (catOk s2 (⟨#[32]⟩)) <|
   grd (inb i2 q6) <|
   (Z86 N l3 (at_ (0, []) q6 i2)).bind fun r3 =>
   grd (catOk (s2 ++ (⟨#[32]⟩)) r3) <|
   a l3 q5 q6 q7 ((s2 ++ (⟨#[32]⟩)) ++ r3) (w64 (i2 + 1))
  else
  grd (inb i2 q6) <|
  (Z86 N l3 (at_ (0, []) q6 i2)).bind fun r4 =>
  grd (catOk s2 r4) <|
  a l3 q5 q6 q7 (s2 ++ r4) (w64 (i2 + 1))
 else
 some s2
def Z92 (N : Nat) : Nat -> T10
 | 0 => fun _ _ _ _ _ _ => none
 | k_ + 1 => Z0ad N (Z92 N k_)
def Z0ae (a : T10) (b : T10) (l2 : R0) (q2 : Int) (q3 : A0) (q4 : I0) (s : ByteArray) (i : Int) : Option ByteArray :=
 bif decide (i < (q4.length : Int)) then
  grd (inb i q4) <|
  (Z2i N (at_ 0 q4 i)).bind fun r2 =>
  grd (catOk s r2) <|
  b l2 q2 q3 q4 (s ++ r2) (w64 (i + 1))
 else
 grd (catOk s (⟨#[63]⟩)) <|
 a l2 q2 q3 q4 (s ++ (⟨#[63]⟩)) 0
def Z93 (N : Nat) : Nat -> T10
 | 0 => fun _ _ _ _ _ _ => none
 | k_ + 1 => Z0ae N (Z92 N N) (Z93 N k_)
def Z0b5 (a : T10) (l : R0) (q : Q0) : Option ByteArray :=
 (Z29 N l q).bind fun r =>
 bif (!r) then some (⟨#[]⟩)
 else
 a l q.1 q.2.1 q.2.2 (⟨#[]⟩) 0
def Z6q (l : R0) (q : Q0) : Option ByteArray := Z0b5 N (Z93 N N) l q
def Z0ap (h : T4) (f : T13) (l4 : R0) (s4 : ByteArray) (c : Int) (d : A0) (e : I0) (q7 : Int) (q8 : A0) (q9 : I0) (p2 : List ByteArray) (i3 : Int) (a : Int) (a2 : I0) (k : Int) : Option (Q0 × Bool) :=
 grd (inb i3 p2) <|
 bif decide (k < ((at_ (⟨#[]⟩) p2 i3).size : Int)) then
  bif (k == 0) then
   grd (inb i3 p2) <|
   grd (subOk 0 1 (at_ (⟨#[]⟩) p2 i3).size) <|
   (Z5q N l4 (sub (at_ (⟨#[]⟩) p2 i3) 0 1)).bind fun r5 =>
   f l4 s4 c d e q7 q8 q9 p2 i3 r5 a2 (w64 (k + 1))
  else
  grd (inb i3 p2) <|
  (byteAt (at_ (⟨#[]⟩) p2 i3) k).bind fun b =>
  bif ((b.toNat : Int) == 124) then f l4 s4 c d e q7 q8 q9 p2 i3 a a2 (w64 (k + 1))
  else
  grd (inb i3 p2) <|
  grd (subOk k (w64 (k + 1)) (at_ (⟨#[]⟩) p2 i3).size) <|
  (Z6n N (sub (at_ (⟨#[]⟩) p2 i3) k (w64 (k + 1)))).bind fun g =>
  grd (appOk a2 [g.1] 8) <|
  f l4 s4 c d e (imax q7 (w64 (g.1 + 1))) q8 q9 p2 i3 a (a2 ++ [g.1]) (w64 (k + 1))
 else
 grd (appOk q8 [(a, a2)] 32) <|
 h l4 s4 c d e q7 (q8 ++ [(a, a2)]) q9 p2 (w64 (i3 + 1))
def Z9j (a : T4) (N : Nat) : Nat -> T13
 | 0 => fun _ _ _ _ _ _ _ _ _ _ _ _ _ => none
 | k_ + 1 => Z0ap N a (Z9j a N k_)
def Z0aq (a : T13) (e : T4) (l3 : R0) (s3 : ByteArray) (b : Int) (c : A0) (d : I0) (q4 : Int) (q5 : A0) (q6 : I0) (p : List ByteArray) (i2 : Int) : Option (Q0 × Bool) :=
 bif decide (i2 < (p.length : Int)) then a l3 s3 b c d q4 q5 q6 p i2 0 [] 0
 else
 (Z6q N l3 (q4, q5, q6)).bind fun r8 =>
 bif (!seq r8 s3) then some ((0, [], []), false)
 else
 some ((q4, q5, q6), true)
def Z7c (N : Nat) : Nat -> T4
 | 0 => fun _ _ _ _ _ _ _ _ _ _ => none
 | k_ + 1 => Z0aq N (Z9j (Z7c N k_) N N) (Z7c N k_)
def Z0ar (d : T4) (e : T17) (l2 : R0) (s2 : ByteArray) (t4 : Int) (a : A0) (b : I0) (w : List ByteArray) (q : Int) (q2 : A0) (q3 : I0) (i : Int) : Option (Q0 × Bool) :=
 grd (inb 0 w) <|
 bif decide (i < ((at_ (⟨#[]⟩) w 0).size : Int)) then
  grd (inb 0 w) <|
  grd (subOk i (w64 (i + 1)) (at_ (⟨#[]⟩) w 0).size) <|
  (Z6n N (sub (at_ (⟨#[]⟩) w 0) i (w64 (i + 1)))).bind fun c =>
  grd (appOk q3 [c.1] 8) <|
  e l2 s2 t4 a b w q q2 (q3 ++ [c.1]) (w64 (i + 1))
 else
 grd (inb 1 w) <|
 (Z9r N (at_ (⟨#[]⟩) w 1) 32).bind fun r4 =>
 d l2 s2 t4 a b q q2 q3 r4 0
def Z9k (N : Nat) : Nat -> T17
 | 0 => fun _ _ _ _ _ _ _ _ _ _ => none
 | k_ + 1 => Z0ar N (Z7c N N) (Z9k N k_)
def Z0bn (a : T17) (l : R0) (s : ByteArray) : Option (Q0 × Bool) :=
 (Z9r N s 63).bind fun r =>
 bif ((r.length : Int) != 2) then some ((0, [], []), false)
 else
 a l s 0 [] [] r 0 [] [] 0
def Z2j (l : R0) (s : ByteArray) : Option (Q0 × Bool) := Z0bn N (Z9k N N) l s
def Z67 (c : List Int × Int × Int) (l : R0) : Option ((List Int × Int × Int) × Int × List (Int × List Int) × List Int) :=
 (Z7o N c [⟨#[63, 114, 120, 124, 121, 32, 115, 121, 124, 122]⟩, ⟨#[63, 114, 120, 124, 121, 32, 115, 121, 124, 120]⟩, ⟨#[63, 114, 120, 124, 121, 32, 115, 122, 124, 121]⟩, ⟨#[63, 114, 120, 124, 121, 32, 115, 120, 124, 122]⟩, ⟨#[63, 114, 120, 124, 49]⟩, ⟨#[63, 114, 120, 124, 120]⟩, ⟨#[63, 114, 120, 124, 121, 32, 115, 121, 124, 49]⟩, ⟨#[63, 114, 120, 124, 121, 32, 115, 121, 124, 122, 32, 114]⟩, ⟨#[63, 114, 120, 124, 121]⟩, ⟨#[63, 114, 120, 124, 122, 32, 115, 121, 124, 122]⟩]).bind fun a =>
 (Z2j N l a.2).bind fun b =>
 bif (!b.2) then
  (Z2j N l (⟨#[63, 114, 120, 124, 121, 32, 115, 121, 124, 122]⟩)).bind fun d =>
  some ((c.1, a.1.2), d.1)
 else
 some ((c.1, a.1.2), b.1)
def Z9z (b : T8) (c2 : I0) (c3 : Int) (c4 : Int) (t4 : Int) (c : A0) (d : I0) (q : Int) (q2 : A0) (q3 : I0) (v : Int) : Option ((List Int × Int × Int) × Int × List (Int × List Int) × List Int) :=
 bif decide (v < q) then
  (Z2h N (c2, c3, c4) 3).bind fun a =>
  bif a.2 then
   grd (appOk q3 [v] 8) <|
   b c2 a.1.2.1 a.1.2.2 t4 c d q q2 (q3 ++ [v]) (w64 (v + 1))
  else
  b c2 a.1.2.1 a.1.2.2 t4 c d q q2 q3 (w64 (v + 1))
 else
 some ((c2, c3, c4), (q, q2, q3))
def Z62 (N : Nat) : Nat -> T8
 | 0 => fun _ _ _ _ _ _ _ _ _ _ => none
 | k_ + 1 => Z9z N (Z62 N k_)
def Z0co (g : T8) (c : List Int × Int × Int) (l : R0) : Option ((List Int × Int × Int) × Int × List (Int × List Int) × List Int) :=
 (Z76 N c).bind fun a =>
 (Z2h N (c.1, a.1.2) 3).bind fun f =>
 bif f.2 then
  (Z67 N (c.1, f.1.2) l).bind fun b =>
  (Z2h N (c.1, b.1.2) 4).bind fun d =>
  bif d.2 then g c.1 d.1.2.1 d.1.2.2 0 [] [] b.2.1 b.2.2.1 b.2.2.2 0
  else
  some ((c.1, d.1.2), b.2)
 else
 (Z2h N (c.1, f.1.2) 4).bind fun e =>
 bif e.2 then g c.1 e.1.2.1 e.1.2.2 0 [] [] a.2.1 a.2.2.1 a.2.2.2 0
 else
 some ((c.1, e.1.2), a.2)
def Z5r (c : List Int × Int × Int) (l : R0) : Option ((List Int × Int × Int) × Int × List (Int × List Int) × List Int) := Z0co N (Z62 N N) c l
def Z7r (c : List Int × Int × Int) (l : R0) : Option ((List Int × Int × Int) × Int × List (Int × List Int) × List Int) :=
 (Z5r N c l).bind fun a =>
 (Z1 N (c.1, a.1.2) 14).bind fun b =>
 bif (b.2 == 0) then
  (Z0y N (c.1, b.1.2) [(-1), (w64 (a.2.1 + 1)), 5]).bind fun f =>
  some ((c.1, f.1.2), (f.2, a.2.2))
 else
 bif (b.2 == 1) then
  (Z1 N (c.1, b.1.2) 6).bind fun d =>
  grd (appOk a.2.2.1 [((w64 (d.2 - 1)), [0, 0])] 32) <|
  some ((c.1, d.1.2), (a.2.1, (a.2.2.1 ++ [((w64 (d.2 - 1)), [0, 0])]), a.2.2.2))
 else
 bif (b.2 == 2) then
  grd (inb 0 a.2.2.1) <|
  (Z0y N (c.1, b.1.2) [(-11), 4, 3]).bind fun g =>
  grd (inb 0 ((at_ (0, []) a.2.2.1 0).2)) <|
  letv (a.2.2.1.set 0 ((at_ (0, []) a.2.2.1 0).1, (((at_ (0, []) a.2.2.1 0).2).set 0 g.2))) fun u =>
  some ((c.1, g.1.2), (a.2.1, u, a.2.2.2))
 else
 bif (b.2 == 3) then
  (Z1 N (c.1, b.1.2) 5).bind fun e =>
  grd (appOk a.2.2.2 [e.2] 8) <|
  some ((c.1, e.1.2), (a.2.1, a.2.2.1, (a.2.2.2 ++ [e.2])))
 else
 some ((c.1, b.1.2), a.2)
def Z5s (e : I0) : Option ((List Int × Int × Int) × D0 × Int × List (Int × List Int) × List Int) :=
 (Z8i N e).bind fun r =>
 (Z9q N r).bind fun a =>
 (Z5r N (r.1, a.1.2) a.2.1).bind fun c =>
 (Z2h N (r.1, c.1.2) 20).bind fun b =>
 bif b.2 then
  (Z7r N (r.1, b.1.2) a.2.1).bind fun d =>
  some ((r.1, d.1.2), a.2, d.2)
 else
 some ((r.1, b.1.2), a.2, c.2)
def Z7s (c : List Int × Int × Int) : Option ((List Int × Int × Int) × Int × Int × Int × Int × Int × Int × Int) :=
 (Z1 N c 3).bind fun b =>
 (Z1 N (c.1, b.1.2) 3).bind fun g =>
 (Z1 N (c.1, g.1.2) 2).bind fun h =>
 (Z1 N (c.1, h.1.2) 2).bind fun d =>
 (Z1 N (c.1, d.1.2) 2).bind fun e =>
 (Z1 N (c.1, e.1.2) 2).bind fun f =>
 (Z1 N (c.1, f.1.2) 2).bind fun i =>
 (Z1 N (c.1, i.1.2) 14).bind fun a =>
 bif (a.2 == 0) then
  (Z0y N (c.1, a.1.2) [(-1), 2]).bind fun j =>
  some ((c.1, j.1.2), (b.2, g.2, j.2, d.2, e.2, f.2, (w64 (1 + i.2))))
 else
 bif (a.2 == 1) then
  (Z0y N (c.1, a.1.2) [0, 3]).bind fun k =>
  some ((c.1, k.1.2), (b.2, g.2, h.2, d.2, e.2, f.2, k.2))
 else
 bif (a.2 == 2) then
  (Z1 N (c.1, a.1.2) 6).bind fun l =>
  some ((c.1, l.1.2), (b.2, (w64 (l.2 - 1)), h.2, d.2, e.2, f.2, (w64 (1 + i.2))))
 else
 some ((c.1, a.1.2), (b.2, g.2, h.2, d.2, e.2, f.2, (w64 (1 + i.2))))
def Z0a9 (b : T26) (c2 : I0) (c3 : Int) (c4 : Int) (l : List C0) (n : Int) : Option ((List Int × Int × Int) × List C0) :=
 bif decide (n > 0) then
  (Z7s N (c2, c3, c4)).bind fun a =>
  grd (appOk l [a.2] 56) <|
  b c2 a.1.2.1 a.1.2.2 (l ++ [a.2]) (w64 (n - 1))
 else
 some ((c2, c3, c4), l)
def Z87 (N : Nat) : Nat -> T26
 | 0 => fun _ _ _ _ _ => none
 | k_ + 1 => Z0a9 N (Z87 N k_)
def Z0d3 (b : T26) (c : List Int × Int × Int) : Option ((List Int × Int × Int) × List C0) :=
 (Z1 N c 3).bind fun a =>
 b c.1 a.1.2.1 a.1.2.2 [] a.2
def Z8x (c : List Int × Int × Int) : Option ((List Int × Int × Int) × List C0) := Z0d3 N (Z87 N N) c
def Z5t (c : I0) : Option ((List Int × Int × Int) × D0 × (List C0) × Int × List (Int × List Int) × List Int) :=
 (Z5s N c).bind fun a =>
 (Z8x N a.1).bind fun b =>
 some ((a.1.1, b.1.2), a.2.1, b.2, a.2.2)
def Z0p (b : I0) : Option (D0 × (List C0) × Int × List (Int × List Int) × List Int) :=
 (Z5t N b).bind fun a =>
 some (a.2.1, a.2.2.1, a.2.2.2)
def Z1l (b : I0) : Option (D0 × (List C0) × Int × List (Int × List Int) × List Int) :=
 (Z0p N b).bind fun a =>
 some (a.1, a.2.1, a.2.2)
def Z6 (N : Nat) (n : Int) (a : Int) (b : Int) : Option Bool :=
 bif decide (a <= n) then some (decide (n <= b))
 else
 some false
def Z2s (a : ByteArray × Int × Int) : Option Bool :=
 bif ((a.1.size : Int) == 1) then
  (byteAt a.1 0).bind fun b =>
  bif decide ((b.toNat : Int) >= 97) then
   (byteAt a.1 0).bind fun b2 =>
   bif decide ((b2.toNat : Int) <= 122) then
    (Z6 N a.2.1 1 3).bind fun r =>
    bif r then
     (Z6 N a.2.2 0 a.2.1).bind fun r2 =>
     some r2
    else
    some false
   else
   some false
  else
  some false
 else
 some false
def Z43 (b : T68) (a : R0) (t5 : R0) (t6 : Int) (t7 : Int) : Option Bool :=
 bif decide (t7 < t6) then
  grd (inb t7 t5) <|
  (Z2s N ((at_ (⟨#[]⟩, (0, 0)) t5 t7).1, ((at_ (⟨#[]⟩, (0, 0)) t5 t7).2))).bind fun r =>
  bif (!r) then some false
  else
  bif decide (t7 > 0) then
   grd (inb (w64 (t7 - 1)) a) <|
   bif (!slt ((at_ (⟨#[]⟩, (0, 0)) a (w64 (t7 - 1))).1) ((at_ (⟨#[]⟩, (0, 0)) t5 t7).1)) then some false
   else
   b a t5 t6 (w64 (t7 + 1))
  else
  b a t5 t6 (w64 (t7 + 1))
 else
 some (decide ((a.length : Int) <= 4))
def Z27 (N : Nat) : Nat -> T68
 | 0 => fun _ _ _ _ => none
 | k_ + 1 => Z43 N (Z27 N k_)
def Z6r (N : Nat) (b : T68) (a : R0) : Option Bool :=
 b a a (a.length : Int) 0
def Z0z (a : R0) : Option Bool := Z6r N (Z27 N N) a
def Z4v (v : Int) : Option Bool :=
 (Z6 N v 0 9).bind fun r =>
 some (!r)
def Z13 (a : T81) (s2 : I0) (t7 : Int) (t8 : Int) : Option Int :=
 bif decide (t8 < t7) then
  grd (inb t8 s2) <|
  (Z4v N (at_ 0 s2 t8)).bind fun r =>
  bif r then some t8
  else
  a s2 t7 (w64 (t8 + 1))
 else
 some (-1)
def Z0f (N : Nat) : Nat -> T81
 | 0 => fun _ _ _ => none
 | k_ + 1 => Z13 N (Z0f N k_)
def Z2t (N : Nat) (a : T81) (s : I0) : Option Int :=
 a s (s.length : Int) 0
def Z0k (s : I0) : Option Int := Z2t N (Z0f N N) s
def Z0g (s : I0) : Option Bool :=
 (Z0k N s).bind fun r =>
 some (decide (r >= 0))
def Z5e (a : I0) : Option Bool :=
 (Z0g N a).bind fun r =>
 some (!r)
def Z7t (b : R0) (a : Int × List Int) : Option Bool :=
 (Z6 N a.1 0 (w64 ((b.length : Int) - 1))).bind fun r =>
 bif r then
  grd (inb a.1 b) <|
  bif ((a.2.length : Int) == (((at_ (⟨#[]⟩, (0, 0)) b a.1).2).1)) then
   (Z5e N a.2).bind fun r2 =>
   some r2
  else
  some false
 else
 some false
def Z89 (N : Nat) (a : Int) (b : Int) : Option Int :=
 bif decide (a < b) then some (-1)
 else
 bif decide (a > b) then some 1
 else
 some 0
def Z68 (N : Nat) (x : Int) : Option Bool :=
 some (x != x)
def Z4p (x : Int) (y : Int) : Option Int :=
 (Z68 N x).bind fun r =>
 (Z68 N y).bind fun r2 =>
 bif r then
  bif r2 then some 0
  else
  some (-1)
 else
 bif r2 then some 1
 else
 bif decide (x < y) then some (-1)
 else
 bif decide (x > y) then some 1
 else
 some 0
def Z2a (e : T61) (c : I0) (b : I0) (t9 : I0) (d : Int) (a : Int) : Option Int :=
 bif decide (a < d) then
  grd (inb a t9) <|
  bif decide (a >= (b.length : Int)) then some 1
  else
  grd (inb a b) <|
  (Z4p N (at_ 0 t9 a) (at_ 0 b a)).bind fun r =>
  bif (r != 0) then some r
  else
  e c b t9 d (w64 (a + 1))
 else
 bif decide ((c.length : Int) < (b.length : Int)) then some (-1)
 else
 some 0
def Z19 (N : Nat) : Nat -> T61
 | 0 => fun _ _ _ _ _ => none
 | k_ + 1 => Z2a N (Z19 N k_)
def Z98 (N : Nat) (a : T61) (s1 : I0) (s2 : I0) : Option Int :=
 a s1 s2 s1 (s1.length : Int) 0
def Z2n (s1 : I0) (s2 : I0) : Option Int := Z98 N (Z19 N N) s1 s2
def Z3y (a : Int × List Int) (b : Int × List Int) : Option Int :=
 bif (a.1 != b.1) then
  (Z89 N a.1 b.1).bind fun r =>
  some r
 else
 (Z2n N a.2 b.2).bind fun r2 =>
 some r2
def Z4m (f : T59) (d : R0) (c : A0) (b : A0) (e : Int) (a : Int) : Option Bool :=
 bif decide (a < e) then
  grd (inb a b) <|
  (Z7t N d (at_ (0, []) b a)).bind fun r2 =>
  bif (!r2) then some false
  else
  bif decide (a > 0) then
   grd (inb (w64 (a - 1)) c) <|
   (Z3y N (at_ (0, []) c (w64 (a - 1))) (at_ (0, []) b a)).bind fun r3 =>
   bif decide (r3 >= 0) then some false
   else
   f d c b e (w64 (a + 1))
  else
  f d c b e (w64 (a + 1))
 else
 some true
def Z2o (N : Nat) : Nat -> T59
 | 0 => fun _ _ _ _ _ => none
 | k_ + 1 => Z4m N (Z2o N k_)
def Z7u (a : T59) (db : D0) : Option Bool :=
 (Z0z N db.1).bind fun r =>
 bif (!r) then some false
 else
 bif decide ((db.2.length : Int) > 14) then some false
 else
 a db.1 db.2 db.2 (db.2.length : Int) 0
def Z0d (db : D0) : Option Bool := Z7u N (Z2o N N) db
def Z26 (db : D0) (a : C0) : Option Bool :=
 (Z0d N db).bind fun r =>
 bif (!r) then some false
 else
 (Z6 N a.1 0 (w64 ((db.1.length : Int) - 1))).bind fun r2 =>
 bif (!r2) then some false
 else
 (Z6 N a.2.1 0 (w64 ((db.1.length : Int) - 1))).bind fun r3 =>
 bif (!r3) then some false
 else
 grd (inb a.1 db.1) <|
 grd (inb a.2.1 db.1) <|
 (Z6 N a.2.2.1 0 (w64 ((((at_ (⟨#[]⟩, (0, 0)) db.1 a.1).2).1) - 1))).bind fun r4 =>
 bif r4 then
  (Z6 N a.2.2.2.2.1 0 (w64 ((((at_ (⟨#[]⟩, (0, 0)) db.1 a.1).2).1) - 1))).bind fun r5 =>
  bif r5 then
   (Z6 N a.2.2.2.1 0 (w64 ((((at_ (⟨#[]⟩, (0, 0)) db.1 a.2.1).2).1) - 1))).bind fun r6 =>
   bif r6 then
    (Z6 N a.2.2.2.2.2.1 0 (w64 ((((at_ (⟨#[]⟩, (0, 0)) db.1 a.2.1).2).1) - 1))).bind fun r7 =>
    bif r7 then
     (Z6 N a.2.2.2.2.2.2 1 2).bind fun r8 =>
     some r8
    else
    some false
   else
   some false
  else
  some false
 else
 some false
def Z77 (N : Nat) (c : C0) (a : Int × List Int) (b : Int × List Int) : Option Bool :=
 bif (a.1 != c.1) then some false
 else
 bif (b.1 != c.2.1) then some false
 else
 grd (inb c.2.2.1 a.2) <|
 grd (inb c.2.2.2.1 b.2) <|
 bif ((at_ 0 a.2 c.2.2.1) != (at_ 0 b.2 c.2.2.2.1)) then some false
 else
 grd (inb c.2.2.2.2.1 a.2) <|
 grd (inb c.2.2.2.2.2.1 b.2) <|
 bif (c.2.2.2.2.2.2 == 1) then
  bif ((at_ 0 a.2 c.2.2.2.2.1) == (at_ 0 b.2 c.2.2.2.2.2.1)) then some true
  else
  bif (c.2.2.2.2.2.2 == 2) then
   some (decide ((at_ 0 a.2 c.2.2.2.2.1) < (at_ 0 b.2 c.2.2.2.2.2.1)))
  else
  some false
 else
 bif (c.2.2.2.2.2.2 == 2) then
  some (decide ((at_ 0 a.2 c.2.2.2.2.1) < (at_ 0 b.2 c.2.2.2.2.2.1)))
 else
 some false
def Z1a (db : D0) (c : C0) (a : Int) (b : Int) : Option Bool :=
 (Z26 N db c).bind fun r =>
 bif r then
  bif (a != b) then
   (Z6 N a 0 (w64 ((db.2.length : Int) - 1))).bind fun r2 =>
   bif r2 then
    (Z6 N b 0 (w64 ((db.2.length : Int) - 1))).bind fun r3 =>
    bif r3 then
     grd (inb a db.2) <|
     grd (inb b db.2) <|
     (Z77 N c (at_ (0, []) db.2 a) (at_ (0, []) db.2 b)).bind fun r4 =>
     some r4
    else
    some false
   else
   some false
  else
  some false
 else
 some false
def Z4a (N : Nat) (e : T69) (b : I0) (c : I0) (d : Int) (a : Int) : Option Bool :=
 bif decide (a < d) then
  grd (inb a b) <|
  grd (inb a c) <|
  bif ((at_ 0 b a) != (at_ 0 c a)) then some false
  else
  e b c d (w64 (a + 1))
 else
 some true
def Z2b (N : Nat) : Nat -> T69
 | 0 => fun _ _ _ _ => none
 | k_ + 1 => Z4a N (Z2b N k_)
def Z71 (N : Nat) (a : T69) (s1 : I0) (s2 : I0) : Option Bool :=
 bif ((s1.length : Int) != (s2.length : Int)) then some false
 else
 a s1 s2 (s1.length : Int) 0
def Z2c (s1 : I0) (s2 : I0) : Option Bool := Z71 N (Z2b N N) s1 s2
def Z6s (c : R0) (a : Int × List Int) (b : Int × List Int) : Option Bool :=
 bif (a.1 != b.1) then some false
 else
 grd (inb a.1 c) <|
 grd (subOk 0 (((at_ (⟨#[]⟩, (0, 0)) c a.1).2).2) a.2.length) <|
 grd (subOk 0 (((at_ (⟨#[]⟩, (0, 0)) c a.1).2).2) b.2.length) <|
 (Z2c N (a.2.take (((at_ (⟨#[]⟩, (0, 0)) c a.1).2).2).toNat) (b.2.take (((at_ (⟨#[]⟩, (0, 0)) c a.1).2).2).toNat)).bind fun r =>
 some r
def Z4b (d : T39) (a2 : Int) (b2 : Int) (t3 : R0) (b : A0) (t9 : List C0) (c : Int) (a : Int) : Option Bool :=
 bif decide (a < c) then
  grd (inb a t9) <|
  (Z1a N (t3, b) ((at_ (0, (0, (0, (0, (0, (0, 0)))))) t9 a).1, ((at_ (0, (0, (0, (0, (0, (0, 0)))))) t9 a).2).1, (((at_ (0, (0, (0, (0, (0, (0, 0)))))) t9 a).2).2).1, ((((at_ (0, (0, (0, (0, (0, (0, 0)))))) t9 a).2).2).2).1, (((((at_ (0, (0, (0, (0, (0, (0, 0)))))) t9 a).2).2).2).2).1, ((((((at_ (0, (0, (0, (0, (0, (0, 0)))))) t9 a).2).2).2).2).2)) a2 b2).bind fun r =>
  bif r then some true
  else
  (Z1a N (t3, b) ((at_ (0, (0, (0, (0, (0, (0, 0)))))) t9 a).1, ((at_ (0, (0, (0, (0, (0, (0, 0)))))) t9 a).2).1, (((at_ (0, (0, (0, (0, (0, (0, 0)))))) t9 a).2).2).1, ((((at_ (0, (0, (0, (0, (0, (0, 0)))))) t9 a).2).2).2).1, (((((at_ (0, (0, (0, (0, (0, (0, 0)))))) t9 a).2).2).2).2).1, ((((((at_ (0, (0, (0, (0, (0, (0, 0)))))) t9 a).2).2).2).2).2)) b2 a2).bind fun r2 =>
  bif r2 then some true
  else
  d a2 b2 t3 b t9 c (w64 (a + 1))
 else
 grd (inb a2 b) <|
 grd (inb b2 b) <|
 (Z6s N t3 (at_ (0, []) b a2) (at_ (0, []) b b2)).bind fun r3 =>
 some r3
def Z2d (N : Nat) : Nat -> T39
 | 0 => fun _ _ _ _ _ _ _ => none
 | k_ + 1 => Z4b N (Z2d N k_)
def Z72 (N : Nat) (c : T39) (a : Int) (b : Int) (c2 : List C0) (c3 : D0) : Option Bool :=
 c a b c3.1 c3.2 c2 (c2.length : Int) 0
def Z2e (a : Int) (b : Int) (c2 : List C0) (c3 : D0) : Option Bool := Z72 N (Z2d N N) a b c2 c3
def Z2u (i : T22) (h : T35) (n3 : Int) (c : List C0) (d : D0) (e : E0) (a : Int) (b : Int) (f : Int) (g : Int) : Option E0 :=
 bif decide (b < n3) then
  (Z2e N a b c d).bind fun r =>
  bif r then
   grd (appOk e [(a, b)] 16) <|
   h n3 c d (e ++ [(a, b)]) a (w64 (b + 1)) f g
  else
  h n3 c d e a (w64 (b + 1)) f g
 else
 i n3 c d e f (w64 (g + 1))
def Z0s (a : T22) (N : Nat) : Nat -> T35
 | 0 => fun _ _ _ _ _ _ _ _ => none
 | k_ + 1 => Z2u N a (Z0s a N k_)
def Z2v (N : Nat) (c : T35) (f : T22) (n2 : Int) (d : List C0) (e : D0) (b : E0) (t9 : Int) (a : Int) : Option E0 :=
 bif decide (a < t9) then
  c n2 d e b a (w64 (a + 1)) t9 a
 else
 some b
def Z0t (N : Nat) : Nat -> T22
 | 0 => fun _ _ _ _ _ _ => none
 | k_ + 1 => Z2v N (Z0s (Z0t N k_) N N) (Z0t N k_)
def Z4z (N : Nat) (a : T22) (n : Int) (c : List C0) (c2 : D0) : Option E0 :=
 a n c c2 [] n 0
def Z1m (n : Int) (c : List C0) (c2 : D0) : Option E0 := Z4z N (Z0t N N) n c c2
def Z3f (db : D0) (a : List C0) : Option E0 :=
 (Z0d N db).bind fun r =>
 bif (!r) then some []
 else
 (Z1m N (db.2.length : Int) a db).bind fun r2 =>
 some r2
def Z51 (N : Nat) (e : T57) (n2 : Int) (c : E0) (b : E0) (d : Int) (a : Int) : Option Bool :=
 bif decide (a < d) then
  grd (inb a b) <|
  bif decide (((at_ (0, 0) b a).1) < 0) then some false
  else
  bif decide (((at_ (0, 0) b a).1) >= ((at_ (0, 0) b a).2)) then some false
  else
  bif decide (((at_ (0, 0) b a).2) >= n2) then some false
  else
  bif decide (a > 0) then
   grd (inb (w64 (a - 1)) c) <|
   bif decide (((at_ (0, 0) c (w64 (a - 1))).1) > ((at_ (0, 0) b a).1)) then some false
   else
   grd (inb (w64 (a - 1)) c) <|
   bif (((at_ (0, 0) c (w64 (a - 1))).1) == ((at_ (0, 0) b a).1)) then
    grd (inb (w64 (a - 1)) c) <|
    bif decide (((at_ (0, 0) c (w64 (a - 1))).2) >= ((at_ (0, 0) b a).2)) then some false
    else
    e n2 c b d (w64 (a + 1))
   else
   e n2 c b d (w64 (a + 1))
  else
  e n2 c b d (w64 (a + 1))
 else
 some true
def Z38 (N : Nat) : Nat -> T57
 | 0 => fun _ _ _ _ _ => none
 | k_ + 1 => Z51 N (Z38 N k_)
def Z8k (b : T57) (n : Int) (a : E0) : Option Bool :=
 (Z6 N n 0 14).bind fun r =>
 bif (!r) then some false
 else
 b n a a (a.length : Int) 0
def Z1y (n : Int) (a : E0) : Option Bool := Z8k N (Z38 N N) n a
def Z6h (b : T58) (a : I0) (n2 : Int) (t7 : I0) (t8 : Int) (t9 : Int) : Option Bool :=
 bif decide (t9 < t8) then
  grd (inb t9 t7) <|
  (Z6 N (at_ 0 t7 t9) 0 (w64 (n2 - 1))).bind fun r =>
  bif (!r) then some false
  else
  bif decide (t9 > 0) then
   grd (inb (w64 (t9 - 1)) a) <|
   bif decide ((at_ 0 a (w64 (t9 - 1))) >= (at_ 0 t7 t9)) then some false
   else
   b a n2 t7 t8 (w64 (t9 + 1))
  else
  b a n2 t7 t8 (w64 (t9 + 1))
 else
 some true
def Z4i (N : Nat) : Nat -> T58
 | 0 => fun _ _ _ _ _ => none
 | k_ + 1 => Z6h N (Z4i N k_)
def Z0a0 (N : Nat) (b : T58) (a : I0) (n : Int) : Option Bool :=
 b a n a (a.length : Int) 0
def Z1z (a : I0) (n : Int) : Option Bool := Z0a0 N (Z4i N N) a n
def Z4c (N : Nat) (a : T70) (s2 : I0) (v2 : Int) (t7 : Int) (t8 : Int) : Option Int :=
 bif decide (t8 < t7) then
  grd (inb t8 s2) <|
  bif (v2 == (at_ 0 s2 t8)) then some t8
  else
  a s2 v2 t7 (w64 (t8 + 1))
 else
 some (-1)
def Z2f (N : Nat) : Nat -> T70
 | 0 => fun _ _ _ _ => none
 | k_ + 1 => Z4c N (Z2f N k_)
def Z73 (N : Nat) (a : T70) (s : I0) (v : Int) : Option Int :=
 a s v (s.length : Int) 0
def Z39 (s : I0) (v : Int) : Option Int := Z73 N (Z2f N N) s v
def Z0l (s : I0) (v : Int) : Option Bool :=
 (Z39 N s v).bind fun r =>
 some (decide (r >= 0))
def Z3a (e : Int × Int) (c1 : I0) : Option Bool :=
 (Z0l N c1 e.1).bind fun r =>
 bif r then
  (Z0l N c1 e.2).bind fun r2 =>
  some r2
 else
 some false
def Z9 (a : T73) (s2 : E0) (f : I0) (t7 : Int) (t8 : Int) : Option Int :=
 bif decide (t8 < t7) then
  grd (inb t8 s2) <|
  (Z3a N (at_ (0, 0) s2 t8) f).bind fun r =>
  bif r then some t8
  else
  a s2 f t7 (w64 (t8 + 1))
 else
 some (-1)
def Z2 (N : Nat) : Nat -> T73
 | 0 => fun _ _ _ _ => none
 | k_ + 1 => Z9 N (Z2 N k_)
def Z0q (N : Nat) (a : T73) (s : E0) (c : I0) : Option Int :=
 a s c (s.length : Int) 0
def Z4 (s : E0) (c : I0) : Option Int := Z0q N (Z2 N N) s c
def Z3 (s : E0) (c : I0) : Option Bool :=
 (Z4 N s c).bind fun r =>
 some (decide (r >= 0))
def Z10 (a : E0) (b : I0) : Option Bool :=
 (Z3 N a b).bind fun r =>
 some (!r)
def Z3b (n : Int) (a : E0) (b : I0) : Option Bool :=
 (Z1y N n a).bind fun r =>
 bif r then
  (Z1z N b n).bind fun r2 =>
  bif r2 then
   (Z10 N a b).bind fun r3 =>
   some r3
  else
  some false
 else
 some false
def Z34 (e : T71) (c : E0) (b : I0) (d : Int) (a : Int) : Option Bool :=
 bif decide (a < d) then
  (Z0l N b a).bind fun r2 =>
  bif (!r2) then
   (Z14 N b).bind fun r3 =>
   grd (appOk r3 [a] 8) <|
   (Z10 N c (r3 ++ [a])).bind fun r4 =>
   bif r4 then some false
   else
   e c b d (w64 (a + 1))
  else
  e c b d (w64 (a + 1))
 else
 some true
def Z1h (N : Nat) : Nat -> T71
 | 0 => fun _ _ _ _ => none
 | k_ + 1 => Z34 N (Z1h N k_)
def Z5u (c : T71) (n : Int) (a : E0) (b : I0) : Option Bool :=
 (Z3b N n a b).bind fun r =>
 bif (!r) then some false
 else
 c a b n 0
def Z1d (n : Int) (a : E0) (b : I0) : Option Bool := Z5u N (Z1h N N) n a b
def Z2w (Rf : T75) (v : Int) (a : I0) (c2 : Int) (c3 : E0) (c4 : L0) (b : Int) (c : E0) : Option L0 :=
 bif (v == c2) then
  (Z1d N c2 c3 a).bind fun r =>
  bif r then
   grd (appOk [] a 8) <|
   grd (appOk c4 [a] 24) <|
   some (c4 ++ [a])
  else
  some c4
 else
 (Z14 N a).bind fun r2 =>
 grd (appOk r2 [v] 8) <|
 (Z10 N c3 (r2 ++ [v])).bind fun r3 =>
 bif r3 then
  (Rf (w64 (v + 1)) (r2 ++ [v]) b c c4 b c).bind fun m =>
  (Rf (w64 (v + 1)) a b c m b c).bind fun m2 =>
  some m2
 else
 (Rf (w64 (v + 1)) a b c c4 b c).bind fun m3 =>
 some m3
def Z0m (N : Nat) : Nat -> T75
 | 0 => fun _ _ _ _ _ _ _ => none
 | k_ + 1 => Z2w N (Z0m N k_)
def Z16 (v : Int) (a : I0) (c2 : Int) (c3 : E0) (c4 : L0) (b : Int) (c : E0) : Option L0 := Z0m N N v a c2 c3 c4 b c
def Z11 (n : Int) (a : E0) : Option L0 :=
 (Z1y N n a).bind fun r =>
 bif (!r) then some []
 else
 (Z16 N 0 [] n a [] n a).bind fun m =>
 some m
def Z3g (db : D0) (a : List C0) : Option L0 :=
 (Z0d N db).bind fun r =>
 bif (!r) then some []
 else
 (Z3f N db a).bind fun r2 =>
 (Z11 N (db.2.length : Int) r2).bind fun r3 =>
 some r3
def Z3m (N : Nat) (g : T49) (d : Int) (h : L0) (e : I0) (c : L0) (b : L0) (f : Int) (a : Int) : Option L0 :=
 bif decide (a < f) then
  grd (inb a b) <|
  bif (((at_ [] b a).length : Int) == d) then
   grd (selOk e a c 24) <|
   g d h (e ++ [a]) (c ++ [(at_ [] b a)]) b f (w64 (a + 1))
  else
  g d h e c b f (w64 (a + 1))
 else
 some c
def Z1r (N : Nat) : Nat -> T49
 | 0 => fun _ _ _ _ _ _ _ => none
 | k_ + 1 => Z3m N (Z1r N k_)
def Z3n (N : Nat) (g : T49) (h : T20) (c : Int) (f : L0) (d : L0) (b : L0) (e : Int) (a : Int) : Option L0 :=
 bif decide (a < e) then
  grd (inb a b) <|
  bif (((at_ [] b a).length : Int) == c) then
   grd (selOk0 d 24) <|
   g c f [a] [(at_ [] b a)] b e (w64 (a + 1))
  else
  h c f d b e (w64 (a + 1))
 else
 some d
def Z1s (N : Nat) : Nat -> T20
 | 0 => fun _ _ _ _ _ _ => none
 | k_ + 1 => Z3n N (Z1r N k_) (Z1s N k_)
def Z3o (N : Nat) (g : T20) (h : T20) (d : Int) (a : L0) (e : L0) (c : L0) (f : Int) (b : Int) : Option L0 :=
 bif decide (b < f) then
  grd (inb b c) <|
  h (imax d ((at_ [] c b).length : Int)) a e c f (w64 (b + 1))
 else
 g d a e a (a.length : Int) 0
def Z1t (N : Nat) : Nat -> T20
 | 0 => fun _ _ _ _ _ _ => none
 | k_ + 1 => Z3o N (Z1s N N) (Z1t N k_)
def Z6i (a : T20) (db : D0) (b : List C0) : Option L0 :=
 (Z3g N db b).bind fun r =>
 a 0 r [] r (r.length : Int) 0
def Z0a (db : D0) (a : List C0) : Option L0 := Z6i N (Z1t N N) db a
def Z3p (N : Nat) (a : Int × List Int) (c1 : Int × List Int) : Option Bool :=
 some (a.1 == c1.1)
def Z0u (a : T48) (s2 : A0) (f : Int × List Int) (t7 : Int) (t8 : Int) : Option Int :=
 bif decide (t8 < t7) then
  grd (inb t8 s2) <|
  (Z3p N (at_ (0, []) s2 t8) f).bind fun r =>
  bif r then some t8
  else
  a s2 f t7 (w64 (t8 + 1))
 else
 some (-1)
def Z0b (N : Nat) : Nat -> T48
 | 0 => fun _ _ _ _ => none
 | k_ + 1 => Z0u N (Z0b N k_)
def Z20 (N : Nat) (a : T48) (s : A0) (c : Int × List Int) : Option Int :=
 a s c (s.length : Int) 0
def Z0e (s : A0) (c : Int × List Int) : Option Int := Z20 N (Z0b N N) s c
def Z7 (s : A0) (c : Int × List Int) : Option Bool :=
 (Z0e N s c).bind fun r =>
 some (decide (r >= 0))
def Z5v (N : Nat) (e : T76) (c : I0) (b : L0) (d : Int) (a : Int) : Option I0 :=
 bif decide (a < d) then
  grd (inb a b) <|
  grd (appOk c (at_ [] b a) 8) <|
  e (c ++ (at_ [] b a)) b d (w64 (a + 1))
 else
 some c
def Z28 (N : Nat) : Nat -> T76
 | 0 => fun _ _ _ _ => none
 | k_ + 1 => Z5v N (Z28 N k_)
def Z5w (e : T76) (f : T63) (b : L0) (c : Int) (t9 : L0) (d : Int) (a : Int) : Option I0 :=
 bif decide (a < d) then
  grd (inb a t9) <|
  bif decide ((w64 (c + ((at_ [] t9 a).length : Int))) < 0) then none
  else
  f b (w64 (c + ((at_ [] t9 a).length : Int))) t9 d (w64 (a + 1))
 else
 (Z8g N [] c).bind fun r =>
 e r b (b.length : Int) 0
def Z35 (N : Nat) : Nat -> T63
 | 0 => fun _ _ _ _ _ => none
 | k_ + 1 => Z5w N (Z28 N N) (Z35 N k_)
def Z9l (N : Nat) (b : T63) (a : L0) : Option I0 :=
 b a 0 a (a.length : Int) 0
def Z31 (a : L0) : Option I0 := Z9l N (Z35 N N) a
def Z6j (a : I0) (b : I0) : Option I0 :=
 (Z31 N [a, b]).bind fun r =>
 (Z8h N r).bind fun m =>
 (Z70 N m).bind fun r2 =>
 some r2
def Z74 (c : T33) (b : I0) (t8 : I0) (t9 : Int) (a : Int) : Option I0 :=
 bif decide (a < t9) then
  grd (inb a t8) <|
  (Z6 N (at_ 0 t8 a) 0 3).bind fun r =>
  bif r then
   grd (appOk b [(at_ 0 t8 a)] 8) <|
   c (b ++ [(at_ 0 t8 a)]) t8 t9 (w64 (a + 1))
  else
  c b t8 t9 (w64 (a + 1))
 else
 (Z6j N b []).bind fun r2 =>
 some r2
def Z4j (N : Nat) : Nat -> T33
 | 0 => fun _ _ _ _ => none
 | k_ + 1 => Z74 N (Z4j N k_)
def Z8l (N : Nat) (b : T33) (a : Int × List Int) : Option I0 :=
 b [] a.2 (a.2.length : Int) 0
def Z3h (a : Int × List Int) : Option I0 := Z8l N (Z4j N N) a
def Z5n (n : T16) (o : T21) (d : R0) (b : Int) (e : A0) (f : I0) (g : I0) (h : Int) (i : I0) (j : A0) (k : Int) (l : Int) (c : I0) (m : Int) (a : Int) : Option Bool :=
 bif decide (a < m) then
  grd (inb a c) <|
  (Z6 N (at_ 0 c a) (-10) (w64 (b - 1))).bind fun r7 =>
  bif (!r7) then some false
  else
  o d b e f g h i j k l c m (w64 (a + 1))
 else
 (Z3h N (h, i)).bind fun r8 =>
 (Z6j N g r8).bind fun r9 =>
 n d b e f r9 j k (w64 (l + 1))
def Z2x (a : T16) (N : Nat) : Nat -> T21
 | 0 => fun _ _ _ _ _ _ _ _ _ _ _ _ _ => none
 | k_ + 1 => Z5n N a (Z2x a N k_)
def Z7v (h : T21) (j : T16) (c : R0) (e : Int) (d : A0) (i : I0) (f : I0) (b : A0) (g : Int) (a : Int) : Option Bool :=
 bif decide (a < g) then
  grd (inb a b) <|
  (Z6 N ((at_ (0, []) b a).1) 0 (w64 ((c.length : Int) - 1))).bind fun r5 =>
  bif (!r5) then some false
  else
  grd (inb ((at_ (0, []) b a).1) c) <|
  bif ((((at_ (0, []) b a).2).length : Int) != (((at_ (⟨#[]⟩, (0, 0)) c ((at_ (0, []) b a).1)).2).1)) then some false
  else
  grd (subOk 0 a d.length) <|
  (Z7 N (d.take a.toNat) (at_ (0, []) b a)).bind fun r6 =>
  bif r6 then some false
  else
  h c e d i f ((at_ (0, []) b a).1) ((at_ (0, []) b a).2) b g a ((at_ (0, []) b a).2) (((at_ (0, []) b a).2).length : Int) 0
 else
 some ((f.length : Int) == e)
def Z3q (N : Nat) : Nat -> T16
 | 0 => fun _ _ _ _ _ _ _ _ => none
 | k_ + 1 => Z7v N (Z2x (Z3q N k_) N N) (Z3q N k_)
def Z94 (c : T16) (b : R0) (a : Q0) : Option Bool :=
 (Z0z N b).bind fun r =>
 bif (!r) then some false
 else
 (Z6 N a.1 0 4).bind fun r2 =>
 bif (!r2) then some false
 else
 (Z6 N (a.2.1.length : Int) 1 3).bind fun r3 =>
 bif (!r3) then some false
 else
 (Z1z N a.2.2 a.1).bind fun r4 =>
 bif (!r4) then some false
 else
 c b a.1 a.2.1 a.2.2 [] a.2.1 (a.2.1.length : Int) 0
def Z3z (a : R0) (b : Q0) : Option Bool := Z94 N (Z3q N N) a b
def Z0v (db : D0) (a : Q0) : Option Bool :=
 (Z0d N db).bind fun r =>
 bif r then
  (Z3z N db.1 a).bind fun r2 =>
  some r2
 else
 some false
def Z7w (N : Nat) (f : T51) (t2 : R0) (g : A0) (d : R0) (c : A0) (b : A0) (e : Int) (a : Int) : Option D0 :=
 bif decide (a < e) then
  grd (inb a b) <|
  grd (appOk [] ((at_ (0, []) b a).2) 8) <|
  grd (appOk c [(at_ (0, []) b a)] 32) <|
  f t2 g d (c ++ [(at_ (0, []) b a)]) b e (w64 (a + 1))
 else
 some (d, c)
def Z4q (N : Nat) : Nat -> T51
 | 0 => fun _ _ _ _ _ _ _ => none
 | k_ + 1 => Z7w N (Z4q N k_)
def Z95 (N : Nat) (a : T51) (db : D0) : Option D0 :=
 grd (appOk [] db.1 32) <|
 a [] [] db.1 [] db.2 (db.2.length : Int) 0
def Z40 (db : D0) : Option D0 := Z95 N (Z4q N N) db
def Z8a (N : Nat) (g : T6) (h : R0) (i : A0) (j : R0) (c : A0) (e : R0) (d : A0) (b : I0) (f : Int) (a : Int) : Option (D0 × Bool) :=
 bif decide (a < f) then
  grd (inb a b) <|
  grd (inb (at_ 0 b a) c) <|
  grd (appOk d [(at_ (0, []) c (at_ 0 b a))] 32) <|
  g h i j c e (d ++ [(at_ (0, []) c (at_ 0 b a))]) b f (w64 (a + 1))
 else
 some ((e, d), true)
def Z57 (N : Nat) : Nat -> T6
 | 0 => fun _ _ _ _ _ _ _ _ _ => none
 | k_ + 1 => Z8a N (Z57 N k_)
def Z8b (N : Nat) (g : T6) (j : T6) (t4 : R0) (h : A0) (i : R0) (c : A0) (e : R0) (d : A0) (b : I0) (f : Int) (a : Int) : Option (D0 × Bool) :=
 bif decide (a < f) then
  grd (inb a b) <|
  grd (inb (at_ 0 b a) c) <|
  grd (appOk d [(at_ (0, []) c (at_ 0 b a))] 32) <|
  g t4 h i c e (d ++ [(at_ (0, []) c (at_ 0 b a))]) b f (w64 (a + 1))
 else
 some ((e, d), true)
def Z6y (N : Nat) : Nat -> T6
 | 0 => fun _ _ _ _ _ _ _ _ _ => none
 | k_ + 1 => Z8b N (Z57 N k_) (Z6y N k_)
def Z9m (b : T6) (db : D0) (a : I0) : Option (D0 × Bool) :=
 (Z0d N db).bind fun r =>
 bif (!r) then some (([], []), false)
 else
 (Z1z N a (db.2.length : Int)).bind fun r2 =>
 bif (!r2) then some (([], []), false)
 else
 (Z40 N db).bind fun r3 =>
 b [] [] r3.1 r3.2 r3.1 [] a (a.length : Int) 0
def Z4g (db : D0) (a : I0) : Option (D0 × Bool) := Z9m N (Z6y N N) db a
def Z5x (n : Int) : Option I0 :=
 (Z7j N [(-1)] n).bind fun r =>
 some r
def Z64 (N : Nat) (t : Int) : Option Bool :=
 some (decide (t >= 0))
def Z4w (N : Nat) (v : Int) : Option Int :=
 some (w64 ((-1) - v))
def Z0as (f : T44) (d : I0) (c : I0) (b : I0) (e : Int) (a : Int) : Option (List Int × Bool) :=
 bif decide (a < e) then
  grd (inb a b) <|
  (Z64 N (at_ 0 b a)).bind fun r2 =>
  bif (!r2) then
   (Z4w N (at_ 0 b a)).bind fun r3 =>
   grd (inb a d) <|
   bif (r3 != (at_ 0 d a)) then some ([], false)
   else
   f d c b e (w64 (a + 1))
  else
  grd (inb (at_ 0 b a) c) <|
  bif decide ((at_ 0 c (at_ 0 b a)) < 0) then
   grd (inb a d) <|
   grd (inb (at_ 0 b a) c) <|
   grd (inb (at_ 0 b a) c) <|
   letv (c.set (at_ 0 b a).toNat (at_ 0 d a)) fun u =>
   f d u b e (w64 (a + 1))
  else
  grd (inb (at_ 0 b a) c) <|
  grd (inb a d) <|
  bif ((at_ 0 c (at_ 0 b a)) != (at_ 0 d a)) then some ([], false)
  else
  f d c b e (w64 (a + 1))
 else
 some (c, true)
def Z8w (N : Nat) : Nat -> T44
 | 0 => fun _ _ _ _ _ => none
 | k_ + 1 => Z0as N (Z8w N k_)
def Z0bz (b : T44) (c : I0) (a : I0) (d : I0) : Option (List Int × Bool) :=
 (Z14 N c).bind fun r =>
 b d r a (a.length : Int) 0
def Z8m (a : I0) (b : I0) (c : I0) : Option (List Int × Bool) := Z0bz N (Z8w N N) a b c
def Z5y (Rf : T7) (j : T11) (e : I0) (f : I0) (t3 : List (List Int × List Int)) (c : Q0) (d : D0) (g : Int) (h : I0) (b : A0) (i : Int) (a : Int) : Option (List (List Int × List Int)) :=
 bif decide (a < i) then
  grd (inb a b) <|
  bif (((at_ (0, []) b a).1) != g) then
   j e f t3 c d g h b i (w64 (a + 1))
  else
  (Z8m N e h ((at_ (0, []) b a).2)).bind fun k =>
  bif k.2 then
   (Z14 N f).bind fun r5 =>
   grd (appOk r5 [a] 8) <|
   (Rf k.1 (r5 ++ [a]) c t3 d c d).bind fun m =>
   j e f m c d g h b i (w64 (a + 1))
  else
  j e f t3 c d g h b i (w64 (a + 1))
 else
 some t3
def Z36 (N : Nat) (Rf : T7) : Nat -> T11
 | 0 => fun _ _ _ _ _ _ _ _ _ _ => none
 | k_ + 1 => Z5y N Rf (Z36 N Rf k_)
def Z4r (Rf : T7) (c : T11) (b : I0) (a : I0) (c2 : Q0) (c3 : List (List Int × List Int)) (c4 : D0) (d : Q0) (e : D0) : Option (List (List Int × List Int)) :=
 bif ((a.length : Int) == (c2.2.1.length : Int)) then
  (Z14 N b).bind fun r =>
  (Z14 N a).bind fun r2 =>
  grd (appOk c3 [(r, r2)] 48) <|
  some (c3 ++ [(r, r2)])
 else
 grd (inb (a.length : Int) c2.2.1) <|
 c b a c3 d e ((at_ (0, []) c2.2.1 (a.length : Int)).1) ((at_ (0, []) c2.2.1 (a.length : Int)).2) c4.2 (c4.2.length : Int) 0
def Z0w (N : Nat) : Nat -> T7
 | 0 => fun _ _ _ _ _ _ _ => none
 | k_ + 1 => Z4r N (Z0w N k_) (Z36 N (Z0w N k_) N)
def Z32 (a : I0) (b : I0) (c2 : Q0) (c3 : List (List Int × List Int)) (c4 : D0) (c : Q0) (d : D0) : Option (List (List Int × List Int)) := Z0w N N a b c2 c3 c4 c d
def Z33 (db : D0) (a : Q0) : Option (List (List Int × List Int)) :=
 (Z0v N db a).bind fun r =>
 bif (!r) then some []
 else
 (Z5x N a.1).bind fun r2 =>
 (Z32 N r2 [] a [] db a db).bind fun m =>
 some m
def Z45 (db : D0) (b : I0) (c : Q0) : Option Bool :=
 (Z4g N db b).bind fun a =>
 bif a.2 then
  (Z33 N a.1 c).bind fun r3 =>
  some (decide ((r3.length : Int) > 0))
 else
 some false
def Z8n (i : T31) (c : R0) (d : A0) (e : Int) (f : A0) (g : I0) (b : L0) (h : Int) (a : Int) : Option (List Int × Bool) :=
 bif decide (a < h) then
  grd (inb a b) <|
  (Z0v N (c, d) (e, f, g)).bind fun r =>
  bif r then
   (Z45 N (c, d) (at_ [] b a) (e, f, g)).bind fun r2 =>
   bif (!r2) then some ((at_ [] b a), true)
   else
   i c d e f g b h (w64 (a + 1))
  else
  i c d e f g b h (w64 (a + 1))
 else
 some ([], false)
def Z5z (N : Nat) : Nat -> T31
 | 0 => fun _ _ _ _ _ _ _ _ => none
 | k_ + 1 => Z8n N (Z5z N k_)
def Z0a1 (N : Nat) (c : T31) (db : D0) (b : L0) (a : Q0) : Option (List Int × Bool) :=
 c db.1 db.2 a.1 a.2.1 a.2.2 b (b.length : Int) 0
def Z4s (db : D0) (a : L0) (b : Q0) : Option (List Int × Bool) := Z0a1 N (Z5z N N) db a b
def Z4t (db : D0) (b : L0) (a : Q0) : Option Bool :=
 (Z4s N db b a).bind fun c =>
 (Z0v N db a).bind fun r3 =>
 bif r3 then some (!c.2)
 else
 some false
def Z1p (db : D0) (a : List C0) (b : Q0) : Option Bool :=
 (Z0a N db a).bind fun r =>
 (Z4t N db r b).bind fun r2 =>
 some r2
def Z7x (i : T29) (j : L0) (c : R0) (d : A0) (e : Int) (f : A0) (g : I0) (b : L0) (h : Int) (a : Int) : Option (List Int × Bool) :=
 bif decide (a < h) then
  grd (inb a b) <|
  (Z0v N (c, d) (e, f, g)).bind fun r =>
  bif r then
   (Z45 N (c, d) (at_ [] b a) (e, f, g)).bind fun r2 =>
   bif (!r2) then some ((at_ [] b a), true)
   else
   i j c d e f g b h (w64 (a + 1))
  else
  i j c d e f g b h (w64 (a + 1))
 else
 some ([], false)
def Z4u (N : Nat) : Nat -> T29
 | 0 => fun _ _ _ _ _ _ _ _ _ => none
 | k_ + 1 => Z7x N (Z4u N k_)
def Z96 (N : Nat) (c : T29) (db : D0) (a : L0) (b : Q0) : Option (List Int × Bool) :=
 c a db.1 db.2 b.1 b.2.1 b.2.2 a (a.length : Int) 0
def Z41 (db : D0) (a : L0) (b : Q0) : Option (List Int × Bool) := Z96 N (Z4u N N) db a b
def Z0n (db : D0) (b : List C0) (c : Q0) : Option (List Int × Bool) :=
 (Z0a N db b).bind fun r =>
 (Z41 N db r c).bind fun a =>
 some (a.1, a.2)
def Z7d (l : R0) (f : Int × List Int) : Option I0 :=
 (Z0r N l f).bind fun r =>
 bif (!r) then some []
 else
 grd (inb f.1 l) <|
 grd (subOk 0 (((at_ (⟨#[]⟩, (0, 0)) l f.1).2).2) f.2.length) <|
 grd (appOk [] (f.2.take (((at_ (⟨#[]⟩, (0, 0)) l f.1).2).2).toNat) 8) <|
 some (f.2.take (((at_ (⟨#[]⟩, (0, 0)) l f.1).2).2).toNat)
def Z2y (l : R0) (a : Int × List Int) (b : Int × List Int) : Option Bool :=
 (Z0r N l a).bind fun r =>
 bif r then
  (Z0r N l b).bind fun r2 =>
  bif r2 then
   bif (a.1 == b.1) then
    (Z7d N l a).bind fun r3 =>
    (Z7d N l b).bind fun r4 =>
    (Z6l N r3 r4).bind fun r5 =>
    some (r5 == 0)
   else
   some false
  else
  some false
 else
 some false
def Z1f (d : D0) (x : C0) : Option Bool :=
 (Z0 N d).bind fun r =>
 bif (!r) then some false
 else
 (Z5 N x.1 0 (w64 ((d.1.length : Int) - 1))).bind fun r2 =>
 bif (!r2) then some false
 else
 (Z5 N x.2.1 0 (w64 ((d.1.length : Int) - 1))).bind fun r3 =>
 bif (!r3) then some false
 else
 grd (inb x.1 d.1) <|
 grd (inb x.2.1 d.1) <|
 (Z5 N x.2.2.1 0 (w64 ((((at_ (⟨#[]⟩, (0, 0)) d.1 x.1).2).1) - 1))).bind fun r4 =>
 bif r4 then
  (Z5 N x.2.2.2.2.1 0 (w64 ((((at_ (⟨#[]⟩, (0, 0)) d.1 x.1).2).1) - 1))).bind fun r5 =>
  bif r5 then
   (Z5 N x.2.2.2.1 0 (w64 ((((at_ (⟨#[]⟩, (0, 0)) d.1 x.2.1).2).1) - 1))).bind fun r6 =>
   bif r6 then
    (Z5 N x.2.2.2.2.2.1 0 (w64 ((((at_ (⟨#[]⟩, (0, 0)) d.1 x.2.1).2).1) - 1))).bind fun r7 =>
    bif r7 then
     (Z5 N x.2.2.2.2.2.2 1 2).bind fun r8 =>
     some r8
    else
    some false
   else
   some false
  else
  some false
 else
 some false
def Z1b (d : D0) (x : C0) (i : Int) (k : Int) : Option Bool :=
 (Z1f N d x).bind fun r =>
 bif (!r) then some false
 else
 (Z5 N i 0 (w64 ((d.2.length : Int) - 1))).bind fun r2 =>
 bif (!r2) then some false
 else
 (Z5 N k 0 (w64 ((d.2.length : Int) - 1))).bind fun r3 =>
 bif (!r3) then some false
 else
 bif (i == k) then some false
 else
 grd (inb i d.2) <|
 grd (inb k d.2) <|
 bif (((at_ (0, []) d.2 i).1) != x.1) then some false
 else
 bif (((at_ (0, []) d.2 k).1) != x.2.1) then some false
 else
 grd (inb x.2.2.1 ((at_ (0, []) d.2 i).2)) <|
 grd (inb x.2.2.2.1 ((at_ (0, []) d.2 k).2)) <|
 bif ((at_ 0 ((at_ (0, []) d.2 i).2) x.2.2.1) != (at_ 0 ((at_ (0, []) d.2 k).2) x.2.2.2.1)) then some false
 else
 bif (x.2.2.2.2.2.2 == 1) then
  grd (inb x.2.2.2.2.1 ((at_ (0, []) d.2 i).2)) <|
  grd (inb x.2.2.2.2.2.1 ((at_ (0, []) d.2 k).2)) <|
  some ((at_ 0 ((at_ (0, []) d.2 i).2) x.2.2.2.2.1) == (at_ 0 ((at_ (0, []) d.2 k).2) x.2.2.2.2.2.1))
 else
 grd (inb x.2.2.2.2.1 ((at_ (0, []) d.2 i).2)) <|
 grd (inb x.2.2.2.2.2.1 ((at_ (0, []) d.2 k).2)) <|
 some (decide ((at_ 0 ((at_ (0, []) d.2 i).2) x.2.2.2.2.1) < (at_ 0 ((at_ (0, []) d.2 k).2) x.2.2.2.2.2.1)))
def Z52 (c : T24) (b : T36) (l4 : List C0) (d6 : R0) (d7 : A0) (a : E0) (i3 : Int) (k2 : Int) (d : Bool) (n : Int) : Option E0 :=
 bif decide (n < (l4.length : Int)) then
  bif d then b l4 d6 d7 a i3 k2 true (w64 (n + 1))
  else
  grd (inb n l4) <|
  (Z1b N (d6, d7) ((at_ (0, (0, (0, (0, (0, (0, 0)))))) l4 n).1, ((at_ (0, (0, (0, (0, (0, (0, 0)))))) l4 n).2).1, (((at_ (0, (0, (0, (0, (0, (0, 0)))))) l4 n).2).2).1, ((((at_ (0, (0, (0, (0, (0, (0, 0)))))) l4 n).2).2).2).1, (((((at_ (0, (0, (0, (0, (0, (0, 0)))))) l4 n).2).2).2).2).1, ((((((at_ (0, (0, (0, (0, (0, (0, 0)))))) l4 n).2).2).2).2).2)) i3 k2).bind fun r3 =>
  bif r3 then b l4 d6 d7 a i3 k2 true (w64 (n + 1))
  else
  grd (inb n l4) <|
  (Z1b N (d6, d7) ((at_ (0, (0, (0, (0, (0, (0, 0)))))) l4 n).1, ((at_ (0, (0, (0, (0, (0, (0, 0)))))) l4 n).2).1, (((at_ (0, (0, (0, (0, (0, (0, 0)))))) l4 n).2).2).1, ((((at_ (0, (0, (0, (0, (0, (0, 0)))))) l4 n).2).2).2).1, (((((at_ (0, (0, (0, (0, (0, (0, 0)))))) l4 n).2).2).2).2).1, ((((((at_ (0, (0, (0, (0, (0, (0, 0)))))) l4 n).2).2).2).2).2)) k2 i3).bind fun r4 =>
  b l4 d6 d7 a i3 k2 r4 (w64 (n + 1))
 else
 bif d then
  grd (appOk a [(i3, k2)] 16) <|
  c l4 d6 d7 (a ++ [(i3, k2)]) i3 (w64 (k2 + 1))
 else
 c l4 d6 d7 a i3 (w64 (k2 + 1))
def Z3c (a : T24) (N : Nat) : Nat -> T36
 | 0 => fun _ _ _ _ _ _ _ _ => none
 | k_ + 1 => Z52 N a (Z3c a N k_)
def Z53 (b : T30) (c : T36) (d : T24) (l3 : List C0) (d4 : R0) (d5 : A0) (a : E0) (i2 : Int) (k : Int) : Option E0 :=
 bif decide (k < (d5.length : Int)) then
  grd (inb i2 d5) <|
  grd (inb k d5) <|
  (Z2y N d4 (at_ (0, []) d5 i2) (at_ (0, []) d5 k)).bind fun r2 =>
  c l3 d4 d5 a i2 k r2 0
 else
 b l3 d4 d5 a (w64 (i2 + 1))
def Z17 (a : T30) (N : Nat) : Nat -> T24
 | 0 => fun _ _ _ _ _ _ => none
 | k_ + 1 => Z53 N a (Z3c (Z17 a N k_) N N) (Z17 a N k_)
def Z3w (b : T24) (c : T30) (l2 : List C0) (d2 : R0) (d3 : A0) (a : E0) (i : Int) : Option E0 :=
 bif decide (i < (d3.length : Int)) then
  (Z0 N (d2, d3)).bind fun r =>
  bif r then b l2 d2 d3 a i (w64 (i + 1))
  else
  some a
 else
 some a
def Z1n (N : Nat) : Nat -> T30
 | 0 => fun _ _ _ _ _ => none
 | k_ + 1 => Z3w N (Z17 (Z1n N k_) N N) (Z1n N k_)
def Z8o (N : Nat) (a : T30) (d : D0) (l : List C0) : Option E0 :=
 a l d.1 d.2 [] 0
def Z1g (d : D0) (l : List C0) : Option E0 := Z8o N (Z1n N N) d l
def Z54 (a : T77) (n2 : Int) (l2 : E0) (i : Int) : Option Bool :=
 bif decide (i < (l2.length : Int)) then
  grd (inb i l2) <|
  grd (inb i l2) <|
  (Z5 N ((at_ (0, 0) l2 i).1) 0 (w64 (((at_ (0, 0) l2 i).2) - 1))).bind fun r =>
  bif (!r) then some false
  else
  grd (inb i l2) <|
  (Z5 N ((at_ (0, 0) l2 i).2) 0 (w64 (n2 - 1))).bind fun r2 =>
  bif (!r2) then some false
  else
  bif decide (i > 0) then
   grd (inb i l2) <|
   grd (inb (w64 (i - 1)) l2) <|
   bif decide (((at_ (0, 0) l2 i).1) < ((at_ (0, 0) l2 (w64 (i - 1))).1)) then some false
   else
   grd (inb i l2) <|
   grd (inb (w64 (i - 1)) l2) <|
   bif (((at_ (0, 0) l2 i).1) == ((at_ (0, 0) l2 (w64 (i - 1))).1)) then
    grd (inb i l2) <|
    grd (inb (w64 (i - 1)) l2) <|
    bif decide (((at_ (0, 0) l2 i).2) <= ((at_ (0, 0) l2 (w64 (i - 1))).2)) then some false
    else
    a n2 l2 (w64 (i + 1))
   else
   a n2 l2 (w64 (i + 1))
  else
  a n2 l2 (w64 (i + 1))
 else
 (Z5 N n2 0 14).bind fun r3 =>
 some r3
def Z3d (N : Nat) : Nat -> T77
 | 0 => fun _ _ _ => none
 | k_ + 1 => Z54 N (Z3d N k_)
def Z8p (N : Nat) (a : T77) (n : Int) (l : E0) : Option Bool :=
 a n l 0
def Z21 (n : Int) (l : E0) : Option Bool := Z8p N (Z3d N N) n l
def Z99 (a : T38) (n2 : Int) (s2 : I0) (i : Int) : Option Bool :=
 bif decide (i < (s2.length : Int)) then
  grd (inb i s2) <|
  (Z5 N (at_ 0 s2 i) 0 (w64 (n2 - 1))).bind fun r =>
  bif (!r) then some false
  else
  bif decide (i > 0) then
   grd (inb i s2) <|
   grd (inb (w64 (i - 1)) s2) <|
   bif decide ((at_ 0 s2 i) <= (at_ 0 s2 (w64 (i - 1)))) then some false
   else
   a n2 s2 (w64 (i + 1))
  else
  a n2 s2 (w64 (i + 1))
 else
 some true
def Z78 (N : Nat) : Nat -> T38
 | 0 => fun _ _ _ => none
 | k_ + 1 => Z99 N (Z78 N k_)
def Z0c0 (N : Nat) (a : T38) (n : Int) (s : I0) : Option Bool :=
 a n s 0
def Z8q (n : Int) (s : I0) : Option Bool := Z0c0 N (Z78 N N) n s
def Z9a (N : Nat) (a : T78) (l2 : I0) (x2 : Int) (i : Int) : Option Bool :=
 bif decide (i < (l2.length : Int)) then
  grd (inb i l2) <|
  bif ((at_ 0 l2 i) == x2) then some true
  else
  a l2 x2 (w64 (i + 1))
 else
 some false
def Z79 (N : Nat) : Nat -> T78
 | 0 => fun _ _ _ => none
 | k_ + 1 => Z9a N (Z79 N k_)
def Z0c1 (N : Nat) (a : T78) (l : I0) (x : Int) : Option Bool :=
 a l x 0
def Z4d (l : I0) (x : Int) : Option Bool := Z0c1 N (Z79 N N) l x
def Z55 (a : T82) (l2 : E0) (s2 : I0) (i : Int) : Option Bool :=
 bif decide (i < (l2.length : Int)) then
  grd (inb i l2) <|
  (Z4d N s2 ((at_ (0, 0) l2 i).1)).bind fun r =>
  bif r then
   grd (inb i l2) <|
   (Z4d N s2 ((at_ (0, 0) l2 i).2)).bind fun r2 =>
   bif r2 then some false
   else
   a l2 s2 (w64 (i + 1))
  else
  a l2 s2 (w64 (i + 1))
 else
 some true
def Z3e (N : Nat) : Nat -> T82
 | 0 => fun _ _ _ => none
 | k_ + 1 => Z55 N (Z3e N k_)
def Z8r (N : Nat) (a : T82) (l : E0) (s : I0) : Option Bool :=
 a l s 0
def Z22 (l : E0) (s : I0) : Option Bool := Z8r N (Z3e N N) l s
def Z5o (l : E0) (s : I0) (x : Int) : Option Bool :=
 (Z4d N s x).bind fun r =>
 bif (!r) then
  grd (appOk [] s 8) <|
  grd (appOk s [x] 8) <|
  (Z22 N l (s ++ [x])).bind fun r2 =>
  some r2
 else
 some false
def Z37 (a : T72) (n2 : Int) (l2 : E0) (s2 : I0) (x : Int) : Option Bool :=
 bif decide (x < n2) then
  (Z5o N l2 s2 x).bind fun r4 =>
  bif r4 then some false
  else
  a n2 l2 s2 (w64 (x + 1))
 else
 some true
def Z1i (N : Nat) : Nat -> T72
 | 0 => fun _ _ _ _ => none
 | k_ + 1 => Z37 N (Z1i N k_)
def Z60 (a : T72) (n : Int) (l : E0) (s : I0) : Option Bool :=
 (Z21 N n l).bind fun r =>
 bif (!r) then some false
 else
 (Z8q N n s).bind fun r2 =>
 bif (!r2) then some false
 else
 (Z22 N l s).bind fun r3 =>
 bif (!r3) then some false
 else
 a n l s 0
def Z1e (n : Int) (l : E0) (s : I0) : Option Bool := Z60 N (Z1i N N) n l s
def Z8s (N : Nat) (Rf : T56) (b : T46) (n2 : Int) (l2 : E0) (s2 : I0) (x2 : Int) (a : L0) (c : Bool) (i : Int) : Option L0 :=
 bif decide (i < (l2.length : Int)) then
  bif c then b n2 l2 s2 x2 a true (w64 (i + 1))
  else
  grd (inb i l2) <|
  bif (((at_ (0, 0) l2 i).1) == x2) then b n2 l2 s2 x2 a true (w64 (i + 1))
  else
  grd (inb i l2) <|
  b n2 l2 s2 x2 a (((at_ (0, 0) l2 i).2) == x2) (w64 (i + 1))
 else
 bif c then
  (Rf n2 l2 s2 (w64 (x2 + 1))).bind fun r4 =>
  grd (appOk a r4 24) <|
  some (a ++ r4)
 else
 some a
def Z5f (N : Nat) (Rf : T56) : Nat -> T46
 | 0 => fun _ _ _ _ _ _ _ => none
 | k_ + 1 => Z8s N Rf (Z5f N Rf k_)
def Z0a6 (Rf : T56) (a : T46) (n : Int) (l : E0) (s : I0) (x : Int) : Option L0 :=
 bif (x == n) then
  (Z1e N n l s).bind fun r =>
  bif r then
   grd (appOk [] s 8) <|
   some [s]
  else
  some []
 else
 (Z5o N l s x).bind fun r2 =>
 bif r2 then
  grd (appOk [] s 8) <|
  grd (appOk s [x] 8) <|
  (Rf n l (s ++ [x]) (w64 (x + 1))).bind fun r3 =>
  a n l s x r3 false 0
 else
 a n l s x [] false 0
def Z3k (N : Nat) : Nat -> T56
 | 0 => fun _ _ _ _ => none
 | k_ + 1 => Z0a6 N (Z3k N k_) (Z5f N (Z3k N k_) N)
def Z8y (n : Int) (l : E0) (s : I0) (x : Int) : Option L0 := Z3k N N n l s x
def Z0j (n : Int) (l : E0) : Option L0 :=
 (Z21 N n l).bind fun r =>
 bif (!r) then some []
 else
 (Z8y N n l [] 0).bind fun r2 =>
 some r2
def Z23 (d : D0) (l : List C0) : Option L0 :=
 (Z0 N d).bind fun r =>
 bif (!r) then some []
 else
 (Z1g N d l).bind fun r2 =>
 (Z0j N (d.2.length : Int) r2).bind fun r3 =>
 some r3
def Z3r (N : Nat) (d : T64) (c : I0) (b : L0) (a : L0) (n3 : Int) (i3 : Int) : Option L0 :=
 bif decide (i3 < (a.length : Int)) then
  grd (inb i3 a) <|
  bif (((at_ [] a i3).length : Int) == n3) then
   grd (inb i3 a) <|
   grd (selOk c i3 b 24) <|
   d (c ++ [i3]) (b ++ [(at_ [] a i3)]) a n3 (w64 (i3 + 1))
  else
  d c b a n3 (w64 (i3 + 1))
 else
 some b
def Z1u (N : Nat) : Nat -> T64
 | 0 => fun _ _ _ _ _ => none
 | k_ + 1 => Z3r N (Z1u N k_)
def Z3s (N : Nat) (c : T64) (d : T34) (b : L0) (a : L0) (n2 : Int) (i2 : Int) : Option L0 :=
 bif decide (i2 < (a.length : Int)) then
  grd (inb i2 a) <|
  bif (((at_ [] a i2).length : Int) == n2) then
   grd (inb i2 a) <|
   grd (selOk0 b 24) <|
   c [i2] [(at_ [] a i2)] a n2 (w64 (i2 + 1))
  else
  d b a n2 (w64 (i2 + 1))
 else
 some b
def Z1v (N : Nat) : Nat -> T34
 | 0 => fun _ _ _ _ => none
 | k_ + 1 => Z3s N (Z1u N k_) (Z1v N k_)
def Z3t (N : Nat) (c : T34) (d : T34) (b : L0) (a : L0) (n : Int) (i : Int) : Option L0 :=
 bif decide (i < (a.length : Int)) then
  grd (inb i a) <|
  d b a (imax n ((at_ [] a i).length : Int)) (w64 (i + 1))
 else
 c b a n 0
def Z1w (N : Nat) : Nat -> T34
 | 0 => fun _ _ _ _ => none
 | k_ + 1 => Z3t N (Z1v N N) (Z1w N k_)
def Z6k (a : T34) (d : D0) (l : List C0) : Option L0 :=
 (Z23 N d l).bind fun r =>
 a [] r 0 0
def Z0i (d : D0) (l : List C0) : Option L0 := Z6k N (Z1w N N) d l
def Z0x (d : D0) (q : Q0) : Option Bool :=
 (Z0 N d).bind fun r =>
 bif r then
  (Z29 N d.1 q).bind fun r2 =>
  some r2
 else
 some false
def Z0a2 (N : Nat) (a : T88) (n2 : Int) (l : I0) : Option I0 :=
 bif decide ((l.length : Int) < n2) then
  grd (appOk l [(-1)] 8) <|
  a n2 (l ++ [(-1)])
 else
 some l
def Z7e (N : Nat) : Nat -> T88
 | 0 => fun _ _ => none
 | k_ + 1 => Z0a2 N (Z7e N k_)
def Z0ct (N : Nat) (a : T88) (n : Int) : Option I0 :=
 a n []
def Z6t (n : Int) : Option I0 := Z0ct N (Z7e N N) n
def Z0a3 (N : Nat) (a : T41) (a2 : Int) (a3 : I0) (f2 : Int) (f3 : I0) (x : I0) (i : Int) : Option (List Int × Bool) :=
 bif decide (i < (a3.length : Int)) then
  grd (inb i a3) <|
  bif decide ((at_ 0 a3 i) < 0) then
   grd (inb i f3) <|
   bif ((w64 ((-1) - (at_ 0 a3 i))) != (at_ 0 f3 i)) then some (x, false)
   else
   a a2 a3 f2 f3 x (w64 (i + 1))
  else
  grd (inb (at_ 0 a3 i) x) <|
  bif decide ((at_ 0 x (at_ 0 a3 i)) >= 0) then
   grd (inb (at_ 0 a3 i) x) <|
   grd (inb i f3) <|
   bif ((at_ 0 x (at_ 0 a3 i)) != (at_ 0 f3 i)) then some (x, false)
   else
   grd (inb i f3) <|
   grd (inb (at_ 0 a3 i) x) <|
   grd (inb (at_ 0 a3 i) x) <|
   letv (x.set (at_ 0 a3 i).toNat (at_ 0 f3 i)) fun u =>
   a a2 a3 f2 f3 u (w64 (i + 1))
  else
  grd (inb i f3) <|
  grd (inb (at_ 0 a3 i) x) <|
  grd (inb (at_ 0 a3 i) x) <|
  letv (x.set (at_ 0 a3 i).toNat (at_ 0 f3 i)) fun u2 =>
  a a2 a3 f2 f3 u2 (w64 (i + 1))
 else
 some (x, true)
def Z7f (N : Nat) : Nat -> T41
 | 0 => fun _ _ _ _ _ _ => none
 | k_ + 1 => Z0a3 N (Z7f N k_)
def Z0b4 (N : Nat) (c : T41) (a : Int × List Int) (f : Int × List Int) (b : I0) : Option (List Int × Bool) :=
 grd (appOk [] b 8) <|
 bif (f.1 != a.1) then some (b, false)
 else
 bif ((f.2.length : Int) != (a.2.length : Int)) then some (b, false)
 else
 c a.1 a.2 f.1 f.2 b 0
def Z6u (a : Int × List Int) (f : Int × List Int) (b : I0) : Option (List Int × Bool) := Z0b4 N (Z7f N N) a f b
def Z0a4 (Rf : T23) (d : T12) (k2 : Int) (c : I0) (a : I0) (d2 : R0) (d3 : A0) (q2 : Int) (q3 : A0) (q4 : I0) (b : List (List Int × List Int)) (i : Int) : Option (List (List Int × List Int)) :=
 bif decide (i < (d3.length : Int)) then
  grd (inb k2 q3) <|
  grd (inb i d3) <|
  (Z6u N (at_ (0, []) q3 k2) (at_ (0, []) d3 i) c).bind fun e =>
  bif e.2 then
   grd (appOk [] a 8) <|
   grd (appOk a [i] 8) <|
   (Rf (d2, d3) (q2, q3, q4) (w64 (k2 + 1)) e.1 (a ++ [i])).bind fun r3 =>
   grd (appOk b r3 48) <|
   d k2 c a d2 d3 q2 q3 q4 (b ++ r3) (w64 (i + 1))
  else
  d k2 c a d2 d3 q2 q3 q4 b (w64 (i + 1))
 else
 some b
def Z7g (N : Nat) (Rf : T23) : Nat -> T12
 | 0 => fun _ _ _ _ _ _ _ _ _ _ => none
 | k_ + 1 => Z0a4 N Rf (Z7g N Rf k_)
def Z9s (N : Nat) (Rf : T23) (c : T12) (d : D0) (q : Q0) (k : Int) (a : I0) (b : I0) : Option (List (List Int × List Int)) :=
 bif (k == (q.2.1.length : Int)) then
  grd (appOk [] a 8) <|
  grd (appOk [] b 8) <|
  some [(a, b)]
 else
 c k a b d.1 d.2 q.1 q.2.1 q.2.2 [] 0
def Z3u (N : Nat) : Nat -> T23
 | 0 => fun _ _ _ _ _ => none
 | k_ + 1 => Z9s N (Z3u N k_) (Z7g N (Z3u N k_) N)
def Z8c (d : D0) (q : Q0) (k : Int) (a : I0) (b : I0) : Option (List (List Int × List Int)) := Z3u N N d q k a b
def Z1j (d : D0) (q : Q0) : Option (List (List Int × List Int)) :=
 (Z0x N d q).bind fun r =>
 bif (!r) then some []
 else
 (Z6t N q.1).bind fun r2 =>
 (Z8c N d q 0 r2 []).bind fun r3 =>
 some r3
def Z7h (N : Nat) (b : T55) (c : T33) (l3 : I0) (a : I0) (i2 : Int) (k : Int) : Option I0 :=
 bif decide (k > 0) then
  grd (inb (w64 (k - 1)) a) <|
  grd (inb i2 l3) <|
  bif decide ((at_ 0 a (w64 (k - 1))) > (at_ 0 l3 i2)) then c l3 a i2 (w64 (k - 1))
  else
  grd (subOk 0 k a.length) <|
  grd (appOk [] (a.take k.toNat) 8) <|
  grd (inb i2 l3) <|
  grd (appOk (a.take k.toNat) [(at_ 0 l3 i2)] 8) <|
  grd (subOk k (a.length : Int) a.length) <|
  grd (appOk ((a.take k.toNat) ++ [(at_ 0 l3 i2)]) (a.drop k.toNat) 8) <|
  b l3 (((a.take k.toNat) ++ [(at_ 0 l3 i2)]) ++ (a.drop k.toNat)) (w64 (i2 + 1))
 else
 grd (subOk 0 k a.length) <|
 grd (appOk [] (a.take k.toNat) 8) <|
 grd (inb i2 l3) <|
 grd (appOk (a.take k.toNat) [(at_ 0 l3 i2)] 8) <|
 grd (subOk k (a.length : Int) a.length) <|
 grd (appOk ((a.take k.toNat) ++ [(at_ 0 l3 i2)]) (a.drop k.toNat) 8) <|
 b l3 (((a.take k.toNat) ++ [(at_ 0 l3 i2)]) ++ (a.drop k.toNat)) (w64 (i2 + 1))
def Z5g (a : T55) (N : Nat) : Nat -> T33
 | 0 => fun _ _ _ _ => none
 | k_ + 1 => Z7h N a (Z5g a N k_)
def Z9n (N : Nat) (b : T33) (c : T55) (l2 : I0) (a : I0) (i : Int) : Option I0 :=
 bif decide (i < (l2.length : Int)) then b l2 a i (a.length : Int)
 else
 some a
def Z3i (N : Nat) : Nat -> T55
 | 0 => fun _ _ _ => none
 | k_ + 1 => Z9n N (Z5g (Z3i N k_) N N) (Z3i N k_)
def Z0at (N : Nat) (a : T55) (l : I0) : Option I0 :=
 a l [] 0
def Z69 (l : I0) : Option I0 := Z0at N (Z3i N N) l
def Z9b (a : T74) (l2 : I0) (d2 : R0) (d3 : A0) (i : Int) : Option Bool :=
 bif decide (i < (l2.length : Int)) then
  grd (inb i l2) <|
  (Z5 N (at_ 0 l2 i) 0 (w64 ((d3.length : Int) - 1))).bind fun r =>
  bif (!r) then some false
  else
  bif decide (i > 0) then
   grd (inb i l2) <|
   grd (inb (w64 (i - 1)) l2) <|
   bif decide ((at_ 0 l2 i) <= (at_ 0 l2 (w64 (i - 1)))) then some false
   else
   a l2 d2 d3 (w64 (i + 1))
  else
  a l2 d2 d3 (w64 (i + 1))
 else
 some true
def Z7a (N : Nat) : Nat -> T74
 | 0 => fun _ _ _ _ => none
 | k_ + 1 => Z9b N (Z7a N k_)
def Z0c2 (N : Nat) (a : T74) (d : D0) (l : I0) : Option Bool :=
 a l d.1 d.2 0
def Z8t (d : D0) (l : I0) : Option Bool := Z0c2 N (Z7a N N) d l
def Z8d (N : Nat) (a : T40) (l2 : I0) (d2 : R0) (d3 : A0) (t4 : R0) (b : A0) (x : R0) (x2 : A0) (i : Int) : Option (D0 × Bool) :=
 bif decide (i < (l2.length : Int)) then
  grd (inb i l2) <|
  grd (inb (at_ 0 l2 i) d3) <|
  grd (appOk [] ((at_ (0, []) d3 (at_ 0 l2 i)).2) 8) <|
  grd (appOk x2 [(at_ (0, []) d3 (at_ 0 l2 i))] 32) <|
  a l2 d2 d3 t4 b x (x2 ++ [(at_ (0, []) d3 (at_ 0 l2 i))]) (w64 (i + 1))
 else
 some ((x, x2), true)
def Z58 (N : Nat) : Nat -> T40
 | 0 => fun _ _ _ _ _ _ _ _ => none
 | k_ + 1 => Z8d N (Z58 N k_)
def Z9o (a : T40) (d : D0) (l : I0) : Option (D0 × Bool) :=
 (Z0 N d).bind fun r =>
 bif (!r) then some (([], []), false)
 else
 (Z8t N d l).bind fun r2 =>
 bif (!r2) then some (([], []), false)
 else
 grd (appOk [] d.1 32) <|
 a l d.1 d.2 [] [] d.1 [] 0
def Z2z (d : D0) (l : I0) : Option (D0 × Bool) := Z9o N (Z58 N N) d l
def Z7z (b : T65) (i2 : Int) (d2 : R0) (d3 : A0) (a : I0) (k : Int) : Option I0 :=
 bif decide (k < (d3.length : Int)) then
  (Z0 N (d2, d3)).bind fun r =>
  bif r then
   (Z5 N i2 0 (w64 ((d3.length : Int) - 1))).bind fun r2 =>
   bif r2 then
    grd (inb i2 d3) <|
    grd (inb k d3) <|
    (Z2y N d2 (at_ (0, []) d3 i2) (at_ (0, []) d3 k)).bind fun r3 =>
    bif r3 then
     grd (appOk a [k] 8) <|
     b i2 d2 d3 (a ++ [k]) (w64 (k + 1))
    else
    b i2 d2 d3 a (w64 (k + 1))
   else
   some a
  else
  some a
 else
 some a
def Z65 (N : Nat) : Nat -> T65
 | 0 => fun _ _ _ _ _ => none
 | k_ + 1 => Z7z N (Z65 N k_)
def Z0cu (N : Nat) (a : T65) (d : D0) (i : Int) : Option I0 :=
 a i d.1 d.2 [] 0
def Z8e (d : D0) (i : Int) : Option I0 := Z0cu N (Z65 N N) d i
def Z6v (b : T79) (d2 : R0) (d3 : A0) (a : L0) (i : Int) : Option L0 :=
 bif decide (i < (d3.length : Int)) then
  (Z0 N (d2, d3)).bind fun r =>
  bif r then
   (Z8e N (d2, d3) i).bind fun r2 =>
   grd (inb 0 r2) <|
   bif ((at_ 0 r2 0) == i) then
    grd (appOk a [r2] 24) <|
    b d2 d3 (a ++ [r2]) (w64 (i + 1))
   else
   b d2 d3 a (w64 (i + 1))
  else
  some a
 else
 some a
def Z5h (N : Nat) : Nat -> T79
 | 0 => fun _ _ _ _ => none
 | k_ + 1 => Z6v N (Z5h N k_)
def Z0bk (N : Nat) (a : T79) (d : D0) : Option L0 :=
 a d.1 d.2 [] 0
def Z4n (d : D0) : Option L0 := Z0bk N (Z5h N N) d
def Z4x (d : D0) : Option Bool :=
 (Z0 N d).bind fun r =>
 bif r then
  (Z4n N d).bind fun r2 =>
  some ((r2.length : Int) == (d.2.length : Int))
 else
 some false
def Z24 (d : D0) (l : I0) : Option Bool :=
 (Z2z N d l).bind fun a =>
 bif a.2 then
  (Z4x N a.1).bind fun r3 =>
  some r3
 else
 some false
def Z97 (b : T37) (d2 : R0) (d3 : A0) (a : L0) (l : List (List Int × List Int)) (i : Int) : Option L0 :=
 bif decide (i < (l.length : Int)) then
  grd (inb i l) <|
  (Z69 N ((at_ ([], []) l i).2)).bind fun r2 =>
  (Z24 N (d2, d3) r2).bind fun r3 =>
  bif r3 then
   grd (appOk a [r2] 24) <|
   b d2 d3 (a ++ [r2]) l (w64 (i + 1))
  else
  b d2 d3 a l (w64 (i + 1))
 else
 some a
def Z6g (N : Nat) : Nat -> T37
 | 0 => fun _ _ _ _ _ => none
 | k_ + 1 => Z97 N (Z6g N k_)
def Z0aa (a : T37) (d : D0) (q : Q0) : Option L0 :=
 (Z1j N d q).bind fun r =>
 a d.1 d.2 [] r 0
def Z5i (d : D0) (q : Q0) : Option L0 := Z0aa N (Z6g N N) d q
def Z0ab (c : T47) (a : T54) (l3 : L0) (s3 : I0) (i2 : Int) (b : Bool) (k : Int) : Option Bool :=
 grd (inb i2 l3) <|
 bif decide (k < ((at_ [] l3 i2).length : Int)) then
  bif b then
   grd (inb i2 l3) <|
   grd (inb k (at_ [] l3 i2)) <|
   (Z4d N s3 (at_ 0 (at_ [] l3 i2) k)).bind fun r =>
   a l3 s3 i2 r (w64 (k + 1))
  else
  a l3 s3 i2 false (w64 (k + 1))
 else
 bif b then some true
 else
 c l3 s3 (w64 (i2 + 1))
def Z8f (a : T47) (N : Nat) : Nat -> T54
 | 0 => fun _ _ _ _ _ => none
 | k_ + 1 => Z0ab N a (Z8f a N k_)
def Z8u (N : Nat) (a : T54) (b : T47) (l2 : L0) (s2 : I0) (i : Int) : Option Bool :=
 bif decide (i < (l2.length : Int)) then a l2 s2 i true 0
 else
 some false
def Z3v (N : Nat) : Nat -> T47
 | 0 => fun _ _ _ => none
 | k_ + 1 => Z8u N (Z8f (Z3v N k_) N N) (Z3v N k_)
def Z0bl (N : Nat) (a : T47) (l : L0) (s : I0) : Option Bool :=
 a l s 0
def Z8z (l : L0) (s : I0) : Option Bool := Z0bl N (Z3v N N) l s
def Z4k (l : L0) (s : I0) : Option Bool :=
 (Z8z N l s).bind fun r =>
 some r
def Z4y (d : T27) (a : L0) (b : Bool) (d2 : R0) (d3 : A0) (q2 : Int) (q3 : A0) (q4 : I0) (c : L0) (i : Int) : Option (List Int × Bool) :=
 bif decide (i < (a.length : Int)) then
  (Z0x N (d2, d3) (q2, q3, q4)).bind fun r2 =>
  bif r2 then
   grd (inb i a) <|
   (Z4k N c (at_ [] a i)).bind fun r3 =>
   bif (r3 == b) then
    grd (inb i a) <|
    grd (appOk [] (at_ [] a i) 8) <|
    some ((at_ [] a i), true)
   else
   d a b d2 d3 q2 q3 q4 c (w64 (i + 1))
  else
  some ([], false)
 else
 some ([], false)
def Z2k (N : Nat) : Nat -> T27
 | 0 => fun _ _ _ _ _ _ _ _ _ => none
 | k_ + 1 => Z4y N (Z2k N k_)
def Z9t (a : T27) (d : D0) (q : Q0) (b : L0) (c : Bool) : Option (List Int × Bool) :=
 (Z5i N d q).bind fun r =>
 a b c d.1 d.2 q.1 q.2.1 q.2.2 r 0
def Z48 (d : D0) (q : Q0) (a : L0) (b : Bool) : Option (List Int × Bool) := Z9t N (Z2k N N) d q a b
def Z8 (d : D0) (l : List C0) (q : Q0) : Option (List Int × Bool) :=
 (Z0i N d l).bind fun r =>
 (Z48 N d q r false).bind fun a =>
 some (a.1, a.2)
def Z18 (db : D0) (a : List C0) : Option Int :=
 (Z0a N db a).bind fun r =>
 bif ((r.length : Int) == 0) then some 0
 else
 grd (inb 0 r) <|
 some (w64 ((db.2.length : Int) - ((at_ [] r 0).length : Int)))
def Z7i (N : Nat) (a : T83) (a2 : I0) (b2 : I0) (i : Int) : Option Bool :=
 bif decide (i < (a2.length : Int)) then
  grd (inb i a2) <|
  grd (inb i b2) <|
  bif ((at_ 0 a2 i) != (at_ 0 b2 i)) then some false
  else
  a a2 b2 (w64 (i + 1))
 else
 some true
def Z5j (N : Nat) : Nat -> T83
 | 0 => fun _ _ _ => none
 | k_ + 1 => Z7i N (Z5j N k_)
def Z0au (N : Nat) (c : T83) (a : I0) (b : I0) : Option Bool :=
 bif ((a.length : Int) != (b.length : Int)) then some false
 else
 c a b 0
def Z6a (a : I0) (b : I0) : Option Bool := Z0au N (Z5j N N) a b
def Z9p (a : T84) (a2 : L0) (b2 : L0) (i : Int) : Option Bool :=
 bif decide (i < (a2.length : Int)) then
  grd (inb i a2) <|
  grd (inb i b2) <|
  (Z6a N (at_ [] a2 i) (at_ [] b2 i)).bind fun r =>
  bif (!r) then some false
  else
  a a2 b2 (w64 (i + 1))
 else
 some true
def Z6w (N : Nat) : Nat -> T84
 | 0 => fun _ _ _ => none
 | k_ + 1 => Z9p N (Z6w N k_)
def Z0av (N : Nat) (c : T84) (a : L0) (b : L0) : Option Bool :=
 bif ((a.length : Int) != (b.length : Int)) then some false
 else
 c a b 0
def Z6b (a : L0) (b : L0) : Option Bool := Z0av N (Z6w N N) a b
def Z1q (d : D0) (l : List C0) (q : Q0) : Option Bool :=
 (Z8 N d l q).bind fun a =>
 (Z0x N d q).bind fun r3 =>
 bif r3 then some (!a.2)
 else
 some false
def Z2g (d : D0) (l : List C0) : Option Int :=
 (Z0i N d l).bind fun r =>
 bif ((r.length : Int) == 0) then some 0
 else
 grd (inb 0 r) <|
 some (w64 ((d.2.length : Int) - ((at_ [] r 0).length : Int)))
def Z4h (N : Nat) (c : T85) (b : Int) (a : L0) (i : Int) : Option Int :=
 bif decide (i < (a.length : Int)) then
  grd (inb i a) <|
  c (imax b ((at_ [] a i).length : Int)) a (w64 (i + 1))
 else
 some b
def Z25 (N : Nat) : Nat -> T85
 | 0 => fun _ _ _ => none
 | k_ + 1 => Z4h N (Z25 N k_)
def Z50 (a : T85) (n : Int) (l : E0) : Option Int :=
 (Z0j N n l).bind fun r =>
 a 0 r 0
def Z12 (n : Int) (l : E0) : Option Int := Z50 N (Z25 N N) n l
def Z1o (d : D0) (l : List C0) (q : Q0) : Option (List Int × Bool) :=
 (Z23 N d l).bind fun r =>
 (Z48 N d q r false).bind fun a =>
 some (a.1, a.2)
def Z2l (d : D0) (l : List C0) (q : Q0) : Option Bool :=
 (Z1o N d l q).bind fun a =>
 (Z0x N d q).bind fun r3 =>
 bif r3 then some (!a.2)
 else
 some false
def Z49 (d : D0) (l : I0) (q : Q0) : Option Bool :=
 (Z2z N d l).bind fun a =>
 bif a.2 then
  (Z1j N a.1 q).bind fun r3 =>
  some (decide ((r3.length : Int) > 0))
 else
 some false
def laws_FnCardinalityRepairs_l0_b (g : T18) (d : R0) (d2 : A0) (l : List C0) (q : Int) (q2 : A0) (q3 : I0) (a : L0) (e : Bool) (b : I0) (c : Bool) (n : Int) (i : Int) : Option Bool :=
 bif decide (i < (a.length : Int)) then
  grd (inb i a) <|
  bif (((at_ [] a i).length : Int) != (w64 ((d2.length : Int) - n))) then some false
  else
  g d d2 l q q2 q3 a e b c n (w64 (i + 1))
 else
 (Z18 N (d, d2) []).bind fun f =>
 (Z1g N (d, d2) l).bind fun h =>
 (Z12 N (d2.length : Int) h).bind fun j =>
 bif (n == (w64 ((d2.length : Int) - j))) then
  (Z4n N (d, d2)).bind fun k =>
  bif (f == (w64 ((d2.length : Int) - (k.length : Int)))) then
   bif decide (f <= n) then
    (Z2l N (d, d2) l (q, q2, q3)).bind fun m =>
    bif (!m) then
     bif (!c) then some true
     else
     (Z49 N (d, d2) b (q, q2, q3)).bind fun o =>
     some (!o)
    else
    bif e then
     bif (!c) then some true
     else
     (Z49 N (d, d2) b (q, q2, q3)).bind fun p =>
     some (!p)
    else
    some false
   else
   some false
  else
  some false
 else
 some false
def laws_FnCardinalityRepairs_l0 (N : Nat) : Nat -> T18
 | 0 => fun _ _ _ _ _ _ _ _ _ _ _ _ => none
 | k_ + 1 => laws_FnCardinalityRepairs_l0_b N (laws_FnCardinalityRepairs_l0 N k_)
def laws_FnCardinalityRepairs_b (e : T18) (d : I0) : Option Bool :=
 (Z0b0 N d).bind fun r =>
 bif r then some true
 else
 (Z1l N d).bind fun a =>
 (Z0a N a.1 a.2.1).bind fun r5 =>
 (Z1p N a.1 a.2.1 a.2.2).bind fun r6 =>
 (Z0n N a.1 a.2.1 a.2.2).bind fun b =>
 (Z8 N a.1 a.2.1 a.2.2).bind fun f =>
 (Z18 N a.1 a.2.1).bind fun c =>
 (Z0i N a.1 a.2.1).bind fun g =>
 (Z6b N r5 g).bind fun h =>
 bif (!h) then some false
 else
 (Z1q N a.1 a.2.1 a.2.2).bind fun i =>
 bif (!(r6 == i)) then some false
 else
 bif (!(b.2 == f.2)) then some false
 else
 (Z2g N a.1 a.2.1).bind fun j =>
 bif (c != j) then some false
 else
 (Z0 N a.1).bind fun k =>
 bif (!k) then
  bif ((r5.length : Int) == 0) then some (c == 0)
  else
  some false
 else
 e a.1.1 a.1.2 a.2.1 a.2.2.1 a.2.2.2.1 a.2.2.2.2 r5 r6 b.1 b.2 c 0
def laws_FnCardinalityRepairs (a : I0) : Option Bool := laws_FnCardinalityRepairs_b N (laws_FnCardinalityRepairs_l0 N N) a
end Go.PL
