/- The functions read plainly. Conditions: none (definitions alone). -/
import GoSem.Core.View
import GoSem.Op.String

set_option linter.unusedVariables false
set_option linter.unusedSimpArgs false
set_option linter.unnecessarySimpa false

namespace Go.PL
def w64 (x : Int) : Int := IntKind.i64.wrap x
def w (k : IntKind) (x : Int) : Int := k.wrap x
def grd {α : Type} (c : Bool) (x : Option α) : Option α := bif c then x else none
def grz {α : Type} (b : Int) (x : Option α) : Option α := bif decide (b = 0) then none else x
def letv {α β : Type} (v : α) (k : α -> β) : β := k v
def at_ {α : Type} (d : α) (xs : List α) (i : Int) : α := xs.getD i.toNat d
def inb {α : Type} (i : Int) (xs : List α) : Bool := decide (0 <= i) && decide (i < (xs.length : Int))
def growOk {α : Type} (i' i : Int) (xs : List α) : Bool := decide (i' = i) && (decide (0 <= i') && decide (i' < (xs.length : Int)))
def appOk {α : Type} (s x : List α) (b : Nat) : Bool := decide ((s.length + x.length) * b <= 140737488355328)
def selOk {α : Type} (ix : List Int) (i : Int) (x : List α) (b : Nat) : Bool := ix.all (fun k => decide (k < i)) && decide ((x.length + 1) * b <= 140737488355328)
def selOk0 {α : Type} (x : List α) (b : Nat) : Bool := x.isEmpty && decide ((0 + 1) * b <= 140737488355328)
def makeOk (n : Int) (b : Nat) : Bool := decide (n = n) && (decide (0 <= n) && decide (n * b <= 140737488355328))
def byteAt (s : ByteArray) (n : Int) : Option UInt8 := if 0 <= n then s[n.toNat]? else none
def catOk (a b : ByteArray) : Bool := decide (a.size + b.size <= 140737488355328)
def seq (a b : ByteArray) : Bool := a.toList == b.toList
def slt (a b : ByteArray) : Bool := Op.bytesLess a.toList b.toList
def subOk (lo hi : Int) (n : Nat) : Bool := decide (0 <= lo) && (decide (lo <= hi) && decide (hi <= (n : Int)))
def sub (s : ByteArray) (lo hi : Int) : ByteArray := s.extract lo.toNat hi.toNat
def ofBytes (x : List Int) : ByteArray := ⟨(x.map fun n => UInt8.ofNat n.toNat).toArray⟩
def bits (op : BinOp) (k : IntKind) (a b : Int) : Int := match op with
 | .and => k.wrap ((BitVec.ofInt k.bits a &&& BitVec.ofInt k.bits b).toNat : Int)
 | .xor => k.wrap ((BitVec.ofInt k.bits a ^^^ BitVec.ofInt k.bits b).toNat : Int)
 | .or => k.wrap ((BitVec.ofInt k.bits a ||| BitVec.ofInt k.bits b).toNat : Int)
 | .shl => k.wrap (a * 2 ^ (min b.toNat k.bits))
 | .shr => a.fdiv (2 ^ (min b.toNat k.bits))
 | _ => 0
def imax (a b : Int) : Int := if b > a then b else a
def imin (a b : Int) : Int := if b < a then b else a
def cmpI : List Int -> List Int -> Int
 | [], [] => 0
 | [], _ :: _ => -1
 | _ :: _, [] => 1
 | x :: xs, y :: ys => if x < y then -1 else if y < x then 1 else cmpI xs ys
def cmpF (a b : Int × List Int) : Int := if a.1 < b.1 then -1 else if b.1 < a.1 then 1 else cmpI a.2 b.2
end Go.PL

namespace Go.PL
abbrev D0 : Type := List (ByteArray × Int × Int) × List (Int × List Int)
abbrev Q0 : Type := Int × List (Int × List Int) × List Int
abbrev C0 : Type := Int × Int × Int × Int × Int × Int × Int
abbrev R0 : Type := List (ByteArray × Int × Int)
abbrev A0 : Type := List (Int × List Int)
abbrev L0 : Type := List (List Int)
abbrev I0 : Type := List Int
abbrev E0 : Type := List (Int × Int)
abbrev T0 : Type := Int -> Int -> R0 -> A0 -> R0 -> A0 -> Int -> Option (D0 × Bool)
abbrev T1 : Type := Int -> Int -> R0 -> A0 -> R0 -> A0 -> Int -> Int -> Option (D0 × Bool)
abbrev T2 : Type := Int -> I0 -> R0 -> A0 -> R0 -> A0 -> Int -> Option (D0 × Bool)
abbrev T3 : Type := R0 -> A0 -> R0 -> A0 -> R0 -> A0 -> Int -> Option D0
abbrev T4 : Type := I0 -> Int -> Int -> Option (List Int × Int)
abbrev T5 : Type := R0 -> A0 -> Int -> I0 -> Int -> Option Int
abbrev T6 : Type := Int -> ByteArray -> Option ByteArray
abbrev T7 : Type := R0 -> Int -> Int -> Option (R0 × Int)
abbrev T8 : Type := A0 -> Int -> Int -> Option (A0 × Int)
abbrev T9 : Type := Int -> I0 -> Int -> Option Bool
abbrev T10 : Type := R0 -> A0 -> Int -> Option Bool
abbrev T11 : Type := R0 -> R0 -> Int -> Option Bool
abbrev T12 : Type := I0 -> I0 -> Int -> Option Bool
abbrev T13 : Type := A0 -> A0 -> Int -> Option Bool
abbrev T14 : Type := R0 -> Int -> Int -> Option Int
abbrev T15 : Type := I0 -> Int -> Int -> Option Int
abbrev T16 : Type := A0 -> Int -> Int -> Option Int
abbrev T17 : Type := I0 -> I0 -> Int -> Option Int
abbrev T18 : Type := R0 -> Int -> Option Bool
variable (N : Nat)
def Z0 (N : Nat) (s : A0) : Option A0 := grd (decide (s.length < 4611686018427387904)) (some (s.mergeSort fun a b => !decide (cmpF b a < 0)))
def Z9 (N : Nat) (x : Int) (a : Int) (b : Int) : Option Bool :=
 bif decide (x >= a) then some (decide (x <= b))
 else
 some false
def Z29 (N : Nat) (a : T3) (d2 : R0) (d3 : A0) (t2 : R0) (b : A0) (x : R0) (x2 : A0) (i : Int) : Option D0 :=
 bif decide (i < (d3.length : Int)) then
  grd (inb i d3) <|
  grd (inb i d3) <|
  grd (appOk [] ((at_ (0, []) d3 i).2) 8) <|
  grd (appOk x2 [(at_ (0, []) d3 i)] 32) <|
  a d2 d3 t2 b x (x2 ++ [(at_ (0, []) d3 i)]) (w64 (i + 1))
 else
 some (x, x2)
def Z1y (N : Nat) : Nat -> T3
 | 0 => fun _ _ _ _ _ _ _ => none
 | k_ + 1 => Z29 N (Z1y N k_)
def Z2q (N : Nat) (a : T3) (d : D0) : Option D0 :=
 grd (appOk [] d.1 32) <|
 a d.1 d.2 [] [] d.1 [] 0
def Z1h (d : D0) : Option D0 := Z2q N (Z1y N N) d
def Z0a (s : ByteArray × Int × Int) : Option Bool :=
 bif ((s.1.size : Int) == 1) then
  (byteAt s.1 0).bind fun b =>
  bif decide ((b.toNat : Int) >= 97) then
   (byteAt s.1 0).bind fun b2 =>
   bif decide ((b2.toNat : Int) <= 122) then
    (Z9 N s.2.1 1 3).bind fun r =>
    bif r then
     (Z9 N s.2.2 0 s.2.1).bind fun r2 =>
     some r2
    else
    some false
   else
   some false
  else
  some false
 else
 some false
def Z10 (a : T18) (l2 : R0) (i : Int) : Option Bool :=
 bif decide (i < (l2.length : Int)) then
  grd (inb i l2) <|
  (Z0a N ((at_ (⟨#[]⟩, (0, 0)) l2 i).1, ((at_ (⟨#[]⟩, (0, 0)) l2 i).2))).bind fun r =>
  bif (!r) then some false
  else
  bif decide (i > 0) then
   grd (inb (w64 (i - 1)) l2) <|
   grd (inb i l2) <|
   bif (!slt ((at_ (⟨#[]⟩, (0, 0)) l2 (w64 (i - 1))).1) ((at_ (⟨#[]⟩, (0, 0)) l2 i).1)) then some false
   else
   a l2 (w64 (i + 1))
  else
  a l2 (w64 (i + 1))
 else
 some (decide ((l2.length : Int) <= 4))
def Z0i (N : Nat) : Nat -> T18
 | 0 => fun _ _ => none
 | k_ + 1 => Z10 N (Z0i N k_)
def Z16 (N : Nat) (a : T18) (l : R0) : Option Bool :=
 a l 0
def Z5 (l : R0) : Option Bool := Z16 N (Z0i N N) l
def Z1p (a : T9) (f2 : Int) (f3 : I0) (i : Int) : Option Bool :=
 bif decide (i < (f3.length : Int)) then
  grd (inb i f3) <|
  (Z9 N (at_ 0 f3 i) 0 9).bind fun r3 =>
  bif (!r3) then some false
  else
  a f2 f3 (w64 (i + 1))
 else
 some true
def Z13 (N : Nat) : Nat -> T9
 | 0 => fun _ _ _ => none
 | k_ + 1 => Z1p N (Z13 N k_)
def Z21 (a : T9) (l : R0) (f : Int × List Int) : Option Bool :=
 (Z5 N l).bind fun r =>
 bif (!r) then some false
 else
 (Z9 N f.1 0 (w64 ((l.length : Int) - 1))).bind fun r2 =>
 bif (!r2) then some false
 else
 grd (inb f.1 l) <|
 bif ((f.2.length : Int) != (((at_ (⟨#[]⟩, (0, 0)) l f.1).2).1)) then some false
 else
 a f.1 f.2 0
def Z8 (l : R0) (f : Int × List Int) : Option Bool := Z21 N (Z13 N N) l f
def Z2a (N : Nat) (a : T17) (a2 : I0) (b2 : I0) (i : Int) : Option Int :=
 bif decide (i < (a2.length : Int)) then
  bif decide (i < (b2.length : Int)) then
   grd (inb i a2) <|
   grd (inb i b2) <|
   bif decide ((at_ 0 a2 i) < (at_ 0 b2 i)) then some (-1)
   else
   grd (inb i a2) <|
   grd (inb i b2) <|
   bif decide ((at_ 0 a2 i) > (at_ 0 b2 i)) then some 1
   else
   a a2 b2 (w64 (i + 1))
  else
  bif decide ((a2.length : Int) < (b2.length : Int)) then some (-1)
  else
  bif decide ((a2.length : Int) > (b2.length : Int)) then some 1
  else
  some 0
 else
 bif decide ((a2.length : Int) < (b2.length : Int)) then some (-1)
 else
 bif decide ((a2.length : Int) > (b2.length : Int)) then some 1
 else
 some 0
def Z1z (N : Nat) : Nat -> T17
 | 0 => fun _ _ _ => none
 | k_ + 1 => Z2a N (Z1z N k_)
def Z2r (N : Nat) (c : T17) (a : I0) (b : I0) : Option Int :=
 c a b 0
def Z1i (a : I0) (b : I0) : Option Int := Z2r N (Z1z N N) a b
def Z6 (a : Int × List Int) (b : Int × List Int) : Option Int :=
 bif decide (a.1 < b.1) then some (-1)
 else
 bif decide (a.1 > b.1) then some 1
 else
 (Z1i N a.2 b.2).bind fun r =>
 some r
def Z15 (a : T10) (d2 : R0) (d3 : A0) (i : Int) : Option Bool :=
 bif decide (i < (d3.length : Int)) then
  grd (inb i d3) <|
  (Z8 N d2 (at_ (0, []) d3 i)).bind fun r =>
  bif (!r) then some false
  else
  bif decide (i > 0) then
   grd (inb (w64 (i - 1)) d3) <|
   grd (inb i d3) <|
   (Z6 N (at_ (0, []) d3 (w64 (i - 1))) (at_ (0, []) d3 i)).bind fun r2 =>
   bif decide (r2 >= 0) then some false
   else
   a d2 d3 (w64 (i + 1))
  else
  a d2 d3 (w64 (i + 1))
 else
 (Z5 N d2).bind fun r3 =>
 bif r3 then some (decide ((d3.length : Int) <= 14))
 else
 some false
def Z0k (N : Nat) : Nat -> T10
 | 0 => fun _ _ _ => none
 | k_ + 1 => Z15 N (Z0k N k_)
def Z1j (N : Nat) (a : T10) (d : D0) : Option Bool :=
 a d.1 d.2 0
def Z7 (d : D0) : Option Bool := Z1j N (Z0k N N) d
def Z1v (a : T5) (d2 : R0) (d3 : A0) (f2 : Int) (f3 : I0) (i : Int) : Option Int :=
 bif decide (i < (d3.length : Int)) then
  grd (inb i d3) <|
  (Z6 N (at_ (0, []) d3 i) (f2, f3)).bind fun r =>
  bif (r == 0) then some i
  else
  a d2 d3 f2 f3 (w64 (i + 1))
 else
 some (-1)
def Z1e (N : Nat) : Nat -> T5
 | 0 => fun _ _ _ _ _ => none
 | k_ + 1 => Z1v N (Z1e N k_)
def Z2c (N : Nat) (a : T5) (d : D0) (f : Int × List Int) : Option Int :=
 a d.1 d.2 f.1 f.2 0
def Z0r (d : D0) (f : Int × List Int) : Option Int := Z2c N (Z1e N N) d f
def Z0h (d : D0) (f : Int × List Int) : Option Bool :=
 (Z7 N d).bind fun r =>
 bif r then
  (Z0r N d f).bind fun r2 =>
  some (decide (r2 >= 0))
 else
 some false
def Z1r (a : T2) (f2 : Int) (f3 : I0) (t4 : R0) (b : A0) (x : R0) (x2 : A0) (k : Int) : Option (D0 × Bool) :=
 bif decide (k < (x2.length : Int)) then
  grd (inb k x2) <|
  (Z6 N (at_ (0, []) x2 k) (f2, f3)).bind fun r5 =>
  bif decide (r5 < 0) then a f2 f3 t4 b x x2 (w64 (k + 1))
  else
  grd (appOk [] f3 8) <|
  grd (subOk k (x2.length : Int) x2.length) <|
  grd (appOk [(f2, f3)] (x2.drop k.toNat) 32) <|
  grd (subOk 0 k x2.length) <|
  grd (appOk [] (x2.take k.toNat) 32) <|
  grd (appOk (x2.take k.toNat) ([(f2, f3)] ++ (x2.drop k.toNat)) 32) <|
  some ((x, ((x2.take k.toNat) ++ ([(f2, f3)] ++ (x2.drop k.toNat)))), true)
 else
 grd (appOk [] f3 8) <|
 grd (subOk k (x2.length : Int) x2.length) <|
 grd (appOk [(f2, f3)] (x2.drop k.toNat) 32) <|
 grd (subOk 0 k x2.length) <|
 grd (appOk [] (x2.take k.toNat) 32) <|
 grd (appOk (x2.take k.toNat) ([(f2, f3)] ++ (x2.drop k.toNat)) 32) <|
 some ((x, ((x2.take k.toNat) ++ ([(f2, f3)] ++ (x2.drop k.toNat)))), true)
def Z17 (N : Nat) : Nat -> T2
 | 0 => fun _ _ _ _ _ _ _ => none
 | k_ + 1 => Z1r N (Z17 N k_)
def Z27 (a : T2) (d : D0) (f : Int × List Int) : Option (D0 × Bool) :=
 (Z1h N d).bind fun r =>
 (Z7 N d).bind fun r2 =>
 bif (!r2) then some (r, false)
 else
 (Z8 N d.1 f).bind fun r3 =>
 bif (!r3) then some (r, false)
 else
 (Z0h N d f).bind fun r4 =>
 bif r4 then some (r, false)
 else
 bif ((d.2.length : Int) == 14) then some (r, false)
 else
 a f.1 f.2 [] [] r.1 r.2 0
def Z1 (d : D0) (f : Int × List Int) : Option (D0 × Bool) := Z27 N (Z17 N N) d f
def Z18 (b : T0) (n3 : Int) (a : Int) (c : R0) (d : A0) (d3 : R0) (d4 : A0) (i2 : Int) : Option (D0 × Bool) :=
 bif decide (i2 < n3) then
  (Z1 N (d3, d4) (0, [i2, i2])).bind fun n =>
  (Z1 N n.1 (1, [i2, i2])).bind fun e =>
  bif decide (i2 > 0) then
   grz n3 <|
   (Z1 N e.1 (0, [i2, ((w64 (i2 + 1)).tmod n3)])).bind fun f =>
   bif (i2 != 1) then
    grz n3 <|
    (Z1 N f.1 (1, [i2, ((w64 ((w64 (i2 + n3)) - 1)).tmod n3)])).bind fun h =>
    b n3 a c d h.1.1 h.1.2 (w64 (i2 + 1))
   else
   bif decide (a < 2) then
    grz n3 <|
    (Z1 N f.1 (1, [i2, ((w64 ((w64 (i2 + n3)) - 1)).tmod n3)])).bind fun i =>
    b n3 a c d i.1.1 i.1.2 (w64 (i2 + 1))
   else
   b n3 a c d f.1.1 f.1.2 (w64 (i2 + 1))
  else
  grz 2 <|
  bif ((a.tmod 2) == 0) then
   grz n3 <|
   (Z1 N e.1 (0, [i2, ((w64 (i2 + 1)).tmod n3)])).bind fun g =>
   bif (i2 != 1) then
    grz n3 <|
    (Z1 N g.1 (1, [i2, ((w64 ((w64 (i2 + n3)) - 1)).tmod n3)])).bind fun j =>
    b n3 a c d j.1.1 j.1.2 (w64 (i2 + 1))
   else
   bif decide (a < 2) then
    grz n3 <|
    (Z1 N g.1 (1, [i2, ((w64 ((w64 (i2 + n3)) - 1)).tmod n3)])).bind fun k =>
    b n3 a c d k.1.1 k.1.2 (w64 (i2 + 1))
   else
   b n3 a c d g.1.1 g.1.2 (w64 (i2 + 1))
  else
  bif (i2 != 1) then
   grz n3 <|
   (Z1 N e.1 (1, [i2, ((w64 ((w64 (i2 + n3)) - 1)).tmod n3)])).bind fun l =>
   b n3 a c d l.1.1 l.1.2 (w64 (i2 + 1))
  else
  bif decide (a < 2) then
   grz n3 <|
   (Z1 N e.1 (1, [i2, ((w64 ((w64 (i2 + n3)) - 1)).tmod n3)])).bind fun m =>
   b n3 a c d m.1.1 m.1.2 (w64 (i2 + 1))
  else
  b n3 a c d e.1.1 e.1.2 (w64 (i2 + 1))
 else
 some ((d3, d4), true)
def Z0m (N : Nat) : Nat -> T0
 | 0 => fun _ _ _ _ _ _ _ => none
 | k_ + 1 => Z18 N (Z0m N k_)
def Z19 (Z4 : T0) (o : T0) (n2 : Int) (a : Int) (t4 : R0) (b : A0) (d : R0) (d2 : A0) (i : Int) : Option (D0 × Bool) :=
 bif decide (i < n2) then
  (Z1 N (d, d2) (0, [i, i])).bind fun n =>
  (Z1 N n.1 (1, [i, i])).bind fun c =>
  bif decide (i > 0) then
   grz n2 <|
   (Z1 N c.1 (0, [i, ((w64 (i + 1)).tmod n2)])).bind fun e =>
   bif (i != 1) then
    grz n2 <|
    (Z1 N e.1 (1, [i, ((w64 ((w64 (i + n2)) - 1)).tmod n2)])).bind fun g =>
    Z4 n2 a t4 b g.1.1 g.1.2 (w64 (i + 1))
   else
   bif decide (a < 2) then
    grz n2 <|
    (Z1 N e.1 (1, [i, ((w64 ((w64 (i + n2)) - 1)).tmod n2)])).bind fun h =>
    Z4 n2 a t4 b h.1.1 h.1.2 (w64 (i + 1))
   else
   Z4 n2 a t4 b e.1.1 e.1.2 (w64 (i + 1))
  else
  grz 2 <|
  bif ((a.tmod 2) == 0) then
   grz n2 <|
   (Z1 N c.1 (0, [i, ((w64 (i + 1)).tmod n2)])).bind fun f =>
   bif (i != 1) then
    grz n2 <|
    (Z1 N f.1 (1, [i, ((w64 ((w64 (i + n2)) - 1)).tmod n2)])).bind fun j =>
    Z4 n2 a t4 b j.1.1 j.1.2 (w64 (i + 1))
   else
   bif decide (a < 2) then
    grz n2 <|
    (Z1 N f.1 (1, [i, ((w64 ((w64 (i + n2)) - 1)).tmod n2)])).bind fun k =>
    Z4 n2 a t4 b k.1.1 k.1.2 (w64 (i + 1))
   else
   Z4 n2 a t4 b f.1.1 f.1.2 (w64 (i + 1))
  else
  bif (i != 1) then
   grz n2 <|
   (Z1 N c.1 (1, [i, ((w64 ((w64 (i + n2)) - 1)).tmod n2)])).bind fun l =>
   Z4 n2 a t4 b l.1.1 l.1.2 (w64 (i + 1))
  else
  bif decide (a < 2) then
   grz n2 <|
   (Z1 N c.1 (1, [i, ((w64 ((w64 (i + n2)) - 1)).tmod n2)])).bind fun m =>
   Z4 n2 a t4 b m.1.1 m.1.2 (w64 (i + 1))
  else
  Z4 n2 a t4 b c.1.1 c.1.2 (w64 (i + 1))
 else
 some ((d, d2), true)
def Z0n (N : Nat) : Nat -> T0
 | 0 => fun _ _ _ _ _ _ _ => none
 | k_ + 1 => Z19 N (Z0m N k_) (Z0n N k_)
def Z0s (b : T0) (n : Int) (a : Int) : Option (D0 × Bool) :=
 (Z9 N n 2 3).bind fun r =>
 bif (!r) then some (([], []), false)
 else
 (Z9 N a 0 3).bind fun r2 =>
 bif (!r2) then some (([], []), false)
 else
 b n a [] [] [(⟨#[114]⟩, 2, 1), (⟨#[115]⟩, 2, 1)] [] 0
def Z3 (n : Int) (a : Int) : Option (D0 × Bool) := Z0s N (Z0n N N) n a
def Z0o (N : Nat) (n : Int) (a : Int) (b : Int) : Option Bool :=
 bif decide (a <= n) then some (decide (n <= b))
 else
 some false
def Z1a (f : T1) (b : Int) (d : Int) (t4 : R0) (g : A0) (db : R0) (c : A0) (e : Int) (a : Int) : Option (D0 × Bool) :=
 bif decide (a < e) then
  grd (appOk c [(0, [a, a]), (1, [a, a])] 32) <|
  bif (a != 0) then
   grz b <|
   grd (appOk (c ++ [(0, [a, a]), (1, [a, a])]) [(0, [a, ((w64 (a + 1)).tmod b)])] 32) <|
   bif (a != 1) then
    grz b <|
    grd (appOk ((c ++ [(0, [a, a]), (1, [a, a])]) ++ [(0, [a, ((w64 (a + 1)).tmod b)])]) [(1, [a, ((w64 ((w64 (a + b)) - 1)).tmod b)])] 32) <|
    f b d t4 g db (((c ++ [(0, [a, a]), (1, [a, a])]) ++ [(0, [a, ((w64 (a + 1)).tmod b)])]) ++ [(1, [a, ((w64 ((w64 (a + b)) - 1)).tmod b)])]) e (w64 (a + 1))
   else
   bif decide (d < 2) then
    grz b <|
    grd (appOk ((c ++ [(0, [a, a]), (1, [a, a])]) ++ [(0, [a, ((w64 (a + 1)).tmod b)])]) [(1, [a, ((w64 ((w64 (a + b)) - 1)).tmod b)])] 32) <|
    f b d t4 g db (((c ++ [(0, [a, a]), (1, [a, a])]) ++ [(0, [a, ((w64 (a + 1)).tmod b)])]) ++ [(1, [a, ((w64 ((w64 (a + b)) - 1)).tmod b)])]) e (w64 (a + 1))
   else
   f b d t4 g db ((c ++ [(0, [a, a]), (1, [a, a])]) ++ [(0, [a, ((w64 (a + 1)).tmod b)])]) e (w64 (a + 1))
  else
  grz 2 <|
  bif ((d.tmod 2) == 0) then
   grz b <|
   grd (appOk (c ++ [(0, [a, a]), (1, [a, a])]) [(0, [a, ((w64 (a + 1)).tmod b)])] 32) <|
   bif (a != 1) then
    grz b <|
    grd (appOk ((c ++ [(0, [a, a]), (1, [a, a])]) ++ [(0, [a, ((w64 (a + 1)).tmod b)])]) [(1, [a, ((w64 ((w64 (a + b)) - 1)).tmod b)])] 32) <|
    f b d t4 g db (((c ++ [(0, [a, a]), (1, [a, a])]) ++ [(0, [a, ((w64 (a + 1)).tmod b)])]) ++ [(1, [a, ((w64 ((w64 (a + b)) - 1)).tmod b)])]) e (w64 (a + 1))
   else
   bif decide (d < 2) then
    grz b <|
    grd (appOk ((c ++ [(0, [a, a]), (1, [a, a])]) ++ [(0, [a, ((w64 (a + 1)).tmod b)])]) [(1, [a, ((w64 ((w64 (a + b)) - 1)).tmod b)])] 32) <|
    f b d t4 g db (((c ++ [(0, [a, a]), (1, [a, a])]) ++ [(0, [a, ((w64 (a + 1)).tmod b)])]) ++ [(1, [a, ((w64 ((w64 (a + b)) - 1)).tmod b)])]) e (w64 (a + 1))
   else
   f b d t4 g db ((c ++ [(0, [a, a]), (1, [a, a])]) ++ [(0, [a, ((w64 (a + 1)).tmod b)])]) e (w64 (a + 1))
  else
  bif (a != 1) then
   grz b <|
   grd (appOk (c ++ [(0, [a, a]), (1, [a, a])]) [(1, [a, ((w64 ((w64 (a + b)) - 1)).tmod b)])] 32) <|
   f b d t4 g db ((c ++ [(0, [a, a]), (1, [a, a])]) ++ [(1, [a, ((w64 ((w64 (a + b)) - 1)).tmod b)])]) e (w64 (a + 1))
  else
  bif decide (d < 2) then
   grz b <|
   grd (appOk (c ++ [(0, [a, a]), (1, [a, a])]) [(1, [a, ((w64 ((w64 (a + b)) - 1)).tmod b)])] 32) <|
   f b d t4 g db ((c ++ [(0, [a, a]), (1, [a, a])]) ++ [(1, [a, ((w64 ((w64 (a + b)) - 1)).tmod b)])]) e (w64 (a + 1))
  else
  f b d t4 g db (c ++ [(0, [a, a]), (1, [a, a])]) e (w64 (a + 1))
 else
 (Z0 N c).bind fun m =>
 some ((db, m), true)
def Z0p (N : Nat) : Nat -> T1
 | 0 => fun _ _ _ _ _ _ _ _ => none
 | k_ + 1 => Z1a N (Z0p N k_)
def Z0t (c : T1) (a : Int) (b : Int) : Option (D0 × Bool) :=
 (Z0o N a 2 3).bind fun r =>
 bif (!r) then some (([], []), false)
 else
 (Z0o N b 0 3).bind fun r2 =>
 bif (!r2) then some (([], []), false)
 else
 c a b [] [] [(⟨#[114]⟩, 2, 1), (⟨#[115]⟩, 2, 1)] [] a 0
def Z2 (a : Int) (b : Int) : Option (D0 × Bool) := Z0t N (Z0p N N) a b
def Z0l (N : Nat) (a : ByteArray × Int × Int) (b : ByteArray × Int × Int) : Option Bool :=
 bif (!seq a.1 b.1) then some false
 else
 bif (a.2.1 != b.2.1) then some false
 else
 bif (a.2.2 != b.2.2) then some false
 else
 some true
def Z1q (a : T11) (a2 : R0) (b2 : R0) (i : Int) : Option Bool :=
 bif decide (i < (a2.length : Int)) then
  grd (inb i a2) <|
  grd (inb i b2) <|
  (Z0l N ((at_ (⟨#[]⟩, (0, 0)) a2 i).1, ((at_ (⟨#[]⟩, (0, 0)) a2 i).2)) ((at_ (⟨#[]⟩, (0, 0)) b2 i).1, ((at_ (⟨#[]⟩, (0, 0)) b2 i).2))).bind fun r =>
  bif (!r) then some false
  else
  a a2 b2 (w64 (i + 1))
 else
 some true
def Z14 (N : Nat) : Nat -> T11
 | 0 => fun _ _ _ => none
 | k_ + 1 => Z1q N (Z14 N k_)
def Z22 (N : Nat) (c : T11) (a : R0) (b : R0) : Option Bool :=
 bif ((a.length : Int) != (b.length : Int)) then some false
 else
 c a b 0
def Z0j (a : R0) (b : R0) : Option Bool := Z22 N (Z14 N N) a b
def Z2d (N : Nat) (a : T12) (a2 : I0) (b2 : I0) (i : Int) : Option Bool :=
 bif decide (i < (a2.length : Int)) then
  grd (inb i a2) <|
  grd (inb i b2) <|
  bif ((at_ 0 a2 i) != (at_ 0 b2 i)) then some false
  else
  a a2 b2 (w64 (i + 1))
 else
 some true
def Z20 (N : Nat) : Nat -> T12
 | 0 => fun _ _ _ => none
 | k_ + 1 => Z2d N (Z20 N k_)
def Z2s (N : Nat) (c : T12) (a : I0) (b : I0) : Option Bool :=
 bif ((a.length : Int) != (b.length : Int)) then some false
 else
 c a b 0
def Z1k (a : I0) (b : I0) : Option Bool := Z2s N (Z20 N N) a b
def Z1l (a : Int × List Int) (b : Int × List Int) : Option Bool :=
 bif (a.1 != b.1) then some false
 else
 (Z1k N a.2 b.2).bind fun r =>
 bif (!r) then some false
 else
 some true
def Z28 (a : T13) (a2 : A0) (b2 : A0) (i : Int) : Option Bool :=
 bif decide (i < (a2.length : Int)) then
  grd (inb i a2) <|
  grd (inb i b2) <|
  (Z1l N (at_ (0, []) a2 i) (at_ (0, []) b2 i)).bind fun r =>
  bif (!r) then some false
  else
  a a2 b2 (w64 (i + 1))
 else
 some true
def Z1s (N : Nat) : Nat -> T13
 | 0 => fun _ _ _ => none
 | k_ + 1 => Z28 N (Z1s N k_)
def Z2n (N : Nat) (c : T13) (a : A0) (b : A0) : Option Bool :=
 bif ((a.length : Int) != (b.length : Int)) then some false
 else
 c a b 0
def Z1b (a : A0) (b : A0) : Option Bool := Z2n N (Z1s N N) a b
def Z0f (a : D0) (b : D0) : Option Bool :=
 (Z0j N a.1 b.1).bind fun r =>
 bif (!r) then some false
 else
 (Z1b N a.2 b.2).bind fun r2 =>
 bif (!r2) then some false
 else
 some true
def Z23 (N : Nat) (b : T6) (k2 : Int) (a : ByteArray) : Option ByteArray :=
 bif decide (k2 > 0) then
  grz 10 <|
  grd (catOk (ofBytes [(w .u8 (w64 (48 + (k2.tmod 10))))]) a) <|
  grz 10 <|
  b (w64 (k2.tdiv 10)) ((ofBytes [(w .u8 (w64 (48 + (k2.tmod 10))))]) ++ a)
 else
 grd (catOk (⟨#[109]⟩) a) <|
 some ((⟨#[109]⟩) ++ a)
def Z1m (N : Nat) : Nat -> T6
 | 0 => fun _ _ => none
 | k_ + 1 => Z23 N (Z1m N k_)
def Z2i (N : Nat) (a : T6) (k : Int) : Option ByteArray :=
 bif decide (k <= 0) then some (⟨#[109, 48]⟩)
 else
 a k (⟨#[]⟩)
def Z0g (k : Int) : Option ByteArray := Z2i N (Z1m N N) k
def Z1c (a : T7) (a2 : R0) (k2 : Int) (i : Int) : Option (R0 × Int) :=
 bif decide (i < (a2.length : Int)) then
  (Z0g N k2).bind fun r =>
  grd (inb i a2) <|
  grd (inb i a2) <|
  letv (a2.set i.toNat (r, ((at_ (⟨#[]⟩, (0, 0)) a2 i).2))) fun u =>
  grd (inb i u) <|
  grd (inb i u) <|
  letv (u.set i.toNat ((at_ (⟨#[]⟩, (0, 0)) u i).1, (w64 (k2 + 1)), ((at_ (⟨#[]⟩, (0, 0)) u i).2).2)) fun u2 =>
  grd (inb i u2) <|
  grd (inb i u2) <|
  letv (u2.set i.toNat ((at_ (⟨#[]⟩, (0, 0)) u2 i).1, ((at_ (⟨#[]⟩, (0, 0)) u2 i).2).1, (w64 ((w64 (k2 + 1)) + 1)))) fun u3 =>
  a u3 (w64 ((w64 ((w64 (k2 + 1)) + 1)) + 1)) (w64 (i + 1))
 else
 some (a2, k2)
def Z0u (N : Nat) : Nat -> T7
 | 0 => fun _ _ _ => none
 | k_ + 1 => Z1c N (Z0u N k_)
def Z1t (N : Nat) (b : T7) (a : R0) (k : Int) : Option (R0 × Int) :=
 b a k 0
def Z0d (a : R0) (k : Int) : Option (R0 × Int) := Z1t N (Z0u N N) a k
def Z24 (N : Nat) (a : T4) (a2 : I0) (k2 : Int) (i : Int) : Option (List Int × Int) :=
 bif decide (i < (a2.length : Int)) then
  grd (inb i a2) <|
  grd (inb i a2) <|
  letv (a2.set i.toNat k2) fun u =>
  a u (w64 (k2 + 1)) (w64 (i + 1))
 else
 some (a2, k2)
def Z1n (N : Nat) : Nat -> T4
 | 0 => fun _ _ _ => none
 | k_ + 1 => Z24 N (Z1n N k_)
def Z2j (N : Nat) (b : T4) (a : I0) (k : Int) : Option (List Int × Int) :=
 b a k 0
def Z11 (a : I0) (k : Int) : Option (List Int × Int) := Z2j N (Z1n N N) a k
def Z1w (b : T8) (a2 : A0) (k2 : Int) (i : Int) : Option (A0 × Int) :=
 bif decide (i < (a2.length : Int)) then
  grd (inb i a2) <|
  grd (inb i a2) <|
  letv (a2.set i.toNat (k2, (at_ (0, []) a2 i).2)) fun u =>
  grd (inb i u) <|
  (Z11 N ((at_ (0, []) u i).2) (w64 (k2 + 1))).bind fun a =>
  letv (u.set i.toNat ((at_ (0, []) u i).1, a.1)) fun u2 =>
  b u2 a.2 (w64 (i + 1))
 else
 some (a2, k2)
def Z1f (N : Nat) : Nat -> T8
 | 0 => fun _ _ _ => none
 | k_ + 1 => Z1w N (Z1f N k_)
def Z2e (N : Nat) (b : T8) (a : A0) (k : Int) : Option (A0 × Int) :=
 b a k 0
def Z0v (a : A0) (k : Int) : Option (A0 × Int) := Z2e N (Z1f N N) a k
def Z0b (a : D0) (k : Int) : Option (D0 × Int) :=
 (Z0d N a.1 k).bind fun b =>
 (Z0v N a.2 b.2).bind fun c =>
 some ((b.1, c.1), c.2)
def Z1d (a : T14) (a2 : R0) (k2 : Int) (i : Int) : Option Int :=
 bif decide (i < (a2.length : Int)) then
  grd (inb i a2) <|
  (Z0g N k2).bind fun r =>
  bif (!seq ((at_ (⟨#[]⟩, (0, 0)) a2 i).1) r) then some (-1)
  else
  grd (inb i a2) <|
  bif ((((at_ (⟨#[]⟩, (0, 0)) a2 i).2).1) != (w64 (k2 + 1))) then some (-1)
  else
  grd (inb i a2) <|
  bif ((((at_ (⟨#[]⟩, (0, 0)) a2 i).2).2) != (w64 ((w64 (k2 + 1)) + 1))) then some (-1)
  else
  a a2 (w64 ((w64 ((w64 (k2 + 1)) + 1)) + 1)) (w64 (i + 1))
 else
 some k2
def Z0w (N : Nat) : Nat -> T14
 | 0 => fun _ _ _ => none
 | k_ + 1 => Z1d N (Z0w N k_)
def Z1u (N : Nat) (b : T14) (a : R0) (k : Int) : Option Int :=
 b a k 0
def Z0e (a : R0) (k : Int) : Option Int := Z1u N (Z0w N N) a k
def Z25 (N : Nat) (a : T15) (a2 : I0) (k2 : Int) (i : Int) : Option Int :=
 bif decide (i < (a2.length : Int)) then
  grd (inb i a2) <|
  bif ((at_ 0 a2 i) != k2) then some (-1)
  else
  a a2 (w64 (k2 + 1)) (w64 (i + 1))
 else
 some k2
def Z1o (N : Nat) : Nat -> T15
 | 0 => fun _ _ _ => none
 | k_ + 1 => Z25 N (Z1o N k_)
def Z2k (N : Nat) (b : T15) (a : I0) (k : Int) : Option Int :=
 b a k 0
def Z12 (a : I0) (k : Int) : Option Int := Z2k N (Z1o N N) a k
def Z1x (a : T16) (a2 : A0) (k2 : Int) (i : Int) : Option Int :=
 bif decide (i < (a2.length : Int)) then
  grd (inb i a2) <|
  bif (((at_ (0, []) a2 i).1) != k2) then some (-1)
  else
  grd (inb i a2) <|
  (Z12 N ((at_ (0, []) a2 i).2) (w64 (k2 + 1))).bind fun r =>
  bif decide (r < 0) then some (-1)
  else
  a a2 r (w64 (i + 1))
 else
 some k2
def Z1g (N : Nat) : Nat -> T16
 | 0 => fun _ _ _ => none
 | k_ + 1 => Z1x N (Z1g N k_)
def Z2f (N : Nat) (b : T16) (a : A0) (k : Int) : Option Int :=
 b a k 0
def Z0x (a : A0) (k : Int) : Option Int := Z2f N (Z1g N N) a k
def Z0c (a : D0) (k : Int) : Option Int :=
 (Z0e N a.1 k).bind fun r =>
 bif decide (r < 0) then some (-1)
 else
 (Z0x N a.2 r).bind fun r2 =>
 bif decide (r2 < 0) then some (-1)
 else
 some r2
def laws_FnExactLadderDatabase (c : Int) (d : Int) : Option Bool :=
 (Z3 N c d).bind fun a =>
 (Z2 N c d).bind fun e =>
 (Z0f N e.1 a.1).bind fun r5 =>
 bif (!r5) then some false
 else
 bif (!(e.2 == a.2)) then some false
 else
 (Z0b N e.1 1).bind fun b =>
 (Z0c N b.1 1).bind fun r7 =>
 bif decide (r7 < 0) then some false
 else
 bif (r7 != b.2) then some false
 else
 (Z2 N c d).bind fun f =>
 (Z0f N f.1 a.1).bind fun h =>
 bif (!h) then some false
 else
 bif (!(f.2 == a.2)) then some false
 else
 (Z0c N b.1 1).bind fun g =>
 bif decide (g < 0) then some false
 else
 bif (g != b.2) then some false
 else
 some true
end Go.PL
