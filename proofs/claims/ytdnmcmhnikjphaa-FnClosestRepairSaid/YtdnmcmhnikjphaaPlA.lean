/- The functions read plainly. Conditions: none (definitions alone). -/
import GoSem.Core.View
import GoSem.Op.String

set_option linter.unusedVariables false
set_option linter.unusedSimpArgs false
set_option linter.unnecessarySimpa false

namespace Go.PL
def w64 (x : Int) : Int := IntKind.i64.wrap x
def w (k : IntKind) (x : Int) : Int := k.wrap x
def grd {α : Type} (c : Bool) (x : Option α) : Option α := bif c then x else none
def grz {α : Type} (b : Int) (x : Option α) : Option α := bif decide (b = 0) then none else x
def letv {α β : Type} (v : α) (k : α -> β) : β := k v
def at_ {α : Type} (d : α) (xs : List α) (i : Int) : α := xs.getD i.toNat d
def inb {α : Type} (i : Int) (xs : List α) : Bool := decide (0 <= i) && decide (i < (xs.length : Int))
def growOk {α : Type} (i' i : Int) (xs : List α) : Bool := decide (i' = i) && (decide (0 <= i') && decide (i' < (xs.length : Int)))
def appOk {α : Type} (s x : List α) (b : Nat) : Bool := decide ((s.length + x.length) * b <= 140737488355328)
def selOk {α : Type} (ix : List Int) (i : Int) (x : List α) (b : Nat) : Bool := ix.all (fun k => decide (k < i)) && decide ((x.length + 1) * b <= 140737488355328)
def selOk0 {α : Type} (x : List α) (b : Nat) : Bool := x.isEmpty && decide ((0 + 1) * b <= 140737488355328)
def makeOk (n : Int) (b : Nat) : Bool := decide (n = n) && (decide (0 <= n) && decide (n * b <= 140737488355328))
def byteAt (s : ByteArray) (n : Int) : Option UInt8 := if 0 <= n then s[n.toNat]? else none
def catOk (a b : ByteArray) : Bool := decide (a.size + b.size <= 140737488355328)
def seq (a b : ByteArray) : Bool := a.toList == b.toList
def slt (a b : ByteArray) : Bool := Op.bytesLess a.toList b.toList
def subOk (lo hi : Int) (n : Nat) : Bool := decide (0 <= lo) && (decide (lo <= hi) && decide (hi <= (n : Int)))
def sub (s : ByteArray) (lo hi : Int) : ByteArray := s.extract lo.toNat hi.toNat
def ofBytes (x : List Int) : ByteArray := ⟨(x.map fun n => UInt8.ofNat n.toNat).toArray⟩
def bits (op : BinOp) (k : IntKind) (a b : Int) : Int := match op with
 | .and => k.wrap ((BitVec.ofInt k.bits a &&& BitVec.ofInt k.bits b).toNat : Int)
 | .xor => k.wrap ((BitVec.ofInt k.bits a ^^^ BitVec.ofInt k.bits b).toNat : Int)
 | .or => k.wrap ((BitVec.ofInt k.bits a ||| BitVec.ofInt k.bits b).toNat : Int)
 | .shl => k.wrap (a * 2 ^ (min b.toNat k.bits))
 | .shr => a.fdiv (2 ^ (min b.toNat k.bits))
 | _ => 0
def imax (a b : Int) : Int := if b > a then b else a
def imin (a b : Int) : Int := if b < a then b else a
end Go.PL

namespace Go.PL
abbrev D0 : Type := List (ByteArray × Int × Int) × List (Int × List Int)
abbrev Q0 : Type := Int × List (Int × List Int) × List Int
abbrev C0 : Type := Int × Int × Int × Int × Int × Int × Int
abbrev R0 : Type := List (ByteArray × Int × Int)
abbrev A0 : Type := List (Int × List Int)
abbrev L0 : Type := List (List Int)
abbrev I0 : Type := List Int
abbrev E0 : Type := List (Int × Int)
variable (N : Nat)
def Z2w (N : Nat) (s : I0) : Option I0 := grd (decide (s.length * 8 <= 140737488355328)) (some s)
def Z7o (N : Nat) (code : I0) : Option (Bool) :=
 some (decide ((code.length : Int) > 1048576))
def Z76 (N : Nat) (rec_ : I0 -> Int -> Int -> Option (List Int × Int × Int)) (code2 : I0) (h : Int) (i : Int) : Option (List Int × Int × Int) :=
 bif decide (i < (code2.length : Int)) then
  bif decide (i < 4000) then
   grd (inb i code2) <|
   rec_ code2 (bits .and .i64 (w64 ((w64 ((w64 (h * 131)) + (w64 (at_ 0 code2 i)))) + 7)) 1073741823) (w64 (i + 1))
  else
  some (code2, 0, h)
 else
 some (code2, 0, h)
def Z5y (N : Nat) : Nat -> I0 -> Int -> Int -> Option (List Int × Int × Int)
 | 0, _, _, _ => none
 | k_ + 1, code2, h, i => Z76 N (Z5y N k_) code2 h i
def Z89 (N : Nat) (Z9v : I0 -> Int -> Int -> Option (List Int × Int × Int)) (code : I0) : Option (List Int × Int × Int) :=
 Z9v code (w64 (10101 + (code.length : Int))) 0
def Z5j (code : I0) : Option (List Int × Int × Int) := Z89 N (Z5y N N) code
def Z2e (N : Nat) (c : List Int × Int × Int) : Option ((List Int × Int × Int) × Int) :=
 grd (decide (0 <= 33)) <|
 grd (decide (0 <= 45)) <|
 bif decide (c.2.1 < (c.1.length : Int)) then
  grd (inb c.2.1 c.1) <|
  some ((c.1, (w64 (c.2.1 + 1)), (w64 ((w64 (c.2.2 * 6364136223846793005)) + 1442695040888963407))), (bits .and .i64 (w64 ((bits .and .i64 (bits .xor .i64 (bits .shr .i64 (w64 ((w64 (c.2.2 * 6364136223846793005)) + 1442695040888963407)) 33) (bits .shr .i64 (w64 ((w64 (c.2.2 * 6364136223846793005)) + 1442695040888963407)) 45)) 255) + (w64 (at_ 0 c.1 c.2.1)))) 255))
 else
 some ((c.1, c.2.1, (w64 ((w64 (c.2.2 * 6364136223846793005)) + 1442695040888963407))), (bits .and .i64 (bits .xor .i64 (bits .shr .i64 (w64 ((w64 (c.2.2 * 6364136223846793005)) + 1442695040888963407)) 33) (bits .shr .i64 (w64 ((w64 (c.2.2 * 6364136223846793005)) + 1442695040888963407)) 45)) 255))
def Z0 (c : List Int × Int × Int) (n : Int) : Option ((List Int × Int × Int) × Int) :=
 bif decide (n <= 0) then some (c, 0)
 else
 bif decide (n <= 256) then
  (Z2e N c).bind fun p_m =>
  grz n <|
  some ((c.1, p_m.1.2), (p_m.2.tmod n))
 else
 (Z2e N c).bind fun p_m2 =>
 (Z2e N (c.1, p_m2.1.2)).bind fun p_m3 =>
 (Z2e N (c.1, p_m3.1.2)).bind fun p_m4 =>
 (Z2e N (c.1, p_m4.1.2)).bind fun p_m5 =>
 grz n <|
 some ((c.1, p_m5.1.2), ((w64 ((w64 ((w64 ((w64 (p_m2.2 * 16777216)) + (w64 (p_m3.2 * 65536)))) + (w64 (p_m4.2 * 256)))) + p_m5.2)).tmod n))
def Z0f (c : List Int × Int × Int) (list : I0) : Option ((List Int × Int × Int) × Int) :=
 (Z0 N c (list.length : Int)).bind fun p_m =>
 grd (inb p_m.2 list) <|
 some ((c.1, p_m.1.2), (at_ 0 list p_m.2))
def Z4c (c : List Int × Int × Int) : Option ((List Int × Int × Int) × List (ByteArray × Int × Int)) :=
 (Z0f N c [1, 1, 2, 0]).bind fun p_m =>
 (Z0 N (c.1, p_m.1.2) 2).bind fun p_m2 =>
 some ((c.1, p_m2.1.2), [(⟨#[114]⟩, 2, 1), (⟨#[115]⟩, 2, 1), (⟨#[116]⟩, 2, p_m.2), (⟨#[117]⟩, 3, (w64 (1 + p_m2.2)))])
def Z6x (rec_ : I0 -> Int -> Int -> R0 -> Int -> Int -> I0 -> Int -> I0 -> Option ((List Int × Int × Int) × Int × List Int)) (c2 : I0) (c3 : Int) (c4 : Int) (l2 : R0) (val2 : Int) (t6 : Int) (t62 : I0) (f : Int) (f2 : I0) : Option ((List Int × Int × Int) × Int × List Int) :=
 grd (inb f l2) <|
 bif decide ((f2.length : Int) < (((at_ (⟨#[]⟩, (0, 0)) l2 f).2).1)) then
  (Z0 N (c2, c3, c4) val2).bind fun p_m2 =>
  grd (appOk f2 [p_m2.2] 8) <|
  rec_ c2 p_m2.1.2.1 p_m2.1.2.2 l2 val2 t6 t62 f (f2 ++ [p_m2.2])
 else
 some ((c2, c3, c4), (f, f2))
def Z59 (N : Nat) : Nat -> I0 -> Int -> Int -> R0 -> Int -> Int -> I0 -> Int -> I0 -> Option ((List Int × Int × Int) × Int × List Int)
 | 0, _, _, _, _, _, _, _, _, _ => none
 | k_ + 1, c2, c3, c4, l2, val2, t6, t62, f, f2 => Z6x N (Z59 N k_) c2 c3 c4 l2 val2 t6 t62 f f2
def Z7w (Z9r : I0 -> Int -> Int -> R0 -> Int -> Int -> I0 -> Int -> I0 -> Option ((List Int × Int × Int) × Int × List Int)) (c : List Int × Int × Int) (l : R0) (val : Int) : Option ((List Int × Int × Int) × Int × List Int) :=
 (Z0 N c (l.length : Int)).bind fun p_m =>
 Z9r c.1 p_m.1.2.1 p_m.1.2.2 l val 0 [] p_m.2 []
def Z4d (c : List Int × Int × Int) (l : R0) (val : Int) : Option ((List Int × Int × Int) × Int × List Int) := Z7w N (Z59 N N) c l val
def Z6y (N : Nat) (rec_ : R0 -> A0 -> R0 -> A0 -> R0 -> A0 -> Int -> Option D0) (d2 : R0) (d3 : A0) (t2 : R0) (t22 : A0) (x : R0) (x2 : A0) (i : Int) : Option D0 :=
 bif decide (i < (d3.length : Int)) then
  grd (inb i d3) <|
  grd (inb i d3) <|
  grd (appOk [] ((at_ (0, []) d3 i).2) 8) <|
  grd (appOk x2 [(at_ (0, []) d3 i)] 32) <|
  rec_ d2 d3 t2 t22 x (x2 ++ [(at_ (0, []) d3 i)]) (w64 (i + 1))
 else
 some (x, x2)
def Z5a (N : Nat) : Nat -> R0 -> A0 -> R0 -> A0 -> R0 -> A0 -> Int -> Option D0
 | 0, _, _, _, _, _, _, _ => none
 | k_ + 1, d2, d3, t2, t22, x, x2, i => Z6y N (Z5a N k_) d2 d3 t2 t22 x x2 i
def Z7x (N : Nat) (Z9s : R0 -> A0 -> R0 -> A0 -> R0 -> A0 -> Int -> Option D0) (d : D0) : Option D0 :=
 grd (appOk [] d.1 32) <|
 Z9s d.1 d.2 [] [] d.1 [] 0
def Z52 (d : D0) : Option D0 := Z7x N (Z5a N N) d
def Z4 (N : Nat) (x : Int) (low : Int) (high : Int) : Option (Bool) :=
 bif decide (x >= low) then some (decide (x <= high))
 else
 some false
def Z7 (s : ByteArray × Int × Int) : Option (Bool) :=
 bif ((s.1.size : Int) == 1) then
  (byteAt s.1 0).bind fun b =>
  bif decide ((b.toNat : Int) >= 97) then
   (byteAt s.1 0).bind fun b2 =>
   bif decide ((b2.toNat : Int) <= 122) then
    (Z4 N s.2.1 1 3).bind fun r =>
    bif r then
     (Z4 N s.2.2 0 s.2.1).bind fun r2 =>
     some r2
    else
    some false
   else
   some false
  else
  some false
 else
 some false
def Z14 (rec_ : R0 -> Int -> Option (Bool)) (l2 : R0) (i : Int) : Option (Bool) :=
 bif decide (i < (l2.length : Int)) then
  grd (inb i l2) <|
  (Z7 N ((at_ (⟨#[]⟩, (0, 0)) l2 i).1, ((at_ (⟨#[]⟩, (0, 0)) l2 i).2))).bind fun r =>
  bif (!r) then some false
  else
  bif decide (i > 0) then
   grd (inb (w64 (i - 1)) l2) <|
   grd (inb i l2) <|
   bif (!slt ((at_ (⟨#[]⟩, (0, 0)) l2 (w64 (i - 1))).1) ((at_ (⟨#[]⟩, (0, 0)) l2 i).1)) then some false
   else
   rec_ l2 (w64 (i + 1))
  else
  rec_ l2 (w64 (i + 1))
 else
 some (decide ((l2.length : Int) <= 4))
def Z0i (N : Nat) : Nat -> R0 -> Int -> Option (Bool)
 | 0, _, _ => none
 | k_ + 1, l2, i => Z14 N (Z0i N k_) l2 i
def Z30 (N : Nat) (Z7y : R0 -> Int -> Option (Bool)) (l : R0) : Option (Bool) :=
 Z7y l 0
def Z0c (l : R0) : Option (Bool) := Z30 N (Z0i N N) l
def Z3w (rec_ : Int -> I0 -> Int -> Option (Bool)) (f2 : Int) (f3 : I0) (i : Int) : Option (Bool) :=
 bif decide (i < (f3.length : Int)) then
  grd (inb i f3) <|
  (Z4 N (at_ 0 f3 i) 0 9).bind fun r3 =>
  bif (!r3) then some false
  else
  rec_ f2 f3 (w64 (i + 1))
 else
 some true
def Z2l (N : Nat) : Nat -> Int -> I0 -> Int -> Option (Bool)
 | 0, _, _, _ => none
 | k_ + 1, f2, f3, i => Z3w N (Z2l N k_) f2 f3 i
def Z66 (Z94 : Int -> I0 -> Int -> Option (Bool)) (l : R0) (f : Int × List Int) : Option (Bool) :=
 (Z0c N l).bind fun r =>
 bif (!r) then some false
 else
 (Z4 N f.1 0 (w64 ((l.length : Int) - 1))).bind fun r2 =>
 bif (!r2) then some false
 else
 grd (inb f.1 l) <|
 bif ((f.2.length : Int) != (((at_ (⟨#[]⟩, (0, 0)) l f.1).2).1)) then some false
 else
 Z94 f.1 f.2 0
def Z0k (l : R0) (f : Int × List Int) : Option (Bool) := Z66 N (Z2l N N) l f
def Z4i (N : Nat) (rec_ : I0 -> I0 -> Int -> Option (Int)) (a2 : I0) (b2 : I0) (i : Int) : Option (Int) :=
 bif decide (i < (a2.length : Int)) then
  bif decide (i < (b2.length : Int)) then
   grd (inb i a2) <|
   grd (inb i b2) <|
   bif decide ((at_ 0 a2 i) < (at_ 0 b2 i)) then some (-1)
   else
   grd (inb i a2) <|
   grd (inb i b2) <|
   bif decide ((at_ 0 a2 i) > (at_ 0 b2 i)) then some 1
   else
   rec_ a2 b2 (w64 (i + 1))
  else
  bif decide ((a2.length : Int) < (b2.length : Int)) then some (-1)
  else
  bif decide ((a2.length : Int) > (b2.length : Int)) then some 1
  else
  some 0
 else
 bif decide ((a2.length : Int) < (b2.length : Int)) then some (-1)
 else
 bif decide ((a2.length : Int) > (b2.length : Int)) then some 1
 else
 some 0
def Z3e (N : Nat) : Nat -> I0 -> I0 -> Int -> Option (Int)
 | 0, _, _, _ => none
 | k_ + 1, a2, b2, i => Z4i N (Z3e N k_) a2 b2 i
def Z7z (N : Nat) (Z9t : I0 -> I0 -> Int -> Option (Int)) (a : I0) (b : I0) : Option (Int) :=
 Z9t a b 0
def Z3n (a : I0) (b : I0) : Option (Int) := Z7z N (Z3e N N) a b
def Z0z (a : Int × List Int) (b : Int × List Int) : Option (Int) :=
 bif decide (a.1 < b.1) then some (-1)
 else
 bif decide (a.1 > b.1) then some 1
 else
 (Z3n N a.2 b.2).bind fun r =>
 some r
def Z2y (rec_ : R0 -> A0 -> Int -> Option (Bool)) (d2 : R0) (d3 : A0) (i : Int) : Option (Bool) :=
 bif decide (i < (d3.length : Int)) then
  grd (inb i d3) <|
  (Z0k N d2 (at_ (0, []) d3 i)).bind fun r =>
  bif (!r) then some false
  else
  bif decide (i > 0) then
   grd (inb (w64 (i - 1)) d3) <|
   grd (inb i d3) <|
   (Z0z N (at_ (0, []) d3 (w64 (i - 1))) (at_ (0, []) d3 i)).bind fun r2 =>
   bif decide (r2 >= 0) then some false
   else
   rec_ d2 d3 (w64 (i + 1))
  else
  rec_ d2 d3 (w64 (i + 1))
 else
 (Z0c N d2).bind fun r3 =>
 bif r3 then some (decide ((d3.length : Int) <= 14))
 else
 some false
def Z1o (N : Nat) : Nat -> R0 -> A0 -> Int -> Option (Bool)
 | 0, _, _, _ => none
 | k_ + 1, d2, d3, i => Z2y N (Z1o N k_) d2 d3 i
def Z53 (N : Nat) (Z8a : R0 -> A0 -> Int -> Option (Bool)) (d : D0) : Option (Bool) :=
 Z8a d.1 d.2 0
def Z5 (d : D0) : Option (Bool) := Z53 N (Z1o N N) d
def Z60 (rec_ : R0 -> A0 -> Int -> I0 -> Int -> Option (Int)) (d2 : R0) (d3 : A0) (f2 : Int) (f3 : I0) (i : Int) : Option (Int) :=
 bif decide (i < (d3.length : Int)) then
  grd (inb i d3) <|
  (Z0z N (at_ (0, []) d3 i) (f2, f3)).bind fun r =>
  bif (r == 0) then some i
  else
  rec_ d2 d3 f2 f3 (w64 (i + 1))
 else
 some (-1)
def Z44 (N : Nat) : Nat -> R0 -> A0 -> Int -> I0 -> Int -> Option (Int)
 | 0, _, _, _, _, _ => none
 | k_ + 1, d2, d3, f2, f3, i => Z60 N (Z44 N k_) d2 d3 f2 f3 i
def Z6z (N : Nat) (Z9d : R0 -> A0 -> Int -> I0 -> Int -> Option (Int)) (d : D0) (f : Int × List Int) : Option (Int) :=
 Z9d d.1 d.2 f.1 f.2 0
def Z3f (d : D0) (f : Int × List Int) : Option (Int) := Z6z N (Z44 N N) d f
def Z2h (d : D0) (f : Int × List Int) : Option (Bool) :=
 (Z5 N d).bind fun r =>
 bif r then
  (Z3f N d f).bind fun r2 =>
  some (decide (r2 >= 0))
 else
 some false
def Z5k (rec_ : Int -> I0 -> R0 -> A0 -> R0 -> A0 -> Int -> Option (D0 × Bool)) (f2 : Int) (f3 : I0) (t4 : R0) (t42 : A0) (x : R0) (x2 : A0) (k : Int) : Option (D0 × Bool) :=
 bif decide (k < (x2.length : Int)) then
  grd (inb k x2) <|
  (Z0z N (at_ (0, []) x2 k) (f2, f3)).bind fun r5 =>
  bif decide (r5 < 0) then rec_ f2 f3 t4 t42 x x2 (w64 (k + 1))
  else
  grd (appOk [] f3 8) <|
  grd (subOk k (x2.length : Int) x2.length) <|
  grd (appOk [(f2, f3)] (x2.drop k.toNat) 32) <|
  grd (subOk 0 k x2.length) <|
  grd (appOk [] (x2.take k.toNat) 32) <|
  grd (appOk (x2.take k.toNat) ([(f2, f3)] ++ (x2.drop k.toNat)) 32) <|
  some ((x, ((x2.take k.toNat) ++ ([(f2, f3)] ++ (x2.drop k.toNat)))), true)
 else
 grd (appOk [] f3 8) <|
 grd (subOk k (x2.length : Int) x2.length) <|
 grd (appOk [(f2, f3)] (x2.drop k.toNat) 32) <|
 grd (subOk 0 k x2.length) <|
 grd (appOk [] (x2.take k.toNat) 32) <|
 grd (appOk (x2.take k.toNat) ([(f2, f3)] ++ (x2.drop k.toNat)) 32) <|
 some ((x, ((x2.take k.toNat) ++ ([(f2, f3)] ++ (x2.drop k.toNat)))), true)
def Z3p (N : Nat) : Nat -> Int -> I0 -> R0 -> A0 -> R0 -> A0 -> Int -> Option (D0 × Bool)
 | 0, _, _, _, _, _, _, _ => none
 | k_ + 1, f2, f3, t4, t42, x, x2, k => Z5k N (Z3p N k_) f2 f3 t4 t42 x x2 k
def Z6j (Z98 : Int -> I0 -> R0 -> A0 -> R0 -> A0 -> Int -> Option (D0 × Bool)) (d : D0) (f : Int × List Int) : Option (D0 × Bool) :=
 (Z52 N d).bind fun r =>
 (Z5 N d).bind fun r2 =>
 bif (!r2) then some (r, false)
 else
 (Z0k N d.1 f).bind fun r3 =>
 bif (!r3) then some (r, false)
 else
 (Z2h N d f).bind fun r4 =>
 bif r4 then some (r, false)
 else
 bif ((d.2.length : Int) == 14) then some (r, false)
 else
 Z98 f.1 f.2 [] [] r.1 r.2 0
def Z2j (d : D0) (f : Int × List Int) : Option (D0 × Bool) := Z6j N (Z3p N N) d f
def Z7p (rec_ : I0 -> Int -> Int -> R0 -> A0 -> R0 -> A0 -> Int -> Int -> Option ((List Int × Int × Int) × List (ByteArray × Int × Int) × List (Int × List Int))) (c5 : I0) (c6 : Int) (c7 : Int) (t23 : R0) (t24 : A0) (d3 : R0) (d4 : A0) (val2 : Int) (n2 : Int) : Option ((List Int × Int × Int) × List (ByteArray × Int × Int) × List (Int × List Int)) :=
 bif decide (n2 > 0) then
  (Z4d N (c5, c6, c7) d3 val2).bind fun p_m5 =>
  (Z2j N (d3, d4) p_m5.2).bind fun p_r8 =>
  rec_ c5 p_m5.1.2.1 p_m5.1.2.2 t23 t24 p_r8.1.1 p_r8.1.2 val2 (w64 (n2 - 1))
 else
 some ((c5, c6, c7), (d3, d4))
def Z5b (N : Nat) : Nat -> I0 -> Int -> Int -> R0 -> A0 -> R0 -> A0 -> Int -> Int -> Option ((List Int × Int × Int) × List (ByteArray × Int × Int) × List (Int × List Int))
 | 0, _, _, _, _, _, _, _, _, _ => none
 | k_ + 1, c5, c6, c7, t23, t24, d3, d4, val2, n2 => Z7p N (Z5b N k_) c5 c6 c7 t23 t24 d3 d4 val2 n2
def Z7q (Z0a2 : I0 -> Int -> Int -> R0 -> A0 -> R0 -> A0 -> Int -> Int -> Option ((List Int × Int × Int) × List (ByteArray × Int × Int) × List (Int × List Int))) (rec_ : I0 -> Int -> Int -> R0 -> A0 -> R0 -> A0 -> Int -> Int -> Option ((List Int × Int × Int) × List (ByteArray × Int × Int) × List (Int × List Int))) (c2 : I0) (c3 : Int) (c4 : Int) (t2 : R0) (t22 : A0) (d : R0) (d2 : A0) (val : Int) (n : Int) : Option ((List Int × Int × Int) × List (ByteArray × Int × Int) × List (Int × List Int)) :=
 bif decide (n > 0) then
  (Z4d N (c2, c3, c4) d val).bind fun p_m4 =>
  (Z2j N (d, d2) p_m4.2).bind fun p_r5 =>
  Z0a2 c2 p_m4.1.2.1 p_m4.1.2.2 t2 t22 p_r5.1.1 p_r5.1.2 val (w64 (n - 1))
 else
 some ((c2, c3, c4), (d, d2))
def Z77 (N : Nat) : Nat -> I0 -> Int -> Int -> R0 -> A0 -> R0 -> A0 -> Int -> Int -> Option ((List Int × Int × Int) × List (ByteArray × Int × Int) × List (Int × List Int))
 | 0, _, _, _, _, _, _, _, _, _ => none
 | k_ + 1, c2, c3, c4, t2, t22, d, d2, val, n => Z7q N (Z5b N k_) (Z77 N k_) c2 c3 c4 t2 t22 d d2 val n
def Z8m (Z0a3 : I0 -> Int -> Int -> R0 -> A0 -> R0 -> A0 -> Int -> Int -> Option ((List Int × Int × Int) × List (ByteArray × Int × Int) × List (Int × List Int))) (c : List Int × Int × Int) : Option ((List Int × Int × Int) × List (ByteArray × Int × Int) × List (Int × List Int)) :=
 (Z4c N c).bind fun p_m =>
 (Z0f N (c.1, p_m.1.2) [2, 2, 3, 3]).bind fun p_m2 =>
 (Z0 N (c.1, p_m2.1.2) 11).bind fun p_m3 =>
 Z0a3 c.1 p_m3.1.2.1 p_m3.1.2.2 [] [] p_m.2 [] p_m2.2 (w64 (2 + p_m3.2))
def Z67 (c : List Int × Int × Int) : Option ((List Int × Int × Int) × List (ByteArray × Int × Int) × List (Int × List Int)) := Z8m N (Z77 N N) c
def Z78 (N : Nat) (rec_ : I0 -> Int -> Int -> R0 -> A0 -> R0 -> A0 -> Option ((List Int × Int × Int) × List (ByteArray × Int × Int) × List (Int × List Int))) (c5 : I0) (c6 : Int) (c7 : Int) (t23 : R0) (t24 : A0) (d3 : R0) (d4 : A0) : Option ((List Int × Int × Int) × List (ByteArray × Int × Int) × List (Int × List Int)) :=
 bif decide ((d4.length : Int) > 9) then
  grd (subOk 0 (w64 ((d4.length : Int) - 1)) d4.length) <|
  rec_ c5 c6 c7 t23 t24 d3 (d4.take (w64 ((d4.length : Int) - 1)).toNat)
 else
 some ((c5, c6, c7), (d3, d4))
def Z4t (N : Nat) : Nat -> I0 -> Int -> Int -> R0 -> A0 -> R0 -> A0 -> Option ((List Int × Int × Int) × List (ByteArray × Int × Int) × List (Int × List Int))
 | 0, _, _, _, _, _, _, _ => none
 | k_ + 1, c5, c6, c7, t23, t24, d3, d4 => Z78 N (Z4t N k_) c5 c6 c7 t23 t24 d3 d4
def Z79 (N : Nat) (Z9w : I0 -> Int -> Int -> R0 -> A0 -> R0 -> A0 -> Option ((List Int × Int × Int) × List (ByteArray × Int × Int) × List (Int × List Int))) (rec_ : I0 -> Int -> Int -> R0 -> A0 -> R0 -> A0 -> Option ((List Int × Int × Int) × List (ByteArray × Int × Int) × List (Int × List Int))) (c2 : I0) (c3 : Int) (c4 : Int) (t2 : R0) (t22 : A0) (d : R0) (d2 : A0) : Option ((List Int × Int × Int) × List (ByteArray × Int × Int) × List (Int × List Int)) :=
 bif decide ((d2.length : Int) > 9) then
  grd (subOk 0 (w64 ((d2.length : Int) - 1)) d2.length) <|
  Z9w c2 c3 c4 t2 t22 d (d2.take (w64 ((d2.length : Int) - 1)).toNat)
 else
 some ((c2, c3, c4), (d, d2))
def Z6v (N : Nat) : Nat -> I0 -> Int -> Int -> R0 -> A0 -> R0 -> A0 -> Option ((List Int × Int × Int) × List (ByteArray × Int × Int) × List (Int × List Int))
 | 0, _, _, _, _, _, _, _ => none
 | k_ + 1, c2, c3, c4, t2, t22, d, d2 => Z79 N (Z4t N k_) (Z6v N k_) c2 c3 c4 t2 t22 d d2
def Z8b (Z9x : I0 -> Int -> Int -> R0 -> A0 -> R0 -> A0 -> Option ((List Int × Int × Int) × List (ByteArray × Int × Int) × List (Int × List Int))) (c : List Int × Int × Int) : Option ((List Int × Int × Int) × List (ByteArray × Int × Int) × List (Int × List Int)) :=
 (Z67 N c).bind fun p_m =>
 Z9x c.1 p_m.1.2.1 p_m.1.2.2 [] [] p_m.2.1 p_m.2.2
def Z5l (c : List Int × Int × Int) : Option ((List Int × Int × Int) × List (ByteArray × Int × Int) × List (Int × List Int)) := Z8b N (Z6v N N) c
def Z0v (c : List Int × Int × Int) (n : Int) : Option ((List Int × Int × Int) × Bool) :=
 (Z0 N c n).bind fun p_m =>
 some ((c.1, p_m.1.2), (p_m.2 == 0))
def Z6k (N : Nat) (rec_ : Int -> A0 -> I0 -> Int -> A0 -> I0 -> Int -> A0 -> I0 -> Int -> Option Q0) (q2 : Int) (q3 : A0) (q4 : I0) (t2 : Int) (t22 : A0) (t23 : I0) (x : Int) (x2 : A0) (x3 : I0) (i : Int) : Option Q0 :=
 bif decide (i < (q3.length : Int)) then
  grd (inb i q3) <|
  grd (inb i q3) <|
  grd (appOk [] ((at_ (0, []) q3 i).2) 8) <|
  grd (appOk x2 [(at_ (0, []) q3 i)] 32) <|
  rec_ q2 q3 q4 t2 t22 t23 x (x2 ++ [(at_ (0, []) q3 i)]) x3 (w64 (i + 1))
 else
 some (x, x2, x3)
def Z4y (N : Nat) : Nat -> Int -> A0 -> I0 -> Int -> A0 -> I0 -> Int -> A0 -> I0 -> Int -> Option Q0
 | 0, _, _, _, _, _, _, _, _, _, _ => none
 | k_ + 1, q2, q3, q4, t2, t22, t23, x, x2, x3, i => Z6k N (Z4y N k_) q2 q3 q4 t2 t22 t23 x x2 x3 i
def Z7r (N : Nat) (Z9o : Int -> A0 -> I0 -> Int -> A0 -> I0 -> Int -> A0 -> I0 -> Int -> Option Q0) (q : Q0) : Option Q0 :=
 grd (appOk [] q.2.2 8) <|
 Z9o q.1 q.2.1 q.2.2 0 [] [] q.1 [] q.2.2 0
def Z4j (q : Q0) : Option Q0 := Z7r N (Z4y N N) q
def Z68 (N : Nat) (Z45 : Int -> A0 -> I0 -> Int -> A0 -> I0 -> I0 -> Int -> Int -> Option Q0) (rec_ : Int -> A0 -> I0 -> Int -> A0 -> I0 -> I0 -> Int -> Int -> Int -> Int -> Int -> Option Q0) (t27 : Int) (t28 : A0) (t29 : I0) (x7 : Int) (x8 : A0) (x9 : I0) (name3 : I0) (i3 : Int) (k2 : Int) (t : Int) (at__ : Int) (j : Int) : Option Q0 :=
 bif decide (j < (name3.length : Int)) then
  grd (inb j name3) <|
  bif ((at_ 0 name3 j) == t) then rec_ t27 t28 t29 x7 x8 x9 name3 i3 k2 t j (w64 (j + 1))
  else
  rec_ t27 t28 t29 x7 x8 x9 name3 i3 k2 t at__ (w64 (j + 1))
 else
 bif decide (at__ < 0) then
  grd (appOk name3 [t] 8) <|
  grd (inb i3 x8) <|
  grd (inb k2 ((at_ (0, []) x8 i3).2)) <|
  letv (x8.set i3.toNat ((at_ (0, []) x8 i3).1, (((at_ (0, []) x8 i3).2).set k2.toNat (name3.length : Int)))) fun u =>
  Z45 t27 t28 t29 x7 u x9 (name3 ++ [t]) i3 (w64 (k2 + 1))
 else
 grd (inb i3 x8) <|
 grd (inb k2 ((at_ (0, []) x8 i3).2)) <|
 letv (x8.set i3.toNat ((at_ (0, []) x8 i3).1, (((at_ (0, []) x8 i3).2).set k2.toNat at__))) fun u2 =>
 Z45 t27 t28 t29 x7 u2 x9 name3 i3 (w64 (k2 + 1))
def Z3g (Z45 : Int -> A0 -> I0 -> Int -> A0 -> I0 -> I0 -> Int -> Int -> Option Q0) (N : Nat) : Nat -> Int -> A0 -> I0 -> Int -> A0 -> I0 -> I0 -> Int -> Int -> Int -> Int -> Int -> Option Q0
 | 0, _, _, _, _, _, _, _, _, _, _, _, _ => none
 | k_ + 1, t27, t28, t29, x7, x8, x9, name3, i3, k2, t, at__, j => Z68 N Z45 (Z3g Z45 N k_) t27 t28 t29 x7 x8 x9 name3 i3 k2 t at__ j
def Z69 (N : Nat) (Z46 : Int -> A0 -> I0 -> Int -> A0 -> I0 -> I0 -> Int -> Option Q0) (Z9h : Int -> A0 -> I0 -> Int -> A0 -> I0 -> I0 -> Int -> Int -> Int -> Int -> Int -> Option Q0) (rec_ : Int -> A0 -> I0 -> Int -> A0 -> I0 -> I0 -> Int -> Int -> Option Q0) (t24 : Int) (t25 : A0) (t26 : I0) (x4 : Int) (x5 : A0) (x6 : I0) (name2 : I0) (i2 : Int) (k : Int) : Option Q0 :=
 grd (inb i2 x5) <|
 bif decide (k < (((at_ (0, []) x5 i2).2).length : Int)) then
  grd (inb i2 x5) <|
  grd (inb k ((at_ (0, []) x5 i2).2)) <|
  bif decide ((at_ 0 ((at_ (0, []) x5 i2).2) k) < 0) then rec_ t24 t25 t26 x4 x5 x6 name2 i2 (w64 (k + 1))
  else
  Z9h t24 t25 t26 x4 x5 x6 name2 i2 k (at_ 0 ((at_ (0, []) x5 i2).2) k) (-1) 0
 else
 Z46 t24 t25 t26 x4 x5 x6 name2 (w64 (i2 + 1))
def Z2t (Z46 : Int -> A0 -> I0 -> Int -> A0 -> I0 -> I0 -> Int -> Option Q0) (N : Nat) : Nat -> Int -> A0 -> I0 -> Int -> A0 -> I0 -> I0 -> Int -> Int -> Option Q0
 | 0, _, _, _, _, _, _, _, _, _ => none
 | k_ + 1, t24, t25, t26, x4, x5, x6, name2, i2, k => Z69 N Z46 (Z3g (Z2t Z46 N k_) N N) (Z2t Z46 N k_) t24 t25 t26 x4 x5 x6 name2 i2 k
def Z6a (N : Nat) (Z9i : Int -> A0 -> I0 -> Int -> A0 -> I0 -> I0 -> Int -> Int -> Option Q0) (rec_ : Int -> A0 -> I0 -> Int -> A0 -> I0 -> I0 -> Int -> Option Q0) (t2 : Int) (t22 : A0) (t23 : I0) (x : Int) (x2 : A0) (x3 : I0) (name : I0) (i : Int) : Option Q0 :=
 bif decide (i < (x2.length : Int)) then Z9i t2 t22 t23 x x2 x3 name i 0
 else
 some ((name.length : Int), x2, x3)
def Z3h (N : Nat) : Nat -> Int -> A0 -> I0 -> Int -> A0 -> I0 -> I0 -> Int -> Option Q0
 | 0, _, _, _, _, _, _, _, _ => none
 | k_ + 1, t2, t22, t23, x, x2, x3, name, i => Z6a N (Z2t (Z3h N k_) N N) (Z3h N k_) t2 t22 t23 x x2 x3 name i
def Z7a (Z9j : Int -> A0 -> I0 -> Int -> A0 -> I0 -> I0 -> Int -> Option Q0) (q : Q0) : Option Q0 :=
 (Z4j N q).bind fun r =>
 Z9j 0 [] [] r.1 r.2.1 r.2.2 [] 0
def Z3z (q : Q0) : Option Q0 := Z7a N (Z3h N N) q
def Z6b (Z57 : I0 -> Int -> Int -> Int -> A0 -> I0 -> Int -> A0 -> I0 -> Int -> Int -> Int -> Int -> Option ((List Int × Int × Int) × Int × List (Int × List Int) × List Int)) (rec_ : I0 -> Int -> Int -> Int -> A0 -> I0 -> Int -> A0 -> I0 -> Int -> Int -> Int -> Int -> Int -> I0 -> Int -> Option ((List Int × Int × Int) × Int × List (Int × List Int) × List Int)) (c5 : I0) (c6 : Int) (c7 : Int) (t24 : Int) (t25 : A0) (t26 : I0) (q4 : Int) (q5 : A0) (q6 : I0) (n2 : Int) (vars2 : Int) (from_2 : Int) (i2 : Int) (a : Int) (a2 : I0) (m4 : Int) : Option ((List Int × Int × Int) × Int × List (Int × List Int) × List Int) :=
 bif decide (m4 > 0) then
  (Z0v N (c5, c6, c7) 12).bind fun p_m5 =>
  bif p_m5.2 then
   (Z0 N (c5, p_m5.1.2) 2).bind fun p_m6 =>
   grd (appOk a2 [(w64 ((-1) - p_m6.2))] 8) <|
   rec_ c5 p_m6.1.2.1 p_m6.1.2.2 t24 t25 t26 q4 q5 q6 n2 vars2 from_2 i2 a (a2 ++ [(w64 ((-1) - p_m6.2))]) (w64 (m4 - 1))
  else
  (Z0 N (c5, p_m5.1.2) vars2).bind fun p_m7 =>
  grd (appOk a2 [p_m7.2] 8) <|
  rec_ c5 p_m7.1.2.1 p_m7.1.2.2 t24 t25 t26 q4 q5 q6 n2 vars2 from_2 i2 a (a2 ++ [p_m7.2]) (w64 (m4 - 1))
 else
 grd (appOk q5 [(a, a2)] 32) <|
 Z57 c5 c6 c7 t24 t25 t26 q4 (q5 ++ [(a, a2)]) q6 n2 vars2 from_2 (w64 (i2 + 1))
def Z3i (Z57 : I0 -> Int -> Int -> Int -> A0 -> I0 -> Int -> A0 -> I0 -> Int -> Int -> Int -> Int -> Option ((List Int × Int × Int) × Int × List (Int × List Int) × List Int)) (N : Nat) : Nat -> I0 -> Int -> Int -> Int -> A0 -> I0 -> Int -> A0 -> I0 -> Int -> Int -> Int -> Int -> Int -> I0 -> Int -> Option ((List Int × Int × Int) × Int × List (Int × List Int) × List Int)
 | 0, _, _, _, _, _, _, _, _, _, _, _, _, _, _, _, _ => none
 | k_ + 1, c5, c6, c7, t24, t25, t26, q4, q5, q6, n2, vars2, from_2, i2, a, a2, m4 => Z6b N Z57 (Z3i Z57 N k_) c5 c6 c7 t24 t25 t26 q4 q5 q6 n2 vars2 from_2 i2 a a2 m4
def Z6c (Z9k : I0 -> Int -> Int -> Int -> A0 -> I0 -> Int -> A0 -> I0 -> Int -> Int -> Int -> Int -> Int -> I0 -> Int -> Option ((List Int × Int × Int) × Int × List (Int × List Int) × List Int)) (rec_ : I0 -> Int -> Int -> Int -> A0 -> I0 -> Int -> A0 -> I0 -> Int -> Int -> Int -> Int -> Option ((List Int × Int × Int) × Int × List (Int × List Int) × List Int)) (c2 : I0) (c3 : Int) (c4 : Int) (t2 : Int) (t22 : A0) (t23 : I0) (q : Int) (q2 : A0) (q3 : I0) (n : Int) (vars : Int) (from_ : Int) (i : Int) : Option ((List Int × Int × Int) × Int × List (Int × List Int) × List Int) :=
 bif decide (i < n) then
  grz 4 <|
  grz 3 <|
  Z9k c2 c3 c4 t2 t22 t23 q q2 q3 n vars from_ i ((w64 (from_ + i)).tmod 4) [] (w64 (2 + (w64 (((w64 (from_ + i)).tmod 4).tdiv 3))))
 else
 (Z3z N (q, q2, q3)).bind fun r7 =>
 some ((c2, c3, c4), r7)
def Z3j (N : Nat) : Nat -> I0 -> Int -> Int -> Int -> A0 -> I0 -> Int -> A0 -> I0 -> Int -> Int -> Int -> Int -> Option ((List Int × Int × Int) × Int × List (Int × List Int) × List Int)
 | 0, _, _, _, _, _, _, _, _, _, _, _, _, _ => none
 | k_ + 1, c2, c3, c4, t2, t22, t23, q, q2, q3, n, vars, from_, i => Z6c N (Z3i (Z3j N k_) N N) (Z3j N k_) c2 c3 c4 t2 t22 t23 q q2 q3 n vars from_ i
def Z7b (Z9l : I0 -> Int -> Int -> Int -> A0 -> I0 -> Int -> A0 -> I0 -> Int -> Int -> Int -> Int -> Option ((List Int × Int × Int) × Int × List (Int × List Int) × List Int)) (c : List Int × Int × Int) : Option ((List Int × Int × Int) × Int × List (Int × List Int) × List Int) :=
 (Z0 N c 3).bind fun p_m =>
 (Z0 N (c.1, p_m.1.2) 4).bind fun p_m2 =>
 (Z0 N (c.1, p_m2.1.2) 4).bind fun p_m3 =>
 Z9l c.1 p_m3.1.2.1 p_m3.1.2.2 0 [] [] 0 [] [] (w64 (1 + p_m.2)) (w64 (1 + p_m2.2)) p_m3.2 0
def Z40 (c : List Int × Int × Int) : Option ((List Int × Int × Int) × Int × List (Int × List Int) × List Int) := Z7b N (Z3j N N) c
def Z4e (c : List Int × Int × Int) (list : List ByteArray) : Option ((List Int × Int × Int) × ByteArray) :=
 (Z0 N c (list.length : Int)).bind fun p_m =>
 grd (inb p_m.2 list) <|
 some ((c.1, p_m.1.2), (at_ (⟨#[]⟩) list p_m.2))
def Z8k (N : Nat) (rec_ : ByteArray -> Int -> (List ByteArray) -> Int -> Int -> Option (List ByteArray)) (s2 : ByteArray) (sign2 : Int) (out : List ByteArray) (from_ : Int) (i : Int) : Option (List ByteArray) :=
 bif decide (i < (s2.size : Int)) then
  (byteAt s2 i).bind fun b =>
  bif ((b.toNat : Int) == sign2) then
   grd (subOk from_ i s2.size) <|
   grd (appOk out [(sub s2 from_ i)] 16) <|
   rec_ s2 sign2 (out ++ [(sub s2 from_ i)]) (w64 (i + 1)) (w64 (i + 1))
  else
  rec_ s2 sign2 out from_ (w64 (i + 1))
 else
 grd (subOk from_ (s2.size : Int) s2.size) <|
 grd (appOk out [(sub s2 from_ (s2.size : Int))] 16) <|
 some (out ++ [(sub s2 from_ (s2.size : Int))])
def Z80 (N : Nat) : Nat -> ByteArray -> Int -> (List ByteArray) -> Int -> Int -> Option (List ByteArray)
 | 0, _, _, _, _, _ => none
 | k_ + 1, s2, sign2, out, from_, i => Z8k N (Z80 N k_) s2 sign2 out from_ i
def Z9e (N : Nat) (Z9y : ByteArray -> Int -> (List ByteArray) -> Int -> Int -> Option (List ByteArray)) (s : ByteArray) (sign : Int) : Option (List ByteArray) :=
 Z9y s sign [] 0 0
def Z6g (s : ByteArray) (sign : Int) : Option (List ByteArray) := Z9e N (Z80 N N) s sign
def Z5c (t : Int) : Option (Int × Bool) :=
 bif decide (t >= 0) then some (0, false)
 else
 (Z4 N (w64 ((-1) - t)) 0 9).bind fun r =>
 bif (!r) then some (0, false)
 else
 some ((w64 ((-1) - t)), true)
def Z7l (N : Nat) (rec_ : Int -> ByteArray -> Bool -> Option (ByteArray)) (n2 : Int) (out : ByteArray) (neg : Bool) : Option (ByteArray) :=
 bif (n2 != 0) then
  grz 10 <|
  bif decide ((n2.tmod 10) < 0) then
   grd (catOk (ofBytes [(w .u8 (w64 (48 + (w64 (0 - (n2.tmod 10))))))]) out) <|
   grz 10 <|
   rec_ (w64 (n2.tdiv 10)) ((ofBytes [(w .u8 (w64 (48 + (w64 (0 - (n2.tmod 10))))))]) ++ out) neg
  else
  grd (catOk (ofBytes [(w .u8 (w64 (48 + (n2.tmod 10))))]) out) <|
  grz 10 <|
  rec_ (w64 (n2.tdiv 10)) ((ofBytes [(w .u8 (w64 (48 + (n2.tmod 10))))]) ++ out) neg
 else
 bif neg then
  grd (catOk (⟨#[45]⟩) out) <|
  some ((⟨#[45]⟩) ++ out)
 else
 some out
def Z6l (N : Nat) : Nat -> Int -> ByteArray -> Bool -> Option (ByteArray)
 | 0, _, _, _ => none
 | k_ + 1, n2, out, neg => Z7l N (Z6l N k_) n2 out neg
def Z8c (N : Nat) (Z9f : Int -> ByteArray -> Bool -> Option (ByteArray)) (n : Int) : Option (ByteArray) :=
 bif (n == 0) then some (⟨#[48]⟩)
 else
 Z9f n (⟨#[]⟩) (decide (n < 0))
def Z5d (n : Int) : Option (ByteArray) := Z8c N (Z6l N N) n
def Z1m (t : Int) : Option (ByteArray) :=
 (Z5c N t).bind fun p_r =>
 bif p_r.2 then
  (Z5d N p_r.1).bind fun r3 =>
  some r3
 else
 (Z4 N t 0 3).bind fun r4 =>
 bif (!r4) then some (⟨#[]⟩)
 else
 grd (subOk t (w64 (t + 1)) (⟨#[120, 121, 122, 119]⟩ : ByteArray).size) <|
 some (sub (⟨#[120, 121, 122, 119]⟩ : ByteArray) t (w64 (t + 1)))
def Z7m (rec_ : ByteArray -> Int -> Option (Int × Bool)) (s2 : ByteArray) (t : Int) : Option (Int × Bool) :=
 bif decide (t < 4) then
  (Z1m N t).bind fun r =>
  bif (seq r s2) then some (t, true)
  else
  rec_ s2 (w64 (t + 1))
 else
 some (0, false)
def Z6m (N : Nat) : Nat -> ByteArray -> Int -> Option (Int × Bool)
 | 0, _, _ => none
 | k_ + 1, s2, t => Z7m N (Z6m N k_) s2 t
def Z8d (N : Nat) (Z9g : ByteArray -> Int -> Option (Int × Bool)) (s : ByteArray) : Option (Int × Bool) :=
 Z9g s (-10)
def Z4h (s : ByteArray) : Option (Int × Bool) := Z8d N (Z6m N N) s
def Z6h (N : Nat) (rec_ : R0 -> ByteArray -> Int -> Option (Int)) (l2 : R0) (name2 : ByteArray) (i : Int) : Option (Int) :=
 bif decide (i < (l2.length : Int)) then
  grd (inb i l2) <|
  bif (seq ((at_ (⟨#[]⟩, (0, 0)) l2 i).1) name2) then some i
  else
  rec_ l2 name2 (w64 (i + 1))
 else
 some (-1)
def Z5e (N : Nat) : Nat -> R0 -> ByteArray -> Int -> Option (Int)
 | 0, _, _, _ => none
 | k_ + 1, l2, name2, i => Z6h N (Z5e N k_) l2 name2 i
def Z7c (N : Nat) (Z8n : R0 -> ByteArray -> Int -> Option (Int)) (l : R0) (name : ByteArray) : Option (Int) :=
 Z8n l name 0
def Z3q (l : R0) (name : ByteArray) : Option (Int) := Z7c N (Z5e N N) l name
def Z6p (Z0s : R0 -> Int -> A0 -> I0 -> (List Bool) -> Int -> Option (Bool)) (rec_ : R0 -> Int -> A0 -> I0 -> (List Bool) -> Int -> Int -> I0 -> Int -> Option (Bool)) (l4 : R0) (q8 : Int) (q9 : A0) (q10 : I0) (met3 : List Bool) (i3 : Int) (a3 : Int) (a4 : I0) (k2 : Int) : Option (Bool) :=
 bif decide (k2 < (a4.length : Int)) then
  grd (inb k2 a4) <|
  (Z4 N (at_ 0 a4 k2) (-10) (w64 (q8 - 1))).bind fun r5 =>
  bif (!r5) then some false
  else
  grd (inb k2 a4) <|
  bif decide ((at_ 0 a4 k2) >= 0) then
   grd (inb k2 a4) <|
   grd (inb (at_ 0 a4 k2) met3) <|
   grd (inb (at_ 0 a4 k2) met3) <|
   letv (met3.set (at_ 0 a4 k2).toNat true) fun u =>
   rec_ l4 q8 q9 q10 u i3 a3 a4 (w64 (k2 + 1))
  else
  rec_ l4 q8 q9 q10 met3 i3 a3 a4 (w64 (k2 + 1))
 else
 Z0s l4 q8 q9 q10 met3 (w64 (i3 + 1))
def Z5m (Z0s : R0 -> Int -> A0 -> I0 -> (List Bool) -> Int -> Option (Bool)) (N : Nat) : Nat -> R0 -> Int -> A0 -> I0 -> (List Bool) -> Int -> Int -> I0 -> Int -> Option (Bool)
 | 0, _, _, _, _, _, _, _, _, _ => none
 | k_ + 1, l4, q8, q9, q10, met3, i3, a3, a4, k2 => Z6p N Z0s (Z5m Z0s N k_) l4 q8 q9 q10 met3 i3 a3 a4 k2
def Z6q (N : Nat) (Z0s : R0 -> Int -> A0 -> I0 -> (List Bool) -> Int -> Option (Bool)) (Z8y : R0 -> Int -> A0 -> I0 -> (List Bool) -> Int -> Int -> I0 -> Int -> Option (Bool)) (rec_ : R0 -> Int -> A0 -> I0 -> (List Bool) -> Int -> Int -> I0 -> Int -> Option (Bool)) (l3 : R0) (q5 : Int) (q6 : A0) (q7 : I0) (met2 : List Bool) (i2 : Int) (a : Int) (a2 : I0) (k : Int) : Option (Bool) :=
 bif decide (k < i2) then
  grd (inb k q6) <|
  bif (((at_ (0, []) q6 k).1) == a) then some false
  else
  rec_ l3 q5 q6 q7 met2 i2 a a2 (w64 (k + 1))
 else
 Z8y l3 q5 q6 q7 met2 i2 a a2 0
def Z5n (Z0s : R0 -> Int -> A0 -> I0 -> (List Bool) -> Int -> Option (Bool)) (N : Nat) : Nat -> R0 -> Int -> A0 -> I0 -> (List Bool) -> Int -> Int -> I0 -> Int -> Option (Bool)
 | 0, _, _, _, _, _, _, _, _, _ => none
 | k_ + 1, l3, q5, q6, q7, met2, i2, a, a2, k => Z6q N Z0s (Z5m Z0s N N) (Z5n Z0s N k_) l3 q5 q6 q7 met2 i2 a a2 k
def Z6r (rec_ : Int -> A0 -> I0 -> Int -> Option (Bool)) (q14 : Int) (q15 : A0) (q16 : I0) (i4 : Int) : Option (Bool) :=
 bif decide (i4 < (q16.length : Int)) then
  grd (inb i4 q16) <|
  (Z4 N (at_ 0 q16 i4) 0 (w64 (q14 - 1))).bind fun r6 =>
  bif (!r6) then some false
  else
  bif decide (i4 > 0) then
   grd (inb i4 q16) <|
   grd (inb (w64 (i4 - 1)) q16) <|
   bif decide ((at_ 0 q16 i4) <= (at_ 0 q16 (w64 (i4 - 1)))) then some false
   else
   rec_ q14 q15 q16 (w64 (i4 + 1))
  else
  rec_ q14 q15 q16 (w64 (i4 + 1))
 else
 some true
def Z5o (N : Nat) : Nat -> Int -> A0 -> I0 -> Int -> Option (Bool)
 | 0, _, _, _, _ => none
 | k_ + 1, q14, q15, q16, i4 => Z6r N (Z5o N k_) q14 q15 q16 i4
def Z6s (N : Nat) (Z8z : Int -> A0 -> I0 -> Int -> Option (Bool)) (rec_ : Int -> A0 -> I0 -> (List Bool) -> Int -> Option (Bool)) (q11 : Int) (q12 : A0) (q13 : I0) (met4 : List Bool) (v : Int) : Option (Bool) :=
 bif decide (v < q11) then
  grd (inb v met4) <|
  bif (!(at_ false met4 v)) then some false
  else
  rec_ q11 q12 q13 met4 (w64 (v + 1))
 else
 Z8z q11 q12 q13 0
def Z5p (N : Nat) : Nat -> Int -> A0 -> I0 -> (List Bool) -> Int -> Option (Bool)
 | 0, _, _, _, _, _ => none
 | k_ + 1, q11, q12, q13, met4, v => Z6s N (Z5o N N) (Z5p N k_) q11 q12 q13 met4 v
def Z6t (Z90 : R0 -> Int -> A0 -> I0 -> (List Bool) -> Int -> Int -> I0 -> Int -> Option (Bool)) (Z91 : Int -> A0 -> I0 -> (List Bool) -> Int -> Option (Bool)) (rec_ : R0 -> Int -> A0 -> I0 -> (List Bool) -> Int -> Option (Bool)) (l2 : R0) (q2 : Int) (q3 : A0) (q4 : I0) (met : List Bool) (i : Int) : Option (Bool) :=
 bif decide (i < (q3.length : Int)) then
  grd (inb i q3) <|
  (Z4 N ((at_ (0, []) q3 i).1) 0 (w64 ((l2.length : Int) - 1))).bind fun r4 =>
  bif (!r4) then some false
  else
  grd (inb ((at_ (0, []) q3 i).1) l2) <|
  bif ((((at_ (0, []) q3 i).2).length : Int) != (((at_ (⟨#[]⟩, (0, 0)) l2 ((at_ (0, []) q3 i).1)).2).1)) then some false
  else
  Z90 l2 q2 q3 q4 met i ((at_ (0, []) q3 i).1) ((at_ (0, []) q3 i).2) 0
 else
 Z91 q2 q3 q4 met 0
def Z48 (N : Nat) : Nat -> R0 -> Int -> A0 -> I0 -> (List Bool) -> Int -> Option (Bool)
 | 0, _, _, _, _, _, _ => none
 | k_ + 1, l2, q2, q3, q4, met, i => Z6t N (Z5n (Z48 N k_) N N) (Z5p N N) (Z48 N k_) l2 q2 q3 q4 met i
def Z7n (Z92 : R0 -> Int -> A0 -> I0 -> (List Bool) -> Int -> Option (Bool)) (l : R0) (q : Q0) : Option (Bool) :=
 (Z0c N l).bind fun r =>
 bif (!r) then some false
 else
 (Z4 N q.1 0 4).bind fun r2 =>
 bif (!r2) then some false
 else
 (Z4 N (q.2.1.length : Int) 1 3).bind fun r3 =>
 bif (!r3) then some false
 else
 grd (makeOk 4 1) <|
 Z92 l q.1 q.2.1 q.2.2 (List.replicate (4 : Int).toNat false) 0
def Z47 (l : R0) (q : Q0) : Option (Bool) := Z7n N (Z48 N N) l q
def Z84 (rec_ : R0 -> Int -> I0 -> ByteArray -> Int -> Option (ByteArray)) (l2 : R0) (a2 : Int) (a3 : I0) (s : ByteArray) (i : Int) : Option (ByteArray) :=
 bif decide (i < (a3.length : Int)) then
  grd (inb a2 l2) <|
  bif (i == (((at_ (⟨#[]⟩, (0, 0)) l2 a2).2).2)) then
   grd (catOk s (⟨#[124]⟩)) <|
   grd (inb i a3) <|
   (Z1m N (at_ 0 a3 i)).bind fun r =>
   grd (catOk (s ++ (⟨#[124]⟩)) r) <|
   rec_ l2 a2 a3 ((s ++ (⟨#[124]⟩)) ++ r) (w64 (i + 1))
  else
  grd (inb i a3) <|
  (Z1m N (at_ 0 a3 i)).bind fun r2 =>
  grd (catOk s r2) <|
  rec_ l2 a2 a3 (s ++ r2) (w64 (i + 1))
 else
 some s
def Z7d (N : Nat) : Nat -> R0 -> Int -> I0 -> ByteArray -> Int -> Option (ByteArray)
 | 0, _, _, _, _, _ => none
 | k_ + 1, l2, a2, a3, s, i => Z84 N (Z7d N k_) l2 a2 a3 s i
def Z93 (N : Nat) (Z9p : R0 -> Int -> I0 -> ByteArray -> Int -> Option (ByteArray)) (l : R0) (a : Int × List Int) : Option (ByteArray) :=
 grd (inb a.1 l) <|
 Z9p l a.1 a.2 ((at_ (⟨#[]⟩, (0, 0)) l a.1).1) 0
def Z5f (l : R0) (a : Int × List Int) : Option (ByteArray) := Z93 N (Z7d N N) l a
def Z72 (rec_ : R0 -> Int -> A0 -> I0 -> ByteArray -> Int -> Option (ByteArray)) (l3 : R0) (q5 : Int) (q6 : A0) (q7 : I0) (s2 : ByteArray) (i2 : Int) : Option (ByteArray) :=
 bif decide (i2 < (q6.length : Int)) then
  bif decide (i2 > 0) then
   grd (catOk s2 (⟨#[32]⟩)) <|
   grd (inb i2 q6) <|
   (Z5f N l3 (at_ (0, []) q6 i2)).bind fun r3 =>
   grd (catOk (s2 ++ (⟨#[32]⟩)) r3) <|
   rec_ l3 q5 q6 q7 ((s2 ++ (⟨#[32]⟩)) ++ r3) (w64 (i2 + 1))
  else
  grd (inb i2 q6) <|
  (Z5f N l3 (at_ (0, []) q6 i2)).bind fun r4 =>
  grd (catOk s2 r4) <|
  rec_ l3 q5 q6 q7 (s2 ++ r4) (w64 (i2 + 1))
 else
 some s2
def Z61 (N : Nat) : Nat -> R0 -> Int -> A0 -> I0 -> ByteArray -> Int -> Option (ByteArray)
 | 0, _, _, _, _, _, _ => none
 | k_ + 1, l3, q5, q6, q7, s2, i2 => Z72 N (Z61 N k_) l3 q5 q6 q7 s2 i2
def Z73 (Z95 : R0 -> Int -> A0 -> I0 -> ByteArray -> Int -> Option (ByteArray)) (rec_ : R0 -> Int -> A0 -> I0 -> ByteArray -> Int -> Option (ByteArray)) (l2 : R0) (q2 : Int) (q3 : A0) (q4 : I0) (s : ByteArray) (i : Int) : Option (ByteArray) :=
 bif decide (i < (q4.length : Int)) then
  grd (inb i q4) <|
  (Z1m N (at_ 0 q4 i)).bind fun r2 =>
  grd (catOk s r2) <|
  rec_ l2 q2 q3 q4 (s ++ r2) (w64 (i + 1))
 else
 grd (catOk s (⟨#[63]⟩)) <|
 Z95 l2 q2 q3 q4 (s ++ (⟨#[63]⟩)) 0
def Z62 (N : Nat) : Nat -> R0 -> Int -> A0 -> I0 -> ByteArray -> Int -> Option (ByteArray)
 | 0, _, _, _, _, _, _ => none
 | k_ + 1, l2, q2, q3, q4, s, i => Z73 N (Z61 N N) (Z62 N k_) l2 q2 q3 q4 s i
def Z7u (Z96 : R0 -> Int -> A0 -> I0 -> ByteArray -> Int -> Option (ByteArray)) (l : R0) (q : Q0) : Option (ByteArray) :=
 (Z47 N l q).bind fun r =>
 bif (!r) then some (⟨#[]⟩)
 else
 Z96 l q.1 q.2.1 q.2.2 (⟨#[]⟩) 0
def Z4k (l : R0) (q : Q0) : Option (ByteArray) := Z7u N (Z62 N N) l q
def Z7e (Z4o : R0 -> ByteArray -> Int -> A0 -> I0 -> Int -> A0 -> I0 -> (List ByteArray) -> Int -> Option (Q0 × Bool)) (rec_ : R0 -> ByteArray -> Int -> A0 -> I0 -> Int -> A0 -> I0 -> (List ByteArray) -> Int -> Int -> I0 -> Int -> Option (Q0 × Bool)) (l4 : R0) (s4 : ByteArray) (t47 : Int) (t48 : A0) (t49 : I0) (q7 : Int) (q8 : A0) (q9 : I0) (p2 : List ByteArray) (i3 : Int) (a : Int) (a2 : I0) (k : Int) : Option (Q0 × Bool) :=
 grd (inb i3 p2) <|
 bif decide (k < ((at_ (⟨#[]⟩) p2 i3).size : Int)) then
  bif (k == 0) then
   grd (inb i3 p2) <|
   grd (subOk 0 1 (at_ (⟨#[]⟩) p2 i3).size) <|
   (Z3q N l4 (sub (at_ (⟨#[]⟩) p2 i3) 0 1)).bind fun r5 =>
   rec_ l4 s4 t47 t48 t49 q7 q8 q9 p2 i3 r5 a2 (w64 (k + 1))
  else
  grd (inb i3 p2) <|
  (byteAt (at_ (⟨#[]⟩) p2 i3) k).bind fun b =>
  bif ((b.toNat : Int) == 124) then rec_ l4 s4 t47 t48 t49 q7 q8 q9 p2 i3 a a2 (w64 (k + 1))
  else
  grd (inb i3 p2) <|
  grd (subOk k (w64 (k + 1)) (at_ (⟨#[]⟩) p2 i3).size) <|
  (Z4h N (sub (at_ (⟨#[]⟩) p2 i3) k (w64 (k + 1)))).bind fun p_r6 =>
  grd (appOk a2 [p_r6.1] 8) <|
  rec_ l4 s4 t47 t48 t49 (imax q7 (w64 (p_r6.1 + 1))) q8 q9 p2 i3 a (a2 ++ [p_r6.1]) (w64 (k + 1))
 else
 grd (appOk q8 [(a, a2)] 32) <|
 Z4o l4 s4 t47 t48 t49 q7 (q8 ++ [(a, a2)]) q9 p2 (w64 (i3 + 1))
def Z6d (Z4o : R0 -> ByteArray -> Int -> A0 -> I0 -> Int -> A0 -> I0 -> (List ByteArray) -> Int -> Option (Q0 × Bool)) (N : Nat) : Nat -> R0 -> ByteArray -> Int -> A0 -> I0 -> Int -> A0 -> I0 -> (List ByteArray) -> Int -> Int -> I0 -> Int -> Option (Q0 × Bool)
 | 0, _, _, _, _, _, _, _, _, _, _, _, _, _ => none
 | k_ + 1, l4, s4, t47, t48, t49, q7, q8, q9, p2, i3, a, a2, k => Z7e N Z4o (Z6d Z4o N k_) l4 s4 t47 t48 t49 q7 q8 q9 p2 i3 a a2 k
def Z7f (Z99 : R0 -> ByteArray -> Int -> A0 -> I0 -> Int -> A0 -> I0 -> (List ByteArray) -> Int -> Int -> I0 -> Int -> Option (Q0 × Bool)) (rec_ : R0 -> ByteArray -> Int -> A0 -> I0 -> Int -> A0 -> I0 -> (List ByteArray) -> Int -> Option (Q0 × Bool)) (l3 : R0) (s3 : ByteArray) (t44 : Int) (t45 : A0) (t46 : I0) (q4 : Int) (q5 : A0) (q6 : I0) (p : List ByteArray) (i2 : Int) : Option (Q0 × Bool) :=
 bif decide (i2 < (p.length : Int)) then Z99 l3 s3 t44 t45 t46 q4 q5 q6 p i2 0 [] 0
 else
 (Z4k N l3 (q4, q5, q6)).bind fun r8 =>
 bif (!seq r8 s3) then some ((0, [], []), false)
 else
 some ((q4, q5, q6), true)
def Z4z (N : Nat) : Nat -> R0 -> ByteArray -> Int -> A0 -> I0 -> Int -> A0 -> I0 -> (List ByteArray) -> Int -> Option (Q0 × Bool)
 | 0, _, _, _, _, _, _, _, _, _, _ => none
 | k_ + 1, l3, s3, t44, t45, t46, q4, q5, q6, p, i2 => Z7f N (Z6d (Z4z N k_) N N) (Z4z N k_) l3 s3 t44 t45 t46 q4 q5 q6 p i2
def Z7g (Z9a : R0 -> ByteArray -> Int -> A0 -> I0 -> Int -> A0 -> I0 -> (List ByteArray) -> Int -> Option (Q0 × Bool)) (rec_ : R0 -> ByteArray -> Int -> A0 -> I0 -> (List ByteArray) -> Int -> A0 -> I0 -> Int -> Option (Q0 × Bool)) (l2 : R0) (s2 : ByteArray) (t4 : Int) (t42 : A0) (t43 : I0) (w : List ByteArray) (q : Int) (q2 : A0) (q3 : I0) (i : Int) : Option (Q0 × Bool) :=
 grd (inb 0 w) <|
 bif decide (i < ((at_ (⟨#[]⟩) w 0).size : Int)) then
  grd (inb 0 w) <|
  grd (subOk i (w64 (i + 1)) (at_ (⟨#[]⟩) w 0).size) <|
  (Z4h N (sub (at_ (⟨#[]⟩) w 0) i (w64 (i + 1)))).bind fun p_r2 =>
  grd (appOk q3 [p_r2.1] 8) <|
  rec_ l2 s2 t4 t42 t43 w q q2 (q3 ++ [p_r2.1]) (w64 (i + 1))
 else
 grd (inb 1 w) <|
 (Z6g N (at_ (⟨#[]⟩) w 1) 32).bind fun r4 =>
 Z9a l2 s2 t4 t42 t43 q q2 q3 r4 0
def Z6e (N : Nat) : Nat -> R0 -> ByteArray -> Int -> A0 -> I0 -> (List ByteArray) -> Int -> A0 -> I0 -> Int -> Option (Q0 × Bool)
 | 0, _, _, _, _, _, _, _, _, _, _ => none
 | k_ + 1, l2, s2, t4, t42, t43, w, q, q2, q3, i => Z7g N (Z4z N N) (Z6e N k_) l2 s2 t4 t42 t43 w q q2 q3 i
def Z85 (Z9b : R0 -> ByteArray -> Int -> A0 -> I0 -> (List ByteArray) -> Int -> A0 -> I0 -> Int -> Option (Q0 × Bool)) (l : R0) (s : ByteArray) : Option (Q0 × Bool) :=
 (Z6g N s 63).bind fun r =>
 bif ((r.length : Int) != 2) then some ((0, [], []), false)
 else
 Z9b l s 0 [] [] r 0 [] [] 0
def Z1n (l : R0) (s : ByteArray) : Option (Q0 × Bool) := Z85 N (Z6e N N) l s
def Z34 (c : List Int × Int × Int) (l : R0) : Option ((List Int × Int × Int) × Int × List (Int × List Int) × List Int) :=
 (Z4e N c [⟨#[63, 114, 120, 124, 121, 32, 115, 121, 124, 122]⟩, ⟨#[63, 114, 120, 124, 121, 32, 115, 121, 124, 120]⟩, ⟨#[63, 114, 120, 124, 121, 32, 115, 122, 124, 121]⟩, ⟨#[63, 114, 120, 124, 121, 32, 115, 120, 124, 122]⟩, ⟨#[63, 114, 120, 124, 49]⟩, ⟨#[63, 114, 120, 124, 120]⟩, ⟨#[63, 114, 120, 124, 121, 32, 115, 121, 124, 49]⟩, ⟨#[63, 114, 120, 124, 121, 32, 115, 121, 124, 122, 32, 114]⟩, ⟨#[63, 114, 120, 124, 121]⟩, ⟨#[63, 114, 120, 124, 122, 32, 115, 121, 124, 122]⟩]).bind fun p_m =>
 (Z1n N l p_m.2).bind fun p_r2 =>
 bif (!p_r2.2) then
  (Z1n N l (⟨#[63, 114, 120, 124, 121, 32, 115, 121, 124, 122]⟩)).bind fun p_r4 =>
  some ((c.1, p_m.1.2), p_r4.1)
 else
 some ((c.1, p_m.1.2), p_r2.1)
def Z6n (rec_ : I0 -> Int -> Int -> Int -> A0 -> I0 -> Int -> A0 -> I0 -> Int -> Option ((List Int × Int × Int) × Int × List (Int × List Int) × List Int)) (c2 : I0) (c3 : Int) (c4 : Int) (t4 : Int) (t42 : A0) (t43 : I0) (q : Int) (q2 : A0) (q3 : I0) (v : Int) : Option ((List Int × Int × Int) × Int × List (Int × List Int) × List Int) :=
 bif decide (v < q) then
  (Z0v N (c2, c3, c4) 3).bind fun p_m5 =>
  bif p_m5.2 then
   grd (appOk q3 [v] 8) <|
   rec_ c2 p_m5.1.2.1 p_m5.1.2.2 t4 t42 t43 q q2 (q3 ++ [v]) (w64 (v + 1))
  else
  rec_ c2 p_m5.1.2.1 p_m5.1.2.2 t4 t42 t43 q q2 q3 (w64 (v + 1))
 else
 some ((c2, c3, c4), (q, q2, q3))
def Z3x (N : Nat) : Nat -> I0 -> Int -> Int -> Int -> A0 -> I0 -> Int -> A0 -> I0 -> Int -> Option ((List Int × Int × Int) × Int × List (Int × List Int) × List Int)
 | 0, _, _, _, _, _, _, _, _, _, _ => none
 | k_ + 1, c2, c3, c4, t4, t42, t43, q, q2, q3, v => Z6n N (Z3x N k_) c2 c3 c4 t4 t42 t43 q q2 q3 v
def Z7s (Z8e : I0 -> Int -> Int -> Int -> A0 -> I0 -> Int -> A0 -> I0 -> Int -> Option ((List Int × Int × Int) × Int × List (Int × List Int) × List Int)) (c : List Int × Int × Int) (l : R0) : Option ((List Int × Int × Int) × Int × List (Int × List Int) × List Int) :=
 (Z40 N c).bind fun p_m =>
 (Z0v N (c.1, p_m.1.2) 3).bind fun p_m2 =>
 bif p_m2.2 then
  (Z34 N (c.1, p_m2.1.2) l).bind fun p_m3 =>
  (Z0v N (c.1, p_m3.1.2) 4).bind fun p_m4 =>
  bif p_m4.2 then Z8e c.1 p_m4.1.2.1 p_m4.1.2.2 0 [] [] p_m3.2.1 p_m3.2.2.1 p_m3.2.2.2 0
  else
  some ((c.1, p_m4.1.2), p_m3.2)
 else
 (Z0v N (c.1, p_m2.1.2) 4).bind fun p_m6 =>
 bif p_m6.2 then Z8e c.1 p_m6.1.2.1 p_m6.1.2.2 0 [] [] p_m.2.1 p_m.2.2.1 p_m.2.2.2 0
 else
 some ((c.1, p_m6.1.2), p_m.2)
def Z31 (c : List Int × Int × Int) (l : R0) : Option ((List Int × Int × Int) × Int × List (Int × List Int) × List Int) := Z7s N (Z3x N N) c l
def Z4f (c : List Int × Int × Int) (l : R0) : Option ((List Int × Int × Int) × Int × List (Int × List Int) × List Int) :=
 (Z31 N c l).bind fun p_m =>
 (Z0 N (c.1, p_m.1.2) 14).bind fun p_m2 =>
 bif (p_m2.2 == 0) then
  (Z0f N (c.1, p_m2.1.2) [(-1), (w64 (p_m.2.1 + 1)), 5]).bind fun p_m3 =>
  some ((c.1, p_m3.1.2), (p_m3.2, p_m.2.2))
 else
 bif (p_m2.2 == 1) then
  (Z0 N (c.1, p_m2.1.2) 6).bind fun p_m4 =>
  grd (appOk p_m.2.2.1 [((w64 (p_m4.2 - 1)), [0, 0])] 32) <|
  some ((c.1, p_m4.1.2), (p_m.2.1, (p_m.2.2.1 ++ [((w64 (p_m4.2 - 1)), [0, 0])]), p_m.2.2.2))
 else
 bif (p_m2.2 == 2) then
  grd (inb 0 p_m.2.2.1) <|
  (Z0f N (c.1, p_m2.1.2) [(-11), 4, 3]).bind fun p_m5 =>
  grd (inb 0 ((at_ (0, []) p_m.2.2.1 0).2)) <|
  letv (p_m.2.2.1.set 0 ((at_ (0, []) p_m.2.2.1 0).1, (((at_ (0, []) p_m.2.2.1 0).2).set 0 p_m5.2))) fun u =>
  some ((c.1, p_m5.1.2), (p_m.2.1, u, p_m.2.2.2))
 else
 bif (p_m2.2 == 3) then
  (Z0 N (c.1, p_m2.1.2) 5).bind fun p_m6 =>
  grd (appOk p_m.2.2.2 [p_m6.2] 8) <|
  some ((c.1, p_m6.1.2), (p_m.2.1, p_m.2.2.1, (p_m.2.2.2 ++ [p_m6.2])))
 else
 some ((c.1, p_m2.1.2), p_m.2)
def Z3r (code : I0) : Option ((List Int × Int × Int) × D0 × Int × List (Int × List Int) × List Int) :=
 (Z5j N code).bind fun r =>
 (Z5l N r).bind fun p_m =>
 (Z31 N (r.1, p_m.1.2) p_m.2.1).bind fun p_m2 =>
 (Z0v N (r.1, p_m2.1.2) 20).bind fun p_m3 =>
 bif p_m3.2 then
  (Z4f N (r.1, p_m3.1.2) p_m.2.1).bind fun p_m4 =>
  some ((r.1, p_m4.1.2), p_m.2, p_m4.2)
 else
 some ((r.1, p_m3.1.2), p_m.2, p_m2.2)
def Z4g (c : List Int × Int × Int) : Option ((List Int × Int × Int) × Int × Int × Int × Int × Int × Int × Int) :=
 (Z0 N c 3).bind fun p_m =>
 (Z0 N (c.1, p_m.1.2) 3).bind fun p_m2 =>
 (Z0 N (c.1, p_m2.1.2) 2).bind fun p_m3 =>
 (Z0 N (c.1, p_m3.1.2) 2).bind fun p_m4 =>
 (Z0 N (c.1, p_m4.1.2) 2).bind fun p_m5 =>
 (Z0 N (c.1, p_m5.1.2) 2).bind fun p_m6 =>
 (Z0 N (c.1, p_m6.1.2) 2).bind fun p_m7 =>
 (Z0 N (c.1, p_m7.1.2) 14).bind fun p_m8 =>
 bif (p_m8.2 == 0) then
  (Z0f N (c.1, p_m8.1.2) [(-1), 2]).bind fun p_m9 =>
  some ((c.1, p_m9.1.2), (p_m.2, p_m2.2, p_m9.2, p_m4.2, p_m5.2, p_m6.2, (w64 (1 + p_m7.2))))
 else
 bif (p_m8.2 == 1) then
  (Z0f N (c.1, p_m8.1.2) [0, 3]).bind fun p_m10 =>
  some ((c.1, p_m10.1.2), (p_m.2, p_m2.2, p_m3.2, p_m4.2, p_m5.2, p_m6.2, p_m10.2))
 else
 bif (p_m8.2 == 2) then
  (Z0 N (c.1, p_m8.1.2) 6).bind fun p_m11 =>
  some ((c.1, p_m11.1.2), (p_m.2, (w64 (p_m11.2 - 1)), p_m3.2, p_m4.2, p_m5.2, p_m6.2, (w64 (1 + p_m7.2))))
 else
 some ((c.1, p_m8.1.2), (p_m.2, p_m2.2, p_m3.2, p_m4.2, p_m5.2, p_m6.2, (w64 (1 + p_m7.2))))
def Z70 (rec_ : I0 -> Int -> Int -> (List C0) -> Int -> Option ((List Int × Int × Int) × List C0)) (c2 : I0) (c3 : Int) (c4 : Int) (l : List C0) (n : Int) : Option ((List Int × Int × Int) × List C0) :=
 bif decide (n > 0) then
  (Z4g N (c2, c3, c4)).bind fun p_m2 =>
  grd (appOk l [p_m2.2] 56) <|
  rec_ c2 p_m2.1.2.1 p_m2.1.2.2 (l ++ [p_m2.2]) (w64 (n - 1))
 else
 some ((c2, c3, c4), l)
def Z5g (N : Nat) : Nat -> I0 -> Int -> Int -> (List C0) -> Int -> Option ((List Int × Int × Int) × List C0)
 | 0, _, _, _, _, _ => none
 | k_ + 1, c2, c3, c4, l, n => Z70 N (Z5g N k_) c2 c3 c4 l n
def Z81 (Z9u : I0 -> Int -> Int -> (List C0) -> Int -> Option ((List Int × Int × Int) × List C0)) (c : List Int × Int × Int) : Option ((List Int × Int × Int) × List C0) :=
 (Z0 N c 3).bind fun p_m =>
 Z9u c.1 p_m.1.2.1 p_m.1.2.2 [] p_m.2
def Z54 (c : List Int × Int × Int) : Option ((List Int × Int × Int) × List C0) := Z81 N (Z5g N N) c
def Z3s (code : I0) : Option ((List Int × Int × Int) × D0 × (List C0) × Int × List (Int × List Int) × List Int) :=
 (Z3r N code).bind fun p_r =>
 (Z54 N p_r.1).bind fun p_m =>
 some ((p_r.1.1, p_m.1.2), p_r.2.1, p_m.2, p_r.2.2)
def Z6f (rec_ : I0 -> Int -> Int -> R0 -> A0 -> I0 -> Int -> Option ((List Int × Int × Int) × List Int)) (c2 : I0) (c3 : Int) (c4 : Int) (d2 : R0) (d3 : A0) (l : I0) (i : Int) : Option ((List Int × Int × Int) × List Int) :=
 bif decide (i < (d3.length : Int)) then
  (Z0v N (c2, c3, c4) 2).bind fun p_m =>
  bif p_m.2 then
   grd (appOk l [i] 8) <|
   rec_ c2 p_m.1.2.1 p_m.1.2.2 d2 d3 (l ++ [i]) (w64 (i + 1))
  else
  rec_ c2 p_m.1.2.1 p_m.1.2.2 d2 d3 l (w64 (i + 1))
 else
 bif decide ((l.length : Int) > 0) then
  (Z0v N (c2, c3, c4) 12).bind fun p_m2 =>
  bif p_m2.2 then
   (Z0f N (c2, p_m2.1.2) [(-1), (d3.length : Int), 3]).bind fun p_m3 =>
   grd (inb 0 l) <|
   grd (inb 0 l) <|
   letv (l.set 0 p_m3.2) fun u =>
   some ((c2, p_m3.1.2), u)
  else
  some ((c2, p_m2.1.2), l)
 else
 some ((c2, c3, c4), l)
def Z4l (N : Nat) : Nat -> I0 -> Int -> Int -> R0 -> A0 -> I0 -> Int -> Option ((List Int × Int × Int) × List Int)
 | 0, _, _, _, _, _, _, _ => none
 | k_ + 1, c2, c3, c4, d2, d3, l, i => Z6f N (Z4l N k_) c2 c3 c4 d2 d3 l i
def Z7h (N : Nat) (Z9m : I0 -> Int -> Int -> R0 -> A0 -> I0 -> Int -> Option ((List Int × Int × Int) × List Int)) (c : List Int × Int × Int) (d : D0) : Option ((List Int × Int × Int) × List Int) :=
 Z9m c.1 c.2.1 c.2.2 d.1 d.2 [] 0
def Z41 (c : List Int × Int × Int) (d : D0) : Option ((List Int × Int × Int) × List Int) := Z7h N (Z4l N N) c d
def Z1b (code : I0) : Option (D0 × (List C0) × List Int) :=
 (Z3s N code).bind fun p_r =>
 (Z41 N p_r.1 p_r.2.1).bind fun p_m =>
 some (p_r.2.1, p_r.2.2.1, p_m.2)
def Z9 (N : Nat) (n : Int) (low : Int) (high : Int) : Option (Bool) :=
 bif decide (low <= n) then some (decide (n <= high))
 else
 some false
def Z1q (relation : ByteArray × Int × Int) : Option (Bool) :=
 bif ((relation.1.size : Int) == 1) then
  (byteAt relation.1 0).bind fun b =>
  bif decide ((b.toNat : Int) >= 97) then
   (byteAt relation.1 0).bind fun b2 =>
   bif decide ((b2.toNat : Int) <= 122) then
    (Z9 N relation.2.1 1 3).bind fun r =>
    bif r then
     (Z9 N relation.2.2 0 relation.2.1).bind fun r2 =>
     some r2
    else
    some false
   else
   some false
  else
  some false
 else
 some false
def Z2k (rec_ : R0 -> R0 -> Int -> Int -> Option (Bool)) (relations2 : R0) (t5 : R0) (t6 : Int) (t7 : Int) : Option (Bool) :=
 bif decide (t7 < t6) then
  grd (inb t7 t5) <|
  (Z1q N ((at_ (⟨#[]⟩, (0, 0)) t5 t7).1, ((at_ (⟨#[]⟩, (0, 0)) t5 t7).2))).bind fun r =>
  bif (!r) then some false
  else
  bif decide (t7 > 0) then
   grd (inb (w64 (t7 - 1)) relations2) <|
   bif (!slt ((at_ (⟨#[]⟩, (0, 0)) relations2 (w64 (t7 - 1))).1) ((at_ (⟨#[]⟩, (0, 0)) t5 t7).1)) then some false
   else
   rec_ relations2 t5 t6 (w64 (t7 + 1))
  else
  rec_ relations2 t5 t6 (w64 (t7 + 1))
 else
 some (decide ((relations2.length : Int) <= 4))
def Z1e (N : Nat) : Nat -> R0 -> R0 -> Int -> Int -> Option (Bool)
 | 0, _, _, _, _ => none
 | k_ + 1, relations2, t5, t6, t7 => Z2k N (Z1e N k_) relations2 t5 t6 t7
def Z4m (N : Nat) (Z82 : R0 -> R0 -> Int -> Int -> Option (Bool)) (relations : R0) : Option (Bool) :=
 Z82 relations relations (relations.length : Int) 0
def Z1c (relations : R0) : Option (Bool) := Z4m N (Z1e N N) relations
def Z33 (v : Int) : Option (Bool) :=
 (Z9 N v 0 9).bind fun r =>
 some (!r)
def Z0r (rec_ : I0 -> Int -> Int -> Option (Int)) (s2 : I0) (t7 : Int) (t8 : Int) : Option (Int) :=
 bif decide (t8 < t7) then
  grd (inb t8 s2) <|
  (Z33 N (at_ 0 s2 t8)).bind fun r =>
  bif r then some t8
  else
  rec_ s2 t7 (w64 (t8 + 1))
 else
 some (-1)
def Z0a (N : Nat) : Nat -> I0 -> Int -> Int -> Option (Int)
 | 0, _, _, _ => none
 | k_ + 1, s2, t7, t8 => Z0r N (Z0a N k_) s2 t7 t8
def Z1r (N : Nat) (Z5h : I0 -> Int -> Int -> Option (Int)) (s : I0) : Option (Int) :=
 Z5h s (s.length : Int) 0
def Z0g (s : I0) : Option (Int) := Z1r N (Z0a N N) s
def Z0b (s : I0) : Option (Bool) :=
 (Z0g N s).bind fun r =>
 some (decide (r >= 0))
def Z3k (list : I0) : Option (Bool) :=
 (Z0b N list).bind fun r =>
 some (!r)
def Z55 (relations : R0) (fact : Int × List Int) : Option (Bool) :=
 (Z9 N fact.1 0 (w64 ((relations.length : Int) - 1))).bind fun r =>
 bif r then
  grd (inb fact.1 relations) <|
  bif ((fact.2.length : Int) == (((at_ (⟨#[]⟩, (0, 0)) relations fact.1).2).1)) then
   (Z3k N fact.2).bind fun r2 =>
   some r2
  else
  some false
 else
 some false
def Z5i (N : Nat) (a : Int) (b : Int) : Option (Int) :=
 bif decide (a < b) then some (-1)
 else
 bif decide (a > b) then some 1
 else
 some 0
def Z42 (N : Nat) (x : Int) : Option (Bool) :=
 some (x != x)
def Z32 (x : Int) (y : Int) : Option (Int) :=
 (Z42 N x).bind fun r =>
 (Z42 N y).bind fun r2 =>
 bif r then
  bif r2 then some 0
  else
  some (-1)
 else
 bif r2 then some 1
 else
 bif decide (x < y) then some (-1)
 else
 bif decide (x > y) then some 1
 else
 some 0
def Z1f (rec_ : I0 -> I0 -> I0 -> Int -> Int -> Option (Int)) (s12 : I0) (s22 : I0) (t9 : I0) (t10 : Int) (t11 : Int) : Option (Int) :=
 bif decide (t11 < t10) then
  grd (inb t11 t9) <|
  bif decide (t11 >= (s22.length : Int)) then some 1
  else
  grd (inb t11 s22) <|
  (Z32 N (at_ 0 t9 t11) (at_ 0 s22 t11)).bind fun r =>
  bif (r != 0) then some r
  else
  rec_ s12 s22 t9 t10 (w64 (t11 + 1))
 else
 bif decide ((s12.length : Int) < (s22.length : Int)) then some (-1)
 else
 some 0
def Z0w (N : Nat) : Nat -> I0 -> I0 -> I0 -> Int -> Int -> Option (Int)
 | 0, _, _, _, _, _ => none
 | k_ + 1, s12, s22, t9, t10, t11 => Z1f N (Z0w N k_) s12 s22 t9 t10 t11
def Z49 (N : Nat) (Z7v : I0 -> I0 -> I0 -> Int -> Int -> Option (Int)) (s1 : I0) (s2 : I0) : Option (Int) :=
 Z7v s1 s2 s1 (s1.length : Int) 0
def Z17 (s1 : I0) (s2 : I0) : Option (Int) := Z49 N (Z0w N N) s1 s2
def Z2i (a : Int × List Int) (b : Int × List Int) : Option (Int) :=
 bif (a.1 != b.1) then
  (Z5i N a.1 b.1).bind fun r =>
  some r
 else
 (Z17 N a.2 b.2).bind fun r2 =>
 some r2
def Z2z (rec_ : R0 -> A0 -> A0 -> Int -> Int -> Option (Bool)) (db2 : R0) (db3 : A0) (t16 : A0) (t17 : Int) (t18 : Int) : Option (Bool) :=
 bif decide (t18 < t17) then
  grd (inb t18 t16) <|
  (Z55 N db2 (at_ (0, []) t16 t18)).bind fun r2 =>
  bif (!r2) then some false
  else
  bif decide (t18 > 0) then
   grd (inb (w64 (t18 - 1)) db3) <|
   (Z2i N (at_ (0, []) db3 (w64 (t18 - 1))) (at_ (0, []) t16 t18)).bind fun r3 =>
   bif decide (r3 >= 0) then some false
   else
   rec_ db2 db3 t16 t17 (w64 (t18 + 1))
  else
  rec_ db2 db3 t16 t17 (w64 (t18 + 1))
 else
 some true
def Z1p (N : Nat) : Nat -> R0 -> A0 -> A0 -> Int -> Int -> Option (Bool)
 | 0, _, _, _, _, _ => none
 | k_ + 1, db2, db3, t16, t17, t18 => Z2z N (Z1p N k_) db2 db3 t16 t17 t18
def Z56 (Z8f : R0 -> A0 -> A0 -> Int -> Int -> Option (Bool)) (db : D0) : Option (Bool) :=
 (Z1c N db.1).bind fun r =>
 bif (!r) then some false
 else
 bif decide ((db.2.length : Int) > 14) then some false
 else
 Z8f db.1 db.2 db.2 (db.2.length : Int) 0
def Z0d (db : D0) : Option (Bool) := Z56 N (Z1p N N) db
def Z4a (rec_ : I0 -> Int -> I0 -> Int -> Int -> Option (Bool)) (indices2 : I0) (n2 : Int) (t7 : I0) (t8 : Int) (t9 : Int) : Option (Bool) :=
 bif decide (t9 < t8) then
  grd (inb t9 t7) <|
  (Z9 N (at_ 0 t7 t9) 0 (w64 (n2 - 1))).bind fun r =>
  bif (!r) then some false
  else
  bif decide (t9 > 0) then
   grd (inb (w64 (t9 - 1)) indices2) <|
   bif decide ((at_ 0 indices2 (w64 (t9 - 1))) >= (at_ 0 t7 t9)) then some false
   else
   rec_ indices2 n2 t7 t8 (w64 (t9 + 1))
  else
  rec_ indices2 n2 t7 t8 (w64 (t9 + 1))
 else
 some true
def Z2x (N : Nat) : Nat -> I0 -> Int -> I0 -> Int -> Int -> Option (Bool)
 | 0, _, _, _, _, _ => none
 | k_ + 1, indices2, n2, t7, t8, t9 => Z4a N (Z2x N k_) indices2 n2 t7 t8 t9
def Z6o (N : Nat) (Z9c : I0 -> Int -> I0 -> Int -> Int -> Option (Bool)) (indices : I0) (n : Int) : Option (Bool) :=
 Z9c indices n indices (indices.length : Int) 0
def Z1w (indices : I0) (n : Int) : Option (Bool) := Z6o N (Z2x N N) indices n
def Z1d (db : D0) (constraint : C0) : Option (Bool) :=
 (Z0d N db).bind fun r =>
 bif (!r) then some false
 else
 (Z9 N constraint.1 0 (w64 ((db.1.length : Int) - 1))).bind fun r2 =>
 bif (!r2) then some false
 else
 (Z9 N constraint.2.1 0 (w64 ((db.1.length : Int) - 1))).bind fun r3 =>
 bif (!r3) then some false
 else
 grd (inb constraint.1 db.1) <|
 grd (inb constraint.2.1 db.1) <|
 (Z9 N constraint.2.2.1 0 (w64 ((((at_ (⟨#[]⟩, (0, 0)) db.1 constraint.1).2).1) - 1))).bind fun r4 =>
 bif r4 then
  (Z9 N constraint.2.2.2.2.1 0 (w64 ((((at_ (⟨#[]⟩, (0, 0)) db.1 constraint.1).2).1) - 1))).bind fun r5 =>
  bif r5 then
   (Z9 N constraint.2.2.2.1 0 (w64 ((((at_ (⟨#[]⟩, (0, 0)) db.1 constraint.2.1).2).1) - 1))).bind fun r6 =>
   bif r6 then
    (Z9 N constraint.2.2.2.2.2.1 0 (w64 ((((at_ (⟨#[]⟩, (0, 0)) db.1 constraint.2.1).2).1) - 1))).bind fun r7 =>
    bif r7 then
     (Z9 N constraint.2.2.2.2.2.2 1 2).bind fun r8 =>
     some r8
    else
    some false
   else
   some false
  else
  some false
 else
 some false
def Z4u (N : Nat) (c : C0) (a : Int × List Int) (b : Int × List Int) : Option (Bool) :=
 bif (a.1 != c.1) then some false
 else
 bif (b.1 != c.2.1) then some false
 else
 grd (inb c.2.2.1 a.2) <|
 grd (inb c.2.2.2.1 b.2) <|
 bif ((at_ 0 a.2 c.2.2.1) != (at_ 0 b.2 c.2.2.2.1)) then some false
 else
 grd (inb c.2.2.2.2.1 a.2) <|
 grd (inb c.2.2.2.2.2.1 b.2) <|
 bif (c.2.2.2.2.2.2 == 1) then
  bif ((at_ 0 a.2 c.2.2.2.2.1) == (at_ 0 b.2 c.2.2.2.2.2.1)) then some true
  else
  bif (c.2.2.2.2.2.2 == 2) then
   some (decide ((at_ 0 a.2 c.2.2.2.2.1) < (at_ 0 b.2 c.2.2.2.2.2.1)))
  else
  some false
 else
 bif (c.2.2.2.2.2.2 == 2) then
  some (decide ((at_ 0 a.2 c.2.2.2.2.1) < (at_ 0 b.2 c.2.2.2.2.2.1)))
 else
 some false
def Z0x (db : D0) (constraint : C0) (first : Int) (second : Int) : Option (Bool) :=
 (Z1d N db constraint).bind fun r =>
 bif r then
  bif (first != second) then
   (Z9 N first 0 (w64 ((db.2.length : Int) - 1))).bind fun r2 =>
   bif r2 then
    (Z9 N second 0 (w64 ((db.2.length : Int) - 1))).bind fun r3 =>
    bif r3 then
     grd (inb first db.2) <|
     grd (inb second db.2) <|
     (Z4u N constraint (at_ (0, []) db.2 first) (at_ (0, []) db.2 second)).bind fun r4 =>
     some r4
    else
    some false
   else
   some false
  else
  some false
 else
 some false
def Z2p (N : Nat) (rec_ : I0 -> I0 -> Int -> Int -> Option (Bool)) (s12 : I0) (s22 : I0) (t12 : Int) (t13 : Int) : Option (Bool) :=
 bif decide (t13 < t12) then
  grd (inb t13 s12) <|
  grd (inb t13 s22) <|
  bif ((at_ 0 s12 t13) != (at_ 0 s22 t13)) then some false
  else
  rec_ s12 s22 t12 (w64 (t13 + 1))
 else
 some true
def Z1g (N : Nat) : Nat -> I0 -> I0 -> Int -> Int -> Option (Bool)
 | 0, _, _, _, _ => none
 | k_ + 1, s12, s22, t12, t13 => Z2p N (Z1g N k_) s12 s22 t12 t13
def Z4p (N : Nat) (Z86 : I0 -> I0 -> Int -> Int -> Option (Bool)) (s1 : I0) (s2 : I0) : Option (Bool) :=
 bif ((s1.length : Int) != (s2.length : Int)) then some false
 else
 Z86 s1 s2 (s1.length : Int) 0
def Z1h (s1 : I0) (s2 : I0) : Option (Bool) := Z4p N (Z1g N N) s1 s2
def Z4n (relations : R0) (a : Int × List Int) (b : Int × List Int) : Option (Bool) :=
 bif (a.1 != b.1) then some false
 else
 grd (inb a.1 relations) <|
 grd (subOk 0 (((at_ (⟨#[]⟩, (0, 0)) relations a.1).2).2) a.2.length) <|
 grd (subOk 0 (((at_ (⟨#[]⟩, (0, 0)) relations a.1).2).2) b.2.length) <|
 (Z1h N (a.2.take (((at_ (⟨#[]⟩, (0, 0)) relations a.1).2).2).toNat) (b.2.take (((at_ (⟨#[]⟩, (0, 0)) relations a.1).2).2).toNat)).bind fun r =>
 some r
def Z2q (rec_ : Int -> Int -> R0 -> A0 -> (List C0) -> Int -> Int -> Option (Bool)) (a2 : Int) (b2 : Int) (t3 : R0) (t32 : A0) (t9 : List C0) (t10 : Int) (t11 : Int) : Option (Bool) :=
 bif decide (t11 < t10) then
  grd (inb t11 t9) <|
  (Z0x N (t3, t32) ((at_ (0, (0, (0, (0, (0, (0, 0)))))) t9 t11).1, ((at_ (0, (0, (0, (0, (0, (0, 0)))))) t9 t11).2).1, (((at_ (0, (0, (0, (0, (0, (0, 0)))))) t9 t11).2).2).1, ((((at_ (0, (0, (0, (0, (0, (0, 0)))))) t9 t11).2).2).2).1, (((((at_ (0, (0, (0, (0, (0, (0, 0)))))) t9 t11).2).2).2).2).1, ((((((at_ (0, (0, (0, (0, (0, (0, 0)))))) t9 t11).2).2).2).2).2)) a2 b2).bind fun r =>
  bif r then some true
  else
  (Z0x N (t3, t32) ((at_ (0, (0, (0, (0, (0, (0, 0)))))) t9 t11).1, ((at_ (0, (0, (0, (0, (0, (0, 0)))))) t9 t11).2).1, (((at_ (0, (0, (0, (0, (0, (0, 0)))))) t9 t11).2).2).1, ((((at_ (0, (0, (0, (0, (0, (0, 0)))))) t9 t11).2).2).2).1, (((((at_ (0, (0, (0, (0, (0, (0, 0)))))) t9 t11).2).2).2).2).1, ((((((at_ (0, (0, (0, (0, (0, (0, 0)))))) t9 t11).2).2).2).2).2)) b2 a2).bind fun r2 =>
  bif r2 then some true
  else
  rec_ a2 b2 t3 t32 t9 t10 (w64 (t11 + 1))
 else
 grd (inb a2 t32) <|
 grd (inb b2 t32) <|
 (Z4n N t3 (at_ (0, []) t32 a2) (at_ (0, []) t32 b2)).bind fun r3 =>
 some r3
def Z1i (N : Nat) : Nat -> Int -> Int -> R0 -> A0 -> (List C0) -> Int -> Int -> Option (Bool)
 | 0, _, _, _, _, _, _, _ => none
 | k_ + 1, a2, b2, t3, t32, t9, t10, t11 => Z2q N (Z1i N k_) a2 b2 t3 t32 t9 t10 t11
def Z4q (N : Nat) (Z87 : Int -> Int -> R0 -> A0 -> (List C0) -> Int -> Int -> Option (Bool)) (a : Int) (b : Int) (c2 : List C0) (c3 : D0) : Option (Bool) :=
 Z87 a b c3.1 c3.2 c2 (c2.length : Int) 0
def Z1j (a : Int) (b : Int) (c2 : List C0) (c3 : D0) : Option (Bool) := Z4q N (Z1i N N) a b c2 c3
def Z1s (Z1v : Int -> (List C0) -> D0 -> E0 -> Int -> Int -> Option E0) (rec_ : Int -> (List C0) -> D0 -> E0 -> Int -> Int -> Int -> Int -> Option E0) (n3 : Int) (holds3 : List C0) (holds4 : D0) (out2 : E0) (a : Int) (b : Int) (t92 : Int) (t102 : Int) : Option E0 :=
 bif decide (b < n3) then
  (Z1j N a b holds3 holds4).bind fun r =>
  bif r then
   grd (appOk out2 [(a, b)] 16) <|
   rec_ n3 holds3 holds4 (out2 ++ [(a, b)]) a (w64 (b + 1)) t92 t102
  else
  rec_ n3 holds3 holds4 out2 a (w64 (b + 1)) t92 t102
 else
 Z1v n3 holds3 holds4 out2 t92 (w64 (t102 + 1))
def Z0l (Z1v : Int -> (List C0) -> D0 -> E0 -> Int -> Int -> Option E0) (N : Nat) : Nat -> Int -> (List C0) -> D0 -> E0 -> Int -> Int -> Int -> Int -> Option E0
 | 0, _, _, _, _, _, _, _, _ => none
 | k_ + 1, n3, holds3, holds4, out2, a, b, t92, t102 => Z1s N Z1v (Z0l Z1v N k_) n3 holds3 holds4 out2 a b t92 t102
def Z1t (N : Nat) (Z74 : Int -> (List C0) -> D0 -> E0 -> Int -> Int -> Int -> Int -> Option E0) (rec_ : Int -> (List C0) -> D0 -> E0 -> Int -> Int -> Option E0) (n2 : Int) (holds : List C0) (holds2 : D0) (out : E0) (t9 : Int) (t10 : Int) : Option E0 :=
 bif decide (t10 < t9) then
  Z74 n2 holds holds2 out t10 (w64 (t10 + 1)) t9 t10
 else
 some out
def Z0m (N : Nat) : Nat -> Int -> (List C0) -> D0 -> E0 -> Int -> Int -> Option E0
 | 0, _, _, _, _, _, _ => none
 | k_ + 1, n2, holds, holds2, out, t9, t10 => Z1t N (Z0l (Z0m N k_) N N) (Z0m N k_) n2 holds holds2 out t9 t10
def Z35 (N : Nat) (Z75 : Int -> (List C0) -> D0 -> E0 -> Int -> Int -> Option E0) (n : Int) (c : List C0) (c2 : D0) : Option E0 :=
 Z75 n c c2 [] n 0
def Z15 (n : Int) (c : List C0) (c2 : D0) : Option E0 := Z35 N (Z0m N N) n c c2
def Z29 (db : D0) (constraints : List C0) : Option E0 :=
 (Z0d N db).bind fun r =>
 bif (!r) then some []
 else
 (Z15 N (db.2.length : Int) constraints db).bind fun r2 =>
 some r2
def Z36 (N : Nat) (rec_ : Int -> E0 -> E0 -> Int -> Int -> Option (Bool)) (n2 : Int) (edges2 : E0) (t10 : E0) (t11 : Int) (t12 : Int) : Option (Bool) :=
 bif decide (t12 < t11) then
  grd (inb t12 t10) <|
  bif decide (((at_ (0, 0) t10 t12).1) < 0) then some false
  else
  bif decide (((at_ (0, 0) t10 t12).1) >= ((at_ (0, 0) t10 t12).2)) then some false
  else
  bif decide (((at_ (0, 0) t10 t12).2) >= n2) then some false
  else
  bif decide (t12 > 0) then
   grd (inb (w64 (t12 - 1)) edges2) <|
   bif decide (((at_ (0, 0) edges2 (w64 (t12 - 1))).1) > ((at_ (0, 0) t10 t12).1)) then some false
   else
   grd (inb (w64 (t12 - 1)) edges2) <|
   bif (((at_ (0, 0) edges2 (w64 (t12 - 1))).1) == ((at_ (0, 0) t10 t12).1)) then
    grd (inb (w64 (t12 - 1)) edges2) <|
    bif decide (((at_ (0, 0) edges2 (w64 (t12 - 1))).2) >= ((at_ (0, 0) t10 t12).2)) then some false
    else
    rec_ n2 edges2 t10 t11 (w64 (t12 + 1))
   else
   rec_ n2 edges2 t10 t11 (w64 (t12 + 1))
  else
  rec_ n2 edges2 t10 t11 (w64 (t12 + 1))
 else
 some true
def Z1z (N : Nat) : Nat -> Int -> E0 -> E0 -> Int -> Int -> Option (Bool)
 | 0, _, _, _, _, _ => none
 | k_ + 1, n2, edges2, t10, t11, t12 => Z36 N (Z1z N k_) n2 edges2 t10 t11 t12
def Z5q (Z8o : Int -> E0 -> E0 -> Int -> Int -> Option (Bool)) (n : Int) (edges : E0) : Option (Bool) :=
 (Z9 N n 0 14).bind fun r =>
 bif (!r) then some false
 else
 Z8o n edges edges (edges.length : Int) 0
def Z18 (n : Int) (edges : E0) : Option (Bool) := Z5q N (Z1z N N) n edges
def Z2r (N : Nat) (rec_ : I0 -> Int -> Int -> Int -> Option (Int)) (s2 : I0) (v2 : Int) (t7 : Int) (t8 : Int) : Option (Int) :=
 bif decide (t8 < t7) then
  grd (inb t8 s2) <|
  bif (v2 == (at_ 0 s2 t8)) then some t8
  else
  rec_ s2 v2 t7 (w64 (t8 + 1))
 else
 some (-1)
def Z1k (N : Nat) : Nat -> I0 -> Int -> Int -> Int -> Option (Int)
 | 0, _, _, _, _ => none
 | k_ + 1, s2, v2, t7, t8 => Z2r N (Z1k N k_) s2 v2 t7 t8
def Z4r (N : Nat) (Z88 : I0 -> Int -> Int -> Int -> Option (Int)) (s : I0) (v : Int) : Option (Int) :=
 Z88 s v (s.length : Int) 0
def Z20 (s : I0) (v : Int) : Option (Int) := Z4r N (Z1k N N) s v
def Z8 (s : I0) (v : Int) : Option (Bool) :=
 (Z20 N s v).bind fun r =>
 some (decide (r >= 0))
def Z21 (e : Int × Int) (c1 : I0) : Option (Bool) :=
 (Z8 N c1 e.1).bind fun r =>
 bif r then
  (Z8 N c1 e.2).bind fun r2 =>
  some r2
 else
 some false
def Z6 (rec_ : E0 -> I0 -> Int -> Int -> Option (Int)) (s2 : E0) (f : I0) (t7 : Int) (t8 : Int) : Option (Int) :=
 bif decide (t8 < t7) then
  grd (inb t8 s2) <|
  (Z21 N (at_ (0, 0) s2 t8) f).bind fun r =>
  bif r then some t8
  else
  rec_ s2 f t7 (w64 (t8 + 1))
 else
 some (-1)
def Z1 (N : Nat) : Nat -> E0 -> I0 -> Int -> Int -> Option (Int)
 | 0, _, _, _, _ => none
 | k_ + 1, s2, f, t7, t8 => Z6 N (Z1 N k_) s2 f t7 t8
def Z0j (N : Nat) (Z2u : E0 -> I0 -> Int -> Int -> Option (Int)) (s : E0) (c : I0) : Option (Int) :=
 Z2u s c (s.length : Int) 0
def Z3 (s : E0) (c : I0) : Option (Int) := Z0j N (Z1 N N) s c
def Z2 (s : E0) (c : I0) : Option (Bool) :=
 (Z3 N s c).bind fun r =>
 some (decide (r >= 0))
def Z0n (edges : E0) (set : I0) : Option (Bool) :=
 (Z2 N edges set).bind fun r =>
 some (!r)
def Z22 (n : Int) (edges : E0) (set : I0) : Option (Bool) :=
 (Z18 N n edges).bind fun r =>
 bif r then
  (Z1w N set n).bind fun r2 =>
  bif r2 then
   (Z0n N edges set).bind fun r3 =>
   some r3
  else
  some false
 else
 some false
def Z1x (rec_ : E0 -> I0 -> Int -> Int -> Option (Bool)) (edges2 : E0) (set2 : I0) (t13 : Int) (t14 : Int) : Option (Bool) :=
 bif decide (t14 < t13) then
  (Z8 N set2 t14).bind fun r2 =>
  bif (!r2) then
   (Z2w N set2).bind fun r3 =>
   grd (appOk r3 [t14] 8) <|
   (Z0n N edges2 (r3 ++ [t14])).bind fun r4 =>
   bif r4 then some false
   else
   rec_ edges2 set2 t13 (w64 (t14 + 1))
  else
  rec_ edges2 set2 t13 (w64 (t14 + 1))
 else
 some true
def Z12 (N : Nat) : Nat -> E0 -> I0 -> Int -> Int -> Option (Bool)
 | 0, _, _, _, _ => none
 | k_ + 1, edges2, set2, t13, t14 => Z1x N (Z12 N k_) edges2 set2 t13 t14
def Z3t (Z7j : E0 -> I0 -> Int -> Int -> Option (Bool)) (n : Int) (edges : E0) (set : I0) : Option (Bool) :=
 (Z22 N n edges set).bind fun r =>
 bif (!r) then some false
 else
 Z7j edges set n 0
def Z10 (n : Int) (edges : E0) (set : I0) : Option (Bool) := Z3t N (Z12 N N) n edges set
def Z1u (Rf : Int -> I0 -> Int -> E0 -> L0 -> Int -> E0 -> Option L0) (v : Int) (set : I0) (c2 : Int) (c3 : E0) (c4 : L0) (sc2 : Int) (sc3 : E0) : Option L0 :=
 bif (v == c2) then
  (Z10 N c2 c3 set).bind fun r =>
  bif r then
   grd (appOk [] set 8) <|
   grd (appOk c4 [set] 24) <|
   some (c4 ++ [set])
  else
  some c4
 else
 (Z2w N set).bind fun r2 =>
 grd (appOk r2 [v] 8) <|
 (Z0n N c3 (r2 ++ [v])).bind fun r3 =>
 bif r3 then
  (Rf (w64 (v + 1)) (r2 ++ [v]) sc2 sc3 c4 sc2 sc3).bind fun m =>
  (Rf (w64 (v + 1)) set sc2 sc3 m sc2 sc3).bind fun m2 =>
  some m2
 else
 (Rf (w64 (v + 1)) set sc2 sc3 c4 sc2 sc3).bind fun m3 =>
 some m3
def Z0h (N : Nat) : Nat -> Int -> I0 -> Int -> E0 -> L0 -> Int -> E0 -> Option L0
 | 0, _, _, _, _, _, _, _ => none
 | k_ + 1, v, set, c2, c3, c4, sc2, sc3 => Z1u N (Z0h N k_) v set c2 c3 c4 sc2 sc3
def Z0t (v : Int) (set : I0) (c2 : Int) (c3 : E0) (c4 : L0) (sc2 : Int) (sc3 : E0) : Option L0 := Z0h N N v set c2 c3 c4 sc2 sc3
def Z0o (n : Int) (edges : E0) : Option L0 :=
 (Z18 N n edges).bind fun r =>
 bif (!r) then some []
 else
 (Z0t N 0 [] n edges [] n edges).bind fun m =>
 some m
def Z2a (db : D0) (constraints : List C0) : Option L0 :=
 (Z0d N db).bind fun r =>
 bif (!r) then some []
 else
 (Z29 N db constraints).bind fun r2 =>
 (Z0o N (db.2.length : Int) r2).bind fun r3 =>
 some r3
def Z58 (rec_ : I0 -> I0 -> I0 -> Int -> Int -> Option I0) (b2 : I0) (out : I0) (t9 : I0) (t10 : Int) (t11 : Int) : Option I0 :=
 bif decide (t11 < t10) then
  grd (inb t11 t9) <|
  (Z8 N b2 (at_ 0 t9 t11)).bind fun r =>
  bif (!r) then
   grd (appOk out [(at_ 0 t9 t11)] 8) <|
   rec_ b2 (out ++ [(at_ 0 t9 t11)]) t9 t10 (w64 (t11 + 1))
  else
  rec_ b2 out t9 t10 (w64 (t11 + 1))
 else
 some out
def Z3y (N : Nat) : Nat -> I0 -> I0 -> I0 -> Int -> Int -> Option I0
 | 0, _, _, _, _, _ => none
 | k_ + 1, b2, out, t9, t10, t11 => Z58 N (Z3y N k_) b2 out t9 t10 t11
def Z7t (N : Nat) (Z9q : I0 -> I0 -> I0 -> Int -> Int -> Option I0) (a : I0) (b : I0) : Option I0 :=
 Z9q b [] a (a.length : Int) 0
def Z3u (a : I0) (b : I0) : Option I0 := Z7t N (Z3y N N) a b
def Z37 (rec_ : I0 -> Int -> I0 -> Int -> L0 -> Int -> Int -> Option (List Int × Bool)) (indices3 : I0) (outi : Int) (out2 : I0) (most2 : Int) (t262 : L0) (t272 : Int) (t282 : Int) : Option (List Int × Bool) :=
 bif decide (t282 < t272) then
  grd (inb t282 t262) <|
  (Z3u N (at_ [] t262 t282) indices3).bind fun r5 =>
  bif decide ((w64 (((at_ [] t262 t282).length : Int) - (r5.length : Int))) > most2) then
   rec_ indices3 t282 (at_ [] t262 t282) (w64 (((at_ [] t262 t282).length : Int) - (r5.length : Int))) t262 t272 (w64 (t282 + 1))
  else
  rec_ indices3 outi out2 most2 t262 t272 (w64 (t282 + 1))
 else
 some (out2, decide (most2 >= 0))
def Z23 (N : Nat) : Nat -> I0 -> Int -> I0 -> Int -> L0 -> Int -> Int -> Option (List Int × Bool)
 | 0, _, _, _, _, _, _, _ => none
 | k_ + 1, indices3, outi, out2, most2, t262, t272, t282 => Z37 N (Z23 N k_) indices3 outi out2 most2 t262 t272 t282
def Z38 (Z8p : I0 -> Int -> I0 -> Int -> L0 -> Int -> Int -> Option (List Int × Bool)) (rec_ : I0 -> I0 -> Int -> L0 -> Int -> Int -> Option (List Int × Bool)) (indices2 : I0) (out : I0) (most : Int) (t26 : L0) (t27 : Int) (t28 : Int) : Option (List Int × Bool) :=
 bif decide (t28 < t27) then
  grd (inb t28 t26) <|
  (Z3u N (at_ [] t26 t28) indices2).bind fun r4 =>
  bif decide ((w64 (((at_ [] t26 t28).length : Int) - (r4.length : Int))) > most) then
   Z8p indices2 t28 (at_ [] t26 t28) (w64 (((at_ [] t26 t28).length : Int) - (r4.length : Int))) t26 t27 (w64 (t28 + 1))
  else
  rec_ indices2 out most t26 t27 (w64 (t28 + 1))
 else
 some (out, decide (most >= 0))
def Z24 (N : Nat) : Nat -> I0 -> I0 -> Int -> L0 -> Int -> Int -> Option (List Int × Bool)
 | 0, _, _, _, _, _, _ => none
 | k_ + 1, indices2, out, most, t26, t27, t28 => Z38 N (Z23 N k_) (Z24 N k_) indices2 out most t26 t27 t28
def Z5r (Z8q : I0 -> I0 -> Int -> L0 -> Int -> Int -> Option (List Int × Bool)) (db : D0) (constraints : List C0) (indices : I0) : Option (List Int × Bool) :=
 (Z0d N db).bind fun r =>
 bif (!r) then some ([], false)
 else
 (Z1w N indices (db.2.length : Int)).bind fun r2 =>
 bif (!r2) then some ([], false)
 else
 (Z2a N db constraints).bind fun r3 =>
 Z8q indices [] (-1) r3 (r3.length : Int) 0
def Z2b (db : D0) (constraints : List C0) (indices : I0) : Option (List Int × Bool) := Z5r N (Z24 N N) db constraints indices
def Z50 (l : R0) (f : Int × List Int) : Option I0 :=
 (Z0k N l f).bind fun r =>
 bif (!r) then some []
 else
 grd (inb f.1 l) <|
 grd (subOk 0 (((at_ (⟨#[]⟩, (0, 0)) l f.1).2).2) f.2.length) <|
 grd (appOk [] (f.2.take (((at_ (⟨#[]⟩, (0, 0)) l f.1).2).2).toNat) 8) <|
 some (f.2.take (((at_ (⟨#[]⟩, (0, 0)) l f.1).2).2).toNat)
def Z2v (l : R0) (a : Int × List Int) (b : Int × List Int) : Option (Bool) :=
 (Z0k N l a).bind fun r =>
 bif r then
  (Z0k N l b).bind fun r2 =>
  bif r2 then
   bif (a.1 == b.1) then
    (Z50 N l a).bind fun r3 =>
    (Z50 N l b).bind fun r4 =>
    (Z3n N r3 r4).bind fun r5 =>
    some (r5 == 0)
   else
   some false
  else
  some false
 else
 some false
def Z11 (d : D0) (x : C0) : Option (Bool) :=
 (Z5 N d).bind fun r =>
 bif (!r) then some false
 else
 (Z4 N x.1 0 (w64 ((d.1.length : Int) - 1))).bind fun r2 =>
 bif (!r2) then some false
 else
 (Z4 N x.2.1 0 (w64 ((d.1.length : Int) - 1))).bind fun r3 =>
 bif (!r3) then some false
 else
 grd (inb x.1 d.1) <|
 grd (inb x.2.1 d.1) <|
 (Z4 N x.2.2.1 0 (w64 ((((at_ (⟨#[]⟩, (0, 0)) d.1 x.1).2).1) - 1))).bind fun r4 =>
 bif r4 then
  (Z4 N x.2.2.2.2.1 0 (w64 ((((at_ (⟨#[]⟩, (0, 0)) d.1 x.1).2).1) - 1))).bind fun r5 =>
  bif r5 then
   (Z4 N x.2.2.2.1 0 (w64 ((((at_ (⟨#[]⟩, (0, 0)) d.1 x.2.1).2).1) - 1))).bind fun r6 =>
   bif r6 then
    (Z4 N x.2.2.2.2.2.1 0 (w64 ((((at_ (⟨#[]⟩, (0, 0)) d.1 x.2.1).2).1) - 1))).bind fun r7 =>
    bif r7 then
     (Z4 N x.2.2.2.2.2.2 1 2).bind fun r8 =>
     some r8
    else
    some false
   else
   some false
  else
  some false
 else
 some false
def Z0y (d : D0) (x : C0) (i : Int) (k : Int) : Option (Bool) :=
 (Z11 N d x).bind fun r =>
 bif (!r) then some false
 else
 (Z4 N i 0 (w64 ((d.2.length : Int) - 1))).bind fun r2 =>
 bif (!r2) then some false
 else
 (Z4 N k 0 (w64 ((d.2.length : Int) - 1))).bind fun r3 =>
 bif (!r3) then some false
 else
 bif (i == k) then some false
 else
 grd (inb i d.2) <|
 grd (inb k d.2) <|
 bif (((at_ (0, []) d.2 i).1) != x.1) then some false
 else
 bif (((at_ (0, []) d.2 k).1) != x.2.1) then some false
 else
 grd (inb x.2.2.1 ((at_ (0, []) d.2 i).2)) <|
 grd (inb x.2.2.2.1 ((at_ (0, []) d.2 k).2)) <|
 bif ((at_ 0 ((at_ (0, []) d.2 i).2) x.2.2.1) != (at_ 0 ((at_ (0, []) d.2 k).2) x.2.2.2.1)) then some false
 else
 bif (x.2.2.2.2.2.2 == 1) then
  grd (inb x.2.2.2.2.1 ((at_ (0, []) d.2 i).2)) <|
  grd (inb x.2.2.2.2.2.1 ((at_ (0, []) d.2 k).2)) <|
  some ((at_ 0 ((at_ (0, []) d.2 i).2) x.2.2.2.2.1) == (at_ 0 ((at_ (0, []) d.2 k).2) x.2.2.2.2.2.1))
 else
 grd (inb x.2.2.2.2.1 ((at_ (0, []) d.2 i).2)) <|
 grd (inb x.2.2.2.2.2.1 ((at_ (0, []) d.2 k).2)) <|
 some (decide ((at_ 0 ((at_ (0, []) d.2 i).2) x.2.2.2.2.1) < (at_ 0 ((at_ (0, []) d.2 k).2) x.2.2.2.2.2.1)))
def Z39 (Z2m : (List C0) -> R0 -> A0 -> E0 -> Int -> Int -> Option E0) (rec_ : (List C0) -> R0 -> A0 -> E0 -> Int -> Int -> Bool -> Int -> Option E0) (l4 : List C0) (d6 : R0) (d7 : A0) (out3 : E0) (i3 : Int) (k2 : Int) (is_ : Bool) (n : Int) : Option E0 :=
 bif decide (n < (l4.length : Int)) then
  bif is_ then rec_ l4 d6 d7 out3 i3 k2 true (w64 (n + 1))
  else
  grd (inb n l4) <|
  (Z0y N (d6, d7) ((at_ (0, (0, (0, (0, (0, (0, 0)))))) l4 n).1, ((at_ (0, (0, (0, (0, (0, (0, 0)))))) l4 n).2).1, (((at_ (0, (0, (0, (0, (0, (0, 0)))))) l4 n).2).2).1, ((((at_ (0, (0, (0, (0, (0, (0, 0)))))) l4 n).2).2).2).1, (((((at_ (0, (0, (0, (0, (0, (0, 0)))))) l4 n).2).2).2).2).1, ((((((at_ (0, (0, (0, (0, (0, (0, 0)))))) l4 n).2).2).2).2).2)) i3 k2).bind fun r3 =>
  bif r3 then rec_ l4 d6 d7 out3 i3 k2 true (w64 (n + 1))
  else
  grd (inb n l4) <|
  (Z0y N (d6, d7) ((at_ (0, (0, (0, (0, (0, (0, 0)))))) l4 n).1, ((at_ (0, (0, (0, (0, (0, (0, 0)))))) l4 n).2).1, (((at_ (0, (0, (0, (0, (0, (0, 0)))))) l4 n).2).2).1, ((((at_ (0, (0, (0, (0, (0, (0, 0)))))) l4 n).2).2).2).1, (((((at_ (0, (0, (0, (0, (0, (0, 0)))))) l4 n).2).2).2).2).1, ((((((at_ (0, (0, (0, (0, (0, (0, 0)))))) l4 n).2).2).2).2).2)) k2 i3).bind fun r4 =>
  rec_ l4 d6 d7 out3 i3 k2 r4 (w64 (n + 1))
 else
 bif is_ then
  grd (appOk out3 [(i3, k2)] 16) <|
  Z2m l4 d6 d7 (out3 ++ [(i3, k2)]) i3 (w64 (k2 + 1))
 else
 Z2m l4 d6 d7 out3 i3 (w64 (k2 + 1))
def Z25 (Z2m : (List C0) -> R0 -> A0 -> E0 -> Int -> Int -> Option E0) (N : Nat) : Nat -> (List C0) -> R0 -> A0 -> E0 -> Int -> Int -> Bool -> Int -> Option E0
 | 0, _, _, _, _, _, _, _, _ => none
 | k_ + 1, l4, d6, d7, out3, i3, k2, is_, n => Z39 N Z2m (Z25 Z2m N k_) l4 d6 d7 out3 i3 k2 is_ n
def Z3a (Z2n : (List C0) -> R0 -> A0 -> E0 -> Int -> Option E0) (Z8r : (List C0) -> R0 -> A0 -> E0 -> Int -> Int -> Bool -> Int -> Option E0) (rec_ : (List C0) -> R0 -> A0 -> E0 -> Int -> Int -> Option E0) (l3 : List C0) (d4 : R0) (d5 : A0) (out2 : E0) (i2 : Int) (k : Int) : Option E0 :=
 bif decide (k < (d5.length : Int)) then
  grd (inb i2 d5) <|
  grd (inb k d5) <|
  (Z2v N d4 (at_ (0, []) d5 i2) (at_ (0, []) d5 k)).bind fun r2 =>
  Z8r l3 d4 d5 out2 i2 k r2 0
 else
 Z2n l3 d4 d5 out2 (w64 (i2 + 1))
def Z0u (Z2n : (List C0) -> R0 -> A0 -> E0 -> Int -> Option E0) (N : Nat) : Nat -> (List C0) -> R0 -> A0 -> E0 -> Int -> Int -> Option E0
 | 0, _, _, _, _, _, _ => none
 | k_ + 1, l3, d4, d5, out2, i2, k => Z3a N Z2n (Z25 (Z0u Z2n N k_) N N) (Z0u Z2n N k_) l3 d4 d5 out2 i2 k
def Z2g (Z8s : (List C0) -> R0 -> A0 -> E0 -> Int -> Int -> Option E0) (rec_ : (List C0) -> R0 -> A0 -> E0 -> Int -> Option E0) (l2 : List C0) (d2 : R0) (d3 : A0) (out : E0) (i : Int) : Option E0 :=
 bif decide (i < (d3.length : Int)) then
  (Z5 N (d2, d3)).bind fun r =>
  bif r then Z8s l2 d2 d3 out i (w64 (i + 1))
  else
  some out
 else
 some out
def Z16 (N : Nat) : Nat -> (List C0) -> R0 -> A0 -> E0 -> Int -> Option E0
 | 0, _, _, _, _, _ => none
 | k_ + 1, l2, d2, d3, out, i => Z2g N (Z0u (Z16 N k_) N N) (Z16 N k_) l2 d2 d3 out i
def Z5s (N : Nat) (Z8t : (List C0) -> R0 -> A0 -> E0 -> Int -> Option E0) (d : D0) (l : List C0) : Option E0 :=
 Z8t l d.1 d.2 [] 0
def Z19 (d : D0) (l : List C0) : Option E0 := Z5s N (Z16 N N) d l
def Z3b (rec_ : Int -> E0 -> Int -> Option (Bool)) (n2 : Int) (l2 : E0) (i : Int) : Option (Bool) :=
 bif decide (i < (l2.length : Int)) then
  grd (inb i l2) <|
  grd (inb i l2) <|
  (Z4 N ((at_ (0, 0) l2 i).1) 0 (w64 (((at_ (0, 0) l2 i).2) - 1))).bind fun r =>
  bif (!r) then some false
  else
  grd (inb i l2) <|
  (Z4 N ((at_ (0, 0) l2 i).2) 0 (w64 (n2 - 1))).bind fun r2 =>
  bif (!r2) then some false
  else
  bif decide (i > 0) then
   grd (inb i l2) <|
   grd (inb (w64 (i - 1)) l2) <|
   bif decide (((at_ (0, 0) l2 i).1) < ((at_ (0, 0) l2 (w64 (i - 1))).1)) then some false
   else
   grd (inb i l2) <|
   grd (inb (w64 (i - 1)) l2) <|
   bif (((at_ (0, 0) l2 i).1) == ((at_ (0, 0) l2 (w64 (i - 1))).1)) then
    grd (inb i l2) <|
    grd (inb (w64 (i - 1)) l2) <|
    bif decide (((at_ (0, 0) l2 i).2) <= ((at_ (0, 0) l2 (w64 (i - 1))).2)) then some false
    else
    rec_ n2 l2 (w64 (i + 1))
   else
   rec_ n2 l2 (w64 (i + 1))
  else
  rec_ n2 l2 (w64 (i + 1))
 else
 (Z4 N n2 0 14).bind fun r3 =>
 some r3
def Z26 (N : Nat) : Nat -> Int -> E0 -> Int -> Option (Bool)
 | 0, _, _, _ => none
 | k_ + 1, n2, l2, i => Z3b N (Z26 N k_) n2 l2 i
def Z5t (N : Nat) (Z8u : Int -> E0 -> Int -> Option (Bool)) (n : Int) (l : E0) : Option (Bool) :=
 Z8u n l 0
def Z1a (n : Int) (l : E0) : Option (Bool) := Z5t N (Z26 N N) n l
def Z63 (rec_ : Int -> I0 -> Int -> Option (Bool)) (n2 : Int) (s2 : I0) (i : Int) : Option (Bool) :=
 bif decide (i < (s2.length : Int)) then
  grd (inb i s2) <|
  (Z4 N (at_ 0 s2 i) 0 (w64 (n2 - 1))).bind fun r =>
  bif (!r) then some false
  else
  bif decide (i > 0) then
   grd (inb i s2) <|
   grd (inb (w64 (i - 1)) s2) <|
   bif decide ((at_ 0 s2 i) <= (at_ 0 s2 (w64 (i - 1)))) then some false
   else
   rec_ n2 s2 (w64 (i + 1))
  else
  rec_ n2 s2 (w64 (i + 1))
 else
 some true
def Z4v (N : Nat) : Nat -> Int -> I0 -> Int -> Option (Bool)
 | 0, _, _, _ => none
 | k_ + 1, n2, s2, i => Z63 N (Z4v N k_) n2 s2 i
def Z8g (N : Nat) (Z9z : Int -> I0 -> Int -> Option (Bool)) (n : Int) (s : I0) : Option (Bool) :=
 Z9z n s 0
def Z5u (n : Int) (s : I0) : Option (Bool) := Z8g N (Z4v N N) n s
def Z64 (N : Nat) (rec_ : I0 -> Int -> Int -> Option (Bool)) (l2 : I0) (x2 : Int) (i : Int) : Option (Bool) :=
 bif decide (i < (l2.length : Int)) then
  grd (inb i l2) <|
  bif ((at_ 0 l2 i) == x2) then some true
  else
  rec_ l2 x2 (w64 (i + 1))
 else
 some false
def Z4w (N : Nat) : Nat -> I0 -> Int -> Int -> Option (Bool)
 | 0, _, _, _ => none
 | k_ + 1, l2, x2, i => Z64 N (Z4w N k_) l2 x2 i
def Z8h (N : Nat) (Z0a0 : I0 -> Int -> Int -> Option (Bool)) (l : I0) (x : Int) : Option (Bool) :=
 Z0a0 l x 0
def Z2s (l : I0) (x : Int) : Option (Bool) := Z8h N (Z4w N N) l x
def Z3c (rec_ : E0 -> I0 -> Int -> Option (Bool)) (l2 : E0) (s2 : I0) (i : Int) : Option (Bool) :=
 bif decide (i < (l2.length : Int)) then
  grd (inb i l2) <|
  (Z2s N s2 ((at_ (0, 0) l2 i).1)).bind fun r =>
  bif r then
   grd (inb i l2) <|
   (Z2s N s2 ((at_ (0, 0) l2 i).2)).bind fun r2 =>
   bif r2 then some false
   else
   rec_ l2 s2 (w64 (i + 1))
  else
  rec_ l2 s2 (w64 (i + 1))
 else
 some true
def Z27 (N : Nat) : Nat -> E0 -> I0 -> Int -> Option (Bool)
 | 0, _, _, _ => none
 | k_ + 1, l2, s2, i => Z3c N (Z27 N k_) l2 s2 i
def Z5v (N : Nat) (Z8v : E0 -> I0 -> Int -> Option (Bool)) (l : E0) (s : I0) : Option (Bool) :=
 Z8v l s 0
def Z0p (l : E0) (s : I0) : Option (Bool) := Z5v N (Z27 N N) l s
def Z3o (l : E0) (s : I0) (x : Int) : Option (Bool) :=
 (Z2s N s x).bind fun r =>
 bif (!r) then
  grd (appOk [] s 8) <|
  grd (appOk s [x] 8) <|
  (Z0p N l (s ++ [x])).bind fun r2 =>
  some r2
 else
 some false
def Z1y (rec_ : Int -> E0 -> I0 -> Int -> Option (Bool)) (n2 : Int) (l2 : E0) (s2 : I0) (x : Int) : Option (Bool) :=
 bif decide (x < n2) then
  (Z3o N l2 s2 x).bind fun r4 =>
  bif r4 then some false
  else
  rec_ n2 l2 s2 (w64 (x + 1))
 else
 some true
def Z13 (N : Nat) : Nat -> Int -> E0 -> I0 -> Int -> Option (Bool)
 | 0, _, _, _, _ => none
 | k_ + 1, n2, l2, s2, x => Z1y N (Z13 N k_) n2 l2 s2 x
def Z3v (Z7k : Int -> E0 -> I0 -> Int -> Option (Bool)) (n : Int) (l : E0) (s : I0) : Option (Bool) :=
 (Z1a N n l).bind fun r =>
 bif (!r) then some false
 else
 (Z5u N n s).bind fun r2 =>
 bif (!r2) then some false
 else
 (Z0p N l s).bind fun r3 =>
 bif (!r3) then some false
 else
 Z7k n l s 0
def Z0e (n : Int) (l : E0) (s : I0) : Option (Bool) := Z3v N (Z13 N N) n l s
def Z5w (N : Nat) (Rf : Int -> E0 -> I0 -> Int -> Option L0) (rec_ : Int -> E0 -> I0 -> Int -> L0 -> Bool -> Int -> Option L0) (n2 : Int) (l2 : E0) (s2 : I0) (x2 : Int) (out : L0) (met : Bool) (i : Int) : Option L0 :=
 bif decide (i < (l2.length : Int)) then
  bif met then rec_ n2 l2 s2 x2 out true (w64 (i + 1))
  else
  grd (inb i l2) <|
  bif (((at_ (0, 0) l2 i).1) == x2) then rec_ n2 l2 s2 x2 out true (w64 (i + 1))
  else
  grd (inb i l2) <|
  rec_ n2 l2 s2 x2 out (((at_ (0, 0) l2 i).2) == x2) (w64 (i + 1))
 else
 bif met then
  (Rf n2 l2 s2 (w64 (x2 + 1))).bind fun r4 =>
  grd (appOk out r4 24) <|
  some (out ++ r4)
 else
 some out
def Z3l (N : Nat) (Rf : Int -> E0 -> I0 -> Int -> Option L0) : Nat -> Int -> E0 -> I0 -> Int -> L0 -> Bool -> Int -> Option L0
 | 0, _, _, _, _, _, _, _ => none
 | k_ + 1, n2, l2, s2, x2, out, met, i => Z5w N Rf (Z3l N Rf k_) n2 l2 s2 x2 out met i
def Z6w (Rf : Int -> E0 -> I0 -> Int -> Option L0) (Z8l : Int -> E0 -> I0 -> Int -> L0 -> Bool -> Int -> Option L0) (n : Int) (l : E0) (s : I0) (x : Int) : Option L0 :=
 bif (x == n) then
  (Z0e N n l s).bind fun r =>
  bif r then
   grd (appOk [] s 8) <|
   some [s]
  else
  some []
 else
 (Z3o N l s x).bind fun r2 =>
 bif r2 then
  grd (appOk [] s 8) <|
  grd (appOk s [x] 8) <|
  (Rf n l (s ++ [x]) (w64 (x + 1))).bind fun r3 =>
  Z8l n l s x r3 false 0
 else
 Z8l n l s x [] false 0
def Z2f (N : Nat) : Nat -> Int -> E0 -> I0 -> Int -> Option L0
 | 0, _, _, _, _ => none
 | k_ + 1, n, l, s, x => Z6w N (Z2f N k_) (Z3l N (Z2f N k_) N) n l s x
def Z5z (n : Int) (l : E0) (s : I0) (x : Int) : Option L0 := Z2f N N n l s x
def Z0q (n : Int) (l : E0) : Option L0 :=
 (Z1a N n l).bind fun r =>
 bif (!r) then some []
 else
 (Z5z N n l [] 0).bind fun r2 =>
 some r2
def Z2c (d : D0) (l : List C0) : Option L0 :=
 (Z5 N d).bind fun r =>
 bif (!r) then some []
 else
 (Z19 N d l).bind fun r2 =>
 (Z0q N (d.2.length : Int) r2).bind fun r3 =>
 some r3
def Z65 (rec_ : I0 -> R0 -> A0 -> Int -> Option (Bool)) (l2 : I0) (d2 : R0) (d3 : A0) (i : Int) : Option (Bool) :=
 bif decide (i < (l2.length : Int)) then
  grd (inb i l2) <|
  (Z4 N (at_ 0 l2 i) 0 (w64 ((d3.length : Int) - 1))).bind fun r =>
  bif (!r) then some false
  else
  bif decide (i > 0) then
   grd (inb i l2) <|
   grd (inb (w64 (i - 1)) l2) <|
   bif decide ((at_ 0 l2 i) <= (at_ 0 l2 (w64 (i - 1)))) then some false
   else
   rec_ l2 d2 d3 (w64 (i + 1))
  else
  rec_ l2 d2 d3 (w64 (i + 1))
 else
 some true
def Z4x (N : Nat) : Nat -> I0 -> R0 -> A0 -> Int -> Option (Bool)
 | 0, _, _, _, _ => none
 | k_ + 1, l2, d2, d3, i => Z65 N (Z4x N k_) l2 d2 d3 i
def Z8i (N : Nat) (Z0a1 : I0 -> R0 -> A0 -> Int -> Option (Bool)) (d : D0) (l : I0) : Option (Bool) :=
 Z0a1 l d.1 d.2 0
def Z4b (d : D0) (l : I0) : Option (Bool) := Z8i N (Z4x N N) d l
def Z4s (Z2o : I0 -> R0 -> A0 -> Int -> I0 -> L0 -> Int -> Option (List Int × Bool)) (rec_ : I0 -> R0 -> A0 -> Int -> I0 -> L0 -> Int -> Int -> Int -> Option (List Int × Bool)) (s3 : I0) (d4 : R0) (d5 : A0) (best2 : Int) (out2 : I0) (all2 : L0) (i2 : Int) (n : Int) (k : Int) : Option (List Int × Bool) :=
 bif decide (k < (s3.length : Int)) then
  grd (inb i2 all2) <|
  grd (inb k s3) <|
  (Z2s N (at_ [] all2 i2) (at_ 0 s3 k)).bind fun r3 =>
  bif r3 then rec_ s3 d4 d5 best2 out2 all2 i2 (w64 (n + 1)) (w64 (k + 1))
  else
  rec_ s3 d4 d5 best2 out2 all2 i2 n (w64 (k + 1))
 else
 bif decide (n > best2) then
  grd (inb i2 all2) <|
  grd (appOk [] (at_ [] all2 i2) 8) <|
  Z2o s3 d4 d5 n (at_ [] all2 i2) all2 (w64 (i2 + 1))
 else
 Z2o s3 d4 d5 best2 out2 all2 (w64 (i2 + 1))
def Z28 (Z2o : I0 -> R0 -> A0 -> Int -> I0 -> L0 -> Int -> Option (List Int × Bool)) (N : Nat) : Nat -> I0 -> R0 -> A0 -> Int -> I0 -> L0 -> Int -> Int -> Int -> Option (List Int × Bool)
 | 0, _, _, _, _, _, _, _, _, _ => none
 | k_ + 1, s3, d4, d5, best2, out2, all2, i2, n, k => Z4s N Z2o (Z28 Z2o N k_) s3 d4 d5 best2 out2 all2 i2 n k
def Z3d (Z8w : I0 -> R0 -> A0 -> Int -> I0 -> L0 -> Int -> Int -> Int -> Option (List Int × Bool)) (rec_ : I0 -> R0 -> A0 -> Int -> I0 -> L0 -> Int -> Option (List Int × Bool)) (s2 : I0) (d2 : R0) (d3 : A0) (best : Int) (out : I0) (all : L0) (i : Int) : Option (List Int × Bool) :=
 bif decide (i < (all.length : Int)) then
  (Z4b N (d2, d3) s2).bind fun r2 =>
  bif r2 then Z8w s2 d2 d3 best out all i 0 0
  else
  some (out, decide (best >= 0))
 else
 some (out, decide (best >= 0))
def Z1l (N : Nat) : Nat -> I0 -> R0 -> A0 -> Int -> I0 -> L0 -> Int -> Option (List Int × Bool)
 | 0, _, _, _, _, _, _, _ => none
 | k_ + 1, s2, d2, d3, best, out, all, i => Z3d N (Z28 (Z1l N k_) N N) (Z1l N k_) s2 d2 d3 best out all i
def Z5x (Z8x : I0 -> R0 -> A0 -> Int -> I0 -> L0 -> Int -> Option (List Int × Bool)) (d : D0) (l : List C0) (s : I0) : Option (List Int × Bool) :=
 (Z2c N d l).bind fun r =>
 Z8x s d.1 d.2 (-1) [] r 0
def Z2d (d : D0) (l : List C0) (s : I0) : Option (List Int × Bool) := Z5x N (Z1l N N) d l s
def Z51 (N : Nat) (rec_ : I0 -> I0 -> Int -> Option (Bool)) (a2 : I0) (b2 : I0) (i : Int) : Option (Bool) :=
 bif decide (i < (a2.length : Int)) then
  grd (inb i a2) <|
  grd (inb i b2) <|
  bif ((at_ 0 a2 i) != (at_ 0 b2 i)) then some false
  else
  rec_ a2 b2 (w64 (i + 1))
 else
 some true
def Z3m (N : Nat) : Nat -> I0 -> I0 -> Int -> Option (Bool)
 | 0, _, _, _ => none
 | k_ + 1, a2, b2, i => Z51 N (Z3m N k_) a2 b2 i
def Z7i (N : Nat) (Z9n : I0 -> I0 -> Int -> Option (Bool)) (a : I0) (b : I0) : Option (Bool) :=
 bif ((a.length : Int) != (b.length : Int)) then some false
 else
 Z9n a b 0
def Z43 (a : I0) (b : I0) : Option (Bool) := Z7i N (Z3m N N) a b
def Z83 (N : Nat) (rec_ : I0 -> Int -> Int -> Option (Bool)) (l2 : I0) (x2 : Int) (i : Int) : Option (Bool) :=
 bif decide (i < (l2.length : Int)) then
  grd (inb i l2) <|
  bif ((at_ 0 l2 i) == x2) then some true
  else
  rec_ l2 x2 (w64 (i + 1))
 else
 some false
def Z6u (N : Nat) : Nat -> I0 -> Int -> Int -> Option (Bool)
 | 0, _, _, _ => none
 | k_ + 1, l2, x2, i => Z83 N (Z6u N k_) l2 x2 i
def Z97 (N : Nat) (Z0a4 : I0 -> Int -> Int -> Option (Bool)) (l : I0) (x : Int) : Option (Bool) :=
 Z0a4 l x 0
def Z71 (l : I0) (x : Int) : Option (Bool) := Z97 N (Z6u N N) l x
def laws_FnClosestRepair_l0_b (rec_ : R0 -> A0 -> I0 -> I0 -> E0 -> Int -> Option (Bool)) (d : R0) (d2 : A0) (s : I0) (r12 : I0) (e : E0) (i : Int) : Option (Bool) :=
 bif decide (i < (s.length : Int)) then
  grd (inb i s) <|
  (Z71 N r12 (at_ 0 s i)).bind fun r13 =>
  bif (!r13) then some false
  else
  rec_ d d2 s r12 e (w64 (i + 1))
 else
 (Z0e N (d2.length : Int) e r12).bind fun r14 =>
 some r14
def laws_FnClosestRepair_l0 (N : Nat) : Nat -> R0 -> A0 -> I0 -> I0 -> E0 -> Int -> Option (Bool)
 | 0, _, _, _, _, _, _ => none
 | k_ + 1, d, d2, s, r12, e, i => laws_FnClosestRepair_l0_b N (laws_FnClosestRepair_l0 N k_) d d2 s r12 e i
def laws_FnClosestRepair_b (laws_FnClosestRepair_l0S : R0 -> A0 -> I0 -> I0 -> E0 -> Int -> Option (Bool)) (code : I0) : Option (Bool) :=
 (Z7o N code).bind fun r =>
 bif r then some true
 else
 (Z1b N code).bind fun p_r2 =>
 (Z2b N p_r2.1 p_r2.2.1 p_r2.2.2).bind fun p_r5 =>
 (Z2d N p_r2.1 p_r2.2.1 p_r2.2.2).bind fun p_r7 =>
 bif (!(p_r5.2 == p_r7.2)) then some false
 else
 (Z43 N p_r5.1 p_r7.1).bind fun r9 =>
 bif (!r9) then some false
 else
 (Z19 N p_r2.1 p_r2.2.1).bind fun r10 =>
 bif (!p_r5.2) then some true
 else
 (Z0p N r10 p_r2.2.2).bind fun r11 =>
 bif (!r11) then some true
 else
 laws_FnClosestRepair_l0S p_r2.1.1 p_r2.1.2 p_r2.2.2 p_r5.1 r10 0
def laws_FnClosestRepair (code : I0) : Option (Bool) := laws_FnClosestRepair_b N (laws_FnClosestRepair_l0 N N) code
end Go.PL
