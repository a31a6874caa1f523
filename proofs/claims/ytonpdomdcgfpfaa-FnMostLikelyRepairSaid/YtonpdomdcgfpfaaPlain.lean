/- The functions read plainly, and the plain law of them. Conditions: those that stand in each theorem. -/
import GoSem.Core.View
import GoSem.Op.String

/- Words of the plain reading. Conditions: none (definitions alone). -/
namespace Go.PL

def w64 (x : Int) : Int := IntKind.i64.wrap x
def w (k : IntKind) (x : Int) : Int := k.wrap x
def grd {α : Type} (c : Bool) (x : Option α) : Option α := bif c then x else none
def grz {α : Type} (b : Int) (x : Option α) : Option α := bif decide (b = 0) then none else x
def letv {α β : Type} (v : α) (k : α → β) : β := k v
def at_ {α : Type} (d : α) (xs : List α) (i : Int) : α := xs.getD i.toNat d
def inb {α : Type} (i : Int) (xs : List α) : Bool := decide (0 ≤ i) && decide (i < (xs.length : Int))
/-- A row that grew is stored where it stood. -/
def growOk {α : Type} (i' i : Int) (xs : List α) : Bool := decide (i' = i) && (decide (0 ≤ i') && decide (i' < (xs.length : Int)))
def appOk {α : Type} (s x : List α) (b : Nat) : Bool := decide ((s.length + x.length) * b ≤ 140737488355328)
def makeOk (n : Int) (b : Nat) : Bool := decide (n = n) && (decide (0 ≤ n) && decide (n * b ≤ 140737488355328))
def byteAt (s : ByteArray) (n : Int) : Option UInt8 := if 0 ≤ n then s[n.toNat]? else none
def catOk (a b : ByteArray) : Bool := decide (a.size + b.size ≤ 140737488355328)
def seq (a b : ByteArray) : Bool := a.toList == b.toList
def slt (a b : ByteArray) : Bool := Op.bytesLess a.toList b.toList
def subOk (lo hi : Int) (n : Nat) : Bool := decide (0 ≤ lo) && (decide (lo ≤ hi) && decide (hi ≤ (n : Int)))
def sub (s : ByteArray) (lo hi : Int) : ByteArray := s.extract lo.toNat hi.toNat
def ofBytes (x : List Int) : ByteArray := ⟨(x.map fun n => UInt8.ofNat n.toNat).toArray⟩
def bits (op : BinOp) (k : IntKind) (a b : Int) : Int := match op with
 | .and => k.wrap ((BitVec.ofInt k.bits a &&& BitVec.ofInt k.bits b).toNat : Int)
 | .xor => k.wrap ((BitVec.ofInt k.bits a ^^^ BitVec.ofInt k.bits b).toNat : Int)
 | .or => k.wrap ((BitVec.ofInt k.bits a ||| BitVec.ofInt k.bits b).toNat : Int)
 | .shl => k.wrap (a * 2 ^ (min b.toNat k.bits))
 | .shr => a.fdiv (2 ^ (min b.toNat k.bits))
 | _ => 0
def imax (a b : Int) : Int := if b > a then b else a
def imin (a b : Int) : Int := if b < a then b else a
end Go.PL

/- The functions, read plainly. Conditions: none (definitions alone). -/
namespace Go.PL
set_option linter.unusedVariables false

def laws_big (N : Nat) (code : List Int) : Option (Bool) :=
 some (decide ((code.length : Int) > 1048576))
def spec_l1New_l0_b (N : Nat) (rec_ : (List Int) → Int → Int → Option (List Int × Int × Int)) (code2 : List Int) (h : Int) (i : Int) : Option (List Int × Int × Int) :=
 bif decide (i < (code2.length : Int)) then
  bif decide (i < 4000) then
   grd (inb i code2) <|
   rec_ code2 (bits .and .i64 (w64 ((w64 ((w64 (h * 131)) + (w64 (at_ 0 code2 i)))) + 7)) 1073741823) (w64 (i + 1))
  else
  some (code2, 0, h)
 else
 some (code2, 0, h)
def spec_l1New_l0 (N : Nat) : Nat → (List Int) → Int → Int → Option (List Int × Int × Int)
 | 0, _, _, _ => none
 | k_ + 1, code2, h, i => spec_l1New_l0_b N (spec_l1New_l0 N k_) code2 h i
def spec_l1New_b (N : Nat) (spec_l1New_l0S : (List Int) → Int → Int → Option (List Int × Int × Int)) (code : List Int) : Option (List Int × Int × Int) :=
 spec_l1New_l0S code (w64 (10101 + (code.length : Int))) 0
def spec_l1New (N : Nat) (code : List Int) : Option (List Int × Int × Int) := spec_l1New_b N (spec_l1New_l0 N N) code
def spec_l1Byte (N : Nat) (c : List Int × Int × Int) : Option ((List Int × Int × Int) × Int) :=
 grd (decide (0 ≤ 33)) <|
 grd (decide (0 ≤ 45)) <|
 bif decide (c.2.1 < (c.1.length : Int)) then
  grd (inb c.2.1 c.1) <|
  some ((c.1, (w64 (c.2.1 + 1)), (w64 ((w64 (c.2.2 * 6364136223846793005)) + 1442695040888963407))), (bits .and .i64 (w64 ((bits .and .i64 (bits .xor .i64 (bits .shr .i64 (w64 ((w64 (c.2.2 * 6364136223846793005)) + 1442695040888963407)) 33) (bits .shr .i64 (w64 ((w64 (c.2.2 * 6364136223846793005)) + 1442695040888963407)) 45)) 255) + (w64 (at_ 0 c.1 c.2.1)))) 255))
 else
 some ((c.1, c.2.1, (w64 ((w64 (c.2.2 * 6364136223846793005)) + 1442695040888963407))), (bits .and .i64 (bits .xor .i64 (bits .shr .i64 (w64 ((w64 (c.2.2 * 6364136223846793005)) + 1442695040888963407)) 33) (bits .shr .i64 (w64 ((w64 (c.2.2 * 6364136223846793005)) + 1442695040888963407)) 45)) 255))
def spec_l1Below (N : Nat) (c : List Int × Int × Int) (n : Int) : Option ((List Int × Int × Int) × Int) :=
 bif decide (n ≤ 0) then some (c, 0)
 else
 bif decide (n ≤ 256) then
  (spec_l1Byte N c).bind fun p_m =>
  grz n <|
  some ((c.1, p_m.1.2), (p_m.2.tmod n))
 else
 (spec_l1Byte N c).bind fun p_m2 =>
 (spec_l1Byte N (c.1, p_m2.1.2)).bind fun p_m3 =>
 (spec_l1Byte N (c.1, p_m3.1.2)).bind fun p_m4 =>
 (spec_l1Byte N (c.1, p_m4.1.2)).bind fun p_m5 =>
 grz n <|
 some ((c.1, p_m5.1.2), ((w64 ((w64 ((w64 ((w64 (p_m2.2 * 16777216)) + (w64 (p_m3.2 * 65536)))) + (w64 (p_m4.2 * 256)))) + p_m5.2)).tmod n))
def spec_l1PickInt (N : Nat) (c : List Int × Int × Int) (list : List Int) : Option ((List Int × Int × Int) × Int) :=
 (spec_l1Below N c (list.length : Int)).bind fun p_m =>
 grd (inb p_m.2 list) <|
 some ((c.1, p_m.1.2), (at_ 0 list p_m.2))
def spec_l2Sigs (N : Nat) (c : List Int × Int × Int) : Option ((List Int × Int × Int) × List (ByteArray × Int × Int)) :=
 (spec_l1PickInt N c [1, 1, 2, 0]).bind fun p_m =>
 (spec_l1Below N (c.1, p_m.1.2) 2).bind fun p_m2 =>
 some ((c.1, p_m2.1.2), [(⟨#[114]⟩, 2, 1), (⟨#[115]⟩, 2, 1), (⟨#[116]⟩, 2, p_m.2), (⟨#[117]⟩, 3, (w64 (1 + p_m2.2)))])
def spec_l3Fact_l0_b (N : Nat) (rec_ : (List Int) → Int → Int → (List (ByteArray × Int × Int)) → Int → Int → (List Int) → Int → (List Int) → Option ((List Int × Int × Int) × Int × List Int)) (c2 : List Int) (c3 : Int) (c4 : Int) (l2 : List (ByteArray × Int × Int)) (val2 : Int) (t6 : Int) (t62 : List Int) (f : Int) (f2 : List Int) : Option ((List Int × Int × Int) × Int × List Int) :=
 grd (inb f l2) <|
 bif decide ((f2.length : Int) < (((at_ (⟨#[]⟩, (0, 0)) l2 f).2).1)) then
  (spec_l1Below N (c2, c3, c4) val2).bind fun p_m2 =>
  grd (appOk f2 [p_m2.2] 8) <|
  rec_ c2 p_m2.1.2.1 p_m2.1.2.2 l2 val2 t6 t62 f (f2 ++ [p_m2.2])
 else
 some ((c2, c3, c4), (f, f2))
def spec_l3Fact_l0 (N : Nat) : Nat → (List Int) → Int → Int → (List (ByteArray × Int × Int)) → Int → Int → (List Int) → Int → (List Int) → Option ((List Int × Int × Int) × Int × List Int)
 | 0, _, _, _, _, _, _, _, _, _ => none
 | k_ + 1, c2, c3, c4, l2, val2, t6, t62, f, f2 => spec_l3Fact_l0_b N (spec_l3Fact_l0 N k_) c2 c3 c4 l2 val2 t6 t62 f f2
def spec_l3Fact_b (N : Nat) (spec_l3Fact_l0S : (List Int) → Int → Int → (List (ByteArray × Int × Int)) → Int → Int → (List Int) → Int → (List Int) → Option ((List Int × Int × Int) × Int × List Int)) (c : List Int × Int × Int) (l : List (ByteArray × Int × Int)) (val : Int) : Option ((List Int × Int × Int) × Int × List Int) :=
 (spec_l1Below N c (l.length : Int)).bind fun p_m =>
 spec_l3Fact_l0S c.1 p_m.1.2.1 p_m.1.2.2 l val 0 [] p_m.2 []
def spec_l3Fact (N : Nat) (c : List Int × Int × Int) (l : List (ByteArray × Int × Int)) (val : Int) : Option ((List Int × Int × Int) × Int × List Int) := spec_l3Fact_b N (spec_l3Fact_l0 N N) c l val
def spec_l4Copy_l0_b (N : Nat) (rec_ : (List (ByteArray × Int × Int)) → (List (Int × List Int)) → (List (ByteArray × Int × Int)) → (List (Int × List Int)) → (List (ByteArray × Int × Int)) → (List (Int × List Int)) → Int → Option (List (ByteArray × Int × Int) × List (Int × List Int))) (d2 : List (ByteArray × Int × Int)) (d3 : List (Int × List Int)) (t2 : List (ByteArray × Int × Int)) (t22 : List (Int × List Int)) (x : List (ByteArray × Int × Int)) (x2 : List (Int × List Int)) (i : Int) : Option (List (ByteArray × Int × Int) × List (Int × List Int)) :=
 bif decide (i < (d3.length : Int)) then
  grd (inb i d3) <|
  grd (inb i d3) <|
  grd (appOk [] ((at_ (0, []) d3 i).2) 8) <|
  grd (appOk x2 [(at_ (0, []) d3 i)] 32) <|
  rec_ d2 d3 t2 t22 x (x2 ++ [(at_ (0, []) d3 i)]) (w64 (i + 1))
 else
 some (x, x2)
def spec_l4Copy_l0 (N : Nat) : Nat → (List (ByteArray × Int × Int)) → (List (Int × List Int)) → (List (ByteArray × Int × Int)) → (List (Int × List Int)) → (List (ByteArray × Int × Int)) → (List (Int × List Int)) → Int → Option (List (ByteArray × Int × Int) × List (Int × List Int))
 | 0, _, _, _, _, _, _, _ => none
 | k_ + 1, d2, d3, t2, t22, x, x2, i => spec_l4Copy_l0_b N (spec_l4Copy_l0 N k_) d2 d3 t2 t22 x x2 i
def spec_l4Copy_b (N : Nat) (spec_l4Copy_l0S : (List (ByteArray × Int × Int)) → (List (Int × List Int)) → (List (ByteArray × Int × Int)) → (List (Int × List Int)) → (List (ByteArray × Int × Int)) → (List (Int × List Int)) → Int → Option (List (ByteArray × Int × Int) × List (Int × List Int))) (d : List (ByteArray × Int × Int) × List (Int × List Int)) : Option (List (ByteArray × Int × Int) × List (Int × List Int)) :=
 grd (appOk [] d.1 32) <|
 spec_l4Copy_l0S d.1 d.2 [] [] d.1 [] 0
def spec_l4Copy (N : Nat) (d : List (ByteArray × Int × Int) × List (Int × List Int)) : Option (List (ByteArray × Int × Int) × List (Int × List Int)) := spec_l4Copy_b N (spec_l4Copy_l0 N N) d
def spec_l1In (N : Nat) (x : Int) (low : Int) (high : Int) : Option (Bool) :=
 bif decide (x ≥ low) then some (decide (x ≤ high))
 else
 some false
def spec_IsValidRelation (N : Nat) (s : ByteArray × Int × Int) : Option (Bool) :=
 bif ((s.1.size : Int) == 1) then
  (byteAt s.1 0).bind fun b =>
  bif decide ((b.toNat : Int) ≥ 97) then
   (byteAt s.1 0).bind fun b2 =>
   bif decide ((b2.toNat : Int) ≤ 122) then
    (spec_l1In N s.2.1 1 3).bind fun r =>
    bif r then
     (spec_l1In N s.2.2 0 s.2.1).bind fun r2 =>
     some r2
    else
    some false
   else
   some false
  else
  some false
 else
 some false
def spec_AreValidRelations_l0_b (N : Nat) (rec_ : (List (ByteArray × Int × Int)) → Int → Option (Bool)) (l2 : List (ByteArray × Int × Int)) (i : Int) : Option (Bool) :=
 bif decide (i < (l2.length : Int)) then
  grd (inb i l2) <|
  (spec_IsValidRelation N ((at_ (⟨#[]⟩, (0, 0)) l2 i).1, ((at_ (⟨#[]⟩, (0, 0)) l2 i).2))).bind fun r =>
  bif (!r) then some false
  else
  bif decide (i > 0) then
   grd (inb (w64 (i - 1)) l2) <|
   grd (inb i l2) <|
   bif (!slt ((at_ (⟨#[]⟩, (0, 0)) l2 (w64 (i - 1))).1) ((at_ (⟨#[]⟩, (0, 0)) l2 i).1)) then some false
   else
   rec_ l2 (w64 (i + 1))
  else
  rec_ l2 (w64 (i + 1))
 else
 some (decide ((l2.length : Int) ≤ 4))
def spec_AreValidRelations_l0 (N : Nat) : Nat → (List (ByteArray × Int × Int)) → Int → Option (Bool)
 | 0, _, _ => none
 | k_ + 1, l2, i => spec_AreValidRelations_l0_b N (spec_AreValidRelations_l0 N k_) l2 i
def spec_AreValidRelations_b (N : Nat) (spec_AreValidRelations_l0S : (List (ByteArray × Int × Int)) → Int → Option (Bool)) (l : List (ByteArray × Int × Int)) : Option (Bool) :=
 spec_AreValidRelations_l0S l 0
def spec_AreValidRelations (N : Nat) (l : List (ByteArray × Int × Int)) : Option (Bool) := spec_AreValidRelations_b N (spec_AreValidRelations_l0 N N) l
def spec_IsValidFact_l0_b (N : Nat) (rec_ : Int → (List Int) → Int → Option (Bool)) (f2 : Int) (f3 : List Int) (i : Int) : Option (Bool) :=
 bif decide (i < (f3.length : Int)) then
  grd (inb i f3) <|
  (spec_l1In N (at_ 0 f3 i) 0 9).bind fun r3 =>
  bif (!r3) then some false
  else
  rec_ f2 f3 (w64 (i + 1))
 else
 some true
def spec_IsValidFact_l0 (N : Nat) : Nat → Int → (List Int) → Int → Option (Bool)
 | 0, _, _, _ => none
 | k_ + 1, f2, f3, i => spec_IsValidFact_l0_b N (spec_IsValidFact_l0 N k_) f2 f3 i
def spec_IsValidFact_b (N : Nat) (spec_IsValidFact_l0S : Int → (List Int) → Int → Option (Bool)) (l : List (ByteArray × Int × Int)) (f : Int × List Int) : Option (Bool) :=
 (spec_AreValidRelations N l).bind fun r =>
 bif (!r) then some false
 else
 (spec_l1In N f.1 0 (w64 ((l.length : Int) - 1))).bind fun r2 =>
 bif (!r2) then some false
 else
 grd (inb f.1 l) <|
 bif ((f.2.length : Int) != (((at_ (⟨#[]⟩, (0, 0)) l f.1).2).1)) then some false
 else
 spec_IsValidFact_l0S f.1 f.2 0
def spec_IsValidFact (N : Nat) (l : List (ByteArray × Int × Int)) (f : Int × List Int) : Option (Bool) := spec_IsValidFact_b N (spec_IsValidFact_l0 N N) l f
def spec_l3Ints_l0_b (N : Nat) (rec_ : (List Int) → (List Int) → Int → Option (Int)) (a2 : List Int) (b2 : List Int) (i : Int) : Option (Int) :=
 bif decide (i < (a2.length : Int)) then
  bif decide (i < (b2.length : Int)) then
   grd (inb i a2) <|
   grd (inb i b2) <|
   bif decide ((at_ 0 a2 i) < (at_ 0 b2 i)) then some (-1)
   else
   grd (inb i a2) <|
   grd (inb i b2) <|
   bif decide ((at_ 0 a2 i) > (at_ 0 b2 i)) then some 1
   else
   rec_ a2 b2 (w64 (i + 1))
  else
  bif decide ((a2.length : Int) < (b2.length : Int)) then some (-1)
  else
  bif decide ((a2.length : Int) > (b2.length : Int)) then some 1
  else
  some 0
 else
 bif decide ((a2.length : Int) < (b2.length : Int)) then some (-1)
 else
 bif decide ((a2.length : Int) > (b2.length : Int)) then some 1
 else
 some 0
def spec_l3Ints_l0 (N : Nat) : Nat → (List Int) → (List Int) → Int → Option (Int)
 | 0, _, _, _ => none
 | k_ + 1, a2, b2, i => spec_l3Ints_l0_b N (spec_l3Ints_l0 N k_) a2 b2 i
def spec_l3Ints_b (N : Nat) (spec_l3Ints_l0S : (List Int) → (List Int) → Int → Option (Int)) (a : List Int) (b : List Int) : Option (Int) :=
 spec_l3Ints_l0S a b 0
def spec_l3Ints (N : Nat) (a : List Int) (b : List Int) : Option (Int) := spec_l3Ints_b N (spec_l3Ints_l0 N N) a b
def spec_CompareFacts (N : Nat) (a : Int × List Int) (b : Int × List Int) : Option (Int) :=
 bif decide (a.1 < b.1) then some (-1)
 else
 bif decide (a.1 > b.1) then some 1
 else
 (spec_l3Ints N a.2 b.2).bind fun r =>
 some r
def spec_IsValidDatabase_l0_b (N : Nat) (rec_ : (List (ByteArray × Int × Int)) → (List (Int × List Int)) → Int → Option (Bool)) (d2 : List (ByteArray × Int × Int)) (d3 : List (Int × List Int)) (i : Int) : Option (Bool) :=
 bif decide (i < (d3.length : Int)) then
  grd (inb i d3) <|
  (spec_IsValidFact N d2 (at_ (0, []) d3 i)).bind fun r =>
  bif (!r) then some false
  else
  bif decide (i > 0) then
   grd (inb (w64 (i - 1)) d3) <|
   grd (inb i d3) <|
   (spec_CompareFacts N (at_ (0, []) d3 (w64 (i - 1))) (at_ (0, []) d3 i)).bind fun r2 =>
   bif decide (r2 ≥ 0) then some false
   else
   rec_ d2 d3 (w64 (i + 1))
  else
  rec_ d2 d3 (w64 (i + 1))
 else
 (spec_AreValidRelations N d2).bind fun r3 =>
 bif r3 then some (decide ((d3.length : Int) ≤ 14))
 else
 some false
def spec_IsValidDatabase_l0 (N : Nat) : Nat → (List (ByteArray × Int × Int)) → (List (Int × List Int)) → Int → Option (Bool)
 | 0, _, _, _ => none
 | k_ + 1, d2, d3, i => spec_IsValidDatabase_l0_b N (spec_IsValidDatabase_l0 N k_) d2 d3 i
def spec_IsValidDatabase_b (N : Nat) (spec_IsValidDatabase_l0S : (List (ByteArray × Int × Int)) → (List (Int × List Int)) → Int → Option (Bool)) (d : List (ByteArray × Int × Int) × List (Int × List Int)) : Option (Bool) :=
 spec_IsValidDatabase_l0S d.1 d.2 0
def spec_IsValidDatabase (N : Nat) (d : List (ByteArray × Int × Int) × List (Int × List Int)) : Option (Bool) := spec_IsValidDatabase_b N (spec_IsValidDatabase_l0 N N) d
def spec_FactIndex_l0_b (N : Nat) (rec_ : (List (ByteArray × Int × Int)) → (List (Int × List Int)) → Int → (List Int) → Int → Option (Int)) (d2 : List (ByteArray × Int × Int)) (d3 : List (Int × List Int)) (f2 : Int) (f3 : List Int) (i : Int) : Option (Int) :=
 bif decide (i < (d3.length : Int)) then
  grd (inb i d3) <|
  (spec_CompareFacts N (at_ (0, []) d3 i) (f2, f3)).bind fun r =>
  bif (r == 0) then some i
  else
  rec_ d2 d3 f2 f3 (w64 (i + 1))
 else
 some (-1)
def spec_FactIndex_l0 (N : Nat) : Nat → (List (ByteArray × Int × Int)) → (List (Int × List Int)) → Int → (List Int) → Int → Option (Int)
 | 0, _, _, _, _, _ => none
 | k_ + 1, d2, d3, f2, f3, i => spec_FactIndex_l0_b N (spec_FactIndex_l0 N k_) d2 d3 f2 f3 i
def spec_FactIndex_b (N : Nat) (spec_FactIndex_l0S : (List (ByteArray × Int × Int)) → (List (Int × List Int)) → Int → (List Int) → Int → Option (Int)) (d : List (ByteArray × Int × Int) × List (Int × List Int)) (f : Int × List Int) : Option (Int) :=
 spec_FactIndex_l0S d.1 d.2 f.1 f.2 0
def spec_FactIndex (N : Nat) (d : List (ByteArray × Int × Int) × List (Int × List Int)) (f : Int × List Int) : Option (Int) := spec_FactIndex_b N (spec_FactIndex_l0 N N) d f
def spec_ContainsFact (N : Nat) (d : List (ByteArray × Int × Int) × List (Int × List Int)) (f : Int × List Int) : Option (Bool) :=
 (spec_IsValidDatabase N d).bind fun r =>
 bif r then
  (spec_FactIndex N d f).bind fun r2 =>
  some (decide (r2 ≥ 0))
 else
 some false
def spec_InsertFact_l0_b (N : Nat) (rec_ : Int → (List Int) → (List (ByteArray × Int × Int)) → (List (Int × List Int)) → (List (ByteArray × Int × Int)) → (List (Int × List Int)) → Int → Option ((List (ByteArray × Int × Int) × List (Int × List Int)) × Bool)) (f2 : Int) (f3 : List Int) (t4 : List (ByteArray × Int × Int)) (t42 : List (Int × List Int)) (x : List (ByteArray × Int × Int)) (x2 : List (Int × List Int)) (k : Int) : Option ((List (ByteArray × Int × Int) × List (Int × List Int)) × Bool) :=
 bif decide (k < (x2.length : Int)) then
  grd (inb k x2) <|
  (spec_CompareFacts N (at_ (0, []) x2 k) (f2, f3)).bind fun r5 =>
  bif decide (r5 < 0) then rec_ f2 f3 t4 t42 x x2 (w64 (k + 1))
  else
  grd (appOk [] f3 8) <|
  grd (subOk k (x2.length : Int) x2.length) <|
  grd (appOk [(f2, f3)] (x2.drop k.toNat) 32) <|
  grd (subOk 0 k x2.length) <|
  grd (appOk [] (x2.take k.toNat) 32) <|
  grd (appOk (x2.take k.toNat) ([(f2, f3)] ++ (x2.drop k.toNat)) 32) <|
  some ((x, ((x2.take k.toNat) ++ ([(f2, f3)] ++ (x2.drop k.toNat)))), true)
 else
 grd (appOk [] f3 8) <|
 grd (subOk k (x2.length : Int) x2.length) <|
 grd (appOk [(f2, f3)] (x2.drop k.toNat) 32) <|
 grd (subOk 0 k x2.length) <|
 grd (appOk [] (x2.take k.toNat) 32) <|
 grd (appOk (x2.take k.toNat) ([(f2, f3)] ++ (x2.drop k.toNat)) 32) <|
 some ((x, ((x2.take k.toNat) ++ ([(f2, f3)] ++ (x2.drop k.toNat)))), true)
def spec_InsertFact_l0 (N : Nat) : Nat → Int → (List Int) → (List (ByteArray × Int × Int)) → (List (Int × List Int)) → (List (ByteArray × Int × Int)) → (List (Int × List Int)) → Int → Option ((List (ByteArray × Int × Int) × List (Int × List Int)) × Bool)
 | 0, _, _, _, _, _, _, _ => none
 | k_ + 1, f2, f3, t4, t42, x, x2, k => spec_InsertFact_l0_b N (spec_InsertFact_l0 N k_) f2 f3 t4 t42 x x2 k
def spec_InsertFact_b (N : Nat) (spec_InsertFact_l0S : Int → (List Int) → (List (ByteArray × Int × Int)) → (List (Int × List Int)) → (List (ByteArray × Int × Int)) → (List (Int × List Int)) → Int → Option ((List (ByteArray × Int × Int) × List (Int × List Int)) × Bool)) (d : List (ByteArray × Int × Int) × List (Int × List Int)) (f : Int × List Int) : Option ((List (ByteArray × Int × Int) × List (Int × List Int)) × Bool) :=
 (spec_l4Copy N d).bind fun r =>
 (spec_IsValidDatabase N d).bind fun r2 =>
 bif (!r2) then some (r, false)
 else
 (spec_IsValidFact N d.1 f).bind fun r3 =>
 bif (!r3) then some (r, false)
 else
 (spec_ContainsFact N d f).bind fun r4 =>
 bif r4 then some (r, false)
 else
 bif ((d.2.length : Int) == 14) then some (r, false)
 else
 spec_InsertFact_l0S f.1 f.2 [] [] r.1 r.2 0
def spec_InsertFact (N : Nat) (d : List (ByteArray × Int × Int) × List (Int × List Int)) (f : Int × List Int) : Option ((List (ByteArray × Int × Int) × List (Int × List Int)) × Bool) := spec_InsertFact_b N (spec_InsertFact_l0 N N) d f
def spec_l4Db_l1_b (N : Nat) (rec_ : (List Int) → Int → Int → (List (ByteArray × Int × Int)) → (List (Int × List Int)) → (List (ByteArray × Int × Int)) → (List (Int × List Int)) → Int → Int → Option ((List Int × Int × Int) × List (ByteArray × Int × Int) × List (Int × List Int))) (c5 : List Int) (c6 : Int) (c7 : Int) (t23 : List (ByteArray × Int × Int)) (t24 : List (Int × List Int)) (d3 : List (ByteArray × Int × Int)) (d4 : List (Int × List Int)) (val2 : Int) (n2 : Int) : Option ((List Int × Int × Int) × List (ByteArray × Int × Int) × List (Int × List Int)) :=
 bif decide (n2 > 0) then
  (spec_l3Fact N (c5, c6, c7) d3 val2).bind fun p_m5 =>
  (spec_InsertFact N (d3, d4) p_m5.2).bind fun p_r8 =>
  rec_ c5 p_m5.1.2.1 p_m5.1.2.2 t23 t24 p_r8.1.1 p_r8.1.2 val2 (w64 (n2 - 1))
 else
 some ((c5, c6, c7), (d3, d4))
def spec_l4Db_l1 (N : Nat) : Nat → (List Int) → Int → Int → (List (ByteArray × Int × Int)) → (List (Int × List Int)) → (List (ByteArray × Int × Int)) → (List (Int × List Int)) → Int → Int → Option ((List Int × Int × Int) × List (ByteArray × Int × Int) × List (Int × List Int))
 | 0, _, _, _, _, _, _, _, _, _ => none
 | k_ + 1, c5, c6, c7, t23, t24, d3, d4, val2, n2 => spec_l4Db_l1_b N (spec_l4Db_l1 N k_) c5 c6 c7 t23 t24 d3 d4 val2 n2
def spec_l4Db_l0_b (N : Nat) (spec_l4Db_l1S : (List Int) → Int → Int → (List (ByteArray × Int × Int)) → (List (Int × List Int)) → (List (ByteArray × Int × Int)) → (List (Int × List Int)) → Int → Int → Option ((List Int × Int × Int) × List (ByteArray × Int × Int) × List (Int × List Int))) (rec_ : (List Int) → Int → Int → (List (ByteArray × Int × Int)) → (List (Int × List Int)) → (List (ByteArray × Int × Int)) → (List (Int × List Int)) → Int → Int → Option ((List Int × Int × Int) × List (ByteArray × Int × Int) × List (Int × List Int))) (c2 : List Int) (c3 : Int) (c4 : Int) (t2 : List (ByteArray × Int × Int)) (t22 : List (Int × List Int)) (d : List (ByteArray × Int × Int)) (d2 : List (Int × List Int)) (val : Int) (n : Int) : Option ((List Int × Int × Int) × List (ByteArray × Int × Int) × List (Int × List Int)) :=
 bif decide (n > 0) then
  (spec_l3Fact N (c2, c3, c4) d val).bind fun p_m4 =>
  (spec_InsertFact N (d, d2) p_m4.2).bind fun p_r5 =>
  spec_l4Db_l1S c2 p_m4.1.2.1 p_m4.1.2.2 t2 t22 p_r5.1.1 p_r5.1.2 val (w64 (n - 1))
 else
 some ((c2, c3, c4), (d, d2))
def spec_l4Db_l0 (N : Nat) : Nat → (List Int) → Int → Int → (List (ByteArray × Int × Int)) → (List (Int × List Int)) → (List (ByteArray × Int × Int)) → (List (Int × List Int)) → Int → Int → Option ((List Int × Int × Int) × List (ByteArray × Int × Int) × List (Int × List Int))
 | 0, _, _, _, _, _, _, _, _, _ => none
 | k_ + 1, c2, c3, c4, t2, t22, d, d2, val, n => spec_l4Db_l0_b N (spec_l4Db_l1 N k_) (spec_l4Db_l0 N k_) c2 c3 c4 t2 t22 d d2 val n
def spec_l4Db_b (N : Nat) (spec_l4Db_l0S : (List Int) → Int → Int → (List (ByteArray × Int × Int)) → (List (Int × List Int)) → (List (ByteArray × Int × Int)) → (List (Int × List Int)) → Int → Int → Option ((List Int × Int × Int) × List (ByteArray × Int × Int) × List (Int × List Int))) (c : List Int × Int × Int) : Option ((List Int × Int × Int) × List (ByteArray × Int × Int) × List (Int × List Int)) :=
 (spec_l2Sigs N c).bind fun p_m =>
 (spec_l1PickInt N (c.1, p_m.1.2) [2, 2, 3, 3]).bind fun p_m2 =>
 (spec_l1Below N (c.1, p_m2.1.2) 11).bind fun p_m3 =>
 spec_l4Db_l0S c.1 p_m3.1.2.1 p_m3.1.2.2 [] [] p_m.2 [] p_m2.2 (w64 (2 + p_m3.2))
def spec_l4Db (N : Nat) (c : List Int × Int × Int) : Option ((List Int × Int × Int) × List (ByteArray × Int × Int) × List (Int × List Int)) := spec_l4Db_b N (spec_l4Db_l0 N N) c
def spec_l3Any (N : Nat) (c : List Int × Int × Int) (l : List (ByteArray × Int × Int)) : Option ((List Int × Int × Int) × Int × List Int) :=
 (spec_l3Fact N c l 4).bind fun p_m =>
 (spec_l1Below N (c.1, p_m.1.2) 10).bind fun p_m2 =>
 bif (p_m2.2 == 0) then
  (spec_l1Below N (c.1, p_m2.1.2) 6).bind fun p_m3 =>
  some ((c.1, p_m3.1.2), ((w64 (p_m3.2 - 1)), p_m.2.2))
 else
 bif (p_m2.2 == 1) then
  grd (appOk p_m.2.2 [1] 8) <|
  some ((c.1, p_m2.1.2), (p_m.2.1, (p_m.2.2 ++ [1])))
 else
 bif (p_m2.2 == 2) then
  (spec_l1PickInt N (c.1, p_m2.1.2) [(-1), 10, 9]).bind fun p_m4 =>
  grd (inb 0 p_m.2.2) <|
  grd (inb 0 p_m.2.2) <|
  letv (p_m.2.2.set 0 p_m4.2) fun u =>
  some ((c.1, p_m4.1.2), (p_m.2.1, u))
 else
 some ((c.1, p_m2.1.2), p_m.2)
def spec_l1Pick (N : Nat) (c : List Int × Int × Int) (list : List ByteArray) : Option ((List Int × Int × Int) × ByteArray) :=
 (spec_l1Below N c (list.length : Int)).bind fun p_m =>
 grd (inb p_m.2 list) <|
 some ((c.1, p_m.1.2), (at_ (⟨#[]⟩) list p_m.2))
def spec_l2Any (N : Nat) (c : List Int × Int × Int) : Option ((List Int × Int × Int) × ByteArray × Int × Int) :=
 (spec_l1Pick N c [⟨#[114]⟩, ⟨#[122]⟩, ⟨#[97]⟩, ⟨#[]⟩, ⟨#[82]⟩, ⟨#[97, 98]⟩]).bind fun p_m =>
 (spec_l1Below N (c.1, p_m.1.2) 6).bind fun p_m2 =>
 (spec_l1Below N (c.1, p_m2.1.2) 5).bind fun p_m3 =>
 some ((c.1, p_m3.1.2), (p_m.2, (w64 (p_m2.2 - 1)), (w64 (p_m3.2 - 1))))
def spec_l4Any (N : Nat) (c : List Int × Int × Int) : Option ((List Int × Int × Int) × List (ByteArray × Int × Int) × List (Int × List Int)) :=
 (spec_l4Db N c).bind fun p_m =>
 (spec_l1Below N (c.1, p_m.1.2) 14).bind fun p_m2 =>
 bif (p_m2.2 == 0) then
  (spec_l3Any N (c.1, p_m2.1.2) p_m.2.1).bind fun p_m3 =>
  grd (appOk p_m.2.2 [p_m3.2] 32) <|
  some ((c.1, p_m3.1.2), (p_m.2.1, (p_m.2.2 ++ [p_m3.2])))
 else
 bif (p_m2.2 == 1) then
  (spec_l1Below N (c.1, p_m2.1.2) 4).bind fun p_m4 =>
  grd (subOk 0 p_m4.2 p_m.2.1.length) <|
  some ((c.1, p_m4.1.2), ((p_m.2.1.take p_m4.2.toNat), p_m.2.2))
 else
 bif (p_m2.2 == 2) then
  (spec_l1Below N (c.1, p_m2.1.2) 4).bind fun p_m5 =>
  (spec_l2Any N (c.1, p_m5.1.2)).bind fun p_m6 =>
  grd (inb p_m5.2 p_m.2.1) <|
  grd (inb p_m5.2 p_m.2.1) <|
  letv (p_m.2.1.set p_m5.2.toNat p_m6.2) fun u =>
  some ((c.1, p_m6.1.2), (u, p_m.2.2))
 else
 some ((c.1, p_m2.1.2), p_m.2)
def spec_l1Once (N : Nat) (c : List Int × Int × Int) (n : Int) : Option ((List Int × Int × Int) × Bool) :=
 (spec_l1Below N c n).bind fun p_m =>
 some ((c.1, p_m.1.2), (p_m.2 == 0))
def spec_l37Weights_l0_b (N : Nat) (rec_ : (List Int) → Int → Int → (List (ByteArray × Int × Int)) → (List (Int × List Int)) → (List Int) → Int → Option ((List Int × Int × Int) × List Int)) (c2 : List Int) (c3 : Int) (c4 : Int) (d2 : List (ByteArray × Int × Int)) (d3 : List (Int × List Int)) (w : List Int) (most : Int) : Option ((List Int × Int × Int) × List Int) :=
 bif decide ((w.length : Int) < (d3.length : Int)) then
  (spec_l1Below N (c2, c3, c4) most).bind fun p_m2 =>
  grd (appOk w [(w64 (1 + p_m2.2))] 8) <|
  rec_ c2 p_m2.1.2.1 p_m2.1.2.2 d2 d3 (w ++ [(w64 (1 + p_m2.2))]) most
 else
 bif decide ((w.length : Int) > 0) then
  (spec_l1Once N (c2, c3, c4) 14).bind fun p_m3 =>
  bif p_m3.2 then
   (spec_l1PickInt N (c2, p_m3.1.2) [0, 10, (-1)]).bind fun p_m4 =>
   grd (inb 0 w) <|
   grd (inb 0 w) <|
   letv (w.set 0 p_m4.2) fun u =>
   some ((c2, p_m4.1.2), u)
  else
  some ((c2, p_m3.1.2), w)
 else
 some ((c2, c3, c4), w)
def spec_l37Weights_l0 (N : Nat) : Nat → (List Int) → Int → Int → (List (ByteArray × Int × Int)) → (List (Int × List Int)) → (List Int) → Int → Option ((List Int × Int × Int) × List Int)
 | 0, _, _, _, _, _, _, _ => none
 | k_ + 1, c2, c3, c4, d2, d3, w, most => spec_l37Weights_l0_b N (spec_l37Weights_l0 N k_) c2 c3 c4 d2 d3 w most
def spec_l37Weights_b (N : Nat) (spec_l37Weights_l0S : (List Int) → Int → Int → (List (ByteArray × Int × Int)) → (List (Int × List Int)) → (List Int) → Int → Option ((List Int × Int × Int) × List Int)) (c : List Int × Int × Int) (d : List (ByteArray × Int × Int) × List (Int × List Int)) : Option ((List Int × Int × Int) × List Int) :=
 (spec_l1PickInt N c [1, 3, 9]).bind fun p_m =>
 spec_l37Weights_l0S c.1 p_m.1.2.1 p_m.1.2.2 d.1 d.2 [] p_m.2
def spec_l37Weights (N : Nat) (c : List Int × Int × Int) (d : List (ByteArray × Int × Int) × List (Int × List Int)) : Option ((List Int × Int × Int) × List Int) := spec_l37Weights_b N (spec_l37Weights_l0 N N) c d
def spec_DrawAreValidWeights (N : Nat) (code : List Int) : Option ((List (ByteArray × Int × Int) × List (Int × List Int)) × List Int) :=
 (spec_l1New N code).bind fun r =>
 (spec_l4Any N r).bind fun p_m =>
 (spec_l37Weights N (r.1, p_m.1.2) p_m.2).bind fun p_m2 =>
 (spec_l1Once N (r.1, p_m2.1.2) 8).bind fun p_m3 =>
 bif p_m3.2 then
  grd (appOk p_m2.2 [1] 8) <|
  some (p_m.2, (p_m2.2 ++ [1]))
 else
 some (p_m.2, p_m2.2)
def spec_DrawMostLikelyRepair (N : Nat) (code : List Int) : Option ((List (ByteArray × Int × Int) × List (Int × List Int)) × List Int) :=
 (spec_DrawAreValidWeights N code).bind fun p_r =>
 some (p_r.1, p_r.2)
def impl_within (N : Nat) (n : Int) (low : Int) (high : Int) : Option (Bool) :=
 bif decide (low ≤ n) then some (decide (n ≤ high))
 else
 some false
def impl_IsValidRelation (N : Nat) (relation : ByteArray × Int × Int) : Option (Bool) :=
 bif ((relation.1.size : Int) == 1) then
  (byteAt relation.1 0).bind fun b =>
  bif decide ((b.toNat : Int) ≥ 97) then
   (byteAt relation.1 0).bind fun b2 =>
   bif decide ((b2.toNat : Int) ≤ 122) then
    (impl_within N relation.2.1 1 3).bind fun r =>
    bif r then
     (impl_within N relation.2.2 0 relation.2.1).bind fun r2 =>
     some r2
    else
    some false
   else
   some false
  else
  some false
 else
 some false
def impl_AreValidRelations_l0_b (N : Nat) (rec_ : (List (ByteArray × Int × Int)) → (List (ByteArray × Int × Int)) → Int → Int → Option (Bool)) (relations2 : List (ByteArray × Int × Int)) (t5 : List (ByteArray × Int × Int)) (t6 : Int) (t7 : Int) : Option (Bool) :=
 bif decide (t7 < t6) then
  grd (inb t7 t5) <|
  (impl_IsValidRelation N ((at_ (⟨#[]⟩, (0, 0)) t5 t7).1, ((at_ (⟨#[]⟩, (0, 0)) t5 t7).2))).bind fun r =>
  bif (!r) then some false
  else
  bif decide (t7 > 0) then
   grd (inb (w64 (t7 - 1)) relations2) <|
   bif (!slt ((at_ (⟨#[]⟩, (0, 0)) relations2 (w64 (t7 - 1))).1) ((at_ (⟨#[]⟩, (0, 0)) t5 t7).1)) then some false
   else
   rec_ relations2 t5 t6 (w64 (t7 + 1))
  else
  rec_ relations2 t5 t6 (w64 (t7 + 1))
 else
 some (decide ((relations2.length : Int) ≤ 4))
def impl_AreValidRelations_l0 (N : Nat) : Nat → (List (ByteArray × Int × Int)) → (List (ByteArray × Int × Int)) → Int → Int → Option (Bool)
 | 0, _, _, _, _ => none
 | k_ + 1, relations2, t5, t6, t7 => impl_AreValidRelations_l0_b N (impl_AreValidRelations_l0 N k_) relations2 t5 t6 t7
def impl_AreValidRelations_b (N : Nat) (impl_AreValidRelations_l0S : (List (ByteArray × Int × Int)) → (List (ByteArray × Int × Int)) → Int → Int → Option (Bool)) (relations : List (ByteArray × Int × Int)) : Option (Bool) :=
 impl_AreValidRelations_l0S relations relations (relations.length : Int) 0
def impl_AreValidRelations (N : Nat) (relations : List (ByteArray × Int × Int)) : Option (Bool) := impl_AreValidRelations_b N (impl_AreValidRelations_l0 N N) relations
def impl_areValues_c1 (N : Nat) (v : Int) : Option (Bool) :=
 (impl_within N v 0 9).bind fun r =>
 some (!r)
def slices_IndexFunc_Lint_int_areValues_c1_l0_b (N : Nat) (rec_ : (List Int) → Int → Int → Option (Int)) (s2 : List Int) (t7 : Int) (t8 : Int) : Option (Int) :=
 bif decide (t8 < t7) then
  grd (inb t8 s2) <|
  (impl_areValues_c1 N (at_ 0 s2 t8)).bind fun r =>
  bif r then some t8
  else
  rec_ s2 t7 (w64 (t8 + 1))
 else
 some (-1)
def slices_IndexFunc_Lint_int_areValues_c1_l0 (N : Nat) : Nat → (List Int) → Int → Int → Option (Int)
 | 0, _, _, _ => none
 | k_ + 1, s2, t7, t8 => slices_IndexFunc_Lint_int_areValues_c1_l0_b N (slices_IndexFunc_Lint_int_areValues_c1_l0 N k_) s2 t7 t8
def slices_IndexFunc_Lint_int_areValues_c1_b (N : Nat) (slices_IndexFunc_Lint_int_areValues_c1_l0S : (List Int) → Int → Int → Option (Int)) (s : List Int) : Option (Int) :=
 slices_IndexFunc_Lint_int_areValues_c1_l0S s (s.length : Int) 0
def slices_IndexFunc_Lint_int_areValues_c1 (N : Nat) (s : List Int) : Option (Int) := slices_IndexFunc_Lint_int_areValues_c1_b N (slices_IndexFunc_Lint_int_areValues_c1_l0 N N) s
def slices_ContainsFunc_Lint_int_areValues_c1 (N : Nat) (s : List Int) : Option (Bool) :=
 (slices_IndexFunc_Lint_int_areValues_c1 N s).bind fun r =>
 some (decide (r ≥ 0))
def impl_areValues (N : Nat) (list : List Int) : Option (Bool) :=
 (slices_ContainsFunc_Lint_int_areValues_c1 N list).bind fun r =>
 some (!r)
def impl_isFact (N : Nat) (relations : List (ByteArray × Int × Int)) (fact : Int × List Int) : Option (Bool) :=
 (impl_within N fact.1 0 (w64 ((relations.length : Int) - 1))).bind fun r =>
 bif r then
  grd (inb fact.1 relations) <|
  bif ((fact.2.length : Int) == (((at_ (⟨#[]⟩, (0, 0)) relations fact.1).2).1)) then
   (impl_areValues N fact.2).bind fun r2 =>
   some r2
  else
  some false
 else
 some false
def impl_compare (N : Nat) (a : Int) (b : Int) : Option (Int) :=
 bif decide (a < b) then some (-1)
 else
 bif decide (a > b) then some 1
 else
 some 0
def cmp_isNaN_int (N : Nat) (x : Int) : Option (Bool) :=
 some (x != x)
def cmp_Compare_int (N : Nat) (x : Int) (y : Int) : Option (Int) :=
 (cmp_isNaN_int N x).bind fun r =>
 (cmp_isNaN_int N y).bind fun r2 =>
 bif r then
  bif r2 then some 0
  else
  some (-1)
 else
 bif r2 then some 1
 else
 bif decide (x < y) then some (-1)
 else
 bif decide (x > y) then some 1
 else
 some 0
def slices_Compare_Lint_int_l0_b (N : Nat) (rec_ : (List Int) → (List Int) → (List Int) → Int → Int → Option (Int)) (s12 : List Int) (s22 : List Int) (t9 : List Int) (t10 : Int) (t11 : Int) : Option (Int) :=
 bif decide (t11 < t10) then
  grd (inb t11 t9) <|
  bif decide (t11 ≥ (s22.length : Int)) then some 1
  else
  grd (inb t11 s22) <|
  (cmp_Compare_int N (at_ 0 t9 t11) (at_ 0 s22 t11)).bind fun r =>
  bif (r != 0) then some r
  else
  rec_ s12 s22 t9 t10 (w64 (t11 + 1))
 else
 bif decide ((s12.length : Int) < (s22.length : Int)) then some (-1)
 else
 some 0
def slices_Compare_Lint_int_l0 (N : Nat) : Nat → (List Int) → (List Int) → (List Int) → Int → Int → Option (Int)
 | 0, _, _, _, _, _ => none
 | k_ + 1, s12, s22, t9, t10, t11 => slices_Compare_Lint_int_l0_b N (slices_Compare_Lint_int_l0 N k_) s12 s22 t9 t10 t11
def slices_Compare_Lint_int_b (N : Nat) (slices_Compare_Lint_int_l0S : (List Int) → (List Int) → (List Int) → Int → Int → Option (Int)) (s1 : List Int) (s2 : List Int) : Option (Int) :=
 slices_Compare_Lint_int_l0S s1 s2 s1 (s1.length : Int) 0
def slices_Compare_Lint_int (N : Nat) (s1 : List Int) (s2 : List Int) : Option (Int) := slices_Compare_Lint_int_b N (slices_Compare_Lint_int_l0 N N) s1 s2
def impl_CompareFacts (N : Nat) (a : Int × List Int) (b : Int × List Int) : Option (Int) :=
 bif (a.1 != b.1) then
  (impl_compare N a.1 b.1).bind fun r =>
  some r
 else
 (slices_Compare_Lint_int N a.2 b.2).bind fun r2 =>
 some r2
def impl_IsValidDatabase_l0_b (N : Nat) (rec_ : (List (ByteArray × Int × Int)) → (List (Int × List Int)) → (List (Int × List Int)) → Int → Int → Option (Bool)) (db2 : List (ByteArray × Int × Int)) (db3 : List (Int × List Int)) (t16 : List (Int × List Int)) (t17 : Int) (t18 : Int) : Option (Bool) :=
 bif decide (t18 < t17) then
  grd (inb t18 t16) <|
  (impl_isFact N db2 (at_ (0, []) t16 t18)).bind fun r2 =>
  bif (!r2) then some false
  else
  bif decide (t18 > 0) then
   grd (inb (w64 (t18 - 1)) db3) <|
   (impl_CompareFacts N (at_ (0, []) db3 (w64 (t18 - 1))) (at_ (0, []) t16 t18)).bind fun r3 =>
   bif decide (r3 ≥ 0) then some false
   else
   rec_ db2 db3 t16 t17 (w64 (t18 + 1))
  else
  rec_ db2 db3 t16 t17 (w64 (t18 + 1))
 else
 some true
def impl_IsValidDatabase_l0 (N : Nat) : Nat → (List (ByteArray × Int × Int)) → (List (Int × List Int)) → (List (Int × List Int)) → Int → Int → Option (Bool)
 | 0, _, _, _, _, _ => none
 | k_ + 1, db2, db3, t16, t17, t18 => impl_IsValidDatabase_l0_b N (impl_IsValidDatabase_l0 N k_) db2 db3 t16 t17 t18
def impl_IsValidDatabase_b (N : Nat) (impl_IsValidDatabase_l0S : (List (ByteArray × Int × Int)) → (List (Int × List Int)) → (List (Int × List Int)) → Int → Int → Option (Bool)) (db : List (ByteArray × Int × Int) × List (Int × List Int)) : Option (Bool) :=
 (impl_AreValidRelations N db.1).bind fun r =>
 bif (!r) then some false
 else
 bif decide ((db.2.length : Int) > 14) then some false
 else
 impl_IsValidDatabase_l0S db.1 db.2 db.2 (db.2.length : Int) 0
def impl_IsValidDatabase (N : Nat) (db : List (ByteArray × Int × Int) × List (Int × List Int)) : Option (Bool) := impl_IsValidDatabase_b N (impl_IsValidDatabase_l0 N N) db
def impl_AreValidWeights_c1 (N : Nat) (w : Int) : Option (Bool) :=
 (impl_within N w 1 9).bind fun r =>
 some (!r)
def slices_IndexFunc_Lint_int_AreValidWeights_c1_l0_b (N : Nat) (rec_ : (List Int) → Int → Int → Option (Int)) (s2 : List Int) (t7 : Int) (t8 : Int) : Option (Int) :=
 bif decide (t8 < t7) then
  grd (inb t8 s2) <|
  (impl_AreValidWeights_c1 N (at_ 0 s2 t8)).bind fun r =>
  bif r then some t8
  else
  rec_ s2 t7 (w64 (t8 + 1))
 else
 some (-1)
def slices_IndexFunc_Lint_int_AreValidWeights_c1_l0 (N : Nat) : Nat → (List Int) → Int → Int → Option (Int)
 | 0, _, _, _ => none
 | k_ + 1, s2, t7, t8 => slices_IndexFunc_Lint_int_AreValidWeights_c1_l0_b N (slices_IndexFunc_Lint_int_AreValidWeights_c1_l0 N k_) s2 t7 t8
def slices_IndexFunc_Lint_int_AreValidWeights_c1_b (N : Nat) (slices_IndexFunc_Lint_int_AreValidWeights_c1_l0S : (List Int) → Int → Int → Option (Int)) (s : List Int) : Option (Int) :=
 slices_IndexFunc_Lint_int_AreValidWeights_c1_l0S s (s.length : Int) 0
def slices_IndexFunc_Lint_int_AreValidWeights_c1 (N : Nat) (s : List Int) : Option (Int) := slices_IndexFunc_Lint_int_AreValidWeights_c1_b N (slices_IndexFunc_Lint_int_AreValidWeights_c1_l0 N N) s
def slices_ContainsFunc_Lint_int_AreValidWeights_c1 (N : Nat) (s : List Int) : Option (Bool) :=
 (slices_IndexFunc_Lint_int_AreValidWeights_c1 N s).bind fun r =>
 some (decide (r ≥ 0))
def impl_AreValidWeights (N : Nat) (db : List (ByteArray × Int × Int) × List (Int × List Int)) (weights : List Int) : Option (Bool) :=
 (impl_IsValidDatabase N db).bind fun r =>
 bif r then
  bif ((weights.length : Int) == (db.2.length : Int)) then
   (slices_ContainsFunc_Lint_int_AreValidWeights_c1 N weights).bind fun r2 =>
   some (!r2)
  else
  some false
 else
 some false
def slices_Equal_Lint_int_l0_b (N : Nat) (rec_ : (List Int) → (List Int) → Int → Int → Option (Bool)) (s12 : List Int) (s22 : List Int) (t12 : Int) (t13 : Int) : Option (Bool) :=
 bif decide (t13 < t12) then
  grd (inb t13 s12) <|
  grd (inb t13 s22) <|
  bif ((at_ 0 s12 t13) != (at_ 0 s22 t13)) then some false
  else
  rec_ s12 s22 t12 (w64 (t13 + 1))
 else
 some true
def slices_Equal_Lint_int_l0 (N : Nat) : Nat → (List Int) → (List Int) → Int → Int → Option (Bool)
 | 0, _, _, _, _ => none
 | k_ + 1, s12, s22, t12, t13 => slices_Equal_Lint_int_l0_b N (slices_Equal_Lint_int_l0 N k_) s12 s22 t12 t13
def slices_Equal_Lint_int_b (N : Nat) (slices_Equal_Lint_int_l0S : (List Int) → (List Int) → Int → Int → Option (Bool)) (s1 : List Int) (s2 : List Int) : Option (Bool) :=
 bif ((s1.length : Int) != (s2.length : Int)) then some false
 else
 slices_Equal_Lint_int_l0S s1 s2 (s1.length : Int) 0
def slices_Equal_Lint_int (N : Nat) (s1 : List Int) (s2 : List Int) : Option (Bool) := slices_Equal_Lint_int_b N (slices_Equal_Lint_int_l0 N N) s1 s2
def impl_sameKey (N : Nat) (relations : List (ByteArray × Int × Int)) (a : Int × List Int) (b : Int × List Int) : Option (Bool) :=
 bif (a.1 != b.1) then some false
 else
 grd (inb a.1 relations) <|
 grd (subOk 0 (((at_ (⟨#[]⟩, (0, 0)) relations a.1).2).2) a.2.length) <|
 grd (subOk 0 (((at_ (⟨#[]⟩, (0, 0)) relations a.1).2).2) b.2.length) <|
 (slices_Equal_Lint_int N (a.2.take (((at_ (⟨#[]⟩, (0, 0)) relations a.1).2).2).toNat) (b.2.take (((at_ (⟨#[]⟩, (0, 0)) relations a.1).2).2).toNat)).bind fun r =>
 some r
def impl_blocks_l0_b (N : Nat) (rec_ : (List (ByteArray × Int × Int)) → (List (Int × List Int)) → (List (List Int)) → (List (Int × List Int)) → Int → Int → Option (List (List Int))) (db2 : List (ByteArray × Int × Int)) (db3 : List (Int × List Int)) (out : List (List Int)) (t9 : List (Int × List Int)) (t10 : Int) (t11 : Int) : Option (List (List Int)) :=
 bif decide (t11 < t10) then
  grd (inb t11 t9) <|
  bif decide ((w64 ((out.length : Int) - 1)) ≥ 0) then
   grd (inb (w64 ((out.length : Int) - 1)) out) <|
   grd (inb 0 (at_ [] out (w64 ((out.length : Int) - 1)))) <|
   grd (inb (at_ 0 (at_ [] out (w64 ((out.length : Int) - 1))) 0) db3) <|
   (impl_sameKey N db2 (at_ (0, []) db3 (at_ 0 (at_ [] out (w64 ((out.length : Int) - 1))) 0)) (at_ (0, []) t9 t11)).bind fun r =>
   bif r then
    grd (inb (w64 ((out.length : Int) - 1)) out) <|
    grd (inb (w64 ((out.length : Int) - 1)) out) <|
    grd (appOk (at_ [] out (w64 ((out.length : Int) - 1))) [t11] 8) <|
    grd (inb (w64 ((out.length : Int) - 1)) out) <|
    grd (growOk (w64 ((out.length : Int) - 1)) (w64 ((out.length : Int) - 1)) out) <|
    letv (out.set (w64 ((out.length : Int) - 1)).toNat ((at_ [] out (w64 ((out.length : Int) - 1))) ++ [t11])) fun u =>
    rec_ db2 db3 u t9 t10 (w64 (t11 + 1))
   else
   grd (appOk out [[t11]] 24) <|
   rec_ db2 db3 (out ++ [[t11]]) t9 t10 (w64 (t11 + 1))
  else
  grd (appOk out [[t11]] 24) <|
  rec_ db2 db3 (out ++ [[t11]]) t9 t10 (w64 (t11 + 1))
 else
 some out
def impl_blocks_l0 (N : Nat) : Nat → (List (ByteArray × Int × Int)) → (List (Int × List Int)) → (List (List Int)) → (List (Int × List Int)) → Int → Int → Option (List (List Int))
 | 0, _, _, _, _, _, _ => none
 | k_ + 1, db2, db3, out, t9, t10, t11 => impl_blocks_l0_b N (impl_blocks_l0 N k_) db2 db3 out t9 t10 t11
def impl_blocks_b (N : Nat) (impl_blocks_l0S : (List (ByteArray × Int × Int)) → (List (Int × List Int)) → (List (List Int)) → (List (Int × List Int)) → Int → Int → Option (List (List Int))) (db : List (ByteArray × Int × Int) × List (Int × List Int)) : Option (List (List Int)) :=
 impl_blocks_l0S db.1 db.2 [] db.2 (db.2.length : Int) 0
def impl_blocks (N : Nat) (db : List (ByteArray × Int × Int) × List (Int × List Int)) : Option (List (List Int)) := impl_blocks_b N (impl_blocks_l0 N N) db
def impl_MostLikelyRepair_l1_b (N : Nat) (impl_MostLikelyRepair_l0R : (List Int) → (List Int) → (List (List Int)) → Int → Int → Option (List Int × Bool)) (rec_ : (List Int) → (List Int) → Int → (List (List Int)) → Int → Int → Int → (List Int) → Int → Int → Option (List Int × Bool)) (weights3 : List Int) (out2 : List Int) (best : Int) (t182 : List (List Int)) (t192 : Int) (t202 : Int) (t27i : Int) (t27 : List Int) (t28 : Int) (t29 : Int) : Option (List Int × Bool) :=
 bif decide (t29 < t28) then
  grd (inb t29 t27) <|
  grd (inb (at_ 0 t27 t29) weights3) <|
  grd (inb best weights3) <|
  bif decide ((at_ 0 weights3 (at_ 0 t27 t29)) > (at_ 0 weights3 best)) then
   rec_ weights3 out2 (at_ 0 t27 t29) t182 t192 t202 t27i t27 t28 (w64 (t29 + 1))
  else
  rec_ weights3 out2 best t182 t192 t202 t27i t27 t28 (w64 (t29 + 1))
 else
 grd (appOk out2 [best] 8) <|
 impl_MostLikelyRepair_l0R weights3 (out2 ++ [best]) t182 t192 (w64 (t202 + 1))
def impl_MostLikelyRepair_l1 (impl_MostLikelyRepair_l0R : (List Int) → (List Int) → (List (List Int)) → Int → Int → Option (List Int × Bool)) (N : Nat) : Nat → (List Int) → (List Int) → Int → (List (List Int)) → Int → Int → Int → (List Int) → Int → Int → Option (List Int × Bool)
 | 0, _, _, _, _, _, _, _, _, _, _ => none
 | k_ + 1, weights3, out2, best, t182, t192, t202, t27i, t27, t28, t29 => impl_MostLikelyRepair_l1_b N impl_MostLikelyRepair_l0R (impl_MostLikelyRepair_l1 impl_MostLikelyRepair_l0R N k_) weights3 out2 best t182 t192 t202 t27i t27 t28 t29
def impl_MostLikelyRepair_l0_b (N : Nat) (impl_MostLikelyRepair_l1S : (List Int) → (List Int) → Int → (List (List Int)) → Int → Int → Int → (List Int) → Int → Int → Option (List Int × Bool)) (rec_ : (List Int) → (List Int) → (List (List Int)) → Int → Int → Option (List Int × Bool)) (weights2 : List Int) (out : List Int) (t18 : List (List Int)) (t19 : Int) (t20 : Int) : Option (List Int × Bool) :=
 bif decide (t20 < t19) then
  grd (inb t20 t18) <|
  grd (inb 0 (at_ [] t18 t20)) <|
  impl_MostLikelyRepair_l1S weights2 out (at_ 0 (at_ [] t18 t20) 0) t18 t19 t20 t20 (at_ [] t18 t20) ((at_ [] t18 t20).length : Int) 0
 else
 some (out, true)
def impl_MostLikelyRepair_l0 (N : Nat) : Nat → (List Int) → (List Int) → (List (List Int)) → Int → Int → Option (List Int × Bool)
 | 0, _, _, _, _, _ => none
 | k_ + 1, weights2, out, t18, t19, t20 => impl_MostLikelyRepair_l0_b N (impl_MostLikelyRepair_l1 (impl_MostLikelyRepair_l0 N k_) N N) (impl_MostLikelyRepair_l0 N k_) weights2 out t18 t19 t20
def impl_MostLikelyRepair_b (N : Nat) (impl_MostLikelyRepair_l0S : (List Int) → (List Int) → (List (List Int)) → Int → Int → Option (List Int × Bool)) (db : List (ByteArray × Int × Int) × List (Int × List Int)) (weights : List Int) : Option (List Int × Bool) :=
 (impl_AreValidWeights N db weights).bind fun r =>
 bif (!r) then some ([], false)
 else
 (impl_blocks N db).bind fun r2 =>
 impl_MostLikelyRepair_l0S weights [] r2 (r2.length : Int) 0
def impl_MostLikelyRepair (N : Nat) (db : List (ByteArray × Int × Int) × List (Int × List Int)) (weights : List Int) : Option (List Int × Bool) := impl_MostLikelyRepair_b N (impl_MostLikelyRepair_l0 N N) db weights
def spec_AreValidWeights_l0_b (N : Nat) (rec_ : (List Int) → (List (ByteArray × Int × Int)) → (List (Int × List Int)) → Int → Option (Bool)) (w2 : List Int) (d2 : List (ByteArray × Int × Int)) (d3 : List (Int × List Int)) (i : Int) : Option (Bool) :=
 bif decide (i < (w2.length : Int)) then
  grd (inb i w2) <|
  (spec_l1In N (at_ 0 w2 i) 1 9).bind fun r =>
  bif (!r) then some false
  else
  rec_ w2 d2 d3 (w64 (i + 1))
 else
 (spec_IsValidDatabase N (d2, d3)).bind fun r2 =>
 bif r2 then some ((w2.length : Int) == (d3.length : Int))
 else
 some false
def spec_AreValidWeights_l0 (N : Nat) : Nat → (List Int) → (List (ByteArray × Int × Int)) → (List (Int × List Int)) → Int → Option (Bool)
 | 0, _, _, _, _ => none
 | k_ + 1, w2, d2, d3, i => spec_AreValidWeights_l0_b N (spec_AreValidWeights_l0 N k_) w2 d2 d3 i
def spec_AreValidWeights_b (N : Nat) (spec_AreValidWeights_l0S : (List Int) → (List (ByteArray × Int × Int)) → (List (Int × List Int)) → Int → Option (Bool)) (d : List (ByteArray × Int × Int) × List (Int × List Int)) (w : List Int) : Option (Bool) :=
 spec_AreValidWeights_l0S w d.1 d.2 0
def spec_AreValidWeights (N : Nat) (d : List (ByteArray × Int × Int) × List (Int × List Int)) (w : List Int) : Option (Bool) := spec_AreValidWeights_b N (spec_AreValidWeights_l0 N N) d w
def spec_KeyOf (N : Nat) (l : List (ByteArray × Int × Int)) (f : Int × List Int) : Option (List Int) :=
 (spec_IsValidFact N l f).bind fun r =>
 bif (!r) then some []
 else
 grd (inb f.1 l) <|
 grd (subOk 0 (((at_ (⟨#[]⟩, (0, 0)) l f.1).2).2) f.2.length) <|
 grd (appOk [] (f.2.take (((at_ (⟨#[]⟩, (0, 0)) l f.1).2).2).toNat) 8) <|
 some (f.2.take (((at_ (⟨#[]⟩, (0, 0)) l f.1).2).2).toNat)
def spec_HaveSameKey (N : Nat) (l : List (ByteArray × Int × Int)) (a : Int × List Int) (b : Int × List Int) : Option (Bool) :=
 (spec_IsValidFact N l a).bind fun r =>
 bif r then
  (spec_IsValidFact N l b).bind fun r2 =>
  bif r2 then
   bif (a.1 == b.1) then
    (spec_KeyOf N l a).bind fun r3 =>
    (spec_KeyOf N l b).bind fun r4 =>
    (spec_l3Ints N r3 r4).bind fun r5 =>
    some (r5 == 0)
   else
   some false
  else
  some false
 else
 some false
def spec_BlockOf_l0_b (N : Nat) (rec_ : Int → (List (ByteArray × Int × Int)) → (List (Int × List Int)) → (List Int) → Int → Option (List Int)) (i2 : Int) (d2 : List (ByteArray × Int × Int)) (d3 : List (Int × List Int)) (out : List Int) (k : Int) : Option (List Int) :=
 bif decide (k < (d3.length : Int)) then
  (spec_IsValidDatabase N (d2, d3)).bind fun r =>
  bif r then
   (spec_l1In N i2 0 (w64 ((d3.length : Int) - 1))).bind fun r2 =>
   bif r2 then
    grd (inb i2 d3) <|
    grd (inb k d3) <|
    (spec_HaveSameKey N d2 (at_ (0, []) d3 i2) (at_ (0, []) d3 k)).bind fun r3 =>
    bif r3 then
     grd (appOk out [k] 8) <|
     rec_ i2 d2 d3 (out ++ [k]) (w64 (k + 1))
    else
    rec_ i2 d2 d3 out (w64 (k + 1))
   else
   some out
  else
  some out
 else
 some out
def spec_BlockOf_l0 (N : Nat) : Nat → Int → (List (ByteArray × Int × Int)) → (List (Int × List Int)) → (List Int) → Int → Option (List Int)
 | 0, _, _, _, _, _ => none
 | k_ + 1, i2, d2, d3, out, k => spec_BlockOf_l0_b N (spec_BlockOf_l0 N k_) i2 d2 d3 out k
def spec_BlockOf_b (N : Nat) (spec_BlockOf_l0S : Int → (List (ByteArray × Int × Int)) → (List (Int × List Int)) → (List Int) → Int → Option (List Int)) (d : List (ByteArray × Int × Int) × List (Int × List Int)) (i : Int) : Option (List Int) :=
 spec_BlockOf_l0S i d.1 d.2 [] 0
def spec_BlockOf (N : Nat) (d : List (ByteArray × Int × Int) × List (Int × List Int)) (i : Int) : Option (List Int) := spec_BlockOf_b N (spec_BlockOf_l0 N N) d i
def spec_Blocks_l0_b (N : Nat) (rec_ : (List (ByteArray × Int × Int)) → (List (Int × List Int)) → (List (List Int)) → Int → Option (List (List Int))) (d2 : List (ByteArray × Int × Int)) (d3 : List (Int × List Int)) (out : List (List Int)) (i : Int) : Option (List (List Int)) :=
 bif decide (i < (d3.length : Int)) then
  (spec_IsValidDatabase N (d2, d3)).bind fun r =>
  bif r then
   (spec_BlockOf N (d2, d3) i).bind fun r2 =>
   grd (inb 0 r2) <|
   bif ((at_ 0 r2 0) == i) then
    grd (appOk out [r2] 24) <|
    rec_ d2 d3 (out ++ [r2]) (w64 (i + 1))
   else
   rec_ d2 d3 out (w64 (i + 1))
  else
  some out
 else
 some out
def spec_Blocks_l0 (N : Nat) : Nat → (List (ByteArray × Int × Int)) → (List (Int × List Int)) → (List (List Int)) → Int → Option (List (List Int))
 | 0, _, _, _, _ => none
 | k_ + 1, d2, d3, out, i => spec_Blocks_l0_b N (spec_Blocks_l0 N k_) d2 d3 out i
def spec_Blocks_b (N : Nat) (spec_Blocks_l0S : (List (ByteArray × Int × Int)) → (List (Int × List Int)) → (List (List Int)) → Int → Option (List (List Int))) (d : List (ByteArray × Int × Int) × List (Int × List Int)) : Option (List (List Int)) :=
 spec_Blocks_l0S d.1 d.2 [] 0
def spec_Blocks (N : Nat) (d : List (ByteArray × Int × Int) × List (Int × List Int)) : Option (List (List Int)) := spec_Blocks_b N (spec_Blocks_l0 N N) d
def spec_l7Sorted_l1_b (N : Nat) (spec_l7Sorted_l0R : (List Int) → (List Int) → Int → Option (List Int)) (rec_ : (List Int) → (List Int) → Int → Int → Option (List Int)) (l3 : List Int) (out2 : List Int) (i2 : Int) (k : Int) : Option (List Int) :=
 bif decide (k > 0) then
  grd (inb (w64 (k - 1)) out2) <|
  grd (inb i2 l3) <|
  bif decide ((at_ 0 out2 (w64 (k - 1))) > (at_ 0 l3 i2)) then rec_ l3 out2 i2 (w64 (k - 1))
  else
  grd (subOk 0 k out2.length) <|
  grd (appOk [] (out2.take k.toNat) 8) <|
  grd (inb i2 l3) <|
  grd (appOk (out2.take k.toNat) [(at_ 0 l3 i2)] 8) <|
  grd (subOk k (out2.length : Int) out2.length) <|
  grd (appOk ((out2.take k.toNat) ++ [(at_ 0 l3 i2)]) (out2.drop k.toNat) 8) <|
  spec_l7Sorted_l0R l3 (((out2.take k.toNat) ++ [(at_ 0 l3 i2)]) ++ (out2.drop k.toNat)) (w64 (i2 + 1))
 else
 grd (subOk 0 k out2.length) <|
 grd (appOk [] (out2.take k.toNat) 8) <|
 grd (inb i2 l3) <|
 grd (appOk (out2.take k.toNat) [(at_ 0 l3 i2)] 8) <|
 grd (subOk k (out2.length : Int) out2.length) <|
 grd (appOk ((out2.take k.toNat) ++ [(at_ 0 l3 i2)]) (out2.drop k.toNat) 8) <|
 spec_l7Sorted_l0R l3 (((out2.take k.toNat) ++ [(at_ 0 l3 i2)]) ++ (out2.drop k.toNat)) (w64 (i2 + 1))
def spec_l7Sorted_l1 (spec_l7Sorted_l0R : (List Int) → (List Int) → Int → Option (List Int)) (N : Nat) : Nat → (List Int) → (List Int) → Int → Int → Option (List Int)
 | 0, _, _, _, _ => none
 | k_ + 1, l3, out2, i2, k => spec_l7Sorted_l1_b N spec_l7Sorted_l0R (spec_l7Sorted_l1 spec_l7Sorted_l0R N k_) l3 out2 i2 k
def spec_l7Sorted_l0_b (N : Nat) (spec_l7Sorted_l1S : (List Int) → (List Int) → Int → Int → Option (List Int)) (rec_ : (List Int) → (List Int) → Int → Option (List Int)) (l2 : List Int) (out : List Int) (i : Int) : Option (List Int) :=
 bif decide (i < (l2.length : Int)) then spec_l7Sorted_l1S l2 out i (out.length : Int)
 else
 some out
def spec_l7Sorted_l0 (N : Nat) : Nat → (List Int) → (List Int) → Int → Option (List Int)
 | 0, _, _, _ => none
 | k_ + 1, l2, out, i => spec_l7Sorted_l0_b N (spec_l7Sorted_l1 (spec_l7Sorted_l0 N k_) N N) (spec_l7Sorted_l0 N k_) l2 out i
def spec_l7Sorted_b (N : Nat) (spec_l7Sorted_l0S : (List Int) → (List Int) → Int → Option (List Int)) (l : List Int) : Option (List Int) :=
 spec_l7Sorted_l0S l [] 0
def spec_l7Sorted (N : Nat) (l : List Int) : Option (List Int) := spec_l7Sorted_b N (spec_l7Sorted_l0 N N) l
def spec_MostLikelyRepair_l1_b (N : Nat) (spec_MostLikelyRepair_l0R : (List Int) → (List Int) → (List (List Int)) → Int → Option (List Int × Bool)) (rec_ : (List Int) → (List Int) → (List (List Int)) → Int → Int → Int → Option (List Int × Bool)) (w3 : List Int) (out2 : List Int) (b2 : List (List Int)) (i2 : Int) (best : Int) (k : Int) : Option (List Int × Bool) :=
 grd (inb i2 b2) <|
 bif decide (k < ((at_ [] b2 i2).length : Int)) then
  grd (inb i2 b2) <|
  grd (inb k (at_ [] b2 i2)) <|
  grd (inb (at_ 0 (at_ [] b2 i2) k) w3) <|
  grd (inb best w3) <|
  bif decide ((at_ 0 w3 (at_ 0 (at_ [] b2 i2) k)) > (at_ 0 w3 best)) then
   grd (inb i2 b2) <|
   grd (inb k (at_ [] b2 i2)) <|
   rec_ w3 out2 b2 i2 (at_ 0 (at_ [] b2 i2) k) (w64 (k + 1))
  else
  rec_ w3 out2 b2 i2 best (w64 (k + 1))
 else
 grd (appOk out2 [best] 8) <|
 spec_MostLikelyRepair_l0R w3 (out2 ++ [best]) b2 (w64 (i2 + 1))
def spec_MostLikelyRepair_l1 (spec_MostLikelyRepair_l0R : (List Int) → (List Int) → (List (List Int)) → Int → Option (List Int × Bool)) (N : Nat) : Nat → (List Int) → (List Int) → (List (List Int)) → Int → Int → Int → Option (List Int × Bool)
 | 0, _, _, _, _, _, _ => none
 | k_ + 1, w3, out2, b2, i2, best, k => spec_MostLikelyRepair_l1_b N spec_MostLikelyRepair_l0R (spec_MostLikelyRepair_l1 spec_MostLikelyRepair_l0R N k_) w3 out2 b2 i2 best k
def spec_MostLikelyRepair_l0_b (N : Nat) (spec_MostLikelyRepair_l1S : (List Int) → (List Int) → (List (List Int)) → Int → Int → Int → Option (List Int × Bool)) (rec_ : (List Int) → (List Int) → (List (List Int)) → Int → Option (List Int × Bool)) (w2 : List Int) (out : List Int) (b : List (List Int)) (i : Int) : Option (List Int × Bool) :=
 bif decide (i < (b.length : Int)) then
  grd (inb i b) <|
  grd (inb 0 (at_ [] b i)) <|
  spec_MostLikelyRepair_l1S w2 out b i (at_ 0 (at_ [] b i) 0) 1
 else
 (spec_l7Sorted N out).bind fun r3 =>
 some (r3, true)
def spec_MostLikelyRepair_l0 (N : Nat) : Nat → (List Int) → (List Int) → (List (List Int)) → Int → Option (List Int × Bool)
 | 0, _, _, _, _ => none
 | k_ + 1, w2, out, b, i => spec_MostLikelyRepair_l0_b N (spec_MostLikelyRepair_l1 (spec_MostLikelyRepair_l0 N k_) N N) (spec_MostLikelyRepair_l0 N k_) w2 out b i
def spec_MostLikelyRepair_b (N : Nat) (spec_MostLikelyRepair_l0S : (List Int) → (List Int) → (List (List Int)) → Int → Option (List Int × Bool)) (d : List (ByteArray × Int × Int) × List (Int × List Int)) (w : List Int) : Option (List Int × Bool) :=
 (spec_AreValidWeights N d w).bind fun r =>
 bif (!r) then some ([], false)
 else
 (spec_Blocks N d).bind fun r2 =>
 spec_MostLikelyRepair_l0S w [] r2 0
def spec_MostLikelyRepair (N : Nat) (d : List (ByteArray × Int × Int) × List (Int × List Int)) (w : List Int) : Option (List Int × Bool) := spec_MostLikelyRepair_b N (spec_MostLikelyRepair_l0 N N) d w
def spec_l5Repair_l1_b (N : Nat) (rec_ : (List Int) → Int → Int → (List Bool) → (List Int) → Int → Option ((List Int × Int × Int) × List Int)) (c5 : List Int) (c6 : Int) (c7 : Int) (keep2 : List Bool) (out : List Int) (i2 : Int) : Option ((List Int × Int × Int) × List Int) :=
 bif decide (i2 < (keep2.length : Int)) then
  grd (inb i2 keep2) <|
  bif (at_ false keep2 i2) then
   grd (appOk out [i2] 8) <|
   rec_ c5 c6 c7 keep2 (out ++ [i2]) (w64 (i2 + 1))
  else
  rec_ c5 c6 c7 keep2 out (w64 (i2 + 1))
 else
 some ((c5, c6, c7), out)
def spec_l5Repair_l1 (N : Nat) : Nat → (List Int) → Int → Int → (List Bool) → (List Int) → Int → Option ((List Int × Int × Int) × List Int)
 | 0, _, _, _, _, _, _ => none
 | k_ + 1, c5, c6, c7, keep2, out, i2 => spec_l5Repair_l1_b N (spec_l5Repair_l1 N k_) c5 c6 c7 keep2 out i2
def spec_l5Repair_l0_b (N : Nat) (spec_l5Repair_l1S : (List Int) → Int → Int → (List Bool) → (List Int) → Int → Option ((List Int × Int × Int) × List Int)) (rec_ : (List Int) → Int → Int → (List (List Int)) → (List Bool) → Int → Option ((List Int × Int × Int) × List Int)) (c2 : List Int) (c3 : Int) (c4 : Int) (l : List (List Int)) (keep : List Bool) (i : Int) : Option ((List Int × Int × Int) × List Int) :=
 bif decide (i < (l.length : Int)) then
  grd (inb i l) <|
  grd (inb i l) <|
  (spec_l1Below N (c2, c3, c4) ((at_ [] l i).length : Int)).bind fun p_m =>
  grd (inb p_m.2 (at_ [] l i)) <|
  grd (inb (at_ 0 (at_ [] l i) p_m.2) keep) <|
  grd (inb (at_ 0 (at_ [] l i) p_m.2) keep) <|
  letv (keep.set (at_ 0 (at_ [] l i) p_m.2).toNat true) fun u =>
  rec_ c2 p_m.1.2.1 p_m.1.2.2 l u (w64 (i + 1))
 else
 spec_l5Repair_l1S c2 c3 c4 keep [] 0
def spec_l5Repair_l0 (N : Nat) : Nat → (List Int) → Int → Int → (List (List Int)) → (List Bool) → Int → Option ((List Int × Int × Int) × List Int)
 | 0, _, _, _, _, _, _ => none
 | k_ + 1, c2, c3, c4, l, keep, i => spec_l5Repair_l0_b N (spec_l5Repair_l1 N N) (spec_l5Repair_l0 N k_) c2 c3 c4 l keep i
def spec_l5Repair_b (N : Nat) (spec_l5Repair_l0S : (List Int) → Int → Int → (List (List Int)) → (List Bool) → Int → Option ((List Int × Int × Int) × List Int)) (c : List Int × Int × Int) (d : List (ByteArray × Int × Int) × List (Int × List Int)) : Option ((List Int × Int × Int) × List Int) :=
 (spec_Blocks N d).bind fun r =>
 grd (makeOk (d.2.length : Int) 1) <|
 spec_l5Repair_l0S c.1 c.2.1 c.2.2 r (List.replicate (d.2.length : Int).toNat false) 0
def spec_l5Repair (N : Nat) (c : List Int × Int × Int) (d : List (ByteArray × Int × Int) × List (Int × List Int)) : Option ((List Int × Int × Int) × List Int) := spec_l5Repair_b N (spec_l5Repair_l0 N N) c d
def spec_l4Places_l0_b (N : Nat) (rec_ : (List Int) → Int → Int → (List (ByteArray × Int × Int)) → (List (Int × List Int)) → (List Int) → Int → Option ((List Int × Int × Int) × List Int)) (c2 : List Int) (c3 : Int) (c4 : Int) (d2 : List (ByteArray × Int × Int)) (d3 : List (Int × List Int)) (l : List Int) (i : Int) : Option ((List Int × Int × Int) × List Int) :=
 bif decide (i < (d3.length : Int)) then
  (spec_l1Once N (c2, c3, c4) 2).bind fun p_m =>
  bif p_m.2 then
   grd (appOk l [i] 8) <|
   rec_ c2 p_m.1.2.1 p_m.1.2.2 d2 d3 (l ++ [i]) (w64 (i + 1))
  else
  rec_ c2 p_m.1.2.1 p_m.1.2.2 d2 d3 l (w64 (i + 1))
 else
 bif decide ((l.length : Int) > 0) then
  (spec_l1Once N (c2, c3, c4) 12).bind fun p_m2 =>
  bif p_m2.2 then
   (spec_l1PickInt N (c2, p_m2.1.2) [(-1), (d3.length : Int), 3]).bind fun p_m3 =>
   grd (inb 0 l) <|
   grd (inb 0 l) <|
   letv (l.set 0 p_m3.2) fun u =>
   some ((c2, p_m3.1.2), u)
  else
  some ((c2, p_m2.1.2), l)
 else
 some ((c2, c3, c4), l)
def spec_l4Places_l0 (N : Nat) : Nat → (List Int) → Int → Int → (List (ByteArray × Int × Int)) → (List (Int × List Int)) → (List Int) → Int → Option ((List Int × Int × Int) × List Int)
 | 0, _, _, _, _, _, _, _ => none
 | k_ + 1, c2, c3, c4, d2, d3, l, i => spec_l4Places_l0_b N (spec_l4Places_l0 N k_) c2 c3 c4 d2 d3 l i
def spec_l4Places_b (N : Nat) (spec_l4Places_l0S : (List Int) → Int → Int → (List (ByteArray × Int × Int)) → (List (Int × List Int)) → (List Int) → Int → Option ((List Int × Int × Int) × List Int)) (c : List Int × Int × Int) (d : List (ByteArray × Int × Int) × List (Int × List Int)) : Option ((List Int × Int × Int) × List Int) :=
 spec_l4Places_l0S c.1 c.2.1 c.2.2 d.1 d.2 [] 0
def spec_l4Places (N : Nat) (c : List Int × Int × Int) (d : List (ByteArray × Int × Int) × List (Int × List Int)) : Option ((List Int × Int × Int) × List Int) := spec_l4Places_b N (spec_l4Places_l0 N N) c d
def spec_DrawRepairWeight (N : Nat) (code : List Int) : Option ((List (ByteArray × Int × Int) × List (Int × List Int)) × List Int × List Int) :=
 (spec_l1New N code).bind fun r =>
 (spec_l4Any N r).bind fun p_m =>
 (spec_l37Weights N (r.1, p_m.1.2) p_m.2).bind fun p_m2 =>
 (spec_l1Once N (r.1, p_m2.1.2) 2).bind fun p_m3 =>
 bif p_m3.2 then
  (spec_l5Repair N (r.1, p_m3.1.2) p_m.2).bind fun p_m4 =>
  some (p_m.2, p_m2.2, p_m4.2)
 else
 (spec_l4Places N (r.1, p_m3.1.2) p_m.2).bind fun p_m5 =>
 some (p_m.2, p_m2.2, p_m5.2)
def laws_sameInts_l0_b (N : Nat) (rec_ : (List Int) → (List Int) → Int → Option (Bool)) (a2 : List Int) (b2 : List Int) (i : Int) : Option (Bool) :=
 bif decide (i < (a2.length : Int)) then
  grd (inb i a2) <|
  grd (inb i b2) <|
  bif ((at_ 0 a2 i) != (at_ 0 b2 i)) then some false
  else
  rec_ a2 b2 (w64 (i + 1))
 else
 some true
def laws_sameInts_l0 (N : Nat) : Nat → (List Int) → (List Int) → Int → Option (Bool)
 | 0, _, _, _ => none
 | k_ + 1, a2, b2, i => laws_sameInts_l0_b N (laws_sameInts_l0 N k_) a2 b2 i
def laws_sameInts_b (N : Nat) (laws_sameInts_l0S : (List Int) → (List Int) → Int → Option (Bool)) (a : List Int) (b : List Int) : Option (Bool) :=
 bif ((a.length : Int) != (b.length : Int)) then some false
 else
 laws_sameInts_l0S a b 0
def laws_sameInts (N : Nat) (a : List Int) (b : List Int) : Option (Bool) := laws_sameInts_b N (laws_sameInts_l0 N N) a b
def impl_areIndices_l0_b (N : Nat) (rec_ : (List Int) → Int → (List Int) → Int → Int → Option (Bool)) (indices2 : List Int) (n2 : Int) (t7 : List Int) (t8 : Int) (t9 : Int) : Option (Bool) :=
 bif decide (t9 < t8) then
  grd (inb t9 t7) <|
  (impl_within N (at_ 0 t7 t9) 0 (w64 (n2 - 1))).bind fun r =>
  bif (!r) then some false
  else
  bif decide (t9 > 0) then
   grd (inb (w64 (t9 - 1)) indices2) <|
   bif decide ((at_ 0 indices2 (w64 (t9 - 1))) ≥ (at_ 0 t7 t9)) then some false
   else
   rec_ indices2 n2 t7 t8 (w64 (t9 + 1))
  else
  rec_ indices2 n2 t7 t8 (w64 (t9 + 1))
 else
 some true
def impl_areIndices_l0 (N : Nat) : Nat → (List Int) → Int → (List Int) → Int → Int → Option (Bool)
 | 0, _, _, _, _, _ => none
 | k_ + 1, indices2, n2, t7, t8, t9 => impl_areIndices_l0_b N (impl_areIndices_l0 N k_) indices2 n2 t7 t8 t9
def impl_areIndices_b (N : Nat) (impl_areIndices_l0S : (List Int) → Int → (List Int) → Int → Int → Option (Bool)) (indices : List Int) (n : Int) : Option (Bool) :=
 impl_areIndices_l0S indices n indices (indices.length : Int) 0
def impl_areIndices (N : Nat) (indices : List Int) (n : Int) : Option (Bool) := impl_areIndices_b N (impl_areIndices_l0 N N) indices n
def impl_weightOf_l0_b (N : Nat) (rec_ : (List Int) → Int → (List Int) → Int → Int → Option (Int)) (weights2 : List Int) (out : Int) (t8 : List Int) (t9 : Int) (t10 : Int) : Option (Int) :=
 bif decide (t10 < t9) then
  grd (inb t10 t8) <|
  grd (inb (at_ 0 t8 t10) weights2) <|
  rec_ weights2 (w64 (out * (at_ 0 weights2 (at_ 0 t8 t10)))) t8 t9 (w64 (t10 + 1))
 else
 some out
def impl_weightOf_l0 (N : Nat) : Nat → (List Int) → Int → (List Int) → Int → Int → Option (Int)
 | 0, _, _, _, _, _ => none
 | k_ + 1, weights2, out, t8, t9, t10 => impl_weightOf_l0_b N (impl_weightOf_l0 N k_) weights2 out t8 t9 t10
def impl_weightOf_b (N : Nat) (impl_weightOf_l0S : (List Int) → Int → (List Int) → Int → Int → Option (Int)) (weights : List Int) (indices : List Int) : Option (Int) :=
 impl_weightOf_l0S weights 1 indices (indices.length : Int) 0
def impl_weightOf (N : Nat) (weights : List Int) (indices : List Int) : Option (Int) := impl_weightOf_b N (impl_weightOf_l0 N N) weights indices
def impl_RepairWeight (N : Nat) (db : List (ByteArray × Int × Int) × List (Int × List Int)) (weights : List Int) (indices : List Int) : Option (Int) :=
 (impl_AreValidWeights N db weights).bind fun r =>
 bif (!r) then some 0
 else
 (impl_areIndices N indices (db.2.length : Int)).bind fun r2 =>
 bif (!r2) then some 0
 else
 (impl_weightOf N weights indices).bind fun r3 =>
 some r3
def spec_l4Set_l0_b (N : Nat) (rec_ : (List Int) → (List (ByteArray × Int × Int)) → (List (Int × List Int)) → Int → Option (Bool)) (l2 : List Int) (d2 : List (ByteArray × Int × Int)) (d3 : List (Int × List Int)) (i : Int) : Option (Bool) :=
 bif decide (i < (l2.length : Int)) then
  grd (inb i l2) <|
  (spec_l1In N (at_ 0 l2 i) 0 (w64 ((d3.length : Int) - 1))).bind fun r =>
  bif (!r) then some false
  else
  bif decide (i > 0) then
   grd (inb i l2) <|
   grd (inb (w64 (i - 1)) l2) <|
   bif decide ((at_ 0 l2 i) ≤ (at_ 0 l2 (w64 (i - 1)))) then some false
   else
   rec_ l2 d2 d3 (w64 (i + 1))
  else
  rec_ l2 d2 d3 (w64 (i + 1))
 else
 some true
def spec_l4Set_l0 (N : Nat) : Nat → (List Int) → (List (ByteArray × Int × Int)) → (List (Int × List Int)) → Int → Option (Bool)
 | 0, _, _, _, _ => none
 | k_ + 1, l2, d2, d3, i => spec_l4Set_l0_b N (spec_l4Set_l0 N k_) l2 d2 d3 i
def spec_l4Set_b (N : Nat) (spec_l4Set_l0S : (List Int) → (List (ByteArray × Int × Int)) → (List (Int × List Int)) → Int → Option (Bool)) (d : List (ByteArray × Int × Int) × List (Int × List Int)) (l : List Int) : Option (Bool) :=
 spec_l4Set_l0S l d.1 d.2 0
def spec_l4Set (N : Nat) (d : List (ByteArray × Int × Int) × List (Int × List Int)) (l : List Int) : Option (Bool) := spec_l4Set_b N (spec_l4Set_l0 N N) d l
def spec_RepairWeight_l0_b (N : Nat) (rec_ : (List Int) → (List Int) → Int → Int → Option (Int)) (w2 : List Int) (l2 : List Int) (n : Int) (i : Int) : Option (Int) :=
 bif decide (i < (l2.length : Int)) then
  grd (inb i l2) <|
  grd (inb (at_ 0 l2 i) w2) <|
  rec_ w2 l2 (w64 (n * (at_ 0 w2 (at_ 0 l2 i)))) (w64 (i + 1))
 else
 some n
def spec_RepairWeight_l0 (N : Nat) : Nat → (List Int) → (List Int) → Int → Int → Option (Int)
 | 0, _, _, _, _ => none
 | k_ + 1, w2, l2, n, i => spec_RepairWeight_l0_b N (spec_RepairWeight_l0 N k_) w2 l2 n i
def spec_RepairWeight_b (N : Nat) (spec_RepairWeight_l0S : (List Int) → (List Int) → Int → Int → Option (Int)) (d : List (ByteArray × Int × Int) × List (Int × List Int)) (w : List Int) (l : List Int) : Option (Int) :=
 (spec_AreValidWeights N d w).bind fun r =>
 bif (!r) then some 0
 else
 (spec_l4Set N d l).bind fun r2 =>
 bif (!r2) then some 0
 else
 spec_RepairWeight_l0S w l 1 0
def spec_RepairWeight (N : Nat) (d : List (ByteArray × Int × Int) × List (Int × List Int)) (w : List Int) (l : List Int) : Option (Int) := spec_RepairWeight_b N (spec_RepairWeight_l0 N N) d w l
def impl_TotalWeight_l1_b (N : Nat) (impl_TotalWeight_l0R : (List Int) → Int → (List (List Int)) → Int → Int → Option (Int)) (rec_ : (List Int) → Int → Int → (List (List Int)) → Int → Int → Int → (List Int) → Int → Int → Option (Int)) (weights3 : List Int) (out2 : Int) (sum : Int) (t162 : List (List Int)) (t172 : Int) (t182 : Int) (t22i : Int) (t22 : List Int) (t23 : Int) (t24 : Int) : Option (Int) :=
 bif decide (t24 < t23) then
  grd (inb t24 t22) <|
  grd (inb (at_ 0 t22 t24) weights3) <|
  rec_ weights3 out2 (w64 (sum + (at_ 0 weights3 (at_ 0 t22 t24)))) t162 t172 t182 t22i t22 t23 (w64 (t24 + 1))
 else
 impl_TotalWeight_l0R weights3 (w64 (out2 * sum)) t162 t172 (w64 (t182 + 1))
def impl_TotalWeight_l1 (impl_TotalWeight_l0R : (List Int) → Int → (List (List Int)) → Int → Int → Option (Int)) (N : Nat) : Nat → (List Int) → Int → Int → (List (List Int)) → Int → Int → Int → (List Int) → Int → Int → Option (Int)
 | 0, _, _, _, _, _, _, _, _, _, _ => none
 | k_ + 1, weights3, out2, sum, t162, t172, t182, t22i, t22, t23, t24 => impl_TotalWeight_l1_b N impl_TotalWeight_l0R (impl_TotalWeight_l1 impl_TotalWeight_l0R N k_) weights3 out2 sum t162 t172 t182 t22i t22 t23 t24
def impl_TotalWeight_l0_b (N : Nat) (impl_TotalWeight_l1S : (List Int) → Int → Int → (List (List Int)) → Int → Int → Int → (List Int) → Int → Int → Option (Int)) (rec_ : (List Int) → Int → (List (List Int)) → Int → Int → Option (Int)) (weights2 : List Int) (out : Int) (t16 : List (List Int)) (t17 : Int) (t18 : Int) : Option (Int) :=
 bif decide (t18 < t17) then
  grd (inb t18 t16) <|
  impl_TotalWeight_l1S weights2 out 0 t16 t17 t18 t18 (at_ [] t16 t18) ((at_ [] t16 t18).length : Int) 0
 else
 some out
def impl_TotalWeight_l0 (N : Nat) : Nat → (List Int) → Int → (List (List Int)) → Int → Int → Option (Int)
 | 0, _, _, _, _, _ => none
 | k_ + 1, weights2, out, t16, t17, t18 => impl_TotalWeight_l0_b N (impl_TotalWeight_l1 (impl_TotalWeight_l0 N k_) N N) (impl_TotalWeight_l0 N k_) weights2 out t16 t17 t18
def impl_TotalWeight_b (N : Nat) (impl_TotalWeight_l0S : (List Int) → Int → (List (List Int)) → Int → Int → Option (Int)) (db : List (ByteArray × Int × Int) × List (Int × List Int)) (weights : List Int) : Option (Int) :=
 (impl_AreValidWeights N db weights).bind fun r =>
 bif (!r) then some 0
 else
 (impl_blocks N db).bind fun r2 =>
 impl_TotalWeight_l0S weights 1 r2 (r2.length : Int) 0
def impl_TotalWeight (N : Nat) (db : List (ByteArray × Int × Int) × List (Int × List Int)) (weights : List Int) : Option (Int) := impl_TotalWeight_b N (impl_TotalWeight_l0 N N) db weights
def spec_BlockSizes_l0_b (N : Nat) (rec_ : (List Int) → (List (List Int)) → Int → Option (List Int)) (out : List Int) (l : List (List Int)) (i : Int) : Option (List Int) :=
 bif decide (i < (l.length : Int)) then
  grd (inb i l) <|
  grd (appOk out [((at_ [] l i).length : Int)] 8) <|
  rec_ (out ++ [((at_ [] l i).length : Int)]) l (w64 (i + 1))
 else
 some out
def spec_BlockSizes_l0 (N : Nat) : Nat → (List Int) → (List (List Int)) → Int → Option (List Int)
 | 0, _, _, _ => none
 | k_ + 1, out, l, i => spec_BlockSizes_l0_b N (spec_BlockSizes_l0 N k_) out l i
def spec_BlockSizes_b (N : Nat) (spec_BlockSizes_l0S : (List Int) → (List (List Int)) → Int → Option (List Int)) (d : List (ByteArray × Int × Int) × List (Int × List Int)) : Option (List Int) :=
 (spec_Blocks N d).bind fun r =>
 spec_BlockSizes_l0S [] r 0
def spec_BlockSizes (N : Nat) (d : List (ByteArray × Int × Int) × List (Int × List Int)) : Option (List Int) := spec_BlockSizes_b N (spec_BlockSizes_l0 N N) d
def spec_CountRepairs_l0_b (N : Nat) (rec_ : Int → (List Int) → Int → Option (Int)) (n : Int) (l : List Int) (i : Int) : Option (Int) :=
 bif decide (i < (l.length : Int)) then
  grd (inb i l) <|
  rec_ (w64 (n * (at_ 0 l i))) l (w64 (i + 1))
 else
 some n
def spec_CountRepairs_l0 (N : Nat) : Nat → Int → (List Int) → Int → Option (Int)
 | 0, _, _, _ => none
 | k_ + 1, n, l, i => spec_CountRepairs_l0_b N (spec_CountRepairs_l0 N k_) n l i
def spec_CountRepairs_b (N : Nat) (spec_CountRepairs_l0S : Int → (List Int) → Int → Option (Int)) (d : List (ByteArray × Int × Int) × List (Int × List Int)) : Option (Int) :=
 (spec_IsValidDatabase N d).bind fun r =>
 bif (!r) then some 0
 else
 (spec_BlockSizes N d).bind fun r2 =>
 spec_CountRepairs_l0S 1 r2 0
def spec_CountRepairs (N : Nat) (d : List (ByteArray × Int × Int) × List (Int × List Int)) : Option (Int) := spec_CountRepairs_b N (spec_CountRepairs_l0 N N) d
def spec_NthRepair_l0_b (N : Nat) (rec_ : Int → (List (List Int)) → (List Int) → Int → Option (List Int × Bool)) (k2 : Int) (b : List (List Int)) (out : List Int) (i : Int) : Option (List Int × Bool) :=
 bif decide (i ≥ 0) then
  grd (inb i b) <|
  grd (inb i b) <|
  grz ((at_ [] b i).length : Int) <|
  grd (inb (k2.tmod ((at_ [] b i).length : Int)) (at_ [] b i)) <|
  grd (appOk out [(at_ 0 (at_ [] b i) (k2.tmod ((at_ [] b i).length : Int)))] 8) <|
  grd (inb i b) <|
  grz ((at_ [] b i).length : Int) <|
  rec_ (w64 (k2.tdiv ((at_ [] b i).length : Int))) b (out ++ [(at_ 0 (at_ [] b i) (k2.tmod ((at_ [] b i).length : Int)))]) (w64 (i - 1))
 else
 (spec_l7Sorted N out).bind fun r4 =>
 some (r4, true)
def spec_NthRepair_l0 (N : Nat) : Nat → Int → (List (List Int)) → (List Int) → Int → Option (List Int × Bool)
 | 0, _, _, _, _ => none
 | k_ + 1, k2, b, out, i => spec_NthRepair_l0_b N (spec_NthRepair_l0 N k_) k2 b out i
def spec_NthRepair_b (N : Nat) (spec_NthRepair_l0S : Int → (List (List Int)) → (List Int) → Int → Option (List Int × Bool)) (d : List (ByteArray × Int × Int) × List (Int × List Int)) (k : Int) : Option (List Int × Bool) :=
 (spec_CountRepairs N d).bind fun r =>
 (spec_l1In N k 0 (w64 (r - 1))).bind fun r2 =>
 bif (!r2) then some ([], false)
 else
 (spec_Blocks N d).bind fun r3 =>
 spec_NthRepair_l0S k r3 [] (w64 ((r3.length : Int) - 1))
def spec_NthRepair (N : Nat) (d : List (ByteArray × Int × Int) × List (Int × List Int)) (k : Int) : Option (List Int × Bool) := spec_NthRepair_b N (spec_NthRepair_l0 N N) d k
def spec_SelectFacts_l0_b (N : Nat) (rec_ : (List Int) → (List (ByteArray × Int × Int)) → (List (Int × List Int)) → (List (ByteArray × Int × Int)) → (List (Int × List Int)) → (List (ByteArray × Int × Int)) → (List (Int × List Int)) → Int → Option ((List (ByteArray × Int × Int) × List (Int × List Int)) × Bool)) (l2 : List Int) (d2 : List (ByteArray × Int × Int)) (d3 : List (Int × List Int)) (t4 : List (ByteArray × Int × Int)) (t42 : List (Int × List Int)) (x : List (ByteArray × Int × Int)) (x2 : List (Int × List Int)) (i : Int) : Option ((List (ByteArray × Int × Int) × List (Int × List Int)) × Bool) :=
 bif decide (i < (l2.length : Int)) then
  grd (inb i l2) <|
  grd (inb (at_ 0 l2 i) d3) <|
  grd (appOk [] ((at_ (0, []) d3 (at_ 0 l2 i)).2) 8) <|
  grd (appOk x2 [(at_ (0, []) d3 (at_ 0 l2 i))] 32) <|
  rec_ l2 d2 d3 t4 t42 x (x2 ++ [(at_ (0, []) d3 (at_ 0 l2 i))]) (w64 (i + 1))
 else
 some ((x, x2), true)
def spec_SelectFacts_l0 (N : Nat) : Nat → (List Int) → (List (ByteArray × Int × Int)) → (List (Int × List Int)) → (List (ByteArray × Int × Int)) → (List (Int × List Int)) → (List (ByteArray × Int × Int)) → (List (Int × List Int)) → Int → Option ((List (ByteArray × Int × Int) × List (Int × List Int)) × Bool)
 | 0, _, _, _, _, _, _, _, _ => none
 | k_ + 1, l2, d2, d3, t4, t42, x, x2, i => spec_SelectFacts_l0_b N (spec_SelectFacts_l0 N k_) l2 d2 d3 t4 t42 x x2 i
def spec_SelectFacts_b (N : Nat) (spec_SelectFacts_l0S : (List Int) → (List (ByteArray × Int × Int)) → (List (Int × List Int)) → (List (ByteArray × Int × Int)) → (List (Int × List Int)) → (List (ByteArray × Int × Int)) → (List (Int × List Int)) → Int → Option ((List (ByteArray × Int × Int) × List (Int × List Int)) × Bool)) (d : List (ByteArray × Int × Int) × List (Int × List Int)) (l : List Int) : Option ((List (ByteArray × Int × Int) × List (Int × List Int)) × Bool) :=
 (spec_IsValidDatabase N d).bind fun r =>
 bif (!r) then some (([], []), false)
 else
 (spec_l4Set N d l).bind fun r2 =>
 bif (!r2) then some (([], []), false)
 else
 grd (appOk [] d.1 32) <|
 spec_SelectFacts_l0S l d.1 d.2 [] [] d.1 [] 0
def spec_SelectFacts (N : Nat) (d : List (ByteArray × Int × Int) × List (Int × List Int)) (l : List Int) : Option ((List (ByteArray × Int × Int) × List (Int × List Int)) × Bool) := spec_SelectFacts_b N (spec_SelectFacts_l0 N N) d l
def spec_IsConsistent (N : Nat) (d : List (ByteArray × Int × Int) × List (Int × List Int)) : Option (Bool) :=
 (spec_IsValidDatabase N d).bind fun r =>
 bif r then
  (spec_Blocks N d).bind fun r2 =>
  some ((r2.length : Int) == (d.2.length : Int))
 else
 some false
def spec_IsPartialRepair (N : Nat) (d : List (ByteArray × Int × Int) × List (Int × List Int)) (l : List Int) : Option (Bool) :=
 (spec_SelectFacts N d l).bind fun p_r =>
 bif p_r.2 then
  (spec_IsConsistent N p_r.1).bind fun r3 =>
  some r3
 else
 some false
def spec_IsRepair (N : Nat) (d : List (ByteArray × Int × Int) × List (Int × List Int)) (l : List Int) : Option (Bool) :=
 (spec_IsPartialRepair N d l).bind fun r =>
 bif r then
  (spec_Blocks N d).bind fun r2 =>
  some ((l.length : Int) == (r2.length : Int))
 else
 some false
def laws_FnMostLikelyRepair_l0_b (N : Nat) (rec_ : (List (ByteArray × Int × Int)) → (List (Int × List Int)) → (List Int) → (List Int) → Int → Int → Option (Bool)) (d : List (ByteArray × Int × Int)) (d2 : List (Int × List Int)) (w : List Int) (r17 : List Int) (n : Int) (k : Int) : Option (Bool) :=
 (spec_CountRepairs N (d, d2)).bind fun r18 =>
 bif decide (k < r18) then
  (spec_NthRepair N (d, d2) k).bind fun p_r19 =>
  (impl_RepairWeight N (d, d2) w p_r19.1).bind fun r21 =>
  (impl_RepairWeight N (d, d2) w r17).bind fun r22 =>
  bif decide (r21 > r22) then some false
  else
  rec_ d d2 w r17 (w64 (n + r21)) (w64 (k + 1))
 else
 (impl_TotalWeight N (d, d2) w).bind fun r23 =>
 bif (n == r23) then
  (spec_IsRepair N (d, d2) r17).bind fun r24 =>
  some r24
 else
 some false
def laws_FnMostLikelyRepair_l0 (N : Nat) : Nat → (List (ByteArray × Int × Int)) → (List (Int × List Int)) → (List Int) → (List Int) → Int → Int → Option (Bool)
 | 0, _, _, _, _, _, _ => none
 | k_ + 1, d, d2, w, r17, n, k => laws_FnMostLikelyRepair_l0_b N (laws_FnMostLikelyRepair_l0 N k_) d d2 w r17 n k
def laws_FnMostLikelyRepair_b (N : Nat) (laws_FnMostLikelyRepair_l0S : (List (ByteArray × Int × Int)) → (List (Int × List Int)) → (List Int) → (List Int) → Int → Int → Option (Bool)) (code : List Int) : Option (Bool) :=
 (laws_big N code).bind fun r =>
 bif r then some true
 else
 (spec_DrawMostLikelyRepair N code).bind fun p_r2 =>
 (impl_MostLikelyRepair N p_r2.1 p_r2.2).bind fun p_r4 =>
 (spec_MostLikelyRepair N p_r2.1 p_r2.2).bind fun p_r6 =>
 (spec_DrawRepairWeight N code).bind fun p_r8 =>
 bif (!(p_r4.2 == p_r6.2)) then some false
 else
 (laws_sameInts N p_r4.1 p_r6.1).bind fun r11 =>
 bif (!r11) then some false
 else
 (impl_AreValidWeights N p_r2.1 p_r2.2).bind fun r12 =>
 (spec_AreValidWeights N p_r2.1 p_r2.2).bind fun r13 =>
 bif (!(r12 == r13)) then some false
 else
 (impl_RepairWeight N p_r8.1 p_r8.2.1 p_r8.2.2).bind fun r14 =>
 (spec_RepairWeight N p_r8.1 p_r8.2.1 p_r8.2.2).bind fun r15 =>
 bif (r14 != r15) then some false
 else
 bif (!p_r4.2) then
  (impl_TotalWeight N p_r2.1 p_r2.2).bind fun r16 =>
  some (r16 == 0)
 else
 laws_FnMostLikelyRepair_l0S p_r2.1.1 p_r2.1.2 p_r2.2 p_r4.1 0 0
def laws_FnMostLikelyRepair (N : Nat) (code : List Int) : Option (Bool) := laws_FnMostLikelyRepair_b N (laws_FnMostLikelyRepair_l0 N N) code
end Go.PL

/- The plain law, with all that it needs. Conditions: those that stand in each theorem. -/
namespace Go.PL
set_option linter.unusedVariables false
theorem w64_id {x : Int} (h1 : -9223372036854775808 ≤ x) (h2 : x ≤ 9223372036854775807) : w64 x = x := by
 unfold w64 IntKind.wrap
 simp [IntKind.bits, IntKind.signed]
 omega
theorem w64_succ {j : Nat} (h : j < 4611686018427387904) : w64 ((j : Int) + 1) = ((j + 1 : Nat) : Int) := by
 rw [w64_id (by omega) (by omega)]; omega
@[simp] theorem grd_true {α : Type} (x : Option α) : grd true x = x := rfl
@[simp] theorem grd_false {α : Type} (x : Option α) : grd false x = none := rfl
theorem grz_ne {α : Type} {b : Int} (h : b ≠ 0) (x : Option α) : grz b x = x := by simp [grz, h]
@[simp] theorem letv_eq {α β : Type} (v : α) (k : α → β) : letv v k = k v := rfl
theorem inb_nat {α : Type} (j : Nat) (xs : List α) : inb (j : Int) xs = decide (j < xs.length) := by
 simp [inb]
theorem inb_lt {α : Type} {j : Nat} {xs : List α} (h : j < xs.length) : inb (j : Int) xs = true := by simp [inb_nat, h]
theorem at_lt {α : Type} {d : α} {j : Nat} {xs : List α} (h : j < xs.length) : at_ d xs (j : Int) = xs[j] := by simp [at_, h]
theorem makeOk_lt {n : Nat} {b : Nat} (h : n * b ≤ 140737488355328) : makeOk (n : Int) b = true := by
 have h1 : (n : Int) * (b : Int) ≤ 140737488355328 := by rw [← Int.natCast_mul]; omega
 have h2 : (0 : Int) ≤ n := by omega
 simp only [makeOk, h1, h2, decide_true, Bool.and_self]

theorem bneI (a b : Int) : (a != b) = !decide (a = b) := by by_cases h : a = b <;> simp [h]
theorem beqI (a b : Int) : (a == b) = decide (a = b) := by by_cases h : a = b <;> simp [h]
theorem ite_dec {p : Prop} [Decidable p] {α : Type} (x y : Option α) : (bif !decide p then x else y) = if decide p then y else x := by by_cases h : p <;> simp [h]

/-- A loop: what holds at each round's start, and what goes down; what comes out. -/
theorem loop {σ R : Type} (f : Nat → σ → Option R) (I : σ → Prop) (μ : σ → Nat) (Q : Option R → Prop) (hstep : ∀ k s, I s → Q (f (k + 1) s) ∨ ∃ s', I s' ∧ μ s' < μ s ∧ f (k + 1) s = f k s') : ∀ (k : Nat) (s : σ), μ s < k → I s → Q (f k s)
 | 0, s, hk, hs => by omega
 | k + 1, s, hk, hs => by
  rcases hstep k s hs with h | ⟨s', h1, h2, h3⟩
  ·exact h
  ·rw [h3]
   exact loop f I μ Q hstep k s' (by omega) h1

/-- A loop that asks something of each index. -/
theorem every {n : Nat} (p : Nat → Bool) (f : Nat → Int → Option Bool) (hend : ∀ k, f (k + 1) (n : Int) = some true) (hstep : ∀ k j, j < n → f (k + 1) (j : Int) = if p j then f k ((j + 1 : Nat) : Int) else some false) {k : Nat} (hk : n < k) : f k 0 = some (decide (∀ j, j < n → p j = true)) := by
 have := loop (fun k (j : Nat) => f k (j : Int)) (fun j => j ≤ n ∧ ∀ i, i < j → p i = true) (fun j => n - j) (fun o => o = some (decide (∀ j, j < n → p j = true))) (fun k j hs => by
  obtain ⟨h1, h2⟩ := hs
  by_cases hj : j < n
  ·rw [hstep k j hj]
   cases hp : p j with
   | true =>
    right
    exact ⟨j + 1, ⟨hj, fun i hi => by rcases Nat.lt_or_eq_of_le (Nat.le_of_lt_succ hi) with h | h; exact h2 i h; rw [h]; exact hp⟩, by omega, by simp⟩
   | false =>
    left
    have : ¬ ∀ j, j < n → p j = true := fun h => by have := h j hj; rw [hp] at this; simp at this
    simp [this]
  ·left
   have : j = n := by omega
   subst this
   rw [hend]
   simp only [Option.some.injEq]
   symm
   simpa using h2) k 0 (by simpa using hk) ⟨by omega, by omega⟩
 exact this
/-- A loop that asks something of each index, and says e behind it. -/
theorem everyE {R : Type} {n : Nat} (p : Nat → Bool) (no e : Option R) (f : Nat → Int → Option R) (hend : ∀ k, f (k + 1) (n : Int) = e) (hstep : ∀ k j, j < n → f (k + 1) (j : Int) = if p j then f k ((j + 1 : Nat) : Int) else no) {k : Nat} (hk : n < k) : f k 0 = if ∀ j, j < n → p j = true then e else no := by
 have := loop (fun k (j : Nat) => f k (j : Int)) (fun j => j ≤ n ∧ ∀ i, i < j → p i = true) (fun j => n - j) (fun o => o = if ∀ j, j < n → p j = true then e else no) (fun k j hs => by
  obtain ⟨h1, h2⟩ := hs
  by_cases hj : j < n
  ·rw [hstep k j hj]
   cases hp : p j with
   | true =>
    right
    exact ⟨j + 1, ⟨hj, fun i hi => by rcases Nat.lt_or_eq_of_le (Nat.le_of_lt_succ hi) with h | h; exact h2 i h; rw [h]; exact hp⟩, by omega, by simp⟩
   | false =>
    left
    have : ¬ ∀ j, j < n → p j = true := fun h => by have := h j hj; rw [hp] at this; simp at this
    simp [this]
  ·left
   have : j = n := by omega
   subst this
   rw [hend, if_pos h2]) k 0 (by simpa using hk) ⟨by omega, by omega⟩
 exact this
/-- A loop that looks for the first index of which something holds. -/
theorem first {n : Nat} (p : Nat → Bool) (f : Nat → Int → Option Int) (hend : ∀ k, f (k + 1) (n : Int) = some (-1)) (hstep : ∀ k j, j < n → f (k + 1) (j : Int) = if p j then some (j : Int) else f k ((j + 1 : Nat) : Int)) {k : Nat} (hk : n < k) :
  (∃ j, j < n ∧ p j = true ∧ (∀ i, i < j → p i = false) ∧ f k 0 = some (j : Int)) ∨ ((∀ i, i < n → p i = false) ∧ f k 0 = some (-1)) := by
 have := loop (fun k (j : Nat) => f k (j : Int)) (fun j => j ≤ n ∧ ∀ i, i < j → p i = false) (fun j => n - j) (fun o => (∃ j, j < n ∧ p j = true ∧ (∀ i, i < j → p i = false) ∧ o = some (j : Int)) ∨ ((∀ i, i < n → p i = false) ∧ o = some (-1))) (fun k j hs => by
  obtain ⟨h1, h2⟩ := hs
  by_cases hj : j < n
  ·rw [hstep k j hj]
   cases hp : p j with
   | true => left; left; exact ⟨j, hj, hp, h2, rfl⟩
   | false =>
    right
    exact ⟨j + 1, ⟨hj, fun i hi => by rcases Nat.lt_or_eq_of_le (Nat.le_of_lt_succ hi) with h | h; exact h2 i h; rw [h]; exact hp⟩, by omega, by simp⟩
  ·left; right
   have : j = n := by omega
   subst this
   exact ⟨h2, hend k⟩) k 0 (by simpa using hk) ⟨by omega, by omega⟩
 exact this
theorem w64_pred {j : Nat} (h : 0 < j) (h2 : j < 4611686018427387904) : w64 ((j : Int) - 1) = ((j - 1 : Nat) : Int) := by
 rw [w64_id (by omega) (by omega)]; omega
theorem inb_int {α : Type} {i : Int} {xs : List α} (h0 : 0 ≤ i) (h : i < xs.length) : inb i xs = true := by simp [inb, h0, h]
theorem at_int {α : Type} {d : α} {i : Int} {xs : List α} (h0 : 0 ≤ i) (h : i < xs.length) : at_ d xs i = xs[i.toNat]'(by omega) := by
 unfold at_
 rw [List.getD_eq_getElem?_getD, List.getElem?_eq_getElem (by omega)]
 rfl
end Go.PL
namespace Go.PL
set_option linter.unusedVariables false
abbrev Rel := ByteArray × Int × Int
abbrev Fact := Int × List Int
abbrev Db := List Rel × List Fact

/-- Small enough for every copy. -/
structure SmallDb (d : Db) : Prop where
 rels : d.1.length ≤ 1048576
 facts : d.2.length ≤ 1048576
 vals : ∀ f ∈ d.2, f.2.length ≤ 1048576
theorem list_eq_iff {α : Type} [DecidableEq α] {a b : List α} (h : a.length = b.length) : (a = b) ↔ ∀ j, j < a.length → (decide (a[j]? = b[j]?)) = true := by
 constructor
 ·rintro rfl j _; simp
 ·intro h2
  apply List.ext_getElem? 
  intro j
  by_cases hj : j < a.length
  ·simpa using h2 j hj
  ·rw [List.getElem?_eq_none (by omega), List.getElem?_eq_none (by omega)]
end Go.PL
namespace Go.PL
set_option linter.unusedVariables false
theorem l1In (N : Nat) (x a b : Int) : spec_l1In N x a b = some (decide (a ≤ x ∧ x ≤ b)) := by
 unfold spec_l1In
 by_cases h : a ≤ x <;> simp [h]
theorem within (N : Nat) (x a b : Int) : impl_within N x a b = some (decide (a ≤ x ∧ x ≤ b)) := by
 unfold impl_within
 by_cases h : a ≤ x <;> simp [h]

def validRel (r : Rel) : Bool := (spec_IsValidRelation 0 r).getD false
theorem specRel (N : Nat) (r : Rel) : spec_IsValidRelation N r = some (validRel r) := by
 have key : ∃ b, spec_IsValidRelation 0 r = some b := by
  unfold spec_IsValidRelation
  by_cases h : r.1.size = 1
  ·have hb : ∃ b, byteAt r.1 0 = some b := by
    unfold byteAt
    have : (0 : Int).toNat < r.1.size := by omega
    exact ⟨r.1[(0 : Int).toNat], by rw [if_pos (by omega), getElem?_pos]⟩
   obtain ⟨b, hb⟩ := hb
   rw [hb]
   simp only [Option.bind_some, l1In]
   cases ((r.1.size : Int) == 1) with
   | false => exact ⟨_, rfl⟩
   | true =>
    cases decide ((b.toNat : Int) ≥ 97) with
    | false => exact ⟨_, rfl⟩
    | true =>
     cases decide ((b.toNat : Int) ≤ 122) with
     | false => exact ⟨_, rfl⟩
     | true =>
      cases decide (1 ≤ r.2.1 ∧ r.2.1 ≤ 3) with
      | false => exact ⟨_, rfl⟩
      | true => exact ⟨_, rfl⟩
  ·have h0 : ((r.1.size : Int) == 1) = false := by rw [beqI]; simp; omega
   rw [h0]; exact ⟨false, rfl⟩
 obtain ⟨b, hb⟩ := key
 have e : spec_IsValidRelation N r = spec_IsValidRelation 0 r := by
  unfold spec_IsValidRelation; simp only [l1In]
 rw [e, validRel, hb]; rfl
theorem implRel (N : Nat) (r : Rel) : impl_IsValidRelation N r = some (validRel r) := by
 rw [← specRel N r]
 unfold impl_IsValidRelation spec_IsValidRelation
 simp only [l1In, within]

def validRels (l : List Rel) : Bool := decide ((∀ j, j < l.length → (validRel (l.getD j (⟨#[]⟩, 0, 0)) && (decide (j = 0) || slt (l.getD (j - 1) (⟨#[]⟩, 0, 0)).1 (l.getD j (⟨#[]⟩, 0, 0)).1)) = true) ∧ l.length ≤ 4)
theorem getD_lt {α : Type} {d : α} {j : Nat} {xs : List α} (h : j < xs.length) : xs.getD j d = xs[j] := by simp [h]
theorem specRels {N : Nat} {l : List Rel} (hl : l.length ≤ 1048576) (hN : 1048576 < N) : spec_AreValidRelations N l = some (validRels l) := by
 unfold spec_AreValidRelations spec_AreValidRelations_b
 rw [everyE (n := l.length) (fun j => validRel (l.getD j (⟨#[]⟩, 0, 0)) && (decide (j = 0) || slt (l.getD (j - 1) (⟨#[]⟩, 0, 0)).1 (l.getD j (⟨#[]⟩, 0, 0)).1)) (some false) (some (decide (l.length ≤ 4))) (fun k i => spec_AreValidRelations_l0 N k l i)
  (fun k => by simp [spec_AreValidRelations_l0, spec_AreValidRelations_l0_b]; omega) (fun k j hj => ?_) (by omega)]
 ·unfold validRels
  by_cases h : ∀ j, j < l.length → (validRel (l.getD j (⟨#[]⟩, 0, 0)) && (decide (j = 0) || slt (l.getD (j - 1) (⟨#[]⟩, 0, 0)).1 (l.getD j (⟨#[]⟩, 0, 0)).1)) = true
  ·rw [if_pos h]; congr 1; exact decide_eq_decide.2 ⟨fun h2 => ⟨h, h2⟩, fun h2 => h2.2⟩
  ·rw [if_neg h]; congr 1; symm; exact decide_eq_false fun h2 => h h2.1
 ·have h1 : (j : Int) < (l.length : Int) := by omega
  simp only [spec_AreValidRelations_l0, spec_AreValidRelations_l0_b, h1, decide_true, cond_true, inb_lt hj, grd_true, at_lt hj, specRel, Option.bind_some, getD_lt hj, w64_succ (show j < 4611686018427387904 by omega)]
  cases validRel l[j] with
  | false => rfl
  | true =>
   simp only [Bool.not_true, cond_false, Bool.true_and]
   by_cases h0 : j = 0
   ·subst h0; simp
   ·have h3 : (j : Int) > 0 := by omega
    have h4 : j - 1 < l.length := by omega
    simp only [h3, decide_true, cond_true, w64_pred (show 0 < j by omega) (by omega), inb_lt h4, grd_true, at_lt h4, h0, decide_false, Bool.false_or, getD_lt h4]
    cases slt l[j - 1].1 l[j].1 <;> rfl
theorem implRels {N : Nat} {l : List Rel} (hl : l.length ≤ 1048576) (hN : 1048576 < N) : impl_AreValidRelations N l = some (validRels l) := by
 rw [← specRels hl hN]
 unfold impl_AreValidRelations impl_AreValidRelations_b spec_AreValidRelations spec_AreValidRelations_b
 rw [everyE (n := l.length) (fun j => validRel (l.getD j (⟨#[]⟩, 0, 0)) && (decide (j = 0) || slt (l.getD (j - 1) (⟨#[]⟩, 0, 0)).1 (l.getD j (⟨#[]⟩, 0, 0)).1)) (some false) (some (decide (l.length ≤ 4))) (fun k i => spec_AreValidRelations_l0 N k l i)
  (fun k => by simp [spec_AreValidRelations_l0, spec_AreValidRelations_l0_b]; omega) (fun k j hj => ?_) (by omega),
  everyE (n := l.length) (fun j => validRel (l.getD j (⟨#[]⟩, 0, 0)) && (decide (j = 0) || slt (l.getD (j - 1) (⟨#[]⟩, 0, 0)).1 (l.getD j (⟨#[]⟩, 0, 0)).1)) (some false) (some (decide (l.length ≤ 4))) (fun k i => impl_AreValidRelations_l0 N k l l (l.length : Int) i)
  (fun k => by simp [impl_AreValidRelations_l0, impl_AreValidRelations_l0_b]; omega) (fun k j hj => ?_) (by omega)]
 ·have h1 : (j : Int) < (l.length : Int) := by omega
  simp only [impl_AreValidRelations_l0, impl_AreValidRelations_l0_b, h1, decide_true, cond_true, inb_lt hj, grd_true, at_lt hj, implRel, Option.bind_some, getD_lt hj, w64_succ (show j < 4611686018427387904 by omega)]
  cases validRel l[j] with
  | false => rfl
  | true =>
   simp only [Bool.not_true, cond_false, Bool.true_and]
   by_cases h0 : j = 0
   ·subst h0; simp
   ·have h3 : (j : Int) > 0 := by omega
    have h4 : j - 1 < l.length := by omega
    simp only [h3, decide_true, cond_true, w64_pred (show 0 < j by omega) (by omega), inb_lt h4, grd_true, at_lt h4, h0, decide_false, Bool.false_or, getD_lt h4]
    cases slt l[j - 1].1 l[j].1 <;> rfl
 ·have h1 : (j : Int) < (l.length : Int) := by omega
  simp only [spec_AreValidRelations_l0, spec_AreValidRelations_l0_b, h1, decide_true, cond_true, inb_lt hj, grd_true, at_lt hj, specRel, Option.bind_some, getD_lt hj, w64_succ (show j < 4611686018427387904 by omega)]
  cases validRel l[j] with
  | false => rfl
  | true =>
   simp only [Bool.not_true, cond_false, Bool.true_and]
   by_cases h0 : j = 0
   ·subst h0; simp
   ·have h3 : (j : Int) > 0 := by omega
    have h4 : j - 1 < l.length := by omega
    simp only [h3, decide_true, cond_true, w64_pred (show 0 < j by omega) (by omega), inb_lt h4, grd_true, at_lt h4, h0, decide_false, Bool.false_or, getD_lt h4]
    cases slt l[j - 1].1 l[j].1 <;> rfl

def validVals (xs : List Int) : Bool := xs.all fun x => decide (0 ≤ x ∧ x ≤ 9)
theorem all_iff {α : Type} {d : α} {xs : List α} {p : α → Bool} : (∀ j, j < xs.length → p (xs.getD j d) = true) ↔ xs.all p = true := by
 rw [List.all_eq_true]
 constructor
 ·intro h x hx
  obtain ⟨i, hi, rfl⟩ := List.mem_iff_getElem.1 hx
  have := h i hi
  rwa [getD_lt hi] at this
 ·intro h j hj
  rw [getD_lt hj]
  exact h _ (List.getElem_mem hj)
/-- A fact's own part: its relation, its length, its values. -/
def fact1 (l : List Rel) (f : Fact) : Bool := decide (0 ≤ f.1 ∧ f.1 ≤ (l.length : Int) - 1) && (decide ((f.2.length : Int) = (l.getD f.1.toNat (⟨#[]⟩, 0, 0)).2.1) && validVals f.2)
theorem specFact {N : Nat} {l : List Rel} {f : Fact} (hl : l.length ≤ 1048576) (hf : f.2.length ≤ 1048576) (hN : 1048576 < N) : spec_IsValidFact N l f = some (validRels l && fact1 l f) := by
 obtain ⟨r, v⟩ := f
 unfold spec_IsValidFact spec_IsValidFact_b
 rw [specRels hl hN, Option.bind_some]
 cases validRels l with
 | false => rfl
 | true =>
  simp only [Bool.not_true, cond_false, l1In, Option.bind_some, Bool.true_and, fact1]
  rw [w64_id (by omega) (by omega)]
  by_cases h : 0 ≤ r ∧ r ≤ (l.length : Int) - 1
  ·have h2 : r.toNat < l.length := by omega
   simp only [h, and_self, decide_true, Bool.not_true, cond_false, inb_int h.1 (show r < l.length by omega), grd_true, at_int h.1 (show r < l.length by omega), bneI, getD_lt h2, Bool.true_and]
   by_cases h3 : (v.length : Int) = l[r.toNat].2.1
   ·simp only [h3, decide_true, Bool.not_true, cond_false, Bool.true_and]
    rw [everyE (n := v.length) (fun j => decide (0 ≤ v.getD j 0 ∧ v.getD j 0 ≤ 9)) (some false) (some true) (fun k i => spec_IsValidFact_l0 N k r v i) (fun k => by simp [spec_IsValidFact_l0, spec_IsValidFact_l0_b]) (fun k j hj => ?_) (by simp only at hf; omega)]
    ·unfold validVals
     by_cases h4 : ∀ j, j < v.length → decide (0 ≤ v.getD j 0 ∧ v.getD j 0 ≤ 9) = true
     ·rw [if_pos h4, (all_iff (d := (0 : Int)) (p := fun x => decide (0 ≤ x ∧ x ≤ 9))).1 h4]
     ·rw [if_neg h4]
      congr 1; symm
      rw [Bool.eq_false_iff]
      exact fun h5 => h4 ((all_iff (d := (0 : Int)) (p := fun x => decide (0 ≤ x ∧ x ≤ 9))).2 h5)
    ·have h1 : (j : Int) < (v.length : Int) := by omega
     simp only at hf
     simp only [spec_IsValidFact_l0, spec_IsValidFact_l0_b, h1, decide_true, cond_true, inb_lt hj, grd_true, at_lt hj, l1In, Option.bind_some, getD_lt hj, w64_succ (show j < 4611686018427387904 by omega), ite_dec]
   ·simp only [h3, decide_false, Bool.not_false, cond_true, Bool.false_and]
  ·simp only [h, decide_false, Bool.not_false, cond_true, Bool.false_and]

def cmpInts : List Int → List Int → Int
 | [], [] => 0
 | [], _ :: _ => -1
 | _ :: _, [] => 1
 | a :: x, b :: y => if a < b then -1 else if a > b then 1 else cmpInts x y
theorem cmpInts_eq : ∀ (a b : List Int), cmpInts a b = 0 ↔ a = b
 | [], [] => by simp [cmpInts]
 | [], _ :: _ => by simp [cmpInts]
 | _ :: _, [] => by simp [cmpInts]
 | a :: x, b :: y => by
  simp only [cmpInts, List.cons.injEq]
  split
  ·rename_i h; constructor
   ·intro h; omega
   ·intro h2; omega
  ·split
   ·rename_i h; constructor
    ·intro h; omega
    ·intro h2; omega
   ·rw [cmpInts_eq x y]
    constructor
    ·intro h; exact ⟨by omega, h⟩
    ·intro h; exact h.2
theorem specInts {N : Nat} {a b : List Int} (ha : a.length ≤ 1048576) (hb : b.length ≤ 1048576) (hN : 1048576 < N) : spec_l3Ints N a b = some (cmpInts a b) := by
 unfold spec_l3Ints spec_l3Ints_b
 have := loop (fun k (j : Nat) => spec_l3Ints_l0 N k a b (j : Int)) (fun j => j ≤ a.length ∧ j ≤ b.length ∧ cmpInts (a.drop j) (b.drop j) = cmpInts a b) (fun j => a.length - j) (fun o => o = some (cmpInts a b)) (fun k j hs => by
  obtain ⟨h1, h2, h3⟩ := hs
  by_cases hj : j < a.length
  ·by_cases hjb : j < b.length
   ·have e1 : (j : Int) < (a.length : Int) := by omega
    have e2 : (j : Int) < (b.length : Int) := by omega
    simp only [spec_l3Ints_l0, spec_l3Ints_l0_b, e1, e2, decide_true, cond_true, inb_lt hj, inb_lt hjb, grd_true, at_lt hj, at_lt hjb, w64_succ (show j < 4611686018427387904 by omega)]
    rw [List.drop_eq_getElem_cons hj, List.drop_eq_getElem_cons hjb] at h3
    simp only [cmpInts] at h3
    by_cases hlt : a[j] < b[j]
    ·left; simp only [hlt, if_true, decide_true, cond_true] at h3 ⊢; rw [h3]
    ·by_cases hgt : a[j] > b[j]
     ·left; simp only [hlt, hgt, if_true, if_false, decide_true, decide_false, cond_true, cond_false] at h3 ⊢; rw [h3]
     ·right
      simp only [hlt, hgt, if_false, decide_false, cond_false] at h3 ⊢
      exact ⟨j + 1, ⟨by omega, by omega, h3⟩, by omega, rfl⟩
   ·left
    have e1 : (j : Int) < (a.length : Int) := by omega
    have e2 : ¬ (j : Int) < (b.length : Int) := by omega
    have e3 : ¬ (a.length : Int) < (b.length : Int) := by omega
    have e4 : (a.length : Int) > (b.length : Int) := by omega
    simp only [spec_l3Ints_l0, spec_l3Ints_l0_b, e1, e2, e3, e4, decide_true, decide_false, cond_true, cond_false]
    rw [List.drop_eq_getElem_cons hj, List.drop_of_length_le (l := b) (by omega)] at h3
    rw [← h3]; rfl
  ·left
   have hja : j = a.length := by omega
   have e1 : ¬ (j : Int) < (a.length : Int) := by omega
   simp only [spec_l3Ints_l0, spec_l3Ints_l0_b, e1, decide_false, cond_false]
   rw [List.drop_of_length_le (l := a) (by omega)] at h3
   by_cases hlt : a.length < b.length
   ·have e2 : (a.length : Int) < (b.length : Int) := by omega
    simp only [e2, decide_true, cond_true]
    rw [List.drop_eq_getElem_cons (by omega)] at h3
    rw [← h3]; rfl
   ·have e2 : ¬ (a.length : Int) < (b.length : Int) := by omega
    have e3 : ¬ (a.length : Int) > (b.length : Int) := by omega
    simp only [e2, e3, decide_false, cond_false]
    rw [List.drop_of_length_le (by omega)] at h3
    rw [← h3]; rfl) N 0 (by omega) ⟨by omega, by omega, rfl⟩
 exact this
theorem implInts {N : Nat} {a b : List Int} (ha : a.length ≤ 1048576) (hb : b.length ≤ 1048576) (hN : 1048576 < N) : slices_Compare_Lint_int N a b = some (cmpInts a b) := by
 have hc : ∀ x y : Int, cmp_Compare_int N x y = some (if x < y then -1 else if x > y then 1 else 0) := by
  intro x y
  simp only [cmp_Compare_int, cmp_isNaN_int, Option.bind_some, bneI, decide_true, Bool.not_true, cond_false]
  by_cases h1 : x < y
  ·simp [h1]
  ·by_cases h2 : x > y <;> simp [h1, h2]
 unfold slices_Compare_Lint_int slices_Compare_Lint_int_b
 have := loop (fun k (j : Nat) => slices_Compare_Lint_int_l0 N k a b a (a.length : Int) (j : Int)) (fun j => j ≤ a.length ∧ j ≤ b.length ∧ cmpInts (a.drop j) (b.drop j) = cmpInts a b) (fun j => a.length - j) (fun o => o = some (cmpInts a b)) (fun k j hs => by
  obtain ⟨h1, h2, h3⟩ := hs
  by_cases hj : j < a.length
  ·have e1 : (j : Int) < (a.length : Int) := by omega
   by_cases hjb : j < b.length
   ·have e2 : ¬ (j : Int) ≥ (b.length : Int) := by omega
    simp only [slices_Compare_Lint_int_l0, slices_Compare_Lint_int_l0_b, e1, e2, decide_true, decide_false, cond_true, cond_false, inb_lt hj, inb_lt hjb, grd_true, at_lt hj, at_lt hjb, w64_succ (show j < 4611686018427387904 by omega), hc, Option.bind_some]
    rw [List.drop_eq_getElem_cons hj, List.drop_eq_getElem_cons hjb] at h3
    simp only [cmpInts] at h3
    by_cases hlt : a[j] < b[j]
    ·left; simp only [hlt, if_true] at h3 ⊢; rw [← h3]; rfl
    ·by_cases hgt : a[j] > b[j]
     ·left; simp only [hlt, hgt, if_true, if_false] at h3 ⊢; rw [← h3]; rfl
     ·right
      simp only [hlt, hgt, if_false] at h3 ⊢
      exact ⟨j + 1, ⟨by omega, by omega, h3⟩, by omega, rfl⟩
   ·left
    have e2 : (j : Int) ≥ (b.length : Int) := by omega
    simp only [slices_Compare_Lint_int_l0, slices_Compare_Lint_int_l0_b, e1, e2, decide_true, cond_true, inb_lt hj, grd_true]
    rw [List.drop_eq_getElem_cons hj, List.drop_of_length_le (l := b) (by omega)] at h3
    rw [← h3]; rfl
  ·left
   have e1 : ¬ (j : Int) < (a.length : Int) := by omega
   simp only [slices_Compare_Lint_int_l0, slices_Compare_Lint_int_l0_b, e1, decide_false, cond_false]
   rw [List.drop_of_length_le (l := a) (by omega)] at h3
   by_cases hlt : a.length < b.length
   ·have e2 : (a.length : Int) < (b.length : Int) := by omega
    simp only [e2, decide_true, cond_true]
    rw [List.drop_eq_getElem_cons (by omega)] at h3
    rw [← h3]; rfl
   ·have e2 : ¬ (a.length : Int) < (b.length : Int) := by omega
    simp only [e2, decide_false, cond_false]
    rw [List.drop_of_length_le (by omega)] at h3
    rw [← h3]; rfl) N 0 (by omega) ⟨by omega, by omega, rfl⟩
 exact this
def cmpFacts (a b : Fact) : Int := if a.1 < b.1 then -1 else if a.1 > b.1 then 1 else cmpInts a.2 b.2
theorem specCmp {N : Nat} {a b : Fact} (ha : a.2.length ≤ 1048576) (hb : b.2.length ≤ 1048576) (hN : 1048576 < N) : spec_CompareFacts N a b = some (cmpFacts a b) := by
 unfold spec_CompareFacts cmpFacts
 rw [specInts ha hb hN]
 by_cases h1 : a.1 < b.1
 ·simp [h1]
 ·by_cases h2 : a.1 > b.1 <;> simp [h1, h2]
theorem implCmp {N : Nat} {a b : Fact} (ha : a.2.length ≤ 1048576) (hb : b.2.length ≤ 1048576) (hN : 1048576 < N) : impl_CompareFacts N a b = some (cmpFacts a b) := by
 unfold impl_CompareFacts cmpFacts impl_compare
 rw [implInts ha hb hN, bneI]
 by_cases h1 : a.1 < b.1
 ·have : ¬ a.1 = b.1 := by omega
  simp [h1, this]
 ·by_cases h2 : a.1 > b.1
  ·have : ¬ a.1 = b.1 := by omega
   simp [h1, h2, this]
  ·have : a.1 = b.1 := by omega
   simp [this]
theorem getD_any {α : Type} (d : α) {xs : List α} {p : α → Bool} : (∃ j, j < xs.length ∧ p (xs.getD j d) = true) ↔ xs.any p = true := by
 rw [List.any_eq_true]
 constructor
 ·rintro ⟨j, hj, h⟩
  rw [getD_lt hj] at h
  exact ⟨_, List.getElem_mem hj, h⟩
 ·rintro ⟨x, hx, h⟩
  obtain ⟨i, hi, rfl⟩ := List.mem_iff_getElem.1 hx
  exact ⟨i, hi, by rw [getD_lt hi]; exact h⟩
/-- 'Is there one of which it holds': the first index is not negative. -/
theorem contains_of {α : Type} {d : α} {xs : List α} {p : α → Bool} {g : Option Int} (h : (∃ j, j < xs.length ∧ p (xs.getD j d) = true ∧ (∀ i, i < j → p (xs.getD i d) = false) ∧ g = some (j : Int)) ∨ ((∀ i, i < xs.length → p (xs.getD i d) = false) ∧ g = some (-1))) : (g.bind fun r => some (decide (r ≥ 0))) = some (xs.any p) := by
 rcases h with ⟨j, h1, h2, _, rfl⟩ | ⟨h1, rfl⟩
 ·rw [(getD_any d).1 ⟨j, h1, h2⟩]
  simp
 ·have : xs.any p = false := by
   rw [Bool.eq_false_iff]
   intro h
   obtain ⟨j, hj, h2⟩ := (getD_any d).2 h
   rw [h1 j hj] at h2; simp at h2
  rw [this]; rfl

theorem areValues {N : Nat} {v : List Int} (hv : v.length ≤ 1048576) (hN : 1048576 < N) : impl_areValues N v = some (validVals v) := by
 unfold impl_areValues slices_ContainsFunc_Lint_int_areValues_c1 slices_IndexFunc_Lint_int_areValues_c1 slices_IndexFunc_Lint_int_areValues_c1_b
 rw [contains_of (d := (0 : Int)) (xs := v) (p := fun x => !decide (0 ≤ x ∧ x ≤ 9)) (first (n := v.length) (fun j => !decide (0 ≤ v.getD j 0 ∧ v.getD j 0 ≤ 9)) (fun k i => slices_IndexFunc_Lint_int_areValues_c1_l0 N k v (v.length : Int) i) (fun k => by simp [slices_IndexFunc_Lint_int_areValues_c1_l0, slices_IndexFunc_Lint_int_areValues_c1_l0_b]) (fun k j hj => ?_) (by omega))]
 ·simp only [Option.bind_some, validVals]
  rw [show (v.any fun x => !decide (0 ≤ x ∧ x ≤ 9)) = !(v.all fun x => decide (0 ≤ x ∧ x ≤ 9)) from (List.not_all_eq_any_not (l := v) (p := fun x => decide (0 ≤ x ∧ x ≤ 9))).symm, Bool.not_not]
 ·have h1 : (j : Int) < (v.length : Int) := by omega
  simp only [slices_IndexFunc_Lint_int_areValues_c1_l0, slices_IndexFunc_Lint_int_areValues_c1_l0_b, h1, decide_true, cond_true, inb_lt hj, grd_true, at_lt hj, impl_areValues_c1, within, Option.bind_some, getD_lt hj, w64_succ (show j < 4611686018427387904 by omega)]
  cases decide (0 ≤ v[j] ∧ v[j] ≤ 9) <;> rfl
theorem implFact1 {N : Nat} {l : List Rel} {f : Fact} (hl : l.length ≤ 1048576) (hf : f.2.length ≤ 1048576) (hN : 1048576 < N) : impl_isFact N l f = some (fact1 l f) := by
 obtain ⟨r, v⟩ := f
 simp only [impl_isFact, within, Option.bind_some, fact1]
 rw [w64_id (by omega) (by omega)]
 by_cases h : 0 ≤ r ∧ r ≤ (l.length : Int) - 1
 ·have h2 : r.toNat < l.length := by omega
  simp only [h, and_self, decide_true, cond_true, inb_int h.1 (show r < l.length by omega), grd_true, at_int h.1 (show r < l.length by omega), beqI, getD_lt h2, Bool.true_and]
  simp only at hf
  rw [areValues hf hN]
  cases decide ((v.length : Int) = l[r.toNat].2.1) <;> rfl
 ·simp only [h, decide_false, cond_false, Bool.false_and]

def factAt (d : Db) (j : Nat) : Fact := d.2.getD j (0, [])
def factsOk (d : Db) : Prop := ∀ j, j < d.2.length → (fact1 d.1 (factAt d j) && (decide (j = 0) || decide (cmpFacts (factAt d (j - 1)) (factAt d j) < 0))) = true
instance (d : Db) : Decidable (factsOk d) := by unfold factsOk; infer_instance
def validDb (d : Db) : Bool := validRels d.1 && (decide (d.2.length ≤ 14) && decide (factsOk d))
theorem specDb {N : Nat} {d : Db} (h : SmallDb d) (hN : 1048576 < N) : spec_IsValidDatabase N d = some (validDb d) := by
 have hv : ∀ j, j < d.2.length → (factAt d j).2.length ≤ 1048576 := fun j hj => by unfold factAt; rw [getD_lt hj]; exact h.vals _ (List.getElem_mem hj)
 unfold spec_IsValidDatabase spec_IsValidDatabase_b
 rw [everyE (n := d.2.length) (fun j => (validRels d.1 && fact1 d.1 (factAt d j)) && (decide (j = 0) || decide (cmpFacts (factAt d (j - 1)) (factAt d j) < 0))) (some false) (some (validRels d.1 && decide (d.2.length ≤ 14))) (fun k i => spec_IsValidDatabase_l0 N k d.1 d.2 i)
  (fun k => by
   simp only [spec_IsValidDatabase_l0, spec_IsValidDatabase_l0_b, Int.lt_irrefl, decide_false, cond_false, specRels h.rels hN, Option.bind_some]
   cases validRels d.1 with
   | false => rfl
   | true => simp only [cond_true, Bool.true_and, Option.some.injEq]; exact decide_eq_decide.2 (by omega)) (fun k j hj => ?_) (by have := h.facts; omega)]
 ·unfold validDb factsOk
  cases hr : validRels d.1 with
  | true =>
   simp only [Bool.true_and]
   by_cases h2 : ∀ j, j < d.2.length → (fact1 d.1 (factAt d j) && (decide (j = 0) || decide (cmpFacts (factAt d (j - 1)) (factAt d j) < 0))) = true
   ·rw [if_pos h2, decide_eq_true h2, Bool.and_true]
   ·rw [if_neg h2, decide_eq_false h2, Bool.and_false]
  | false => simp
 ·have h1 : (j : Int) < (d.2.length : Int) := by omega
  have hf := h.facts
  have ha : at_ (0, []) d.2 (j : Int) = factAt d j := by unfold factAt; rw [at_lt hj, getD_lt hj]
  simp only [spec_IsValidDatabase_l0, spec_IsValidDatabase_l0_b, h1, decide_true, cond_true, inb_lt hj, grd_true, ha, specFact h.rels (hv j hj) hN, Option.bind_some, w64_succ (show j < 4611686018427387904 by omega)]
  cases validRels d.1 && fact1 d.1 (factAt d j) with
  | false => rfl
  | true =>
   simp only [Bool.not_true, cond_false, Bool.true_and]
   by_cases h0 : j = 0
   ·subst h0; simp
   ·have h3 : (j : Int) > 0 := by omega
    have h4 : j - 1 < d.2.length := by omega
    have hb : at_ (0, []) d.2 ((j - 1 : Nat) : Int) = factAt d (j - 1) := by unfold factAt; rw [at_lt h4, getD_lt h4]
    simp only [h3, decide_true, cond_true, w64_pred (show 0 < j by omega) (by omega), inb_lt h4, grd_true, hb, specCmp (hv _ h4) (hv _ hj) hN, Option.bind_some, h0, decide_false, Bool.false_or]
    by_cases h5 : cmpFacts (factAt d (j - 1)) (factAt d j) < 0
    ·have : ¬ cmpFacts (factAt d (j - 1)) (factAt d j) ≥ 0 := by omega
     simp [h5, this]
    ·have : cmpFacts (factAt d (j - 1)) (factAt d j) ≥ 0 := by omega
     simp [h5, this]
theorem implDb {N : Nat} {d : Db} (h : SmallDb d) (hN : 1048576 < N) : impl_IsValidDatabase N d = some (validDb d) := by
 have hv : ∀ j, j < d.2.length → (factAt d j).2.length ≤ 1048576 := fun j hj => by unfold factAt; rw [getD_lt hj]; exact h.vals _ (List.getElem_mem hj)
 unfold impl_IsValidDatabase impl_IsValidDatabase_b
 rw [implRels h.rels hN, Option.bind_some]
 unfold validDb
 cases validRels d.1 with
 | false => rfl
 | true =>
  simp only [Bool.not_true, cond_false, Bool.true_and]
  by_cases h14 : d.2.length ≤ 14
  ·have : ¬ (d.2.length : Int) > 14 := by omega
   simp only [this, decide_false, cond_false, h14, decide_true, Bool.true_and]
   rw [everyE (n := d.2.length) (fun j => fact1 d.1 (factAt d j) && (decide (j = 0) || decide (cmpFacts (factAt d (j - 1)) (factAt d j) < 0))) (some false) (some true) (fun k i => impl_IsValidDatabase_l0 N k d.1 d.2 d.2 (d.2.length : Int) i)
    (fun k => by simp [impl_IsValidDatabase_l0, impl_IsValidDatabase_l0_b]) (fun k j hj => ?_) (by omega)]
   ·unfold factsOk
    by_cases h2 : ∀ j, j < d.2.length → (fact1 d.1 (factAt d j) && (decide (j = 0) || decide (cmpFacts (factAt d (j - 1)) (factAt d j) < 0))) = true
    ·rw [if_pos h2, decide_eq_true h2]
    ·rw [if_neg h2, decide_eq_false h2]
   ·have h1 : (j : Int) < (d.2.length : Int) := by omega
    have ha : at_ (0, []) d.2 (j : Int) = factAt d j := by unfold factAt; rw [at_lt hj, getD_lt hj]
    simp only [impl_IsValidDatabase_l0, impl_IsValidDatabase_l0_b, h1, decide_true, cond_true, inb_lt hj, grd_true, ha, implFact1 h.rels (hv j hj) hN, Option.bind_some, w64_succ (show j < 4611686018427387904 by omega)]
    cases fact1 d.1 (factAt d j) with
    | false => rfl
    | true =>
     simp only [Bool.not_true, cond_false, Bool.true_and]
     by_cases h0 : j = 0
     ·subst h0; simp
     ·have h3 : (j : Int) > 0 := by omega
      have h4 : j - 1 < d.2.length := by omega
      have hb : at_ (0, []) d.2 ((j - 1 : Nat) : Int) = factAt d (j - 1) := by unfold factAt; rw [at_lt h4, getD_lt h4]
      simp only [h3, decide_true, cond_true, w64_pred (show 0 < j by omega) (by omega), inb_lt h4, grd_true, hb, implCmp (hv _ h4) (hv _ hj) hN, Option.bind_some, h0, decide_false, Bool.false_or]
      by_cases h5 : cmpFacts (factAt d (j - 1)) (factAt d j) < 0
      ·have : ¬ cmpFacts (factAt d (j - 1)) (factAt d j) ≥ 0 := by omega
       simp [h5, this]
      ·have : cmpFacts (factAt d (j - 1)) (factAt d j) ≥ 0 := by omega
       simp [h5, this]
  ·have : (d.2.length : Int) > 14 := by omega
   simp [this, h14]
end Go.PL
namespace Go.PL
set_option linter.unusedVariables false
theorem cmpInts_trans : ∀ (a b c : List Int), cmpInts a b < 0 → cmpInts b c < 0 → cmpInts a c < 0
 | [], [], c, h, _ => by simp [cmpInts] at h
 | [], _ :: _, [], _, h => by simp [cmpInts] at h
 | [], _ :: _, _ :: _, _, _ => by simp [cmpInts]
 | _ :: _, [], c, h, _ => by simp [cmpInts] at h
 | _ :: _, _ :: _, [], _, h => by simp [cmpInts] at h
 | x :: a, y :: b, z :: c, h1, h2 => by
  simp only [cmpInts] at h1 h2 ⊢
  by_cases hxy : x < y
  ·by_cases hyz : y < z
   ·rw [if_pos (by omega)]; omega
   ·rw [if_neg hyz] at h2
    split at h2
    ·omega
    ·rw [if_pos (by omega)]; omega
  ·rw [if_neg hxy] at h1
   split at h1
   ·omega
   ·have : x = y := by omega
    subst this
    by_cases hyz : x < z
    ·rw [if_pos hyz]; omega
    ·rw [if_neg hyz] at h2 ⊢
     split at h2
     ·omega
     ·rename_i hg
      rw [if_neg hg]
      exact cmpInts_trans a b c h1 h2
theorem cmpFacts_trans {a b c : Fact} (h1 : cmpFacts a b < 0) (h2 : cmpFacts b c < 0) : cmpFacts a c < 0 := by
 unfold cmpFacts at h1 h2 ⊢
 by_cases hab : a.1 < b.1
 ·by_cases hbc : b.1 < c.1
  ·rw [if_pos (by omega)]; omega
  ·rw [if_neg hbc] at h2
   split at h2
   ·omega
   ·rw [if_pos (by omega)]; omega
 ·rw [if_neg hab] at h1
  split at h1
  ·omega
  ·by_cases hbc : b.1 < c.1
   ·rw [if_pos (by omega)]; omega
   ·rw [if_neg hbc] at h2
    split at h2
    ·omega
    ·rw [if_neg (by omega), if_neg (by omega)]
     exact cmpInts_trans _ _ _ h1 h2
/-- What lies between two that begin alike begins as they do. -/
theorem cmp_take : ∀ (n : Nat) (a b c : List Int), cmpInts a b < 0 → cmpInts b c < 0 → a.take n = c.take n → a.length = b.length → b.length = c.length → a.take n = b.take n
 | 0, _, _, _, _, _, _, _, _ => by simp
 | n + 1, [], [], _, h, _, _, _, _ => by simp [cmpInts] at h
 | n + 1, [], _ :: _, _, _, _, _, h, _ => by simp at h
 | n + 1, _ :: _, [], _, _, _, _, h, _ => by simp at h
 | n + 1, _ :: _, _ :: _, [], _, _, _, _, h => by simp at h
 | n + 1, x :: a, y :: b, z :: c, h1, h2, h3, h4, h5 => by
  simp only [List.take_succ_cons, List.cons.injEq] at h3 ⊢
  simp only [cmpInts] at h1 h2
  obtain ⟨rfl, h3⟩ := h3
  by_cases hxy : x < y
  ·rw [if_neg (by omega), if_pos (by omega)] at h2; omega
  ·rw [if_neg hxy] at h1
   split at h1
   ·omega
   ·have : x = y := by omega
    subst this
    rw [if_neg (by omega), if_neg (by omega)] at h2
    exact ⟨rfl, cmp_take n a b c h1 h2 h3 (by simpa using h4) (by simpa using h5)⟩

section
variable (S : Nat → Nat → Bool)
def blk (n s : Nat) : List Nat := (List.range n).filter (S s)
def isSt (s : Nat) : Bool := (List.range s).all fun k => !S s k
def sts (n : Nat) : List Nat := (List.range n).filter (isSt S)
def B (n : Nat) : List (List Nat) := (sts S n).map (blk S n)
structure Runs (n : Nat) : Prop where
 refl : ∀ i, S i i = true
 symm : ∀ i k, S i k = true → S k i = true
 trans : ∀ i j k, S i j = true → S j k = true → S i k = true
 run : ∀ i j k, i ≤ j → j ≤ k → k < n → S i k = true → S i j = true
variable {S}
theorem isSt_iff {s : Nat} : isSt S s = true ↔ ∀ k, k < s → S s k = false := by
 unfold isSt
 rw [List.all_eq_true]
 constructor
 ·intro h k hk
  have := h k (List.mem_range.2 hk)
  simpa using this
 ·intro h k hk
  rw [h k (List.mem_range.1 hk)]; rfl
theorem sts_succ (n : Nat) : sts S (n + 1) = sts S n ++ (if isSt S n = true then [n] else []) := by
 unfold sts
 rw [List.range_succ, List.filter_append]
 congr 1
 by_cases h : isSt S n = true <;> simp [h]
theorem blk_succ (n s : Nat) : blk S (n + 1) s = blk S n s ++ (if S s n = true then [n] else []) := by
 unfold blk
 rw [List.range_succ, List.filter_append]
 congr 1
 by_cases h : S s n = true <;> simp [h]
theorem mem_sts {n s : Nat} : s ∈ sts S n ↔ s < n ∧ isSt S s = true := by
 unfold sts; rw [List.mem_filter, List.mem_range]
theorem blk_start {n : Nat} (h : isSt S n = true) : blk S n n = [] := by
 unfold blk
 rw [List.filter_eq_nil_iff]
 intro k hk
 rw [isSt_iff.1 h k (List.mem_range.1 hk)]; simp
theorem B_new {N n : Nat} (hS : Runs S N) (h : isSt S n = true) : B S (n + 1) = B S n ++ [[n]] := by
 unfold B
 rw [sts_succ, if_pos h, List.map_append]
 congr 1
 ·apply List.map_congr_left
  intro s hs
  obtain ⟨h1, h2⟩ := mem_sts.1 hs
  rw [blk_succ, if_neg, List.append_nil]
  intro hc
  have := hS.symm _ _ hc
  rw [isSt_iff.1 h s h1] at this
  simp at this
 ·simp only [List.map_cons, List.map_nil]
  rw [blk_succ, blk_start h, if_pos (hS.refl n)]; rfl
theorem last_start {N : Nat} (hS : Runs S N) : ∀ n, 0 < n → n ≤ N → ∃ A t, sts S n = A ++ [t] ∧ t < n ∧ isSt S t = true ∧ ∀ k, t ≤ k → k < n → S t k = true
 | 0, h, _ => by omega
 | n + 1, _, hN => by
  by_cases h : isSt S n = true
  ·refine ⟨sts S n, n, by rw [sts_succ, if_pos h], by omega, h, fun k h1 h2 => ?_⟩
   have : k = n := by omega
   subst this
   exact hS.refl _
  ·have hn : 0 < n := by
    apply Decidable.byContradiction
    intro h0
    have : n = 0 := by omega
    subst this
    apply h
    rw [isSt_iff]; intro k hk; omega
   obtain ⟨A, t, e, h1, h2, h3⟩ := last_start hS n hn (by omega)
   refine ⟨A, t, by rw [sts_succ, if_neg h, List.append_nil]; exact e, by omega, h2, fun k k1 k2 => ?_⟩
   by_cases hk : k < n
   ·exact h3 k k1 hk
   ·have : k = n := by omega
    subst this
    obtain ⟨q, q1, q2⟩ : ∃ q, q < k ∧ S k q = true := by
     apply Decidable.byContradiction
     intro hc
     apply h
     rw [isSt_iff]
     intro q hq
     rw [Bool.eq_false_iff]
     exact fun hs => hc ⟨q, hq, hs⟩
    have q3 := hS.symm _ _ q2
    have q4 := hS.run q (k - 1) k (by omega) (by omega) (by omega) q3
    exact hS.trans _ _ _ (h3 (k - 1) (by omega) (by omega)) (hS.trans _ _ _ (hS.symm _ _ q4) q3)
theorem B_old {N n : Nat} (hS : Runs S N) (h : ¬ isSt S n = true) (hn : n < N) {A : List Nat} {t : Nat} (e : sts S n = A ++ [t]) (ht : S t n = true) : B S (n + 1) = A.map (blk S n) ++ [blk S n t ++ [n]] := by
 unfold B
 rw [sts_succ, if_neg h, List.append_nil, e, List.map_append]
 congr 1
 ·apply List.map_congr_left
  intro s hs
  rw [blk_succ, if_neg, List.append_nil]
  intro hc
  have hst := hS.trans _ _ _ hc (hS.symm _ _ ht)
  have m1 := mem_sts.1 (show s ∈ sts S n by rw [e]; simp [hs])
  have m2 := mem_sts.1 (show t ∈ sts S n by rw [e]; simp)
  have hne : s ≠ t := by
   have hnd : (sts S n).Nodup := List.nodup_range.sublist List.filter_sublist
   rw [e] at hnd
   exact fun h => (List.nodup_append.1 hnd).2.2 s hs t (by simp) h
  by_cases hlt : s < t
  ·have := isSt_iff.1 m2.2 s hlt
   rw [hS.symm _ _ hst] at this; simp at this
  ·have := isSt_iff.1 m1.2 t (by omega)
   rw [hst] at this; simp at this
 ·simp only [List.map_cons, List.map_nil]
  rw [blk_succ, if_pos ht]
theorem blk_head {n s : Nat} (hr : S s s = true) (hs : s < n) : ∃ h r, blk S n s = h :: r ∧ S s h = true ∧ (h = s ↔ isSt S s = true) := by
 have hm : s ∈ blk S n s := List.mem_filter.2 ⟨List.mem_range.2 hs, hr⟩
 cases hb : blk S n s with
 | nil => rw [hb] at hm; simp at hm
 | cons h r =>
  have hh : (blk S n s).head? = some h := by rw [hb]; rfl
  unfold blk at hh
  rw [List.head?_filter, List.find?_range_eq_some] at hh
  obtain ⟨h1, h2, h3⟩ := hh
  refine ⟨h, r, rfl, h1, ?_⟩
  constructor
  ·intro e
   subst e
   rw [isSt_iff]
   intro k hk
   have := h3 k hk
   simpa using this
  ·intro hst
   have h4 : ¬ h < s := fun hlt => by
    rw [isSt_iff.1 hst h hlt] at h1; simp at h1
   have h5 : ¬ s < h := fun hlt => by
    have := h3 s hlt
    rw [hr] at this; simp at this
   omega
theorem B_length {N : Nat} (hS : Runs S N) : ∀ n, n ≤ N → ((B S n).map List.length).sum = n
 | 0, _ => by simp [B, sts]
 | n + 1, hn => by
  by_cases h : isSt S n = true
  ·rw [B_new hS h, List.map_append, List.sum_append, B_length hS n (by omega)]; simp
  ·have hn0 : 0 < n := by
    apply Decidable.byContradiction
    intro h0
    have : n = 0 := by omega
    subst this
    apply h
    rw [isSt_iff]; intro k hk; omega
   obtain ⟨A, t, e, h1, h2, h3⟩ := last_start hS (n + 1) (by omega) hn
   have e' : sts S n = A ++ [t] := by rw [sts_succ, if_neg h, List.append_nil] at e; exact e
   have ih := B_length hS n (by omega)
   rw [B_old hS h (by omega) e' (h3 n (by omega) (by omega))]
   unfold B at ih
   rw [e'] at ih
   simp only [List.map_append, List.sum_append, List.map_cons, List.map_nil, List.sum_cons, List.sum_nil, List.length_append, List.length_singleton] at ih ⊢
   omega
end
end Go.PL
namespace Go.PL
set_option linter.unusedVariables false
def keyLen (l : List Rel) (f : Fact) : Int := (l.getD f.1.toNat (⟨#[]⟩, 0, 0)).2.2
def keyOf (l : List Rel) (f : Fact) : List Int := f.2.take (keyLen l f).toNat
def sameK (l : List Rel) (a b : Fact) : Bool := decide (a.1 = b.1) && decide (keyOf l a = keyOf l b)

theorem validRel_key {r : Rel} (h : validRel r = true) : 0 ≤ r.2.2 ∧ r.2.2 ≤ r.2.1 := by
 unfold validRel spec_IsValidRelation at h
 by_cases h1 : r.1.size = 1
 ·have hb : ∃ b, byteAt r.1 0 = some b := by
   unfold byteAt
   have : (0 : Int).toNat < r.1.size := by omega
   exact ⟨r.1[(0 : Int).toNat], by rw [if_pos (by omega), getElem?_pos]⟩
  obtain ⟨b, hb⟩ := hb
  rw [hb] at h
  simp only [Option.bind_some, l1In] at h
  by_cases h2 : 0 ≤ r.2.2 ∧ r.2.2 ≤ r.2.1
  ·exact h2
  ·rw [decide_eq_false h2] at h
   exfalso
   revert h
   cases ((r.1.size : Int) == 1) <;> cases decide ((b.toNat : Int) ≥ 97) <;> cases decide ((b.toNat : Int) ≤ 122) <;> cases decide (1 ≤ r.2.1 ∧ r.2.1 ≤ 3) <;> simp
 ·have h0 : ((r.1.size : Int) == 1) = false := by rw [beqI]; simp; omega
  rw [h0] at h
  simp at h
theorem validRels_at {l : List Rel} (h : validRels l = true) {j : Nat} (hj : j < l.length) : validRel (l.getD j (⟨#[]⟩, 0, 0)) = true := by
 have := (of_decide_eq_true h).1 j hj
 rw [Bool.and_eq_true] at this
 exact this.1
structure GoodFact (l : List Rel) (f : Fact) : Prop where
 lo : 0 ≤ f.1
 hi : f.1 < (l.length : Int)
 len : (f.2.length : Int) = (l.getD f.1.toNat (⟨#[]⟩, 0, 0)).2.1
 k0 : 0 ≤ keyLen l f
 k1 : keyLen l f ≤ (f.2.length : Int)
theorem goodFact {l : List Rel} {f : Fact} (hl : validRels l = true) (hf : fact1 l f = true) : GoodFact l f := by
 unfold fact1 at hf
 rw [Bool.and_eq_true, Bool.and_eq_true, decide_eq_true_eq, decide_eq_true_eq] at hf
 obtain ⟨⟨h1, h2⟩, h3, h4⟩ := hf
 have := validRel_key (validRels_at hl (j := f.1.toNat) (by omega))
 exact ⟨h1, by omega, h3, this.1, by rw [h3]; exact this.2⟩

theorem implEqual {N : Nat} {a b : List Int} (ha : a.length ≤ 1048576) (hN : 1048576 < N) : slices_Equal_Lint_int N a b = some (decide (a = b)) := by
 unfold slices_Equal_Lint_int slices_Equal_Lint_int_b
 by_cases hl : a.length = b.length
 ·have : ((a.length : Int) != (b.length : Int)) = false := by rw [bneI]; simp; omega
  rw [this, cond_false, every (n := a.length) (fun j => decide (a[j]? = b[j]?)) (fun k i => slices_Equal_Lint_int_l0 N k a b (a.length : Int) i) (fun k => by simp [slices_Equal_Lint_int_l0, slices_Equal_Lint_int_l0_b]) (fun k j hj => ?_) (by omega)]
  ·congr 1
   exact decide_eq_decide.2 (list_eq_iff hl).symm
  ·have h1 : (j : Int) < (a.length : Int) := by omega
   have hjb : j < b.length := by omega
   simp only [slices_Equal_Lint_int_l0, slices_Equal_Lint_int_l0_b, h1, decide_true, cond_true, inb_lt hj, inb_lt hjb, grd_true, at_lt hj, at_lt hjb, w64_succ (show j < 4611686018427387904 by omega), bneI, List.getElem?_eq_getElem hj, List.getElem?_eq_getElem hjb, Option.some.injEq]
   by_cases h : a[j] = b[j] <;> simp [h]
 ·have : ((a.length : Int) != (b.length : Int)) = true := by rw [bneI]; simp; omega
  have hne : ¬ a = b := fun h => hl (by rw [h])
  rw [this, cond_true, decide_eq_false hne]

theorem subOk_true {lo hi : Int} {n : Nat} (h1 : 0 ≤ lo) (h2 : lo ≤ hi) (h3 : hi ≤ (n : Int)) : subOk lo hi n = true := by
 unfold subOk; rw [decide_eq_true h1, decide_eq_true h2, decide_eq_true h3]; rfl
theorem appOk_lt {α : Type} {s x : List α} {b : Nat} (hb : b ≤ 1000) (h : s.length + x.length ≤ 140737488355) : appOk s x b = true := by
 unfold appOk
 refine decide_eq_true ?_
 calc (s.length + x.length) * b ≤ 140737488355 * 1000 := Nat.mul_le_mul h hb
  _ ≤ _ := by omega
theorem specKey {N : Nat} {l : List Rel} {f : Fact} (hl : l.length ≤ 1048576) (hf : f.2.length ≤ 1048576) (hN : 1048576 < N) (hv : validRels l = true) (h1 : fact1 l f = true) : spec_KeyOf N l f = some (keyOf l f) := by
 have g := goodFact hv h1
 have e : (at_ (⟨#[]⟩, 0, 0) l f.1).2.2 = keyLen l f := rfl
 unfold spec_KeyOf
 rw [specFact hl hf hN, hv, h1, Option.bind_some, inb_int g.lo g.hi, grd_true]
 simp only [Bool.and_self, Bool.not_true, cond_false, e]
 rw [subOk_true (by omega) g.k0 g.k1, grd_true, appOk_lt (by omega) (by simp only [List.length_nil, List.length_take]; omega), grd_true]
 rfl
theorem specSame {N : Nat} {l : List Rel} {a b : Fact} (hl : l.length ≤ 1048576) (ha : a.2.length ≤ 1048576) (hb : b.2.length ≤ 1048576) (hN : 1048576 < N) (hv : validRels l = true) (h1 : fact1 l a = true) (h2 : fact1 l b = true) : spec_HaveSameKey N l a b = some (sameK l a b) := by
 unfold spec_HaveSameKey sameK
 rw [specFact hl ha hN, specFact hl hb hN, hv, h1, h2]
 simp only [Bool.and_self, Option.bind_some, cond_true, beqI]
 by_cases h : a.1 = b.1
 ·rw [decide_eq_true h, cond_true, specKey hl ha hN hv h1, specKey hl hb hN hv h2, Option.bind_some, Option.bind_some,
   specInts (by unfold keyOf; rw [List.length_take]; omega) (by unfold keyOf; rw [List.length_take]; omega) hN, Option.bind_some, Bool.true_and]
  congr 1
  exact decide_eq_decide.2 (cmpInts_eq _ _)
 ·rw [decide_eq_false h]; rfl
theorem implSame {N : Nat} {l : List Rel} {a b : Fact} (ha : a.2.length ≤ 1048576) (hb : b.2.length ≤ 1048576) (hN : 1048576 < N) (hv : validRels l = true) (h1 : fact1 l a = true) (h2 : fact1 l b = true) : impl_sameKey N l a b = some (sameK l a b) := by
 have g := goodFact hv h1
 have g' := goodFact hv h2
 have e : (at_ (⟨#[]⟩, 0, 0) l a.1).2.2 = keyLen l a := rfl
 unfold impl_sameKey sameK
 rw [bneI]
 by_cases h : a.1 = b.1
 ·have hk : keyLen l a = keyLen l b := by unfold keyLen; rw [h]
  rw [decide_eq_true h, Bool.not_true, cond_false, inb_int g.lo g.hi, grd_true, e]
  rw [subOk_true (by omega) g.k0 g.k1, grd_true, subOk_true (by omega) g.k0 (by have := g'.k1; rw [← hk] at this; exact this), grd_true, implEqual (by rw [List.length_take]; omega) hN, Option.bind_some, Bool.true_and]
  unfold keyOf
  rw [← hk]
 ·rw [decide_eq_false h]; rfl

def sameD (d : Db) (i k : Nat) : Bool := sameK d.1 (factAt d i) (factAt d k)
structure ValidDb (d : Db) : Prop where
 rels : validRels d.1 = true
 few : d.2.length ≤ 14
 fact : ∀ j, j < d.2.length → fact1 d.1 (factAt d j) = true
 lt : ∀ i k, i < k → k < d.2.length → cmpFacts (factAt d i) (factAt d k) < 0
theorem validDb_of {d : Db} (h : validDb d = true) : ValidDb d := by
 unfold validDb at h
 rw [Bool.and_eq_true, Bool.and_eq_true, decide_eq_true_eq, decide_eq_true_eq] at h
 obtain ⟨h1, h2, h3⟩ := h
 refine ⟨h1, h2, fun j hj => ?_, ?_⟩
 ·have := h3 j hj
  rw [Bool.and_eq_true] at this
  exact this.1
 ·have step : ∀ j, 0 < j → j < d.2.length → cmpFacts (factAt d (j - 1)) (factAt d j) < 0 := by
   intro j h0 hj
   have := h3 j hj
   rw [Bool.and_eq_true, Bool.or_eq_true, decide_eq_true_eq, decide_eq_true_eq] at this
   rcases this.2 with h | h
   ·omega
   ·exact h
  intro i k
  induction k with
  | zero => intro h; omega
  | succ k ih =>
   intro hik hk
   have hs := step (k + 1) (by omega) hk
   rw [Nat.add_sub_cancel] at hs
   by_cases h : i = k
   ·subst h; exact hs
   ·exact cmpFacts_trans (ih (by omega) (by omega)) hs
theorem runs {d : Db} (h : ValidDb d) : Runs (sameD d) d.2.length := by
 refine ⟨fun i => by simp [sameD, sameK], fun i k hs => ?_, fun i j k h1 h2 => ?_, fun i j k hij hjk hk hs => ?_⟩
 ·simp only [sameD, sameK, Bool.and_eq_true, decide_eq_true_eq] at hs ⊢
  exact ⟨hs.1.symm, hs.2.symm⟩
 ·simp only [sameD, sameK, Bool.and_eq_true, decide_eq_true_eq] at h1 h2 ⊢
  exact ⟨h1.1.trans h2.1, h1.2.trans h2.2⟩
 ·by_cases e1 : i = j
  ·subst e1; simp [sameD, sameK]
  ·by_cases e2 : j = k
   ·subst e2; exact hs
   ·have l1 := h.lt i j (by omega) (by omega)
    have l2 := h.lt j k (by omega) hk
    have g1 := goodFact h.rels (h.fact i (by omega))
    have g2 := goodFact h.rels (h.fact j (by omega))
    have g3 := goodFact h.rels (h.fact k hk)
    simp only [sameD, sameK, Bool.and_eq_true, decide_eq_true_eq] at hs ⊢
    obtain ⟨s1, s2⟩ := hs
    generalize factAt d i = a at *
    generalize factAt d j = b at *
    generalize factAt d k = c at *
    have hab : a.1 = b.1 := by
     unfold cmpFacts at l1 l2
     by_cases q1 : a.1 < b.1
     ·have : b.1 > c.1 := by omega
      rw [if_neg (by omega), if_pos this] at l2; omega
     ·rw [if_neg q1] at l1
      split at l1
      ·omega
      ·omega
    have hbc : b.1 = c.1 := by omega
    have c1 : cmpInts a.2 b.2 < 0 := by unfold cmpFacts at l1; rw [if_neg (by omega), if_neg (by omega)] at l1; exact l1
    have c2 : cmpInts b.2 c.2 < 0 := by unfold cmpFacts at l2; rw [if_neg (by omega), if_neg (by omega)] at l2; exact l2
    have k1 : keyLen d.1 a = keyLen d.1 b := by unfold keyLen; rw [hab]
    have k2 : keyLen d.1 b = keyLen d.1 c := by unfold keyLen; rw [hbc]
    have n1 := g1.len
    have n2 := g2.len
    have n3 := g3.len
    rw [hab] at n1
    rw [hbc] at n1 n2
    unfold keyOf at s2 ⊢
    rw [← k2, ← k1] at s2
    rw [← k1]
    exact ⟨hab, cmp_take _ _ _ _ c1 c2 s2 (by omega) (by omega)⟩
end Go.PL
namespace Go.PL
set_option linter.unusedVariables false
abbrev Ctx := List Int × Int × Int
structure COk (c : Ctx) : Prop where
 len : c.1.length ≤ 1048576
 lo : 0 ≤ c.2.1
 hi : c.2.1 ≤ c.1.length
/-- A draw: the context goes on, and what comes holds. -/
def Dr {α : Type} (c : Ctx) (o : Option (Ctx × α)) (Q : α → Prop) : Prop := ∃ (p : Int × Int) (x : α), o = some ((c.1, p), x) ∧ COk (c.1, p) ∧ Q x
theorem Dr.bind {α β : Type} {c : Ctx} {o : Option (Ctx × α)} {Q : α → Prop} {k : Ctx × α → Option (Ctx × β)} {Q' : β → Prop} (h : Dr c o Q) (hk : ∀ p x, COk (c.1, p) → Q x → Dr (c.1, p) (k ((c.1, p), x)) Q') : Dr c (o.bind k) Q' := by
 obtain ⟨p, x, h1, h2, h3⟩ := h
 rw [h1, Option.bind_some]
 exact hk p x h2 h3
theorem Dr.ret {α : Type} {c : Ctx} {p : Int × Int} {x : α} {Q : α → Prop} (h : COk (c.1, p)) (hx : Q x) : Dr c (some ((c.1, p), x)) Q := ⟨p, x, rfl, h, hx⟩
theorem and255 (x : Int) : 0 ≤ bits .and .i64 x 255 ∧ bits .and .i64 x 255 ≤ 255 := by
 have h : (BitVec.ofInt 64 x &&& BitVec.ofInt 64 255).toNat ≤ 255 := by
  rw [BitVec.toNat_and]
  exact Nat.le_trans Nat.and_le_right (by decide)
 show 0 ≤ w64 ((BitVec.ofInt 64 x &&& BitVec.ofInt 64 255).toNat : Int) ∧ w64 ((BitVec.ofInt 64 x &&& BitVec.ofInt 64 255).toNat : Int) ≤ 255
 rw [w64_id (by omega) (by omega)]
 omega

theorem newOk {N : Nat} {code : List Int} (hc : code.length ≤ 1048576) (hN : 1048576 < N) : ∃ c, spec_l1New N code = some c ∧ COk c := by
 unfold spec_l1New spec_l1New_b
 have := loop (fun k (s : Int × Nat) => spec_l1New_l0 N k code s.1 (s.2 : Int)) (fun s => s.2 ≤ code.length) (fun s => code.length - s.2) (fun o => ∃ c, o = some c ∧ COk c) (fun k s hs => by
  obtain ⟨h, j⟩ := s
  simp only at hs ⊢
  simp only [spec_l1New_l0, spec_l1New_l0_b]
  by_cases hj : j < code.length
  ·by_cases h4 : (j : Int) < 4000
   ·right
    refine ⟨(bits .and .i64 (w64 ((w64 ((w64 (h * 131)) + (w64 (at_ 0 code j)))) + 7)) 1073741823, j + 1), hj, by omega, ?_⟩
    have h1 : (j : Int) < (code.length : Int) := by omega
    simp only [h1, decide_true, cond_true, h4, inb_lt hj, grd_true, w64_succ (show j < 4611686018427387904 by omega)]
   ·left
    have h1 : (j : Int) < (code.length : Int) := by omega
    simp only [h1, decide_true, cond_true, h4, decide_false, cond_false]
    exact ⟨_, rfl, hc, Int.le_refl 0, by simp⟩
  ·left
   have h1 : ¬ (j : Int) < (code.length : Int) := by omega
   simp only [h1, decide_false, cond_false]
   exact ⟨_, rfl, hc, Int.le_refl 0, by simp⟩) N (w64 (10101 + (code.length : Int)), 0) (by simp; omega) (by simp)
 exact this
theorem byteOk {N : Nat} {c : Ctx} (h : COk c) : Dr c (spec_l1Byte N c) (fun b => 0 ≤ b ∧ b ≤ 255) := by
 obtain ⟨l, p, q⟩ := c
 obtain ⟨h1, h2, h3⟩ := h
 simp only at h1 h2 h3
 simp only [spec_l1Byte]
 by_cases hp : p < (l.length : Int)
 ·simp only [hp, decide_true, cond_true, inb_int h2 hp, grd_true]
  have : w64 (p + 1) = p + 1 := w64_id (by omega) (by omega)
  refine Dr.ret (c := (l, p, q)) ⟨h1, ?_, ?_⟩ (and255 _)
  ·show (0 : Int) ≤ w64 (p + 1); omega
  ·show w64 (p + 1) ≤ l.length; omega
 ·simp only [hp, decide_false, cond_false]
  exact Dr.ret (c := (l, p, q)) ⟨h1, h2, h3⟩ (and255 _)
theorem tmod_in {x n : Int} (hx : 0 ≤ x) (hn : 0 < n) : 0 ≤ x.tmod n ∧ x.tmod n < n := ⟨Int.tmod_nonneg n hx, Int.tmod_lt_of_pos x hn⟩
theorem belowOk {N : Nat} {c : Ctx} {n : Int} (h : COk c) : Dr c (spec_l1Below N c n) (fun b => 0 ≤ b ∧ (0 < n → b < n) ∧ (n ≤ 0 → b = 0)) := by
 unfold spec_l1Below
 by_cases h0 : n ≤ 0
 ·simp only [h0, decide_true, cond_true]
  exact ⟨c.2, 0, rfl, h, Int.le_refl 0, fun h1 => absurd h1 (by omega), fun _ => rfl⟩
 ·simp only [h0, decide_false, cond_false]
  by_cases h1 : n ≤ 256
  ·simp only [h1, decide_true, cond_true]
   refine (byteOk h).bind fun p x hp hx => ?_
   simp only [grz_ne (show n ≠ 0 by omega)]
   have := tmod_in hx.1 (show 0 < n by omega)
   exact Dr.ret (c := (c.1, p)) hp ⟨this.1, fun _ => this.2, fun h4 => h4.elim⟩
  ·simp only [h1, decide_false, cond_false]
   refine (byteOk h).bind fun p x hp hx => ?_
   refine (byteOk (c := (c.1, p)) hp).bind fun p2 x2 hp2 hx2 => ?_
   refine (byteOk (c := (c.1, p2)) hp2).bind fun p3 x3 hp3 hx3 => ?_
   refine (byteOk (c := (c.1, p3)) hp3).bind fun p4 x4 hp4 hx4 => ?_
   simp only [grz_ne (show n ≠ 0 by omega)]
   have e : w64 ((w64 ((w64 ((w64 (x * 16777216)) + (w64 (x2 * 65536)))) + (w64 (x3 * 256)))) + x4) = x * 16777216 + x2 * 65536 + x3 * 256 + x4 := by
    rw [w64_id (x := x * 16777216) (by omega) (by omega), w64_id (x := x2 * 65536) (by omega) (by omega), w64_id (x := x3 * 256) (by omega) (by omega), w64_id (x := x * 16777216 + x2 * 65536) (by omega) (by omega), w64_id (x := x * 16777216 + x2 * 65536 + x3 * 256) (by omega) (by omega), w64_id (by omega) (by omega)]
   have := tmod_in (x := x * 16777216 + x2 * 65536 + x3 * 256 + x4) (by omega) (show 0 < n by omega)
   rw [e]
   exact Dr.ret (c := (c.1, p4)) hp4 ⟨this.1, fun _ => this.2, fun h4 => h4.elim⟩
theorem pickOk {N : Nat} {c : Ctx} {l : List Int} (h : COk c) (hl : 0 < l.length) : Dr c (spec_l1PickInt N c l) (fun x => x ∈ l) := by
 unfold spec_l1PickInt
 refine (belowOk h).bind fun p x hp hx => ?_
 have hi := hx.2.1 (by omega)
 simp only [inb_int hx.1 hi, grd_true, at_int hx.1 hi]
 exact Dr.ret (c := (c.1, p)) hp (List.getElem_mem _)
theorem pickSOk {N : Nat} {c : Ctx} {l : List ByteArray} (h : COk c) (hl : 0 < l.length) : Dr c (spec_l1Pick N c l) (fun x => x ∈ l) := by
 unfold spec_l1Pick
 refine (belowOk h).bind fun p x hp hx => ?_
 have hi := hx.2.1 (by omega)
 simp only [inb_int hx.1 hi, grd_true, at_int hx.1 hi]
 exact Dr.ret (c := (c.1, p)) hp (List.getElem_mem _)
/-- The four relations that are drawn. -/
def RelsD (l : List Rel) : Prop := l.length = 4 ∧ ∀ r ∈ l, 2 ≤ r.2.1 ∧ r.2.1 ≤ 3
theorem sigsOk {N : Nat} {c : Ctx} (h : COk c) : Dr c (spec_l2Sigs N c) RelsD := by
 unfold spec_l2Sigs
 refine (pickOk h (by decide)).bind fun p x hp hx => ?_
 refine (belowOk (c := (c.1, p)) hp).bind fun p2 x2 hp2 hx2 => ?_
 refine Dr.ret (c := (c.1, p2)) hp2 ⟨rfl, fun r hr => ?_⟩
 simp only [List.mem_cons, List.not_mem_nil, or_false] at hr
 rcases hr with rfl | rfl | rfl | rfl <;> simp
theorem getD4 {l : List Rel} (hl : RelsD l) {x : Int} (h0 : 0 ≤ x) (h1 : x < l.length) : inb x l = true ∧ 2 ≤ (at_ ((⟨#[]⟩, (0, 0)) : Rel) l x).2.1 ∧ (at_ ((⟨#[]⟩, (0, 0)) : Rel) l x).2.1 ≤ 3 := by
 refine ⟨inb_int h0 h1, ?_⟩
 rw [at_int h0 h1]
 exact hl.2 _ (List.getElem_mem _)
/-- A fact that is drawn. -/
def FactD (f : Fact) : Prop := 2 ≤ f.2.length ∧ f.2.length ≤ 3
theorem factOk {N : Nat} {c : Ctx} {l : List Rel} {v : Int} (h : COk c) (hl : RelsD l) (hN : 1048576 < N) : Dr c (spec_l3Fact N c l v) FactD := by
 unfold spec_l3Fact spec_l3Fact_b
 refine (belowOk h).bind fun p x hp hx => ?_
 have hi := hx.2.1 (by rw [hl.1]; decide)
 obtain ⟨g1, g2, g3⟩ := getD4 hl hx.1 hi
 have := loop (fun k (s : (Int × Int) × List Int) => spec_l3Fact_l0 N k c.1 s.1.1 s.1.2 l v 0 [] x s.2) (fun s => COk (c.1, s.1) ∧ (s.2.length : Int) ≤ (at_ ((⟨#[]⟩, (0, 0)) : Rel) l x).2.1) (fun s => 4 - s.2.length) (fun o => Dr c o FactD) (fun k s hs => by
  obtain ⟨q, f2⟩ := s
  simp only at hs ⊢
  obtain ⟨hs1, hs2⟩ := hs
  simp only [spec_l3Fact_l0, spec_l3Fact_l0_b, g1, grd_true]
  by_cases hc : (f2.length : Int) < (at_ ((⟨#[]⟩, (0, 0)) : Rel) l x).2.1
  ·right
   simp only [hc, decide_true, cond_true]
   obtain ⟨q2, y, e, hq, hy⟩ := belowOk (N := N) (c := (c.1, q.1, q.2)) (n := v) hs1
   refine ⟨(q2, f2 ++ [y]), ⟨hq, by simp; omega⟩, by simp; omega, ?_⟩
   rw [e, Option.bind_some]
   simp only
   rw [appOk_lt (by omega) (by simp; omega), grd_true]
  ·left
   simp only [hc, decide_false, cond_false]
   exact Dr.ret (c := c) (p := q) hs1 ⟨by simp only; omega, by simp only; omega⟩) N (p, []) (by simp; omega) ⟨hp, by simp; omega⟩
 exact this

/-- A database on its way: small. -/
structure DbD (m : Nat) (d : Db) : Prop where
 rels : d.1.length ≤ 1000
 facts : d.2.length ≤ m
 vals : ∀ f ∈ d.2, f.2.length ≤ 1000
theorem DbD.small {m : Nat} {d : Db} (h : DbD m d) (hm : m ≤ 1000) : SmallDb d := ⟨Nat.le_trans h.rels (by omega), Nat.le_trans h.facts (by omega), fun f hf => Nat.le_trans (h.vals f hf) (by omega)⟩
theorem copyOk {N m : Nat} {d : Db} (h : DbD m d) (hm : m ≤ 1000) (hN : 1048576 < N) : spec_l4Copy N d = some d := by
 have hr := h.rels
 have hf := h.facts
 unfold spec_l4Copy spec_l4Copy_b
 rw [appOk_lt (by omega) (by simp; omega), grd_true]
 have := loop (fun k (s : Nat) => spec_l4Copy_l0 N k d.1 d.2 [] [] d.1 (d.2.take s) (s : Int)) (fun s => s ≤ d.2.length) (fun s => d.2.length - s) (fun o => o = some d) (fun k j hs => by
  simp only [spec_l4Copy_l0, spec_l4Copy_l0_b]
  by_cases hj : j < d.2.length
  ·right
   refine ⟨j + 1, hj, by omega, ?_⟩
   have h1 : (j : Int) < (d.2.length : Int) := by omega
   have h3 := h.vals _ (List.getElem_mem hj)
   simp only [h1, decide_true, cond_true, inb_lt hj, grd_true, at_lt hj]
   rw [appOk_lt (by omega) (by simp; omega), grd_true, appOk_lt (by omega) (by simp; omega), grd_true, w64_succ (by omega), List.take_succ_eq_append_getElem hj]
  ·left
   have h1 : ¬ (j : Int) < (d.2.length : Int) := by omega
   simp only [h1, decide_false, cond_false]
   rw [List.take_of_length_le (by omega)]) N 0 (by omega) (by omega)
 simpa using this
theorem findOk {N m : Nat} {d : Db} {f : Fact} (h : DbD m d) (hm : m ≤ 1000) (hf : f.2.length ≤ 1000) (hN : 1048576 < N) : ∃ i, spec_FactIndex N d f = some i := by
 have hl := h.facts
 unfold spec_FactIndex spec_FactIndex_b
 have := loop (fun k (s : Nat) => spec_FactIndex_l0 N k d.1 d.2 f.1 f.2 (s : Int)) (fun s => s ≤ d.2.length) (fun s => d.2.length - s) (fun o => ∃ i, o = some i) (fun k j hs => by
  simp only [spec_FactIndex_l0, spec_FactIndex_l0_b]
  by_cases hj : j < d.2.length
  ·have h1 : (j : Int) < (d.2.length : Int) := by omega
   have h3 := h.vals _ (List.getElem_mem hj)
   simp only [h1, decide_true, cond_true, inb_lt hj, grd_true, at_lt hj]
   rw [specCmp (by omega) (by simp only; omega) hN, Option.bind_some]
   cases hc : (cmpFacts d.2[j] (f.1, f.2) == 0) with
   | true => left; exact ⟨_, rfl⟩
   | false =>
    right
    refine ⟨j + 1, hj, by omega, ?_⟩
    rw [cond_false, w64_succ (by omega)]
  ·left
   have h1 : ¬ (j : Int) < (d.2.length : Int) := by omega
   simp only [h1, decide_false, cond_false]
   exact ⟨_, rfl⟩) N 0 (by omega) (by omega)
 exact this
theorem holdsOk {N m : Nat} {d : Db} {f : Fact} (h : DbD m d) (hm : m ≤ 1000) (hf : f.2.length ≤ 1000) (hN : 1048576 < N) : ∃ b, spec_ContainsFact N d f = some b := by
 unfold spec_ContainsFact
 rw [specDb (h.small hm) hN, Option.bind_some]
 cases validDb d with
 | false => exact ⟨_, rfl⟩
 | true =>
  obtain ⟨i, hi⟩ := findOk h hm hf hN
  rw [cond_true, hi, Option.bind_some]
  exact ⟨_, rfl⟩
theorem DbD.put {m : Nat} {d : Db} (h : DbD m d) {f : Fact} (hf : f.2.length ≤ 1000) (j : Nat) : DbD (m + 1) (d.1, d.2.take j ++ ([f] ++ d.2.drop j)) := by
 refine ⟨h.rels, ?_, ?_⟩
 ·have := h.facts
  simp only [List.length_append, List.length_take, List.length_drop, List.length_cons, List.length_nil]
  omega
 ·intro g hg
  simp only [List.mem_append, List.mem_cons, List.not_mem_nil, or_false] at hg
  rcases hg with hg | hg | hg
  ·exact h.vals g (List.mem_of_mem_take hg)
  ·rw [hg]; exact hf
  ·exact h.vals g (List.mem_of_mem_drop hg)
theorem insertOk {N m : Nat} {d : Db} {f : Fact} (h : DbD m d) (hm : m ≤ 900) (hf : f.2.length ≤ 1000) (hN : 1048576 < N) : ∃ d' b, spec_InsertFact N d f = some (d', b) ∧ d'.1 = d.1 ∧ DbD (m + 1) d' := by
 have hl := h.facts
 have hw : DbD (m + 1) d := ⟨h.rels, Nat.le_trans h.facts (by omega), h.vals⟩
 unfold spec_InsertFact spec_InsertFact_b
 rw [copyOk h (by omega) hN, Option.bind_some, specDb (h.small (by omega)) hN, Option.bind_some]
 cases validDb d with
 | false => exact ⟨d, false, rfl, rfl, hw⟩
 | true =>
  rw [Bool.not_true, cond_false, specFact (Nat.le_trans h.rels (by omega)) (by omega) hN, Option.bind_some]
  cases (validRels d.1 && fact1 d.1 f) with
  | false => exact ⟨d, false, rfl, rfl, hw⟩
  | true =>
   obtain ⟨b, hb⟩ := holdsOk h (by omega) hf hN
   rw [Bool.not_true, cond_false, hb, Option.bind_some]
   cases b with
   | true => exact ⟨d, false, rfl, rfl, hw⟩
   | false =>
    rw [cond_false]
    cases ((d.2.length : Int) == 14) with
    | true => exact ⟨d, false, rfl, rfl, hw⟩
    | false =>
     rw [cond_false]
     have fin : ∀ j : Nat, j ≤ d.2.length → (grd (appOk [] f.2 8) <| grd (subOk (j : Int) (d.2.length : Int) d.2.length) <| grd (appOk [(f.1, f.2)] (d.2.drop ((j : Int)).toNat) 32) <| grd (subOk 0 (j : Int) d.2.length) <| grd (appOk [] (d.2.take ((j : Int)).toNat) 32) <| grd (appOk (d.2.take ((j : Int)).toNat) ([(f.1, f.2)] ++ (d.2.drop ((j : Int)).toNat)) 32) <| some ((d.1, ((d.2.take ((j : Int)).toNat) ++ ([(f.1, f.2)] ++ (d.2.drop ((j : Int)).toNat)))), true)) = some ((d.1, d.2.take j ++ ([f] ++ d.2.drop j)), true) := by
      intro j hj
      have s1 : subOk (j : Int) (d.2.length : Int) d.2.length = true := by simp [subOk]; omega
      have s2 : subOk 0 (j : Int) d.2.length = true := by simp [subOk]; omega
      rw [s1, s2, Int.toNat_natCast, appOk_lt (by omega) (by simp; omega), appOk_lt (by omega) (by simp; omega), appOk_lt (by omega) (by simp; omega), appOk_lt (by omega) (by simp; omega)]
      rfl
     have := loop (fun k (s : Nat) => spec_InsertFact_l0 N k f.1 f.2 [] [] d.1 d.2 (s : Int)) (fun s => s ≤ d.2.length) (fun s => d.2.length - s) (fun o => ∃ d' b, o = some (d', b) ∧ d'.1 = d.1 ∧ DbD (m + 1) d') (fun k j hs => by
      simp only [spec_InsertFact_l0, spec_InsertFact_l0_b]
      by_cases hj : j < d.2.length
      ·have h1 : (j : Int) < (d.2.length : Int) := by omega
       have h3 := h.vals _ (List.getElem_mem hj)
       simp only [h1, decide_true, cond_true, inb_lt hj, grd_true, at_lt hj]
       rw [specCmp (by omega) (by simp only; omega) hN, Option.bind_some]
       cases hc : decide (cmpFacts d.2[j] (f.1, f.2) < 0) with
       | true =>
        right
        refine ⟨j + 1, hj, by omega, ?_⟩
        rw [cond_true, w64_succ (by omega)]
       | false =>
        left
        rw [cond_false, fin j hs]
        exact ⟨_, _, rfl, rfl, h.put hf j⟩
      ·left
       have h1 : ¬ (j : Int) < (d.2.length : Int) := by omega
       simp only [h1, decide_false, cond_false]
       rw [fin j hs]
       exact ⟨_, _, rfl, rfl, h.put hf j⟩) N 0 (by omega) (by omega)
     exact this
theorem FactD.le {f : Fact} (h : FactD f) : f.2.length ≤ 1000 := Nat.le_trans h.2 (by omega)
/-- The database that is drawn. -/
def DbDraw (d : Db) : Prop := RelsD d.1 ∧ DbD 20 d
theorem dbLoop1 {N : Nat} {c : Ctx} {l : List Rel} {v : Int} (hl : RelsD l) (hN : 1048576 < N) {K : Nat} {p : Int × Int} {fs : List Fact} {n : Nat} (hp : COk (c.1, p)) (hd : DbD (20 - n) (l, fs)) (hn : n ≤ 20) (hK : n < K) :
  Dr c (spec_l4Db_l1 N K c.1 p.1 p.2 [] [] l fs v (n : Int)) DbDraw := by
 have := loop (fun k (s : (Int × Int) × List Fact × Nat) => spec_l4Db_l1 N k c.1 s.1.1 s.1.2 [] [] l s.2.1 v (s.2.2 : Int)) (fun s => COk (c.1, s.1) ∧ s.2.2 ≤ 20 ∧ DbD (20 - s.2.2) (l, s.2.1)) (fun s => s.2.2) (fun o => Dr c o DbDraw) (fun k s hs => by
  obtain ⟨q, fs, n⟩ := s
  simp only at hs ⊢
  obtain ⟨h1, h2, h3⟩ := hs
  simp only [spec_l4Db_l1, spec_l4Db_l1_b]
  by_cases h0 : (n : Int) > 0
  ·right
   obtain ⟨q2, f, e1, hq2, hf⟩ := factOk (N := N) (c := (c.1, q.1, q.2)) (v := v) h1 hl hN
   obtain ⟨d', b, e2, h4, h5⟩ := insertOk h3 (by omega) hf.le hN
   obtain ⟨d1, d2⟩ := d'
   simp only at h4
   subst h4
   refine ⟨(q2, d2, n - 1), ⟨hq2, by simp only; omega, ⟨h5.rels, Nat.le_trans h5.facts (by simp only; omega), h5.vals⟩⟩, by simp only; omega, ?_⟩
   simp only [h0, decide_true, cond_true, e1, Option.bind_some, e2]
   rw [w64_pred (by omega) (by omega)]
  ·left
   have e : n = 0 := by omega
   subst e
   simp only [h0, decide_false, cond_false]
   exact Dr.ret (c := c) (p := q) h1 ⟨hl, h3⟩) K (p, fs, n) (by simp only; omega) ⟨hp, hn, hd⟩
 exact this
theorem dbOk {N : Nat} {c : Ctx} (h : COk c) (hN : 1048576 < N) : Dr c (spec_l4Db N c) DbDraw := by
 unfold spec_l4Db spec_l4Db_b
 refine (sigsOk h).bind fun p l hp hl => ?_
 refine (pickOk (c := (c.1, p)) hp (by decide)).bind fun p2 v hp2 hv => ?_
 refine (belowOk (c := (c.1, p2)) hp2).bind fun p3 n hp3 hn => ?_
 have h1 := hn.1
 have h2 := hn.2.1 (by decide)
 have hd : DbD 0 ((l, []) : Db) := ⟨by simp only; rw [hl.1]; decide, by simp, by simp⟩
 obtain ⟨M, rfl⟩ : ∃ M, N = M + 1 := ⟨N - 1, by omega⟩
 simp only [spec_l4Db_l0, spec_l4Db_l0_b]
 have e : w64 (2 + n) = ((n.toNat + 2 : Nat) : Int) := by rw [w64_id (by omega) (by omega)]; omega
 rw [e]
 have h0 : ((n.toNat + 2 : Nat) : Int) > 0 := by omega
 simp only [h0, decide_true, cond_true]
 refine (factOk (c := (c.1, p3)) hp3 hl hN).bind fun p4 f hp4 hf => ?_
 obtain ⟨d', b, e2, h4, h5⟩ := insertOk hd (by omega) hf.le hN
 obtain ⟨d1, d2⟩ := d'
 simp only at h4
 subst h4
 simp only [e2, Option.bind_some]
 rw [w64_pred (by omega) (by omega)]
 exact dbLoop1 (c := (c.1, p4)) hl hN hp4 ⟨h5.rels, Nat.le_trans h5.facts (by omega), h5.vals⟩ (by omega) (by omega)
theorem anyFactOk {N : Nat} {c : Ctx} {l : List Rel} (h : COk c) (hl : RelsD l) (hN : 1048576 < N) : Dr c (spec_l3Any N c l) (fun f => f.2.length ≤ 4) := by
 unfold spec_l3Any
 refine (factOk h hl hN).bind fun p f hp hf => ?_
 refine (belowOk (c := (c.1, p)) hp).bind fun p2 x hp2 hx => ?_
 have h1 := hf.1
 have h2 := hf.2
 cases (x == 0) with
 | true =>
  rw [cond_true]
  refine (belowOk (c := (c.1, p2)) hp2).bind fun p3 y hp3 hy => ?_
  exact Dr.ret (c := (c.1, p3)) hp3 (by simp only; omega)
 | false =>
  rw [cond_false]
  cases (x == 1) with
  | true =>
   rw [cond_true]
   simp only
   rw [appOk_lt (by omega) (by simp; omega), grd_true]
   exact Dr.ret (c := (c.1, p2)) hp2 (by simp; omega)
  | false =>
   rw [cond_false]
   cases (x == 2) with
   | true =>
    rw [cond_true]
    refine (pickOk (c := (c.1, p2)) hp2 (by decide)).bind fun p3 y hp3 hy => ?_
    simp only [inb_int (i := 0) (xs := f.2) (by omega) (by omega), grd_true, letv_eq]
    exact Dr.ret (c := (c.1, p3)) hp3 (by simp; omega)
   | false =>
    rw [cond_false]
    exact Dr.ret (c := (c.1, p2)) hp2 (by simp only; omega)
theorem anyRelOk {N : Nat} {c : Ctx} (h : COk c) : Dr c (spec_l2Any N c) (fun _ => True) := by
 unfold spec_l2Any
 refine (pickSOk h (by decide)).bind fun p f hp hf => ?_
 refine (belowOk (c := (c.1, p)) hp).bind fun p2 x hp2 hx => ?_
 refine (belowOk (c := (c.1, p2)) hp2).bind fun p3 y hp3 hy => ?_
 exact Dr.ret (c := (c.1, p3)) hp3 trivial
theorem anyDbOk {N : Nat} {c : Ctx} (h : COk c) (hN : 1048576 < N) : Dr c (spec_l4Any N c) (fun d => DbD 21 d) := by
 unfold spec_l4Any
 refine (dbOk h hN).bind fun p d hp hd => ?_
 refine (belowOk (c := (c.1, p)) hp).bind fun p2 x hp2 hx => ?_
 obtain ⟨hl, h1, h2, h3⟩ := hd
 have hl4 := hl.1
 cases (x == 0) with
 | true =>
  rw [cond_true]
  refine (anyFactOk (c := (c.1, p2)) hp2 hl hN).bind fun p3 f hp3 hf => ?_
  simp only
  rw [appOk_lt (by omega) (by simp; omega), grd_true]
  refine Dr.ret (c := (c.1, p3)) hp3 ⟨h1, by simp; omega, fun g hg => ?_⟩
  simp only [List.mem_append, List.mem_cons, List.not_mem_nil, or_false] at hg
  rcases hg with hg | rfl
  ·exact h3 g hg
  ·omega
 | false =>
  rw [cond_false]
  cases (x == 1) with
  | true =>
   rw [cond_true]
   refine (belowOk (c := (c.1, p2)) hp2).bind fun p3 y hp3 hy => ?_
   have y1 := hy.1
   have y2 := hy.2.1 (by decide)
   have s2 : subOk 0 y d.1.length = true := by simp [subOk]; omega
   simp only [s2, grd_true]
   exact Dr.ret (c := (c.1, p3)) hp3 ⟨by simp; omega, by simp only; omega, h3⟩
  | false =>
   rw [cond_false]
   cases (x == 2) with
   | true =>
    rw [cond_true]
    refine (belowOk (c := (c.1, p2)) hp2).bind fun p3 y hp3 hy => ?_
    refine (anyRelOk (c := (c.1, p3)) hp3).bind fun p4 z hp4 hz => ?_
    have y1 := hy.1
    have y2 := hy.2.1 (by decide)
    simp only [inb_int (i := y) (xs := d.1) y1 (by omega), grd_true, letv_eq]
    exact Dr.ret (c := (c.1, p4)) hp4 ⟨by simp; omega, by simp only; omega, h3⟩
   | false =>
    rw [cond_false]
    exact Dr.ret (c := (c.1, p2)) hp2 ⟨h1, Nat.le_trans h2 (by omega), h3⟩
end Go.PL
namespace Go.PL
set_option linter.unusedVariables false
def toI (l : List Nat) : List Int := l.map fun (n : Nat) => (n : Int)
theorem toI_length (l : List Nat) : (toI l).length = l.length := by simp [toI]
theorem toI_append (a b : List Nat) : toI (a ++ b) = toI a ++ toI b := by simp [toI]
theorem blk_length (S : Nat → Nat → Bool) (n s : Nat) : (blk S n s).length ≤ n := by
 unfold blk
 exact Nat.le_trans (List.length_filter_le _ _) (Nat.le_of_eq List.length_range)
theorem sts_length (S : Nat → Nat → Bool) (n : Nat) : (sts S n).length ≤ n := by
 unfold sts
 exact Nat.le_trans (List.length_filter_le _ _) (Nat.le_of_eq List.length_range)
theorem B_len (S : Nat → Nat → Bool) (n : Nat) : (B S n).length ≤ n := by
 unfold B; rw [List.length_map]; exact sts_length S n
theorem fact_at {d : Db} {k : Nat} (hk : k < d.2.length) : at_ (0, []) d.2 (k : Int) = factAt d k := by unfold factAt; rw [at_lt hk, getD_lt hk]
theorem fact_small {d : Db} (h : SmallDb d) {k : Nat} (hk : k < d.2.length) : (factAt d k).2.length ≤ 1048576 := by unfold factAt; rw [getD_lt hk]; exact h.vals _ (List.getElem_mem hk)

theorem specBlockOf {N : Nat} {d : Db} (h : SmallDb d) (hvb : validDb d = true) (hN : 1048576 < N) {i : Nat} (hi : i < d.2.length) : spec_BlockOf N d (i : Int) = some (toI (blk (sameD d) d.2.length i)) := by
 have hv := validDb_of hvb
 have hf := hv.few
 unfold spec_BlockOf spec_BlockOf_b
 have := loop (fun k (s : List Int × Nat) => spec_BlockOf_l0 N k (i : Int) d.1 d.2 s.1 (s.2 : Int)) (fun s => s.2 ≤ d.2.length ∧ s.1 = toI (blk (sameD d) s.2 i)) (fun s => d.2.length - s.2) (fun o => o = some (toI (blk (sameD d) d.2.length i))) (fun k s hs => by
  obtain ⟨out, j⟩ := s
  obtain ⟨h1, h2⟩ := hs
  simp only at h1 h2 ⊢
  by_cases hj : j < d.2.length
  ·right
   have e1 : (j : Int) < (d.2.length : Int) := by omega
   have e2 : (0 : Int) ≤ (i : Int) ∧ (i : Int) ≤ (d.2.length : Int) - 1 := by omega
   have e3 : validDb (d.1, d.2) = true := hvb
   have hlen : out.length ≤ 14 := by rw [h2, toI_length]; have := blk_length (sameD d) j i; omega
   refine ⟨(toI (blk (sameD d) (j + 1) i), j + 1), ⟨hj, rfl⟩, by simp only; omega, ?_⟩
   simp only [spec_BlockOf_l0, spec_BlockOf_l0_b, e1, decide_true, cond_true, specDb (d := (d.1, d.2)) h hN, e3, Option.bind_some, l1In, w64_id (show -9223372036854775808 ≤ (d.2.length : Int) - 1 by omega) (by omega), e2, and_self, inb_lt hi, inb_lt hj, grd_true, fact_at hi, fact_at hj,
    specSame h.rels (fact_small h hi) (fact_small h hj) hN hv.rels (hv.fact i hi) (hv.fact j hj), w64_succ (show j < 4611686018427387904 by omega)]
   rw [blk_succ]
   cases hs : sameD d i j with
   | true =>
    have hs' : sameK d.1 (factAt d i) (factAt d j) = true := hs
    rw [hs', cond_true, appOk_lt (by omega) (by simp only [List.length_singleton]; omega), grd_true, if_pos rfl, toI_append, h2]; rfl
   | false =>
    have hs' : sameK d.1 (factAt d i) (factAt d j) = false := hs
    rw [hs', cond_false, if_neg (by simp), List.append_nil, h2]
  ·left
   have : j = d.2.length := by omega
   subst this
   have e1 : ¬ (d.2.length : Int) < (d.2.length : Int) := by omega
   simp only [spec_BlockOf_l0, spec_BlockOf_l0_b, e1, decide_false, cond_false, h2]) N ([], 0) (by simp only; omega) ⟨by simp, by simp [blk, toI]⟩
 exact this

def blocksOf (d : Db) : List (List Int) := if validDb d then (B (sameD d) d.2.length).map toI else []
theorem specBlocks {N : Nat} {d : Db} (h : SmallDb d) (hN : 1048576 < N) : spec_Blocks N d = some (blocksOf d) := by
 have hfs := h.facts
 unfold spec_Blocks spec_Blocks_b blocksOf
 cases hvb : validDb d with
 | false =>
  simp only [Bool.false_eq_true, if_false]
  obtain ⟨n, rfl⟩ : ∃ n, N = n + 1 := ⟨N - 1, by omega⟩
  simp only [spec_Blocks_l0, spec_Blocks_l0_b, specDb (d := (d.1, d.2)) h hN, show validDb (d.1, d.2) = false from hvb, Option.bind_some, cond_false]
  cases decide ((0 : Int) < (d.2.length : Int)) <;> rfl
 | true =>
  simp only [if_true]
  have hv := validDb_of hvb
  have hf := hv.few
  have hR := runs hv
  have := loop (fun k (s : List (List Int) × Nat) => spec_Blocks_l0 N k d.1 d.2 s.1 (s.2 : Int)) (fun s => s.2 ≤ d.2.length ∧ s.1 = (((sts (sameD d) s.2).map (blk (sameD d) d.2.length)).map toI)) (fun s => d.2.length - s.2) (fun o => o = some ((B (sameD d) d.2.length).map toI)) (fun k s hs => by
   obtain ⟨out, j⟩ := s
   obtain ⟨h1, h2⟩ := hs
   simp only at h1 h2 ⊢
   by_cases hj : j < d.2.length
   ·right
    have e1 : (j : Int) < (d.2.length : Int) := by omega
    have e3 : validDb (d.1, d.2) = true := hvb
    have hlen : out.length ≤ 14 := by rw [h2, List.length_map, List.length_map]; have := sts_length (sameD d) j; omega
    obtain ⟨q, r, b1, b2, b3⟩ := blk_head (hR.refl j) hj
    have e4 : toI (blk (sameD d) d.2.length j) = (q : Int) :: toI r := by rw [b1]; rfl
    have e5 : inb 0 (toI (blk (sameD d) d.2.length j)) = true := by rw [e4]; exact inb_lt (j := 0) (by simp)
    have e6 : at_ 0 (toI (blk (sameD d) d.2.length j)) 0 = (q : Int) := by rw [e4]; exact at_lt (j := 0) (by simp)
    refine ⟨((((sts (sameD d) (j + 1)).map (blk (sameD d) d.2.length)).map toI), j + 1), ⟨hj, rfl⟩, by simp only; omega, ?_⟩
    simp only [spec_Blocks_l0, spec_Blocks_l0_b, e1, decide_true, cond_true, specDb (d := (d.1, d.2)) h hN, e3, Option.bind_some, specBlockOf (d := (d.1, d.2)) h hvb hN (show j < (d.1, d.2).2.length from hj), w64_succ (show j < 4611686018427387904 by omega)]
    rw [show sameD (d.1, d.2) = sameD d from rfl, e5, grd_true, e6, beqI, sts_succ]
    by_cases hst : isSt (sameD d) j = true
    ·have hq := b3.2 hst
     rw [if_pos hst, decide_eq_true (by rw [hq]), cond_true, appOk_lt (by omega) (by simp only [List.length_singleton]; omega), grd_true, List.map_append, List.map_append, ← h2]; rfl
    ·have hq : ¬ (q : Int) = (j : Int) := fun hc => hst (b3.1 (by omega))
     rw [if_neg hst, decide_eq_false hq, cond_false, List.append_nil, ← h2]
   ·left
    have : j = d.2.length := by omega
    subst this
    have e1 : ¬ (d.2.length : Int) < (d.2.length : Int) := by omega
    simp only [spec_Blocks_l0, spec_Blocks_l0_b, e1, decide_false, cond_false, h2]
    rfl) N ([], 0) (by simp only; omega) ⟨by simp, by simp [sts]⟩
  exact this
theorem implBlk {N : Nat} {d : Db} (h : SmallDb d) (hvb : validDb d = true) (hN : 1048576 < N) : impl_blocks N d = some (blocksOf d) := by
 unfold blocksOf
 rw [if_pos hvb]
 ·have hv := validDb_of hvb
  have hf := hv.few
  have hR := runs hv
  unfold impl_blocks impl_blocks_b
  have := loop (fun k (s : List (List Int) × Nat) => impl_blocks_l0 N k d.1 d.2 s.1 d.2 (d.2.length : Int) (s.2 : Int)) (fun s => s.2 ≤ d.2.length ∧ s.1 = (B (sameD d) s.2).map toI) (fun s => d.2.length - s.2) (fun o => o = some ((B (sameD d) d.2.length).map toI)) (fun k s hs => by
   obtain ⟨out, j⟩ := s
   obtain ⟨h1, h2⟩ := hs
   simp only at h1 h2 ⊢
   by_cases hj : j < d.2.length
   ·right
    have e1 : (j : Int) < (d.2.length : Int) := by omega
    have hlen : out.length ≤ 14 := by rw [h2, List.length_map]; have := B_len (sameD d) j; omega
    refine ⟨((B (sameD d) (j + 1)).map toI, j + 1), ⟨hj, rfl⟩, by simp only; omega, ?_⟩
    simp only [impl_blocks_l0, impl_blocks_l0_b, e1, decide_true, cond_true, inb_lt hj, grd_true, w64_succ (show j < 4611686018427387904 by omega)]
    rw [w64_id (show -9223372036854775808 ≤ (out.length : Int) - 1 by omega) (by omega)]
    have new : isSt (sameD d) j = true → grd (appOk out [[(j : Int)]] 24) (impl_blocks_l0 N k d.1 d.2 (out ++ [[(j : Int)]]) d.2 (d.2.length : Int) ((j + 1 : Nat) : Int)) = impl_blocks_l0 N k d.1 d.2 ((B (sameD d) (j + 1)).map toI) d.2 (d.2.length : Int) ((j + 1 : Nat) : Int) := fun hst => by
     rw [appOk_lt (by omega) (by simp only [List.length_singleton]; omega), grd_true, B_new hR hst, List.map_append, ← h2]; rfl
    by_cases h0 : j = 0
    ·subst h0
     have ho : out = [] := by rw [h2]; rfl
     have hn : ¬ (out.length : Int) - 1 ≥ 0 := by rw [ho]; simp
     rw [decide_eq_false hn, cond_false]
     exact new (isSt_iff.2 (fun k hk => by omega))
    ·obtain ⟨A, t, a1, a2, a3, a4⟩ := last_start hR j (by omega) (by omega)
     obtain ⟨q, r, b1, b2, b3⟩ := blk_head (hR.refl t) a2
     have hq : q = t := b3.2 a3
     subst hq
     have hout : out = ((A.map (blk (sameD d) j)).map toI) ++ [toI (blk (sameD d) j q)] := by
      rw [h2]; unfold B; rw [a1, List.map_append, List.map_append]; rfl
     generalize hX : (A.map (blk (sameD d) j)).map toI = X at hout
     have hl : (out.length : Int) - 1 = (X.length : Int) := by rw [hout]; simp
     have hXl : X.length < out.length := by rw [hout]; simp
     have hat : at_ [] out (X.length : Int) = toI (blk (sameD d) j q) := by
      rw [at_lt hXl]
      simp only [hout]
      rw [List.getElem_append_right (by omega)]
      simp
     have e4 : toI (blk (sameD d) j q) = (q : Int) :: toI r := by rw [b1]; rfl
     have e5 : inb 0 (toI (blk (sameD d) j q)) = true := by rw [e4]; exact inb_lt (j := 0) (by simp)
     have e6 : at_ 0 (toI (blk (sameD d) j q)) 0 = (q : Int) := by rw [e4]; exact at_lt (j := 0) (by simp)
     have hql : q < d.2.length := by omega
     rw [hl, decide_eq_true (show (X.length : Int) ≥ 0 by omega), cond_true, inb_lt hXl, grd_true, hat, e5, grd_true, e6, inb_lt hql, grd_true, fact_at hql, fact_at hj,
      implSame (fact_small h hql) (fact_small h hj) hN hv.rels (hv.fact q hql) (hv.fact j hj), Option.bind_some]
     cases hs : sameD d q j with
     | true =>
      have hs' : sameK d.1 (factAt d q) (factAt d j) = true := hs
      have hns : ¬ isSt (sameD d) j = true := fun hc => by
       have := isSt_iff.1 hc q a2
       rw [hR.symm _ _ hs] at this; simp at this
      have hbl := blk_length (sameD d) j q
      have hgrow : growOk (X.length : Int) (X.length : Int) out = true := by unfold growOk; rw [decide_eq_true rfl, decide_eq_true (show (0 : Int) ≤ X.length by omega), decide_eq_true (show (X.length : Int) < (out.length : Int) by omega)]; rfl
      rw [hs', cond_true, grd_true, grd_true, appOk_lt (by omega) (by rw [toI_length]; simp only [List.length_singleton]; omega), grd_true, grd_true, hgrow, grd_true, letv_eq]
      congr 1
      rw [B_old hR hns hj a1 hs, List.map_append, hX, hout, Int.toNat_natCast, List.set_append_right _ _ (by omega), Nat.sub_self]
      simp [toI]
     | false =>
      have hs' : sameK d.1 (factAt d q) (factAt d j) = false := hs
      rw [hs', cond_false]
      refine new (isSt_iff.2 (fun k hk => ?_))
      rw [Bool.eq_false_iff]
      intro hc
      have c1 := hR.symm _ _ hc
      have c2 := hR.run k (j - 1) j (by omega) (by omega) (by omega) c1
      have c3 := hR.trans _ _ _ (hR.symm _ _ c2) c1
      have c4 := hR.trans _ _ _ (a4 (j - 1) (by omega) (by omega)) c3
      rw [hs] at c4; simp at c4
   ·left
    have : j = d.2.length := by omega
    subst this
    have e1 : ¬ (d.2.length : Int) < (d.2.length : Int) := by omega
    simp only [impl_blocks_l0, impl_blocks_l0_b, e1, decide_false, cond_false, h2]) N ([], 0) (by simp only; have := h.facts; omega) ⟨by simp, by simp [B, sts]⟩
  have this : impl_blocks_l0 N N d.1 d.2 [] d.2 (d.2.length : Int) 0 = some ((B (sameD d) d.2.length).map toI) := this
  exact this
end Go.PL
namespace Go.PL
set_option linter.unusedVariables false
def sizes (d : Db) : List Nat := (blocksOf d).map List.length
theorem sizes_valid {d : Db} (hvb : validDb d = true) : (sizes d).sum = d.2.length ∧ (∀ x ∈ sizes d, 1 ≤ x) ∧ (sizes d).length ≤ 14 ∧ (blocksOf d).length = (sizes d).length := by
 have hv := validDb_of hvb
 have hR := runs hv
 have e : sizes d = (B (sameD d) d.2.length).map List.length := by
  unfold sizes blocksOf
  rw [if_pos hvb, List.map_map]
  apply List.map_congr_left
  intro x _
  exact toI_length x
 refine ⟨by rw [e]; exact B_length hR _ (Nat.le_refl _), ?_, ?_, by unfold sizes; simp⟩
 ·rw [e]
  intro x hx
  obtain ⟨b, hb, rfl⟩ := List.mem_map.1 hx
  unfold B at hb
  obtain ⟨s, hs, rfl⟩ := List.mem_map.1 hb
  obtain ⟨q, r, b1, _⟩ := blk_head (hR.refl s) (mem_sts.1 hs).1
  rw [b1]; simp
 ·rw [e, List.length_map]
  have := B_len (sameD d) d.2.length
  have := hv.few
  omega
theorem mem_sum : ∀ {a : List Nat} {x : Nat}, x ∈ a → x ≤ a.sum
 | y :: a, x, h => by
  rw [List.sum_cons]
  rcases List.mem_cons.1 h with rfl | h
  ·omega
  ·have := mem_sum h; omega

theorem specSizes {N : Nat} {d : Db} (h : SmallDb d) (hN : 1048576 < N) : spec_BlockSizes N d = some (toI (sizes d)) := by
 unfold spec_BlockSizes spec_BlockSizes_b
 rw [specBlocks h hN, Option.bind_some]
 have hl : (blocksOf d).length ≤ 14 := by
  cases hvb : validDb d with
  | true => have := sizes_valid hvb; omega
  | false => unfold blocksOf; rw [hvb]; simp
 have := loop (fun k (s : List Int × Nat) => spec_BlockSizes_l0 N k s.1 (blocksOf d) (s.2 : Int)) (fun s => s.2 ≤ (blocksOf d).length ∧ s.1 = toI ((sizes d).take s.2)) (fun s => (blocksOf d).length - s.2) (fun o => o = some (toI (sizes d))) (fun k s hs => by
  obtain ⟨out, j⟩ := s
  obtain ⟨h1, h2⟩ := hs
  simp only at h1 h2 ⊢
  have hsl : (sizes d).length = (blocksOf d).length := by unfold sizes; simp
  by_cases hj : j < (blocksOf d).length
  ·right
   have e1 : (j : Int) < ((blocksOf d).length : Int) := by omega
   have hlen : out.length ≤ 14 := by rw [h2, toI_length, List.length_take]; omega
   refine ⟨(toI ((sizes d).take (j + 1)), j + 1), ⟨hj, rfl⟩, by simp only; omega, ?_⟩
   simp only [spec_BlockSizes_l0, spec_BlockSizes_l0_b, e1, decide_true, cond_true, inb_lt hj, grd_true, at_lt hj, w64_succ (show j < 4611686018427387904 by omega)]
   rw [appOk_lt (by omega) (by simp only [List.length_singleton]; omega), grd_true, List.take_succ_eq_append_getElem (by omega), toI_append, ← h2]
   simp [toI, sizes]
  ·left
   have : j = (blocksOf d).length := by omega
   subst this
   simp only [spec_BlockSizes_l0, spec_BlockSizes_l0_b, Int.lt_irrefl, decide_false, cond_false, h2]
   rw [← hsl, List.take_length]) N ([], 0) (by simp only; omega) ⟨by simp, by simp [toI]⟩
 exact this
end Go.PL
namespace Go.PL
set_option linter.unusedVariables false
end Go.PL
namespace Go.PL
set_option linter.unusedVariables false
end Go.PL
namespace Go.PL
set_option linter.unusedVariables false
end Go.PL
namespace Go.PL
set_option linter.unusedVariables false
def one (p : Int → Bool) (x : Int) : Int := if p x then 1 else 0
theorem blocks_ne {d : Db} (hvb : validDb d = true) : ∀ b ∈ blocksOf d, b ≠ [] ∧ b.length ≤ 14 := by
 intro b hb
 obtain ⟨s1, s2, s3, s4⟩ := sizes_valid hvb
 have hm : b.length ∈ sizes d := List.mem_map.2 ⟨_, hb, rfl⟩
 have h1 := s2 _ hm
 have h2 := mem_sum hm
 have hf := (validDb_of hvb).few
 exact ⟨fun h => by rw [h] at h1; simp at h1, by omega⟩
theorem blocks_in' {d : Db} (hvb : validDb d = true) : ∀ b ∈ blocksOf d, ∀ x ∈ b, 0 ≤ x ∧ x < (d.2.length : Int) := by
 intro b hb x hx
 unfold blocksOf at hb
 rw [if_pos hvb] at hb
 obtain ⟨b', hb', rfl⟩ := List.mem_map.1 hb
 unfold B at hb'
 obtain ⟨s, hs, rfl⟩ := List.mem_map.1 hb'
 unfold toI at hx
 obtain ⟨k, hk, rfl⟩ := List.mem_map.1 hx
 have := List.mem_range.1 (List.mem_filter.1 hk).1
 omega
end Go.PL
namespace Go.PL
set_option linter.unusedVariables false
theorem onceOk {N : Nat} {c : Ctx} {n : Int} (h : COk c) : Dr c (spec_l1Once N c n) (fun _ => True) := by
 unfold spec_l1Once
 refine (belowOk h).bind fun p x hp hx => ?_
 exact Dr.ret (c := (c.1, p)) hp trivial
theorem weightsOk {N m : Nat} {c : Ctx} {d : Db} (h : COk c) (hd : DbD m d) (hm : m ≤ 900) (hN : 1048576 < N) : Dr c (spec_l37Weights N c d) (fun w => w.length ≤ 900) := by
 have hf := hd.facts
 unfold spec_l37Weights spec_l37Weights_b
 refine (pickOk h (by decide)).bind fun p most hp _ => ?_
 have := loop (fun k (s : (Int × Int) × List Int) => spec_l37Weights_l0 N k c.1 s.1.1 s.1.2 d.1 d.2 s.2 most) (fun s => COk (c.1, s.1) ∧ s.2.length ≤ d.2.length) (fun s => d.2.length - s.2.length) (fun o => Dr c o (fun w => w.length ≤ 900)) (fun k s hs => by
  obtain ⟨q, w⟩ := s
  obtain ⟨h1, h2⟩ := hs
  simp only at h1 h2 ⊢
  simp only [spec_l37Weights_l0, spec_l37Weights_l0_b]
  by_cases hc : (w.length : Int) < (d.2.length : Int)
  ·right
   obtain ⟨q2, y, e, hq, hy⟩ := belowOk (N := N) (c := (c.1, q.1, q.2)) (n := most) h1
   refine ⟨(q2, w ++ [w64 (1 + y)]), ⟨hq, by simp; omega⟩, by simp; omega, ?_⟩
   simp only [hc, decide_true, cond_true, e, Option.bind_some]
   rw [appOk_lt (by omega) (by simp; omega), grd_true]
  ·left
   simp only [hc, decide_false, cond_false]
   by_cases h0 : (w.length : Int) > 0
   ·simp only [h0, decide_true, cond_true]
    refine (onceOk (c := (c.1, q)) h1).bind fun p2 b hp2 _ => ?_
    cases b with
    | true =>
     rw [cond_true]
     refine (pickOk (c := (c.1, p2)) hp2 (by decide)).bind fun p3 y hp3 _ => ?_
     simp only [inb_int (i := 0) (xs := w) (by omega) (by omega), grd_true, letv_eq]
     exact Dr.ret (c := (c.1, p3)) hp3 (by simp; omega)
    | false =>
     rw [cond_false]
     exact Dr.ret (c := (c.1, p2)) hp2 (by omega)
   ·simp only [h0, decide_false, cond_false]
    exact Dr.ret (c := c) (p := q) h1 (by omega)) N (p, []) (by simp; omega) ⟨hp, by simp⟩
 exact this
theorem placesOk {N m : Nat} {c : Ctx} {d : Db} (h : COk c) (hd : DbD m d) (hm : m ≤ 900) (hN : 1048576 < N) : Dr c (spec_l4Places N c d) (fun l => l.length ≤ 900) := by
 have hf := hd.facts
 unfold spec_l4Places spec_l4Places_b
 have := loop (fun k (s : (Int × Int) × List Int × Nat) => spec_l4Places_l0 N k c.1 s.1.1 s.1.2 d.1 d.2 s.2.1 (s.2.2 : Int)) (fun s => COk (c.1, s.1) ∧ s.2.1.length ≤ s.2.2 ∧ s.2.2 ≤ d.2.length) (fun s => d.2.length - s.2.2) (fun o => Dr c o (fun l => l.length ≤ 900)) (fun k s hs => by
  obtain ⟨q, l, i⟩ := s
  obtain ⟨h1, h2, h3⟩ := hs
  simp only at h1 h2 h3 ⊢
  simp only [spec_l4Places_l0, spec_l4Places_l0_b]
  by_cases hc : (i : Int) < (d.2.length : Int)
  ·right
   obtain ⟨q2, y, e, hq, hy⟩ := onceOk (N := N) (c := (c.1, q.1, q.2)) (n := 2) h1
   simp only [hc, decide_true, cond_true, e, Option.bind_some]
   cases y with
   | true =>
    refine ⟨(q2, l ++ [(i : Int)], i + 1), ⟨hq, by simp; omega, by simp only; omega⟩, by simp only; omega, ?_⟩
    rw [cond_true, appOk_lt (by omega) (by simp; omega), grd_true, w64_succ (by omega)]
   | false =>
    refine ⟨(q2, l, i + 1), ⟨hq, by simp only; omega, by simp only; omega⟩, by simp only; omega, ?_⟩
    rw [cond_false, w64_succ (by omega)]
  ·left
   simp only [hc, decide_false, cond_false]
   by_cases h0 : (l.length : Int) > 0
   ·simp only [h0, decide_true, cond_true]
    refine (onceOk (c := (c.1, q)) h1).bind fun p2 b hp2 _ => ?_
    cases b with
    | true =>
     rw [cond_true]
     refine (pickOk (c := (c.1, p2)) hp2 (by simp)).bind fun p3 y hp3 _ => ?_
     simp only [inb_int (i := 0) (xs := l) (by omega) (by omega), grd_true, letv_eq]
     exact Dr.ret (c := (c.1, p3)) hp3 (by simp; omega)
    | false =>
     rw [cond_false]
     exact Dr.ret (c := (c.1, p2)) hp2 (by omega)
   ·simp only [h0, decide_false, cond_false]
    exact Dr.ret (c := c) (p := q) h1 (by omega)) N (c.2, [], 0) (by simp only; omega) ⟨h, by simp, by simp⟩
 exact this
theorem keepOk {N : Nat} {c : Ctx} {keep : List Bool} (h : COk c) (hk : keep.length ≤ 900) (hN : 1048576 < N) : Dr c (spec_l5Repair_l1 N N c.1 c.2.1 c.2.2 keep [] 0) (fun l => l.length ≤ 900) := by
 have := loop (fun k (s : List Int × Nat) => spec_l5Repair_l1 N k c.1 c.2.1 c.2.2 keep s.1 (s.2 : Int)) (fun s => s.1.length ≤ s.2 ∧ s.2 ≤ keep.length) (fun s => keep.length - s.2) (fun o => Dr c o (fun l => l.length ≤ 900)) (fun k s hs => by
  obtain ⟨l, i⟩ := s
  obtain ⟨h2, h3⟩ := hs
  simp only at h2 h3 ⊢
  simp only [spec_l5Repair_l1, spec_l5Repair_l1_b]
  by_cases hi : i < keep.length
  ·right
   have hc : (i : Int) < (keep.length : Int) := by omega
   simp only [hc, decide_true, cond_true, inb_lt hi, grd_true, at_lt hi]
   cases keep[i] with
   | true =>
    refine ⟨(l ++ [(i : Int)], i + 1), ⟨by simp; omega, by simp only; omega⟩, by simp only; omega, ?_⟩
    rw [cond_true, appOk_lt (by omega) (by simp; omega), grd_true, w64_succ (by omega)]
   | false =>
    refine ⟨(l, i + 1), ⟨by simp only; omega, by simp only; omega⟩, by simp only; omega, ?_⟩
    rw [cond_false, w64_succ (by omega)]
  ·left
   have hc : ¬ (i : Int) < (keep.length : Int) := by omega
   simp only [hc, decide_false, cond_false]
   exact Dr.ret (c := c) (p := c.2) h (by omega)) N ([], 0) (by simp only; omega) ⟨by simp, by simp⟩
 exact this
theorem repairOk {N m : Nat} {c : Ctx} {d : Db} (h : COk c) (hd : DbD m d) (hm : m ≤ 900) (hN : 1048576 < N) : Dr c (spec_l5Repair N c d) (fun l => l.length ≤ 900) := by
 have hf := hd.facts
 have hL : (∀ b ∈ blocksOf d, b ≠ [] ∧ ∀ x ∈ b, 0 ≤ x ∧ x < (d.2.length : Int)) ∧ (blocksOf d).length ≤ 14 := by
  cases hvb : validDb d with
  | true =>
   obtain ⟨s1, s2, s3, s4⟩ := sizes_valid hvb
   exact ⟨fun b hb => ⟨(blocks_ne hvb b hb).1, blocks_in' hvb b hb⟩, by omega⟩
  | false => unfold blocksOf; rw [hvb]; simp
 unfold spec_l5Repair spec_l5Repair_b
 rw [specBlocks (hd.small (by omega)) hN, Option.bind_some, makeOk_lt (by omega), grd_true, Int.toNat_natCast]
 generalize blocksOf d = L at *
 have := loop (fun k (s : (Int × Int) × List Bool × Nat) => spec_l5Repair_l0 N k c.1 s.1.1 s.1.2 L s.2.1 (s.2.2 : Int)) (fun s => COk (c.1, s.1) ∧ s.2.1.length = d.2.length ∧ s.2.2 ≤ L.length) (fun s => L.length - s.2.2) (fun o => Dr c o (fun l => l.length ≤ 900)) (fun k s hs => by
  obtain ⟨q, keep, i⟩ := s
  obtain ⟨h1, h2, h3⟩ := hs
  simp only at h1 h2 h3 ⊢
  simp only [spec_l5Repair_l0, spec_l5Repair_l0_b]
  by_cases hi : i < L.length
  ·right
   have hc : (i : Int) < (L.length : Int) := by omega
   obtain ⟨b1, b2⟩ := hL.1 _ (List.getElem_mem hi)
   have b3 : 0 < (L[i]).length := List.length_pos_iff.2 b1
   obtain ⟨q2, y, e, hq, hy⟩ := belowOk (N := N) (c := (c.1, q.1, q.2)) (n := ((L[i]).length : Int)) h1
   have y2 := hy.2.1 (by omega)
   have b4 := b2 _ (List.getElem_mem (show y.toNat < (L[i]).length by have := hy.1; omega))
   refine ⟨(q2, keep.set ((L[i])[y.toNat]'(by have := hy.1; omega)).toNat true, i + 1), ⟨hq, by simp [h2], hi⟩, by simp only; omega, ?_⟩
   simp only [hc, decide_true, cond_true, inb_lt hi, grd_true, at_lt hi, e, Option.bind_some, inb_int hy.1 y2, at_int hy.1 y2, inb_int (xs := keep) b4.1 (by rw [h2]; exact b4.2), letv_eq, w64_succ (show i < 4611686018427387904 by omega)]
  ·left
   have hc : ¬ (i : Int) < (L.length : Int) := by omega
   simp only [hc, decide_false, cond_false]
   exact keepOk (c := (c.1, q)) h1 (by omega) hN) N (c.2, List.replicate d.2.length false, 0) (by simp only; omega) ⟨h, by simp, by simp⟩
 exact this
theorem drawWeights {N : Nat} {code : List Int} (hc : code.length ≤ 1048576) (hN : 1048576 < N) : ∃ d w, spec_DrawMostLikelyRepair N code = some (d, w) ∧ DbD 21 d ∧ w.length ≤ 1000 := by
 obtain ⟨c, e1, hc1⟩ := newOk (N := N) hc hN
 obtain ⟨p, d, e2, hp, hd⟩ := anyDbOk hc1 hN
 obtain ⟨p2, w, e3, hp2, hw⟩ := weightsOk hp hd (by omega) hN
 obtain ⟨p3, b, e4, hp3, _⟩ := onceOk (N := N) (n := 8) hp2
 unfold spec_DrawMostLikelyRepair spec_DrawAreValidWeights
 simp only at e3 e4
 simp only [e1, Option.bind_some, e2, e3, e4]
 cases b with
 | true =>
  rw [cond_true, appOk_lt (by omega) (by simp; omega), grd_true]
  exact ⟨d, w ++ [1], rfl, hd, by simp; omega⟩
 | false => exact ⟨d, w, rfl, hd, by omega⟩
theorem drawSets {N : Nat} {code : List Int} (hc : code.length ≤ 1048576) (hN : 1048576 < N) : ∃ d w l, spec_DrawRepairWeight N code = some (d, w, l) ∧ DbD 21 d ∧ w.length ≤ 1000 ∧ l.length ≤ 1000 := by
 obtain ⟨c, e1, hc1⟩ := newOk (N := N) hc hN
 obtain ⟨p, d, e2, hp, hd⟩ := anyDbOk hc1 hN
 obtain ⟨p2, w, e3, hp2, hw⟩ := weightsOk hp hd (by omega) hN
 obtain ⟨p3, b, e4, hp3, _⟩ := onceOk (N := N) (n := 2) hp2
 unfold spec_DrawRepairWeight
 simp only at e3 e4
 simp only [e1, Option.bind_some, e2, e3, e4]
 cases b with
 | true =>
  obtain ⟨p4, l, e5, _, hl⟩ := repairOk hp3 hd (by omega) hN
  simp only at e5
  simp only [cond_true, e5, Option.bind_some]
  exact ⟨d, w, l, rfl, hd, by omega, by omega⟩
 | false =>
  obtain ⟨p4, l, e5, _, hl⟩ := placesOk hp3 hd (by omega) hN
  simp only at e5
  simp only [cond_false, e5, Option.bind_some]
  exact ⟨d, w, l, rfl, hd, by omega, by omega⟩
end Go.PL
namespace Go.PL
set_option linter.unusedVariables false
def weightsIn (w : List Int) : Bool := w.all fun x => decide (1 ≤ x ∧ x ≤ 9)
def validWeights (d : Db) (w : List Int) : Bool := validDb d && (decide (w.length = d.2.length) && weightsIn w)
theorem specWeights {N : Nat} {d : Db} {w : List Int} (h : SmallDb d) (hw : w.length ≤ 1048576) (hN : 1048576 < N) : spec_AreValidWeights N d w = some (validWeights d w) := by
 unfold spec_AreValidWeights spec_AreValidWeights_b
 rw [everyE (n := w.length) (fun j => decide (1 ≤ w.getD j 0 ∧ w.getD j 0 ≤ 9)) (some false) (some (validDb d && decide (w.length = d.2.length))) (fun k i => spec_AreValidWeights_l0 N k w d.1 d.2 i)
  (fun k => by
   simp only [spec_AreValidWeights_l0, spec_AreValidWeights_l0_b, Int.lt_irrefl, decide_false, cond_false, specDb (d := (d.1, d.2)) h hN, Option.bind_some, beqI]
   cases hv : validDb d with
   | false => rfl
   | true => simp only [cond_true, Bool.true_and, Option.some.injEq]; exact decide_eq_decide.2 (by omega)) (fun k j hj => ?_) (by omega)]
 ·unfold validWeights weightsIn
  by_cases h4 : ∀ j, j < w.length → decide (1 ≤ w.getD j 0 ∧ w.getD j 0 ≤ 9) = true
  ·rw [if_pos h4, (all_iff (d := (0 : Int)) (p := fun x => decide (1 ≤ x ∧ x ≤ 9))).1 h4, Bool.and_true]
  ·rw [if_neg h4]
   congr 1; symm
   have : (w.all fun x => decide (1 ≤ x ∧ x ≤ 9)) = false := by
    rw [Bool.eq_false_iff]
    exact fun h5 => h4 ((all_iff (d := (0 : Int)) (p := fun x => decide (1 ≤ x ∧ x ≤ 9))).2 h5)
   rw [this, Bool.and_false, Bool.and_false]
 ·have h1 : (j : Int) < (w.length : Int) := by omega
  simp only [spec_AreValidWeights_l0, spec_AreValidWeights_l0_b, h1, decide_true, cond_true, inb_lt hj, grd_true, at_lt hj, l1In, Option.bind_some, getD_lt hj, w64_succ (show j < 4611686018427387904 by omega), ite_dec]
theorem implWeights {N : Nat} {d : Db} {w : List Int} (h : SmallDb d) (hw : w.length ≤ 1048576) (hN : 1048576 < N) : impl_AreValidWeights N d w = some (validWeights d w) := by
 unfold impl_AreValidWeights
 rw [implDb h hN, Option.bind_some]
 unfold validWeights
 cases validDb d with
 | false => rfl
 | true =>
  simp only [cond_true, Bool.true_and, beqI]
  by_cases he : w.length = d.2.length
  ·have e2 : (w.length : Int) = (d.2.length : Int) := by omega
   rw [decide_eq_true e2, cond_true, decide_eq_true he, Bool.true_and]
   unfold slices_ContainsFunc_Lint_int_AreValidWeights_c1 slices_IndexFunc_Lint_int_AreValidWeights_c1 slices_IndexFunc_Lint_int_AreValidWeights_c1_b
   rw [contains_of (d := (0 : Int)) (xs := w) (p := fun x => !decide (1 ≤ x ∧ x ≤ 9)) (first (n := w.length) (fun j => !decide (1 ≤ w.getD j 0 ∧ w.getD j 0 ≤ 9)) (fun k i => slices_IndexFunc_Lint_int_AreValidWeights_c1_l0 N k w (w.length : Int) i) (fun k => by simp [slices_IndexFunc_Lint_int_AreValidWeights_c1_l0, slices_IndexFunc_Lint_int_AreValidWeights_c1_l0_b]) (fun k j hj => ?_) (by omega))]
   ·simp only [Option.bind_some, weightsIn]
    rw [show (w.any fun x => !decide (1 ≤ x ∧ x ≤ 9)) = !(w.all fun x => decide (1 ≤ x ∧ x ≤ 9)) from (List.not_all_eq_any_not (l := w) (p := fun x => decide (1 ≤ x ∧ x ≤ 9))).symm, Bool.not_not]
   ·have h1 : (j : Int) < (w.length : Int) := by omega
    simp only [slices_IndexFunc_Lint_int_AreValidWeights_c1_l0, slices_IndexFunc_Lint_int_AreValidWeights_c1_l0_b, h1, decide_true, cond_true, inb_lt hj, grd_true, at_lt hj, impl_AreValidWeights_c1, within, Option.bind_some, getD_lt hj, w64_succ (show j < 4611686018427387904 by omega)]
    cases decide (1 ≤ w[j] ∧ w[j] ≤ 9) <;> rfl
  ·have e2 : ¬ (w.length : Int) = (d.2.length : Int) := by omega
   rw [decide_eq_false e2, decide_eq_false he]; rfl
end Go.PL
namespace Go.PL
set_option linter.unusedVariables false
theorem B_flat {S : Nat → Nat → Bool} {N : Nat} (hS : Runs S N) : ∀ n, n ≤ N → (B S n).flatten = List.range n
 | 0, _ => by simp [B, sts]
 | n + 1, hn => by
  by_cases h : isSt S n = true
  ·rw [B_new hS h, List.flatten_append, B_flat hS n (by omega), List.range_succ]; simp
  ·have hn0 : 0 < n := by
    apply Decidable.byContradiction
    intro h0
    have : n = 0 := by omega
    subst this
    apply h
    rw [isSt_iff]; intro k hk; omega
   obtain ⟨A, t, e, h1, h2, h3⟩ := last_start hS (n + 1) (by omega) hn
   have e' : sts S n = A ++ [t] := by rw [sts_succ, if_neg h, List.append_nil] at e; exact e
   have ih := B_flat hS n (by omega)
   rw [B_old hS h (by omega) e' (h3 n (by omega) (by omega)), List.range_succ, ← ih]
   unfold B
   rw [e']
   simp only [List.map_append, List.map_cons, List.map_nil, List.flatten_append, List.flatten_cons, List.flatten_nil, List.append_nil, List.append_assoc]
end Go.PL
namespace Go.PL
set_option linter.unusedVariables false
end Go.PL
namespace Go.PL
set_option linter.unusedVariables false
set_option linter.unusedSimpArgs false
end Go.PL
namespace Go.PL
set_option linter.unusedVariables false
end Go.PL
namespace Go.PL
set_option linter.unusedVariables false
def mx (w : List Int) (m x : Int) : Int := if at_ 0 w x > at_ 0 w m then x else m
def bestB (w b : List Int) : Int := b.foldl (mx w) (at_ 0 b 0)
theorem mx_mem {w b : List Int} : ∀ {l : List Int} {m : Int}, m ∈ b → (∀ x ∈ l, x ∈ b) → l.foldl (mx w) m ∈ b
 | [], m, hm, _ => hm
 | x :: l, m, hm, h => by
  rw [List.foldl_cons]
  refine mx_mem ?_ fun y hy => h y (by simp [hy])
  unfold mx
  split
  ·exact h x (by simp)
  ·exact hm
theorem head_mem {b : List Int} (hb : b ≠ []) : at_ 0 b 0 ∈ b := by
 cases b with
 | nil => exact absurd rfl hb
 | cons x b =>
  rw [show at_ 0 (x :: b) 0 = x from at_lt (j := 0) (by simp)]; simp
theorem bestB_mem {w b : List Int} (hb : b ≠ []) : bestB w b ∈ b := mx_mem (head_mem hb) fun x hx => hx
theorem best_take {w b : List Int} {q : Nat} (hb : b ≠ []) : (b.take q).foldl (mx w) (at_ 0 b 0) ∈ b := mx_mem (head_mem hb) fun x hx => List.mem_of_mem_take hx

/-- What is in order stays as it is. -/
theorem sortedId {N : Nat} {l : List Int} (hl : l.length ≤ 1000) (hs : l.Pairwise (· < ·)) (hN : 1048576 < N) : spec_l7Sorted N l = some l := by
 unfold spec_l7Sorted spec_l7Sorted_b
 obtain ⟨M, rfl⟩ : ∃ M, N = M + 1 := ⟨N - 1, by omega⟩
 have key := loop (fun k (s : Nat) => spec_l7Sorted_l0 (M + 1) k l (l.take s) (s : Int)) (fun s => s ≤ l.length) (fun s => l.length - s) (fun o => o = some l) (fun k s hs' => by
  by_cases hj : s < l.length
  ·right
   refine ⟨s + 1, hj, by omega, ?_⟩
   have h1 : (s : Int) < (l.length : Int) := by omega
   have hlen : (l.take s).length = s := by rw [List.length_take]; omega
   have e0 : l.take (s + 1) = l.take s ++ [l[s]] := List.take_succ_eq_append_getElem hj
   have et : (l.take s).take ((s : Int).toNat) = l.take s := by rw [Int.toNat_natCast, List.take_of_length_le (by omega)]
   have ed : (l.take s).drop ((s : Int).toNat) = [] := by rw [Int.toNat_natCast, List.drop_of_length_le (by omega)]
   have so : subOk 0 (s : Int) s = true := subOk_true (by omega) (by omega) (by omega)
   have so2 : subOk (s : Int) (s : Int) s = true := subOk_true (by omega) (by omega) (by omega)
   have a1 : appOk [] (l.take s) 8 = true := appOk_lt (by omega) (by simp only [List.length_nil]; omega)
   have a2 : appOk (l.take s) [l[s]] 8 = true := appOk_lt (by omega) (by simp only [List.length_singleton]; omega)
   have a3 : appOk (l.take s ++ [l[s]]) ([] : List Int) 8 = true := appOk_lt (by omega) (by simp only [List.length_append, List.length_singleton, List.length_nil]; omega)
   simp only [spec_l7Sorted_l0, spec_l7Sorted_l0_b, h1, decide_true, cond_true, spec_l7Sorted_l1, spec_l7Sorted_l1_b, hlen, et, ed, so, so2, inb_lt hj, at_lt hj, grd_true, a1, a2, a3, List.append_nil, w64_succ (show s < 4611686018427387904 by omega), e0]
   by_cases h0 : (s : Int) > 0
   ·have ew : w64 ((s : Int) - 1) = ((s - 1 : Nat) : Int) := by rw [w64_id (by omega) (by omega)]; omega
    have hs1 : s - 1 < (l.take s).length := by omega
    have hlt : ¬ (l.take s)[s - 1] > l[s] := by
     rw [List.getElem_take]
     have := List.pairwise_iff_getElem.1 hs (s - 1) s (by omega) hj (by omega)
     omega
    simp only [decide_eq_true h0, cond_true, ew, inb_lt hs1, grd_true, at_lt hs1, decide_eq_false hlt, cond_false]
   ·simp only [decide_eq_false h0, cond_false]
  ·left
   have : s = l.length := by omega
   subst this
   simp [spec_l7Sorted_l0, spec_l7Sorted_l0_b]) (M + 1) 0 (by omega) (by omega)
 exact key

/-- One of each block, in order. -/
theorem pick_sorted {L : List (List Int)} {f : List Int → Int} (hf : ∀ b ∈ L, f b ∈ b) (hs : L.flatten.Pairwise (· < ·)) : (L.map f).Pairwise (· < ·) := by
 induction L with
 | nil => simp
 | cons b L ih =>
  rw [List.flatten_cons, List.pairwise_append] at hs
  rw [List.map_cons, List.pairwise_cons]
  refine ⟨fun y hy => ?_, ih (fun c hc => hf c (by simp [hc])) hs.2.1⟩
  obtain ⟨c, hc, rfl⟩ := List.mem_map.1 hy
  exact hs.2.2 _ (hf b (by simp)) _ (List.mem_flatten.2 ⟨c, hc, hf c (by simp [hc])⟩)
theorem toI_flatten : ∀ L : List (List Nat), (L.map toI).flatten = toI L.flatten
 | [] => rfl
 | b :: L => by rw [List.map_cons, List.flatten_cons, List.flatten_cons, toI_append, toI_flatten L]
theorem blocks_flat {d : Db} (hvb : validDb d = true) : (blocksOf d).flatten = toI (List.range d.2.length) := by
 unfold blocksOf
 rw [if_pos hvb, toI_flatten, B_flat (runs (validDb_of hvb)) _ (Nat.le_refl _)]
theorem range_sorted (n : Nat) : (toI (List.range n)).Pairwise (· < ·) := by
 unfold toI
 rw [List.pairwise_map]
 exact List.Pairwise.imp (fun h => by omega) List.pairwise_lt_range

def likely (d : Db) (w : List Int) : List Int := (blocksOf d).map (bestB w)
theorem specBest {N : Nat} {w : List Int} {L : List (List Int)} {j : Nat} (hj : j < L.length) (hne : L[j] ≠ []) (hb : (L[j]).length ≤ 1000) (hin : ∀ x ∈ L[j], 0 ≤ x ∧ x < (w.length : Int)) (hN : 1048576 < N)
  (R : List Int → List Int → List (List Int) → Int → Option (List Int × Bool)) {out : List Int} (ho : out.length ≤ 1000) :
  spec_MostLikelyRepair_l1 R N N w out L (j : Int) (at_ 0 L[j] 0) 1 = R w (out ++ [bestB w L[j]]) L (w64 ((j : Int) + 1)) := by
 have hpos : 0 < (L[j]).length := List.length_pos_iff.2 hne
 have := loop (fun k (s : Int × Nat) => spec_MostLikelyRepair_l1 R N k w out L (j : Int) s.1 (s.2 : Int)) (fun s => s.2 ≤ (L[j]).length ∧ 1 ≤ s.2 ∧ s.1 = ((L[j]).take s.2).foldl (mx w) (at_ 0 L[j] 0)) (fun s => (L[j]).length - s.2) (fun o => o = R w (out ++ [bestB w L[j]]) L (w64 ((j : Int) + 1))) (fun k s hs => by
  obtain ⟨m, q⟩ := s
  obtain ⟨h1, h0, h2⟩ := hs
  simp only at h1 h2 h0 ⊢
  have hm : m ∈ L[j] := h2 ▸ best_take hne
  have hmi := hin _ hm
  by_cases hq : q < (L[j]).length
  ·right
   have e1 : (q : Int) < ((L[j]).length : Int) := by omega
   have hx := hin _ (List.getElem_mem hq)
   refine ⟨(((L[j]).take (q + 1)).foldl (mx w) (at_ 0 L[j] 0), q + 1), ⟨hq, by simp only; omega, rfl⟩, by simp only; omega, ?_⟩
   simp only [spec_MostLikelyRepair_l1, spec_MostLikelyRepair_l1_b, inb_lt hj, grd_true, at_lt hj, e1, decide_true, cond_true, inb_lt hq, at_lt hq, inb_int hx.1 hx.2, inb_int hmi.1 hmi.2, w64_succ (show q < 4611686018427387904 by omega)]
   rw [List.take_succ_eq_append_getElem hq, List.foldl_append, ← h2, List.foldl_cons, List.foldl_nil]
   unfold mx
   by_cases hc : at_ 0 w (L[j])[q] > at_ 0 w m
   ·rw [decide_eq_true hc, cond_true, if_pos hc]
   ·rw [decide_eq_false hc, cond_false, if_neg hc]
  ·left
   have : q = (L[j]).length := by omega
   subst this
   simp only [spec_MostLikelyRepair_l1, spec_MostLikelyRepair_l1_b, inb_lt hj, grd_true, at_lt hj, Int.lt_irrefl, decide_false, cond_false]
   rw [appOk_lt (by omega) (by simp only [List.length_singleton]; omega), grd_true, h2, List.take_length]; rfl) N (at_ 0 L[j] 0, 1) (by simp only; omega) ⟨hpos, Nat.le_refl _, by
    simp only
    obtain ⟨x, b, hb⟩ := List.exists_cons_of_ne_nil hne
    rw [hb]
    rw [show at_ 0 (x :: b) 0 = x from at_lt (j := 0) (by simp)]
    simp [mx]⟩
 exact this
theorem implBest {N : Nat} {w : List Int} {L : List (List Int)} {j : Nat} (hj : j < L.length) (hne : L[j] ≠ []) (hb : (L[j]).length ≤ 1000) (hin : ∀ x ∈ L[j], 0 ≤ x ∧ x < (w.length : Int)) (hN : 1048576 < N)
  (R : List Int → List Int → List (List Int) → Int → Int → Option (List Int × Bool)) {out : List Int} (ho : out.length ≤ 1000) (n i : Int) :
  impl_MostLikelyRepair_l1 R N N w out (at_ 0 L[j] 0) L n (j : Int) i L[j] ((L[j]).length : Int) 0 = R w (out ++ [bestB w L[j]]) L n (w64 ((j : Int) + 1)) := by
 have hpos : 0 < (L[j]).length := List.length_pos_iff.2 hne
 have := loop (fun k (s : Int × Nat) => impl_MostLikelyRepair_l1 R N k w out s.1 L n (j : Int) i L[j] ((L[j]).length : Int) (s.2 : Int)) (fun s => s.2 ≤ (L[j]).length ∧ s.1 = ((L[j]).take s.2).foldl (mx w) (at_ 0 L[j] 0)) (fun s => (L[j]).length - s.2) (fun o => o = R w (out ++ [bestB w L[j]]) L n (w64 ((j : Int) + 1))) (fun k s hs => by
  obtain ⟨m, q⟩ := s
  obtain ⟨h1, h2⟩ := hs
  simp only at h1 h2 ⊢
  have hm : m ∈ L[j] := h2 ▸ best_take hne
  have hmi := hin _ hm
  by_cases hq : q < (L[j]).length
  ·right
   have e1 : (q : Int) < ((L[j]).length : Int) := by omega
   have hx := hin _ (List.getElem_mem hq)
   refine ⟨(((L[j]).take (q + 1)).foldl (mx w) (at_ 0 L[j] 0), q + 1), ⟨hq, rfl⟩, by simp only; omega, ?_⟩
   simp only [impl_MostLikelyRepair_l1, impl_MostLikelyRepair_l1_b, grd_true, e1, decide_true, cond_true, inb_lt hq, at_lt hq, inb_int hx.1 hx.2, inb_int hmi.1 hmi.2, w64_succ (show q < 4611686018427387904 by omega)]
   rw [List.take_succ_eq_append_getElem hq, List.foldl_append, ← h2, List.foldl_cons, List.foldl_nil]
   unfold mx
   by_cases hc : at_ 0 w (L[j])[q] > at_ 0 w m
   ·rw [decide_eq_true hc, cond_true, if_pos hc]
   ·rw [decide_eq_false hc, cond_false, if_neg hc]
  ·left
   have : q = (L[j]).length := by omega
   subst this
   simp only [impl_MostLikelyRepair_l1, impl_MostLikelyRepair_l1_b, Int.lt_irrefl, decide_false, cond_false]
   rw [appOk_lt (by omega) (by simp only [List.length_singleton]; omega), grd_true, h2, List.take_length]; rfl) N (at_ 0 L[j] 0, 0) (by simp only; omega) ⟨by omega, by simp⟩
 exact this

def likelyR (d : Db) (w : List Int) : List Int × Bool := if validWeights d w then (likely d w, true) else ([], false)
theorem likely_len {d : Db} (hvb : validDb d = true) (w : List Int) : (likely d w).length ≤ 14 := by
 obtain ⟨s1, s2, s3, s4⟩ := sizes_valid hvb
 unfold likely; rw [List.length_map]; omega
theorem likelyR_len (d : Db) (w : List Int) : (likelyR d w).1.length ≤ 14 := by
 unfold likelyR
 split
 ·rename_i h
  unfold validWeights at h
  simp only [Bool.and_eq_true] at h
  exact likely_len h.1 w
 ·simp
theorem specLikely {N : Nat} {d : Db} {w : List Int} (h : SmallDb d) (hw : w.length ≤ 1048576) (hN : 1048576 < N) : spec_MostLikelyRepair N d w = some (likelyR d w) := by
 unfold spec_MostLikelyRepair spec_MostLikelyRepair_b likelyR
 rw [specWeights h hw hN, Option.bind_some]
 cases hvw : validWeights d w with
 | false => rfl
 | true =>
  have hvw2 := hvw
  unfold validWeights at hvw2
  simp only [Bool.and_eq_true, decide_eq_true_eq] at hvw2
  obtain ⟨hvb, hwl, _⟩ := hvw2
  obtain ⟨s1, s2, s3, s4⟩ := sizes_valid hvb
  have hf := (validDb_of hvb).few
  have hso := sortedId (N := N) (l := likely d w) (by have := likely_len hvb w; omega) (pick_sorted (fun b hb => bestB_mem (blocks_ne hvb b hb).1) (by rw [blocks_flat hvb]; exact range_sorted _)) hN
  simp only [Bool.not_true, cond_false, specBlocks h hN, Option.bind_some]
  unfold likely at hso ⊢
  have hne := blocks_ne hvb
  have hin : ∀ b ∈ blocksOf d, ∀ x ∈ b, 0 ≤ x ∧ x < (w.length : Int) := fun b hb x hx => by rw [hwl]; exact blocks_in' hvb b hb x hx
  generalize blocksOf d = L at *
  have := loop (fun k (s : Nat) => spec_MostLikelyRepair_l0 N k w ((L.take s).map (bestB w)) L (s : Int)) (fun s => s ≤ L.length) (fun s => L.length - s) (fun o => o = some (L.map (bestB w), true)) (fun k s hs => by
   by_cases hj : s < L.length
   ·right
    refine ⟨s + 1, hj, by omega, ?_⟩
    have h1 : (s : Int) < (L.length : Int) := by omega
    have hm := List.getElem_mem hj
    have hpos : 0 < (L[s]).length := List.length_pos_iff.2 (hne _ hm).1
    simp only [spec_MostLikelyRepair_l0, spec_MostLikelyRepair_l0_b, h1, decide_true, cond_true, inb_lt hj, grd_true, at_lt hj, show inb 0 L[s] = true from inb_lt (j := 0) hpos]
    rw [specBest hj (hne _ hm).1 (by have := (hne _ hm).2; omega) (hin _ hm) hN _ (by rw [List.length_map, List.length_take]; omega), w64_succ (by omega), List.take_succ_eq_append_getElem hj, List.map_append]
    rfl
   ·left
    have : s = L.length := by omega
    subst this
    simp only [spec_MostLikelyRepair_l0, spec_MostLikelyRepair_l0_b, Int.lt_irrefl, decide_false, cond_false, List.take_length, hso, Option.bind_some]) N 0 (by omega) (by omega)
  exact this
theorem implLikely {N : Nat} {d : Db} {w : List Int} (h : SmallDb d) (hw : w.length ≤ 1048576) (hN : 1048576 < N) : impl_MostLikelyRepair N d w = some (likelyR d w) := by
 unfold impl_MostLikelyRepair impl_MostLikelyRepair_b likelyR
 rw [implWeights h hw hN, Option.bind_some]
 cases hvw : validWeights d w with
 | false => rfl
 | true =>
  have hvw2 := hvw
  unfold validWeights at hvw2
  simp only [Bool.and_eq_true, decide_eq_true_eq] at hvw2
  obtain ⟨hvb, hwl, _⟩ := hvw2
  obtain ⟨s1, s2, s3, s4⟩ := sizes_valid hvb
  have hf := (validDb_of hvb).few
  simp only [Bool.not_true, cond_false, implBlk h hvb hN, Option.bind_some]
  unfold likely
  have hne := blocks_ne hvb
  have hin : ∀ b ∈ blocksOf d, ∀ x ∈ b, 0 ≤ x ∧ x < (w.length : Int) := fun b hb x hx => by rw [hwl]; exact blocks_in' hvb b hb x hx
  generalize blocksOf d = L at *
  have := loop (fun k (s : Nat) => impl_MostLikelyRepair_l0 N k w ((L.take s).map (bestB w)) L (L.length : Int) (s : Int)) (fun s => s ≤ L.length) (fun s => L.length - s) (fun o => o = some (L.map (bestB w), true)) (fun k s hs => by
   by_cases hj : s < L.length
   ·right
    refine ⟨s + 1, hj, by omega, ?_⟩
    have h1 : (s : Int) < (L.length : Int) := by omega
    have hm := List.getElem_mem hj
    have hpos : 0 < (L[s]).length := List.length_pos_iff.2 (hne _ hm).1
    simp only [impl_MostLikelyRepair_l0, impl_MostLikelyRepair_l0_b, h1, decide_true, cond_true, inb_lt hj, grd_true, at_lt hj, show inb 0 L[s] = true from inb_lt (j := 0) hpos]
    rw [implBest hj (hne _ hm).1 (by have := (hne _ hm).2; omega) (hin _ hm) hN _ (by rw [List.length_map, List.length_take]; omega), w64_succ (by omega), List.take_succ_eq_append_getElem hj, List.map_append]
    rfl
   ·left
    have : s = L.length := by omega
    subst this
    simp only [impl_MostLikelyRepair_l0, impl_MostLikelyRepair_l0_b, Int.lt_irrefl, decide_false, cond_false, List.take_length]) N 0 (by omega) (by omega)
  exact this
end Go.PL
namespace Go.PL
set_option linter.unusedVariables false
def sumN (f : Nat → Int) : Nat → Int
 | 0 => 0
 | n + 1 => sumN f n + f n
theorem sumN_add (f : Nat → Int) (m : Nat) : ∀ n, sumN f (m + n) = sumN f m + sumN (fun k => f (m + k)) n
 | 0 => by simp [sumN]
 | n + 1 => by
  have := sumN_add f m n
  show sumN f (m + n) + f (m + n) = sumN f m + (sumN (fun k => f (m + k)) n + f (m + n))
  omega
theorem sumN_congr {f g : Nat → Int} : ∀ {n : Nat}, (∀ k, k < n → f k = g k) → sumN f n = sumN g n
 | 0, _ => rfl
 | n + 1, h => by
  simp only [sumN, sumN_congr (n := n) fun k hk => h k (by omega), h n (by omega)]
theorem sumN_mul (f : Nat → Int) (c : Int) : ∀ n, sumN (fun k => f k * c) n = sumN f n * c
 | 0 => by simp [sumN]
 | n + 1 => by simp only [sumN, sumN_mul f c n, Int.add_mul]
theorem sumN_grid (f g : Nat → Int) {a : Nat} (ha : 0 < a) : ∀ Q, sumN (fun k => f (k % a) * g (k / a)) (a * Q) = sumN f a * sumN g Q
 | 0 => by simp [sumN]
 | Q + 1 => by
  rw [Nat.mul_succ, sumN_add, sumN_grid f g ha Q]
  have e : sumN (fun k => f ((a * Q + k) % a) * g ((a * Q + k) / a)) a = sumN f a * g Q := by
   rw [← sumN_mul]
   refine sumN_congr fun k hk => ?_
   rw [Nat.mul_add_mod, Nat.mod_eq_of_lt hk, Nat.mul_add_div ha, Nat.div_eq_of_lt hk, Nat.add_zero]
  rw [e]
  simp only [sumN, Int.mul_add]
theorem sumN_cons (f : Nat → Int) : ∀ n, sumN f (n + 1) = f 0 + sumN (fun k => f (k + 1)) n
 | 0 => by simp [sumN]
 | n + 1 => by
  have := sumN_cons f n
  simp only [sumN] at this ⊢
  omega
/-- The product of the weights; the sum of them; the product of the sums. -/
def pw (w : List Int) : List Int → Int
 | [] => 1
 | x :: l => at_ 0 w x * pw w l
def sw (w : List Int) : List Int → Int
 | [] => 0
 | x :: l => at_ 0 w x + sw w l
def tw (w : List Int) : List (List Int) → Int
 | [] => 1
 | b :: L => sw w b * tw w L
def sizeP : List (List Int) → Nat
 | [] => 1
 | b :: L => b.length * sizeP L
/-- The k-th choice, of each list one. -/
def nth : List (List Int) → Nat → List Int
 | [], _ => []
 | c :: C, k => c.getD (k % c.length) 0 :: nth C (k / c.length)
theorem sw_sum (w : List Int) : ∀ c : List Int, sumN (fun r => at_ 0 w (c.getD r 0)) c.length = sw w c
 | [] => rfl
 | x :: c => by
  rw [List.length_cons, sumN_cons]
  simp only [List.getD_cons_zero, List.getD_cons_succ, sw, sw_sum w c]
theorem sum_choices (w : List Int) : ∀ C : List (List Int), (∀ c ∈ C, c ≠ []) → sumN (fun k => pw w (nth C k)) (sizeP C) = tw w C
 | [], _ => by simp [sumN, sizeP, nth, pw, tw]
 | c :: C, h => by
  have hc : 0 < c.length := List.length_pos_iff.2 (h c (by simp))
  have ih := sum_choices w C fun x hx => h x (by simp [hx])
  simp only [nth, pw, sizeP, tw]
  rw [sumN_grid (fun r => at_ 0 w (c.getD r 0)) (fun q => pw w (nth C q)) hc, sw_sum, ih]
theorem pw_append (w : List Int) : ∀ a b : List Int, pw w (a ++ b) = pw w a * pw w b
 | [], b => by simp [pw]
 | x :: a, b => by simp only [List.cons_append, pw, pw_append w a b, Int.mul_assoc]
theorem pw_reverse (w : List Int) : ∀ a : List Int, pw w a.reverse = pw w a
 | [] => rfl
 | x :: a => by
  rw [List.reverse_cons, pw_append, pw_reverse w a]
  simp only [pw, Int.mul_one]
  exact Int.mul_comm _ _
theorem tw_append (w : List Int) : ∀ a b : List (List Int), tw w (a ++ b) = tw w a * tw w b
 | [], b => by simp [tw]
 | x :: a, b => by simp only [List.cons_append, tw, tw_append w a b, Int.mul_assoc]
theorem tw_reverse (w : List Int) : ∀ a : List (List Int), tw w a.reverse = tw w a
 | [] => rfl
 | x :: a => by
  rw [List.reverse_cons, tw_append, tw_reverse w a]
  simp only [tw, Int.mul_one]
  exact Int.mul_comm _ _
theorem sizeP_append : ∀ a b : List (List Int), sizeP (a ++ b) = sizeP a * sizeP b
 | [], b => by simp [sizeP]
 | x :: a, b => by simp only [List.cons_append, sizeP, sizeP_append a b, Nat.mul_assoc]
theorem sizeP_reverse : ∀ a : List (List Int), sizeP a.reverse = sizeP a
 | [] => rfl
 | x :: a => by
  rw [List.reverse_cons, sizeP_append, sizeP_reverse a]
  simp only [sizeP, Nat.mul_one]
  exact Nat.mul_comm _ _

/-- Weights at the places of a list. -/
def Wts (w l : List Int) : Prop := ∀ x ∈ l, 1 ≤ at_ 0 w x ∧ at_ 0 w x ≤ 9
theorem mul_pos1 {a b : Int} (ha : 1 ≤ a) (hb : 1 ≤ b) : 1 ≤ a * b := by
 have := Int.mul_le_mul ha hb (by omega) (by omega)
 omega
theorem pw_pos {w : List Int} : ∀ {l : List Int}, Wts w l → 1 ≤ pw w l
 | [], _ => Int.le_refl 1
 | x :: l, h => mul_pos1 (h x (by simp)).1 (pw_pos fun y hy => h y (by simp [hy]))
theorem pw_le {w : List Int} : ∀ {l : List Int}, Wts w l → pw w l ≤ ((9 ^ l.length : Nat) : Int)
 | [], _ => by simp [pw]
 | x :: l, h => by
  have h1 := h x (by simp)
  have h2 := pw_le (l := l) fun y hy => h y (by simp [hy])
  have h3 := pw_pos (l := l) fun y hy => h y (by simp [hy])
  have := Int.mul_le_mul h1.2 h2 (by omega) (by omega)
  simp only [pw, List.length_cons, Nat.pow_succ]
  rw [Nat.mul_comm (9 ^ l.length) 9, Int.natCast_mul]
  exact this
theorem sw_le {w : List Int} : ∀ {l : List Int}, Wts w l → (l.length : Int) ≤ sw w l ∧ sw w l ≤ 9 * (l.length : Int)
 | [], _ => by simp [sw]
 | x :: l, h => by
  have h1 := h x (by simp)
  have h2 := sw_le (l := l) fun y hy => h y (by simp [hy])
  simp only [sw, List.length_cons]
  omega
theorem nine18 : ∀ n : Nat, 9 * n ≤ 18 ^ n
 | 0 => by decide
 | n + 1 => by
  have := nine18 n
  have h1 : 1 ≤ 18 ^ n := Nat.one_le_pow _ _ (by decide)
  rw [Nat.pow_succ]
  omega
theorem tw_pos {w : List Int} : ∀ {L : List (List Int)}, (∀ b ∈ L, b ≠ []) → (∀ b ∈ L, Wts w b) → 1 ≤ tw w L
 | [], _, _ => Int.le_refl 1
 | b :: L, h0, h => by
  have h1 := sw_le (h b (by simp))
  have : 0 < b.length := List.length_pos_iff.2 (h0 b (by simp))
  exact mul_pos1 (by omega) (tw_pos (fun x hx => h0 x (by simp [hx])) fun x hx => h x (by simp [hx]))
theorem tw_le {w : List Int} : ∀ {L : List (List Int)}, (∀ b ∈ L, b ≠ []) → (∀ b ∈ L, Wts w b) → tw w L ≤ ((18 ^ (L.map List.length).sum : Nat) : Int)
 | [], _, _ => by simp [tw]
 | b :: L, h0, h => by
  have h1 := sw_le (h b (by simp))
  have h2 := tw_le (L := L) (fun x hx => h0 x (by simp [hx])) fun x hx => h x (by simp [hx])
  have h3 := tw_pos (L := L) (fun x hx => h0 x (by simp [hx])) fun x hx => h x (by simp [hx])
  have h4 := nine18 b.length
  have h5 : sw w b ≤ ((18 ^ b.length : Nat) : Int) := by omega
  have := Int.mul_le_mul h5 h2 (by omega) (by omega)
  simp only [tw, List.map_cons, List.sum_cons]
  rw [Nat.pow_add, Int.natCast_mul]
  exact this
theorem sizeP_pos : ∀ {L : List (List Int)}, (∀ b ∈ L, b ≠ []) → 1 ≤ sizeP L
 | [], _ => Nat.le_refl 1
 | b :: L, h0 => by
  have : 0 < b.length := List.length_pos_iff.2 (h0 b (by simp))
  have h3 := sizeP_pos (L := L) fun x hx => h0 x (by simp [hx])
  exact Nat.mul_pos this h3
theorem sizeP_le : ∀ {L : List (List Int)}, (∀ b ∈ L, b ≠ []) → sizeP L ≤ 2 ^ (L.map List.length).sum
 | [], _ => by simp [sizeP]
 | b :: L, h0 => by
  have h2 := sizeP_le (L := L) fun x hx => h0 x (by simp [hx])
  simp only [sizeP, List.map_cons, List.sum_cons]
  rw [Nat.pow_add]
  exact Nat.mul_le_mul (Nat.le_of_lt Nat.lt_two_pow_self) h2
theorem le_mul1 {a b : Int} (ha : 0 ≤ a) (hb : 1 ≤ b) : a ≤ a * b := by
 have := Int.mul_le_mul_of_nonneg_left hb ha
 omega
theorem le_mulN {a b : Nat} (hb : 1 ≤ b) : a ≤ a * b := by
 have := Nat.mul_le_mul_left a hb
 omega
/-- No choice weighs more than the choice of the heaviest. -/
theorem nth_le {w : List Int} : ∀ {C : List (List Int)} {k : Nat}, (∀ c ∈ C, c ≠ []) → (∀ c ∈ C, Wts w c) → pw w (nth C k) ≤ pw w (C.map (bestB w)) ∧ Wts w (nth C k) ∧ (nth C k).length = C.length
 | [], k, _, _ => ⟨Int.le_refl 1, fun x hx => by simp [nth] at hx, rfl⟩
 | c :: C, k, h0, h => by
  have hc : 0 < c.length := List.length_pos_iff.2 (h0 c (by simp))
  have hk : k % c.length < c.length := Nat.mod_lt _ hc
  obtain ⟨i1, i2, i3⟩ := nth_le (C := C) (k := k / c.length) (fun x hx => h0 x (by simp [hx])) fun x hx => h x (by simp [hx])
  have hx : c.getD (k % c.length) 0 ∈ c := by rw [getD_lt hk]; exact List.getElem_mem hk
  have hw := h c (by simp) _ hx
  have hb := h c (by simp) _ (bestB_mem (w := w) (h0 c (by simp)))
  have key : ∀ (l : List Int) (m : Int), at_ 0 w m ≤ at_ 0 w (l.foldl (mx w) m) ∧ ∀ x ∈ l, at_ 0 w x ≤ at_ 0 w (l.foldl (mx w) m) := by
   intro l
   induction l with
   | nil => intro m; exact ⟨Int.le_refl _, by simp⟩
   | cons y l ih =>
    intro m
    obtain ⟨a1, a2⟩ := ih (mx w m y)
    have a3 : at_ 0 w m ≤ at_ 0 w (mx w m y) ∧ at_ 0 w y ≤ at_ 0 w (mx w m y) := by
     unfold mx
     split <;> omega
    rw [List.foldl_cons]
    refine ⟨by omega, fun x hx => ?_⟩
    rcases List.mem_cons.1 hx with rfl | hx
    ·omega
    ·exact a2 x hx
  have hle : at_ 0 w (c.getD (k % c.length) 0) ≤ at_ 0 w (bestB w c) := (key c _).2 _ hx
  have hp := pw_pos i2
  refine ⟨?_, fun x hx => ?_, by simp [nth, i3]⟩
  ·simp only [nth, pw, List.map_cons]
   exact Int.mul_le_mul hle i1 (by omega) (by omega)
  ·simp only [nth, List.mem_cons] at hx
   rcases hx with rfl | hx
   ·exact hw
   ·exact i2 x hx

theorem specProdV {N : Nat} {w l : List Int} (h : Wts w l) (hin : ∀ x ∈ l, 0 ≤ x ∧ x < (w.length : Int)) (hl : l.length ≤ 14) (hN : 1048576 < N) : spec_RepairWeight_l0 N N w l 1 0 = some (pw w l) := by
 have hT := pw_le h
 have h9 : 9 ^ l.length ≤ 9 ^ 14 := Nat.pow_le_pow_right (by decide) hl
 have h10 : (9 : Nat) ^ 14 = 22876792454961 := by decide
 have := loop (fun k (s : Int × Nat) => spec_RepairWeight_l0 N k w l s.1 (s.2 : Int)) (fun s => s.2 ≤ l.length ∧ 1 ≤ s.1 ∧ s.1 * pw w (l.drop s.2) = pw w l) (fun s => l.length - s.2) (fun o => o = some (pw w l)) (fun k s hs => by
  obtain ⟨n, j⟩ := s
  obtain ⟨h1, h2, h3⟩ := hs
  simp only at h1 h2 h3 ⊢
  by_cases hj : j < l.length
  ·right
   have e1 : (j : Int) < (l.length : Int) := by omega
   have hm := List.getElem_mem hj
   have i1 := hin _ hm
   have i2 := h _ hm
   have i3 := pw_pos (w := w) (l := l.drop (j + 1)) fun x hx => h x (List.mem_of_mem_drop hx)
   rw [List.drop_eq_getElem_cons hj, pw, ← Int.mul_assoc] at h3
   have p1 := mul_pos1 h2 i2.1
   have p2 := le_mul1 (a := n * at_ 0 w l[j]) (by omega) i3
   have ew : w64 (n * at_ 0 w l[j]) = n * at_ 0 w l[j] := w64_id (by omega) (by omega)
   refine ⟨(n * at_ 0 w l[j], j + 1), ⟨hj, p1, h3⟩, by simp only; omega, ?_⟩
   simp only [spec_RepairWeight_l0, spec_RepairWeight_l0_b, e1, decide_true, cond_true, inb_lt hj, grd_true, at_lt hj, inb_int i1.1 i1.2, ew, w64_succ (show j < 4611686018427387904 by omega)]
  ·left
   have : j = l.length := by omega
   subst this
   rw [List.drop_length, pw, Int.mul_one] at h3
   simp only [spec_RepairWeight_l0, spec_RepairWeight_l0_b, Int.lt_irrefl, decide_false, cond_false, h3]) N (1, 0) (by simp only; omega) ⟨by simp, by simp, by simp⟩
 exact this
theorem sw_append (w : List Int) : ∀ a b : List Int, sw w (a ++ b) = sw w a + sw w b
 | [], b => by simp [sw]
 | x :: a, b => by simp only [List.cons_append, sw, sw_append w a b]; omega
theorem total1V {N : Nat} {w : List Int} {b : List (List Int)} {c : List Int} (hb : c.length ≤ 14) (hw : Wts w c) (hin : ∀ x ∈ c, 0 ≤ x ∧ x < (w.length : Int)) (hN : 1048576 < N) (R : List Int → Int → List (List Int) → Int → Int → Option Int) (n t j i : Int) :
  impl_TotalWeight_l1 R N N w n 0 b t j i c (c.length : Int) 0 = R w (w64 (n * sw w c)) b t (w64 (j + 1)) := by
 have := loop (fun k (s : Int × Nat) => impl_TotalWeight_l1 R N k w n s.1 b t j i c (c.length : Int) (s.2 : Int)) (fun s => s.2 ≤ c.length ∧ s.1 = sw w (c.take s.2)) (fun s => c.length - s.2) (fun o => o = R w (w64 (n * sw w c)) b t (w64 (j + 1))) (fun k s hs => by
  obtain ⟨s, q⟩ := s
  obtain ⟨h1, h2⟩ := hs
  simp only at h1 h2 ⊢
  by_cases hq : q < c.length
  ·right
   have e1 : (q : Int) < (c.length : Int) := by omega
   have i1 := hin _ (List.getElem_mem hq)
   have i2 := sw_le (w := w) (l := c.take (q + 1)) fun x hx => hw x (List.mem_of_mem_take hx)
   have i3 : (c.take (q + 1)).length ≤ 14 := by rw [List.length_take]; omega
   have e2 : sw w (c.take (q + 1)) = s + at_ 0 w c[q] := by
    rw [List.take_succ_eq_append_getElem hq, sw_append, h2]
    simp [sw]
   have ew : w64 (s + at_ 0 w c[q]) = sw w (c.take (q + 1)) := by rw [← e2]; exact w64_id (by omega) (by omega)
   refine ⟨(sw w (c.take (q + 1)), q + 1), ⟨hq, rfl⟩, by simp only; omega, ?_⟩
   simp only [impl_TotalWeight_l1, impl_TotalWeight_l1_b, grd_true, e1, decide_true, cond_true, inb_lt hq, at_lt hq, inb_int i1.1 i1.2, ew, w64_succ (show q < 4611686018427387904 by omega)]
  ·left
   have : q = c.length := by omega
   subst this
   rw [List.take_length] at h2
   simp only [impl_TotalWeight_l1, impl_TotalWeight_l1_b, Int.lt_irrefl, decide_false, cond_false, h2]) N (0, 0) (by simp only; omega) ⟨by simp, by simp [sw]⟩
 exact this
theorem pow18 : (18 : Nat) ^ 14 = 374813367582081024 := by decide
theorem total0V {N : Nat} {w : List Int} {b : List (List Int)} (hbs : (b.map List.length).sum ≤ 14) (hbl : b.length ≤ 14) (hb : ∀ x ∈ b, x.length ≤ 14) (h0 : ∀ x ∈ b, x ≠ []) (hw : ∀ x ∈ b, Wts w x) (hin : ∀ r ∈ b, ∀ x ∈ r, 0 ≤ x ∧ x < (w.length : Int)) (hN : 1048576 < N) : impl_TotalWeight_l0 N N w 1 b (b.length : Int) 0 = some (tw w b) := by
 have hT := tw_le h0 hw
 have h18 : 18 ^ (b.map List.length).sum ≤ 18 ^ 14 := Nat.pow_le_pow_right (by decide) hbs
 rw [pow18] at h18
 have := loop (fun k (s : Int × Nat) => impl_TotalWeight_l0 N k w s.1 b (b.length : Int) (s.2 : Int)) (fun s => s.2 ≤ b.length ∧ 1 ≤ s.1 ∧ s.1 * tw w (b.drop s.2) = tw w b) (fun s => b.length - s.2) (fun o => o = some (tw w b)) (fun k s hs => by
  obtain ⟨n, j⟩ := s
  obtain ⟨h1, h2, h3⟩ := hs
  simp only at h1 h2 h3 ⊢
  by_cases hj : j < b.length
  ·right
   have e1 : (j : Int) < (b.length : Int) := by omega
   have hm := List.getElem_mem hj
   have i2 := sw_le (hw _ hm)
   have i4 : 0 < (b[j]).length := List.length_pos_iff.2 (h0 _ hm)
   have i3 := tw_pos (w := w) (L := b.drop (j + 1)) (fun x hx => h0 x (List.mem_of_mem_drop hx)) fun x hx => hw x (List.mem_of_mem_drop hx)
   rw [List.drop_eq_getElem_cons hj, tw, ← Int.mul_assoc] at h3
   have p1 := mul_pos1 (b := sw w b[j]) h2 (by omega)
   have p2 := le_mul1 (a := n * sw w b[j]) (by omega) i3
   have ew : w64 (n * sw w b[j]) = n * sw w b[j] := w64_id (by omega) (by omega)
   refine ⟨(n * sw w b[j], j + 1), ⟨hj, p1, h3⟩, by simp only; omega, ?_⟩
   simp only [impl_TotalWeight_l0, impl_TotalWeight_l0_b, e1, decide_true, cond_true, inb_lt hj, grd_true, at_lt hj]
   rw [total1V (hb _ hm) (hw _ hm) (hin _ hm) hN, ew, w64_succ (by omega)]
  ·left
   have : j = b.length := by omega
   subst this
   rw [List.drop_length, tw, Int.mul_one] at h3
   simp only [impl_TotalWeight_l0, impl_TotalWeight_l0_b, Int.lt_irrefl, decide_false, cond_false, h3]) N (1, 0) (by simp only; omega) ⟨by simp, by simp, by simp⟩
 exact this
theorem countV {N : Nat} {b : List (List Int)} (hbs : (b.map List.length).sum ≤ 14) (hbl : b.length ≤ 14) (h0 : ∀ x ∈ b, x ≠ []) (hN : 1048576 < N) : spec_CountRepairs_l0 N N 1 (toI (b.map List.length)) 0 = some (sizeP b : Int) := by
 have hT := sizeP_le h0
 have h2p : 2 ^ (b.map List.length).sum ≤ 2 ^ 14 := Nat.pow_le_pow_right (by decide) hbs
 have hlen : (toI (b.map List.length)).length = b.length := by simp [toI]
 have := loop (fun k (s : Nat × Nat) => spec_CountRepairs_l0 N k (s.1 : Int) (toI (b.map List.length)) (s.2 : Int)) (fun s => s.2 ≤ b.length ∧ s.1 * sizeP (b.drop s.2) = sizeP b) (fun s => b.length - s.2) (fun o => o = some (sizeP b : Int)) (fun k s hs => by
  obtain ⟨n, j⟩ := s
  obtain ⟨h1, h3⟩ := hs
  simp only at h1 h3 ⊢
  by_cases hj : j < b.length
  ·right
   have e1 : (j : Int) < ((toI (b.map List.length)).length : Int) := by omega
   have i3 := sizeP_pos (L := b.drop (j + 1)) fun x hx => h0 x (List.mem_of_mem_drop hx)
   rw [List.drop_eq_getElem_cons hj, sizeP, ← Nat.mul_assoc] at h3
   have p2 := le_mulN (a := n * (b[j]).length) i3
   have hj2 : j < (toI (b.map List.length)).length := by omega
   have eb : (toI (b.map List.length))[j] = ((b[j]).length : Int) := by simp [toI]
   have ew : w64 ((n : Int) * ((b[j]).length : Int)) = ((n * (b[j]).length : Nat) : Int) := by
    rw [← Int.natCast_mul]
    exact w64_id (by omega) (by omega)
   refine ⟨(n * (b[j]).length, j + 1), ⟨hj, h3⟩, by simp only; omega, ?_⟩
   simp only [spec_CountRepairs_l0, spec_CountRepairs_l0_b, e1, decide_true, cond_true, inb_lt hj2, grd_true, at_lt hj2, eb, ew, w64_succ (show j < 4611686018427387904 by omega)]
  ·left
   have : j = b.length := by omega
   subst this
   rw [List.drop_length, sizeP, Nat.mul_one] at h3
   simp only [spec_CountRepairs_l0, spec_CountRepairs_l0_b, hlen, Int.lt_irrefl, decide_false, cond_false, h3]) N (1, 0) (by simp only; omega) ⟨by simp, by simp⟩
 exact this
/-- What stands in the reverse order is turned. -/
theorem sortedRev {N : Nat} {l : List Int} (hl : l.length ≤ 1000) (hs : l.Pairwise (· > ·)) (hN : 1048576 < N) : spec_l7Sorted N l = some l.reverse := by
 unfold spec_l7Sorted spec_l7Sorted_b
 have := loop (fun k (s : Nat) => spec_l7Sorted_l0 N k l (l.take s).reverse (s : Int)) (fun s => s ≤ l.length) (fun s => l.length - s) (fun o => o = some l.reverse) (fun k s hs' => by
  by_cases hj : s < l.length
  ·right
   refine ⟨s + 1, hj, by omega, ?_⟩
   have h1 : (s : Int) < (l.length : Int) := by omega
   have hlen : ((l.take s).reverse).length = s := by rw [List.length_reverse, List.length_take]; omega
   have e0 : (l.take (s + 1)).reverse = l[s] :: (l.take s).reverse := by rw [List.take_succ_eq_append_getElem hj]; simp
   have hbig : ∀ q (hq : q < ((l.take s).reverse).length), ((l.take s).reverse)[q] > l[s] := by
    intro q hq
    have hm : ((l.take s).reverse)[q] ∈ l.take s := List.mem_reverse.1 (List.getElem_mem hq)
    obtain ⟨i, hi, he⟩ := List.mem_iff_getElem.1 hm
    rw [← he, List.getElem_take]
    have hi2 : i < s := by rw [List.length_take] at hi; omega
    exact List.pairwise_iff_getElem.1 hs i s (by omega) hj hi2
   simp only [spec_l7Sorted_l0, spec_l7Sorted_l0_b, h1, decide_true, cond_true, hlen]
   rw [e0]
   generalize (l.take s).reverse = out at *
   have := loop (fun q (t : Nat) => spec_l7Sorted_l1 (spec_l7Sorted_l0 N k) N q l out (s : Int) (t : Int)) (fun t => t ≤ out.length) (fun t => t) (fun o => o = spec_l7Sorted_l0 N k l (l[s] :: out) ((s + 1 : Nat) : Int)) (fun q t ht => by
    by_cases h0 : 0 < t
    ·right
     refine ⟨t - 1, by omega, by omega, ?_⟩
     have h2 : (t : Int) > 0 := by omega
     have h3 : t - 1 < out.length := by omega
     simp only [spec_l7Sorted_l1, spec_l7Sorted_l1_b, h2, decide_true, cond_true, w64_pred h0 (by omega), inb_lt h3, inb_lt hj, grd_true, at_lt h3, at_lt hj, hbig (t - 1) h3]
    ·left
     have : t = 0 := by omega
     subst this
     have so : subOk 0 0 out.length = true := subOk_true (by omega) (by omega) (by omega)
     have so2 : subOk 0 (out.length : Int) out.length = true := subOk_true (by omega) (by omega) (by omega)
     have a1 : appOk ([] : List Int) [] 8 = true := rfl
     have a2 : appOk ([] : List Int) [l[s]] 8 = true := appOk_lt (by omega) (by simp)
     have a3 : appOk [l[s]] out 8 = true := appOk_lt (by omega) (by simp only [List.length_singleton]; omega)
     have h2 : ¬ (0 : Int) > 0 := by omega
     simp only [spec_l7Sorted_l1, spec_l7Sorted_l1_b, Int.cast_ofNat_Int, h2, decide_false, cond_false, Int.toNat_zero, List.take_zero, List.drop_zero, so, so2, inb_lt hj, at_lt hj, grd_true, a1, a2, a3, List.nil_append, List.singleton_append, w64_succ (show s < 4611686018427387904 by omega)]) N s (by omega) (by omega)
   exact this
  ·left
   have : s = l.length := by omega
   subst this
   simp [spec_l7Sorted_l0, spec_l7Sorted_l0_b]) N 0 (by omega) (by omega)
 exact this
end Go.PL
namespace Go.PL
set_option linter.unusedVariables false
def validSet (n : Nat) (l : List Int) : Bool := decide (∀ j, j < l.length → (decide (0 ≤ l.getD j 0 ∧ l.getD j 0 ≤ (n : Int) - 1) && (decide (j = 0) || decide (l.getD (j - 1) 0 < l.getD j 0))) = true)
theorem specSet {N : Nat} {d : Db} {l : List Int} (h : SmallDb d) (hl : l.length ≤ 1048576) (hN : 1048576 < N) : spec_l4Set N d l = some (validSet d.2.length l) := by
 have hf := h.facts
 unfold spec_l4Set spec_l4Set_b
 rw [everyE (n := l.length) (fun j => decide (0 ≤ l.getD j 0 ∧ l.getD j 0 ≤ (d.2.length : Int) - 1) && (decide (j = 0) || decide (l.getD (j - 1) 0 < l.getD j 0))) (some false) (some true) (fun k i => spec_l4Set_l0 N k l d.1 d.2 i)
  (fun k => by simp [spec_l4Set_l0, spec_l4Set_l0_b]) (fun k j hj => ?_) (by omega)]
 ·unfold validSet
  split
  ·rename_i h4; rw [decide_eq_true h4]
  ·rename_i h4; rw [decide_eq_false h4]
 ·have h1 : (j : Int) < (l.length : Int) := by omega
  simp only [spec_l4Set_l0, spec_l4Set_l0_b, h1, decide_true, cond_true, inb_lt hj, grd_true, at_lt hj, l1In, Option.bind_some, getD_lt hj, w64_succ (show j < 4611686018427387904 by omega), w64_id (show -9223372036854775808 ≤ (d.2.length : Int) - 1 by omega) (by omega)]
  cases decide (0 ≤ l[j] ∧ l[j] ≤ (d.2.length : Int) - 1) with
  | false => rfl
  | true =>
   simp only [Bool.not_true, cond_false, Bool.true_and]
   by_cases h0 : j = 0
   ·subst h0; simp
   ·have h3 : (j : Int) > 0 := by omega
    have h4 : j - 1 < l.length := by omega
    simp only [h3, decide_true, cond_true, w64_pred (show 0 < j by omega) (by omega), inb_lt h4, grd_true, at_lt h4, h0, decide_false, Bool.false_or, getD_lt h4]
    by_cases h5 : l[j - 1] < l[j]
    ·have : ¬ l[j] ≤ l[j - 1] := by omega
     simp [h5, this]
    ·have : l[j] ≤ l[j - 1] := by omega
     simp [h5, this]
theorem implSet {N : Nat} {n : Nat} {l : List Int} (hn : n ≤ 1048576) (hl : l.length ≤ 1048576) (hN : 1048576 < N) : impl_areIndices N l (n : Int) = some (validSet n l) := by
 unfold impl_areIndices impl_areIndices_b
 rw [everyE (n := l.length) (fun j => decide (0 ≤ l.getD j 0 ∧ l.getD j 0 ≤ (n : Int) - 1) && (decide (j = 0) || decide (l.getD (j - 1) 0 < l.getD j 0))) (some false) (some true) (fun k i => impl_areIndices_l0 N k l (n : Int) l (l.length : Int) i)
  (fun k => by simp [impl_areIndices_l0, impl_areIndices_l0_b]) (fun k j hj => ?_) (by omega)]
 ·unfold validSet
  split
  ·rename_i h4; rw [decide_eq_true h4]
  ·rename_i h4; rw [decide_eq_false h4]
 ·have h1 : (j : Int) < (l.length : Int) := by omega
  simp only [impl_areIndices_l0, impl_areIndices_l0_b, h1, decide_true, cond_true, inb_lt hj, grd_true, at_lt hj, within, Option.bind_some, getD_lt hj, w64_succ (show j < 4611686018427387904 by omega), w64_id (show -9223372036854775808 ≤ (n : Int) - 1 by omega) (by omega)]
  cases decide (0 ≤ l[j] ∧ l[j] ≤ (n : Int) - 1) with
  | false => rfl
  | true =>
   simp only [Bool.not_true, cond_false, Bool.true_and]
   by_cases h0 : j = 0
   ·subst h0; simp
   ·have h3 : (j : Int) > 0 := by omega
    have h4 : j - 1 < l.length := by omega
    simp only [h3, decide_true, cond_true, w64_pred (show 0 < j by omega) (by omega), inb_lt h4, grd_true, at_lt h4, h0, decide_false, Bool.false_or, getD_lt h4]
    by_cases h5 : l[j - 1] < l[j]
    ·have : ¬ l[j - 1] ≥ l[j] := by omega
     simp [h5, this]
    ·have : l[j - 1] ≥ l[j] := by omega
     simp [h5, this]
theorem validSet_in {n : Nat} {l : List Int} (h : validSet n l = true) {j : Nat} (hj : j < l.length) : 0 ≤ l[j] ∧ l[j] < (n : Int) := by
 have := of_decide_eq_true h j hj
 rw [Bool.and_eq_true, decide_eq_true_eq, getD_lt hj] at this
 omega

/-- The product of the weights at the indices, in words. -/
theorem specProd {N : Nat} {w l : List Int} (h : ∀ j (hj : j < l.length), 0 ≤ l[j] ∧ l[j] < (w.length : Int)) (hl : l.length ≤ 1048576) (hN : 1048576 < N) : ∃ x, spec_RepairWeight_l0 N N w l 1 0 = some x := by
 have := loop (fun k (s : Int × Nat) => spec_RepairWeight_l0 N k w l s.1 (s.2 : Int)) (fun s => s.2 ≤ l.length) (fun s => l.length - s.2) (fun o => ∃ x, o = some x) (fun k s hs => by
  obtain ⟨n, j⟩ := s
  simp only at hs ⊢
  by_cases hj : j < l.length
  ·right
   have h1 : (j : Int) < (l.length : Int) := by omega
   have h2 := h j hj
   refine ⟨(w64 (n * at_ 0 w l[j]), j + 1), hj, by simp only; omega, ?_⟩
   ·simp only [spec_RepairWeight_l0, spec_RepairWeight_l0_b, h1, decide_true, cond_true, inb_lt hj, grd_true, at_lt hj, inb_int h2.1 h2.2, w64_succ (show j < 4611686018427387904 by omega)]
  ·left
   have h1 : ¬ (j : Int) < (l.length : Int) := by omega
   exact ⟨n, by simp only [spec_RepairWeight_l0, spec_RepairWeight_l0_b, h1, decide_false, cond_false]⟩) N (1, 0) (by simp only; omega) (by simp)
 exact this
theorem prods (N : Nat) (w l : List Int) : ∀ k n i, impl_weightOf_l0 N k w n l (l.length : Int) i = spec_RepairWeight_l0 N k w l n i
 | 0, _, _ => rfl
 | k + 1, n, i => by
  simp only [impl_weightOf_l0, impl_weightOf_l0_b, spec_RepairWeight_l0, spec_RepairWeight_l0_b, prods N w l k]
theorem weightOf {N : Nat} {d : Db} {w l : List Int} (h : SmallDb d) (hw : w.length ≤ 1048576) (hl : l.length ≤ 1048576) (hN : 1048576 < N) : ∃ x, spec_RepairWeight N d w l = some x ∧ impl_RepairWeight N d w l = some x := by
 unfold spec_RepairWeight spec_RepairWeight_b impl_RepairWeight impl_weightOf impl_weightOf_b
 rw [specWeights h hw hN, implWeights h hw hN, specSet h hl hN, implSet h.facts hl hN, Option.bind_some, Option.bind_some, Option.bind_some, Option.bind_some, prods]
 cases hv : validWeights d w with
 | false => exact ⟨0, rfl, rfl⟩
 | true =>
  cases hs : validSet d.2.length l with
  | false => exact ⟨0, rfl, rfl⟩
  | true =>
   have he : w.length = d.2.length := by
    unfold validWeights at hv
    simp only [Bool.and_eq_true, decide_eq_true_eq] at hv
    exact hv.2.1
   obtain ⟨x, hx⟩ := specProd (N := N) (w := w) (l := l) (fun j hj => by rw [he]; exact validSet_in hs hj) hl hN
   exact ⟨x, by rw [hx]; rfl, by rw [hx]; rfl⟩
end Go.PL
namespace Go.PL
set_option linter.unusedVariables false
structure Good1 (d : Db) (w : List Int) : Prop where
 vb : validDb d = true
 len : w.length = d.2.length
 few : d.2.length ≤ 14
 wts : ∀ x, 0 ≤ x → x < (d.2.length : Int) → 1 ≤ at_ 0 w x ∧ at_ 0 w x ≤ 9
theorem good1 {d : Db} {w : List Int} (h : validWeights d w = true) : Good1 d w := by
 unfold validWeights at h
 simp only [Bool.and_eq_true, decide_eq_true_eq] at h
 obtain ⟨h1, h2, h3⟩ := h
 refine ⟨h1, h2, (validDb_of h1).few, fun x h0 hx => ?_⟩
 unfold weightsIn at h3
 rw [at_int h0 (by omega)]
 exact of_decide_eq_true (List.all_eq_true.1 h3 _ (List.getElem_mem _))
structure Blks (n : Nat) (w : List Int) (L : List (List Int)) : Prop where
 ne : ∀ b ∈ L, b ≠ []
 sum : (L.map List.length).sum ≤ 14
 len : L.length ≤ 14
 each : ∀ b ∈ L, b.length ≤ 14
 ins : ∀ b ∈ L, ∀ x ∈ b, 0 ≤ x ∧ x < (n : Int)
 wts : ∀ b ∈ L, Wts w b
 flat : L.flatten.Pairwise (· < ·)
theorem Good1.blks {d : Db} {w : List Int} (h : Good1 d w) : Blks d.2.length w (blocksOf d) := by
 obtain ⟨s1, s2, s3, s4⟩ := sizes_valid h.vb
 have hf := h.few
 have hin := blocks_in' h.vb
 refine ⟨fun b hb => (blocks_ne h.vb b hb).1, ?_, by omega, fun b hb => (blocks_ne h.vb b hb).2, hin, fun b hb x hx => ?_, ?_⟩
 ·show (sizes d).sum ≤ 14
  omega
 ·have := hin b hb x hx
  exact h.wts x this.1 this.2
 ·rw [blocks_flat h.vb]; exact range_sorted _
theorem countRepairsV {N : Nat} {d : Db} {w : List Int} (h : SmallDb d) (hg : Good1 d w) (hN : 1048576 < N) : spec_CountRepairs N d = some (sizeP (blocksOf d) : Int) := by
 have hb := hg.blks
 unfold spec_CountRepairs spec_CountRepairs_b
 rw [specDb h hN, Option.bind_some, hg.vb, Bool.not_true, cond_false, specSizes h hN, Option.bind_some]
 exact countV hb.sum hb.len hb.ne hN
theorem nthLoop {N : Nat} {L : List (List Int)} (h0 : ∀ b ∈ L, b ≠ []) : ∀ (m f k : Nat) (out : List Int), m < f → m ≤ L.length → out.length + m ≤ 100 → k ≤ 1000000 → spec_NthRepair_l0 N f (k : Int) L out ((m : Int) - 1) = (spec_l7Sorted N (out ++ nth (L.take m).reverse k)).bind fun r => some (r, true)
 | _, 0, _, _, hf, _, _, _ => by omega
 | 0, f + 1, k, out, hf, hm, ho, hk => by
  have h1 : ¬ ((0 : Nat) : Int) - 1 ≥ 0 := by omega
  simp only [spec_NthRepair_l0, spec_NthRepair_l0_b, decide_eq_false h1, cond_false, List.take_zero, List.reverse_nil, nth, List.append_nil]
 | m + 1, f + 1, k, out, hf, hm, ho, hk => by
  have e1 : ((m + 1 : Nat) : Int) - 1 = (m : Int) := by omega
  have hj : m < L.length := by omega
  have hc : 0 < (L[m]).length := List.length_pos_iff.2 (h0 _ (List.getElem_mem hj))
  have hz : ((L[m]).length : Int) ≠ 0 := by omega
  have hq : k % (L[m]).length < (L[m]).length := Nat.mod_lt _ hc
  have em : (k : Int).tmod ((L[m]).length : Int) = ((k % (L[m]).length : Nat) : Int) := rfl
  have ed : (k : Int).tdiv ((L[m]).length : Int) = ((k / (L[m]).length : Nat) : Int) := rfl
  have hd : k / (L[m]).length ≤ k := Nat.div_le_self _ _
  have hd0 : (0 : Int) ≤ ((k / (L[m]).length : Nat) : Int) := Int.natCast_nonneg _
  have hd1 : ((k / (L[m]).length : Nat) : Int) ≤ (k : Int) := Int.ofNat_le.2 hd
  have h1 : (m : Int) ≥ 0 := by omega
  have e2 : (L.take (m + 1)).reverse = L[m] :: (L.take m).reverse := by rw [List.take_succ_eq_append_getElem hj]; simp
  simp only [spec_NthRepair_l0, spec_NthRepair_l0_b, e1, decide_eq_true h1, cond_true, inb_lt hj, grd_true, at_lt hj, grz_ne hz, em, ed, inb_lt hq, at_lt hq]
  rw [appOk_lt (by omega) (by simp only [List.length_singleton]; omega), grd_true, w64_id (x := ((k / (L[m]).length : Nat) : Int)) (by omega) (by omega), w64_id (x := (m : Int) - 1) (by omega) (by omega), nthLoop h0 m f _ _ (by omega) (by omega) (by simp; omega) (by omega), e2]
  simp only [nth, getD_lt hq, List.append_assoc, List.singleton_append]
theorem nth_mem : ∀ {C : List (List Int)} {k : Nat}, (∀ c ∈ C, c ≠ []) → ∀ y ∈ nth C k, ∃ c ∈ C, y ∈ c
 | [], k, _, y, hy => by simp [nth] at hy
 | c :: C, k, h0, y, hy => by
  have hc : 0 < c.length := List.length_pos_iff.2 (h0 c (by simp))
  have hk : k % c.length < c.length := Nat.mod_lt _ hc
  simp only [nth, List.mem_cons] at hy
  rcases hy with rfl | hy
  ·rw [getD_lt hk]; exact ⟨c, by simp, List.getElem_mem hk⟩
  ·obtain ⟨c', h1, h2⟩ := nth_mem (C := C) (fun x hx => h0 x (by simp [hx])) y hy
   exact ⟨c', by simp [h1], h2⟩
theorem nth_sorted : ∀ {C : List (List Int)} {k : Nat}, (∀ c ∈ C, c ≠ []) → C.Pairwise (fun b c => ∀ x ∈ b, ∀ y ∈ c, x > y) → (nth C k).Pairwise (· > ·)
 | [], k, _, _ => by simp [nth]
 | c :: C, k, h0, hp => by
  have hc : 0 < c.length := List.length_pos_iff.2 (h0 c (by simp))
  have hk : k % c.length < c.length := Nat.mod_lt _ hc
  have h1 : ∀ x ∈ C, x ≠ [] := fun x hx => h0 x (by simp [hx])
  rw [List.pairwise_cons] at hp
  simp only [nth, List.pairwise_cons]
  refine ⟨fun y hy => ?_, nth_sorted h1 hp.2⟩
  obtain ⟨c', h2, h3⟩ := nth_mem h1 y hy
  rw [getD_lt hk]
  exact hp.1 c' h2 _ (List.getElem_mem hk) y h3
theorem Blks.rev {n : Nat} {w : List Int} {L : List (List Int)} (h : Blks n w L) : (∀ c ∈ L.reverse, c ≠ []) ∧ L.reverse.Pairwise (fun b c => ∀ x ∈ b, ∀ y ∈ c, x > y) := by
 refine ⟨fun c hc => h.ne c (List.mem_reverse.1 hc), ?_⟩
 rw [List.pairwise_reverse]
 refine ((List.pairwise_flatten.1 h.flat).2).imp fun h1 x hx y hy => ?_
 exact h1 y hy x hx
def repN (L : List (List Int)) (k : Nat) : List Int := (nth L.reverse k).reverse
theorem nthV {N : Nat} {d : Db} {w : List Int} (h : SmallDb d) (hg : Good1 d w) (hN : 1048576 < N) {k : Nat} (hk : k < sizeP (blocksOf d)) : spec_NthRepair N d k = some (repN (blocksOf d) k, true) := by
 have hb := hg.blks
 have hs := sizeP_le hb.ne
 have h2p : 2 ^ ((blocksOf d).map List.length).sum ≤ 2 ^ 14 := Nat.pow_le_pow_right (by decide) hb.sum
 unfold spec_NthRepair spec_NthRepair_b
 rw [countRepairsV h hg hN, Option.bind_some, w64_id (by omega) (by omega), l1In, Option.bind_some, decide_eq_true (by omega), Bool.not_true, cond_false, specBlocks h hN, Option.bind_some]
 have hl := hb.len
 have := nthLoop (N := N) hb.ne (blocksOf d).length N k [] (by omega) (Nat.le_refl _) (by simp; omega) (by omega)
 rw [w64_id (by omega) (by omega), this, List.take_length, List.nil_append]
 have hlen := (nth_le (w := w) (k := k) hb.rev.1 fun c hc => hb.wts c (List.mem_reverse.1 hc)).2.2
 rw [sortedRev (by rw [hlen, List.length_reverse]; omega) (nth_sorted hb.rev.1 hb.rev.2) hN]
 rfl
theorem validSet_of {n : Nat} {l : List Int} (hs : l.Pairwise (· < ·)) (hin : ∀ x ∈ l, 0 ≤ x ∧ x < (n : Int)) : validSet n l = true := by
 unfold validSet
 rw [decide_eq_true_eq]
 intro j hj
 have h1 := hin _ (List.getElem_mem hj)
 rw [Bool.and_eq_true, decide_eq_true_eq, getD_lt hj]
 refine ⟨by omega, ?_⟩
 by_cases h0 : j = 0
 ·simp [h0]
 ·have h4 : j - 1 < l.length := by omega
  rw [getD_lt h4, decide_eq_true (List.pairwise_iff_getElem.1 hs (j - 1) j h4 hj (by omega)), Bool.or_true]
theorem weightV {N : Nat} {d : Db} {w l : List Int} (h : SmallDb d) (hv : validWeights d w = true) (hN : 1048576 < N) (hs : l.Pairwise (· < ·)) (hin : ∀ x ∈ l, 0 ≤ x ∧ x < (d.2.length : Int)) (hl : l.length ≤ 14) : impl_RepairWeight N d w l = some (pw w l) := by
 have hg := good1 hv
 have hlen := hg.len
 have hf := hg.few
 obtain ⟨x, e1, e2⟩ := weightOf (N := N) (w := w) (l := l) h (by omega) (by omega) hN
 have : spec_RepairWeight N d w l = some (pw w l) := by
  unfold spec_RepairWeight spec_RepairWeight_b
  rw [specWeights h (by omega) hN, Option.bind_some, hv, Bool.not_true, cond_false, specSet h (by omega) hN, Option.bind_some, validSet_of hs hin, Bool.not_true, cond_false]
  exact specProdV (fun x hx => hg.wts x (hin x hx).1 (hin x hx).2) (fun x hx => by rw [hlen]; exact hin x hx) hl hN
 rw [e2, ← e1, this]
theorem totalV {N : Nat} {d : Db} {w : List Int} (h : SmallDb d) (hv : validWeights d w = true) (hN : 1048576 < N) : impl_TotalWeight N d w = some (tw w (blocksOf d)) := by
 have hg := good1 hv
 have hb := hg.blks
 have hlen := hg.len
 have hf := hg.few
 unfold impl_TotalWeight impl_TotalWeight_b
 rw [implWeights h (by omega) hN, Option.bind_some, hv, Bool.not_true, cond_false, implBlk h hg.vb hN, Option.bind_some]
 exact total0V hb.sum hb.len hb.each hb.ne hb.wts (fun r hr x hx => by rw [hlen]; exact hb.ins r hr x hx) hN

theorem sts_sorted (S : Nat → Nat → Bool) (n : Nat) : (sts S n).Pairwise (· < ·) := List.Pairwise.filter _ (List.pairwise_lt_range)
theorem B_apart {S : Nat → Nat → Bool} {n : Nat} (hS : Runs S n) : (B S n).Pairwise (fun b c => ∀ x ∈ b, ∀ y ∈ c, S y x = false) := by
 unfold B
 rw [List.pairwise_map]
 refine (sts_sorted S n).imp_of_mem fun {s t} hs ht hlt x hx y hy => ?_
 have h1 : S s x = true := (List.mem_filter.1 hx).2
 have h2 : S t y = true := (List.mem_filter.1 hy).2
 rw [Bool.eq_false_iff]
 intro h3
 have h4 := hS.trans _ _ _ (hS.trans _ _ _ h2 h3) (hS.symm _ _ h1)
 rw [isSt_iff.1 (mem_sts.1 ht).2 s hlt] at h4
 simp at h4
theorem best_apart {d : Db} {w : List Int} (hg : Good1 d w) : (likely d w).Pairwise (fun x y => sameD d y.toNat x.toNat = false) := by
 have hR := runs (validDb_of hg.vb)
 have hb := hg.blks
 unfold likely
 rw [List.pairwise_map]
 have : (blocksOf d).Pairwise (fun b c => ∀ x ∈ b, ∀ y ∈ c, sameD d y.toNat x.toNat = false) := by
  unfold blocksOf
  rw [if_pos hg.vb, List.pairwise_map]
  refine (B_apart hR).imp fun h1 x hx y hy => ?_
  unfold toI at hx hy
  obtain ⟨p, hp, rfl⟩ := List.mem_map.1 hx
  obtain ⟨q, hq, rfl⟩ := List.mem_map.1 hy
  exact h1 p hp q hq
 refine this.imp_of_mem fun {b c} hb1 hc1 h1 => ?_
 exact h1 _ (bestB_mem (hb.ne b hb1)) _ (bestB_mem (hb.ne c hc1))
theorem likely_ok {d : Db} {w : List Int} (hg : Good1 d w) : (likely d w).Pairwise (· < ·) ∧ (∀ x ∈ likely d w, 0 ≤ x ∧ x < (d.2.length : Int)) ∧ (likely d w).length = (blocksOf d).length := by
 have hb := hg.blks
 unfold likely
 refine ⟨pick_sorted (fun b h => bestB_mem (hb.ne b h)) hb.flat, fun x hx => ?_, by simp⟩
 obtain ⟨b, h1, rfl⟩ := List.mem_map.1 hx
 exact hb.ins b h1 _ (bestB_mem (hb.ne b h1))
def subDb (d : Db) (l : List Int) : Db := (d.1, l.map fun x => factAt d x.toNat)
theorem selectV {N : Nat} {d : Db} {l : List Int} (h : SmallDb d) (hvb : validDb d = true) (hs : l.Pairwise (· < ·)) (hin : ∀ x ∈ l, 0 ≤ x ∧ x < (d.2.length : Int)) (hl : l.length ≤ 14) (hN : 1048576 < N) : spec_SelectFacts N d l = some (subDb d l, true) := by
 have hr := h.rels
 unfold spec_SelectFacts spec_SelectFacts_b
 rw [specDb h hN, Option.bind_some, hvb, Bool.not_true, cond_false, specSet h (by omega) hN, Option.bind_some, validSet_of hs hin, Bool.not_true, cond_false, appOk_lt (by omega) (by simp only [List.length_nil]; omega), grd_true]
 have := loop (fun k (s : Nat) => spec_SelectFacts_l0 N k l d.1 d.2 [] [] d.1 ((l.take s).map fun x => factAt d x.toNat) (s : Int)) (fun s => s ≤ l.length) (fun s => l.length - s) (fun o => o = some (subDb d l, true)) (fun k j hj' => by
  simp only [spec_SelectFacts_l0, spec_SelectFacts_l0_b]
  by_cases hj : j < l.length
  ·right
   refine ⟨j + 1, hj, by omega, ?_⟩
   have h1 : (j : Int) < (l.length : Int) := by omega
   have h2 := hin _ (List.getElem_mem hj)
   have h3 : (l[j]).toNat < d.2.length := by omega
   have e : at_ (0, []) d.2 l[j] = factAt d (l[j]).toNat := by
    have := fact_at h3
    rwa [show (((l[j]).toNat : Nat) : Int) = l[j] by omega] at this
   have h4 := fact_small h h3
   simp only [h1, decide_true, cond_true, inb_lt hj, grd_true, at_lt hj, inb_int h2.1 h2.2, e]
   rw [appOk_lt (by omega) (by simp only [List.length_nil]; omega), grd_true, appOk_lt (by omega) (by simp; omega), grd_true, w64_succ (by omega), List.take_succ_eq_append_getElem hj, List.map_append]
   rfl
  ·left
   have h1 : ¬ (j : Int) < (l.length : Int) := by omega
   simp only [h1, decide_false, cond_false]
   rw [List.take_of_length_le (by omega)]
   rfl) N 0 (by omega) (by omega)
 exact this
theorem factAt_sub {d : Db} {l : List Int} {j : Nat} (hj : j < l.length) : factAt (subDb d l) j = factAt d (l[j]).toNat := by
 show ((l.map fun x => factAt d x.toNat).getD j (0, [])) = _
 rw [getD_lt (by simp; exact hj), List.getElem_map]
theorem sub_valid {d : Db} {l : List Int} (hvb : validDb d = true) (hs : l.Pairwise (· < ·)) (hin : ∀ x ∈ l, 0 ≤ x ∧ x < (d.2.length : Int)) (hl : l.length ≤ 14) : validDb (subDb d l) = true := by
 have hv := validDb_of hvb
 have hlen : (subDb d l).2.length = l.length := by simp [subDb]
 unfold validDb
 rw [Bool.and_eq_true, Bool.and_eq_true, decide_eq_true_eq, decide_eq_true_eq]
 refine ⟨hv.rels, by omega, fun j hj => ?_⟩
 have hj2 : j < l.length := by omega
 have h1 := hin _ (List.getElem_mem hj2)
 rw [factAt_sub hj2, Bool.and_eq_true]
 refine ⟨hv.fact _ (by omega), ?_⟩
 by_cases h0 : j = 0
 ·simp [h0]
 ·have h4 : j - 1 < l.length := by omega
  have h5 := List.pairwise_iff_getElem.1 hs (j - 1) j h4 hj2 (by omega)
  have h6 := hin _ (List.getElem_mem h4)
  rw [factAt_sub h4, decide_eq_true (hv.lt _ _ (by omega) (by omega)), Bool.or_true]
theorem repairV {N : Nat} {d : Db} {w : List Int} (h : SmallDb d) (hg : Good1 d w) (hN : 1048576 < N) : spec_IsRepair N d (likely d w) = some true := by
 obtain ⟨l1, l2, l3⟩ := likely_ok hg
 have l4 := best_apart hg
 have hb := hg.blks
 have hl14 : (likely d w).length ≤ 14 := by have := hb.len; omega
 have hsub := sub_valid hg.vb l1 l2 hl14
 have hlen : (subDb d (likely d w)).2.length = (likely d w).length := by simp [subDb]
 have hsm : SmallDb (subDb d (likely d w)) := ⟨h.rels, by omega, fun f hf => by
  obtain ⟨x, hx, rfl⟩ := List.mem_map.1 hf
  have := l2 x hx
  exact fact_small h (by omega)⟩
 have hst : (blocksOf (subDb d (likely d w))).length = (likely d w).length := by
  unfold blocksOf
  rw [if_pos hsub, List.length_map]
  unfold B
  rw [List.length_map, hlen]
  unfold sts
  rw [List.filter_eq_self.2, List.length_range]
  intro s hs
  have hs := List.mem_range.1 hs
  rw [isSt_iff]
  intro k hk
  have := List.pairwise_iff_getElem.1 l4 k s (by omega) hs hk
  unfold sameD at this ⊢
  rw [factAt_sub hs, factAt_sub (show k < (likely d w).length by omega)]
  exact this
 unfold spec_IsRepair spec_IsPartialRepair
 rw [selectV h hg.vb l1 l2 hl14 hN, Option.bind_some]
 simp only [cond_true]
 unfold spec_IsConsistent
 rw [specDb hsm hN, Option.bind_some, hsub, cond_true, specBlocks hsm hN, Option.bind_some, hst, hlen, specBlocks h hN]
 simp [l3]
end Go.PL
namespace Go.PL
theorem sameInts {N : Nat} {a : List Int} (ha : a.length ≤ 1048576) (hN : 1048576 < N) : laws_sameInts N a a = some true := by
 unfold laws_sameInts laws_sameInts_b
 have h0 : ((a.length : Int) != (a.length : Int)) = false := by simp
 rw [h0, cond_false]
 have := every (n := a.length) (fun _ => true) (fun k i => laws_sameInts_l0 N k a a i) (fun k => by simp [laws_sameInts_l0, laws_sameInts_l0_b]) (fun k j hj => by
  have h1 : (j : Int) < (a.length : Int) := by omega
  simp only [laws_sameInts_l0, laws_sameInts_l0_b, h1, decide_true, cond_true, inb_lt hj, grd_true, at_lt hj, bneI, Bool.not_true, cond_false, w64_succ (show j < 4611686018427387904 by omega), if_true]) (k := N) (by omega)
 rw [this]
 simp
theorem sumN_mono {f : Nat → Int} (hf : ∀ k, 1 ≤ f k) : ∀ {n k : Nat}, k ≤ n → 0 ≤ sumN f k ∧ sumN f k ≤ sumN f n
 | 0, k, h => by
  obtain rfl : k = 0 := by omega
  simp [sumN]
 | n + 1, k, h => by
  have h1 := hf n
  by_cases e : k = n + 1
  ·subst e
   have := (sumN_mono hf (n := n) (k := n) (Nat.le_refl _)).1
   simp only [sumN]
   omega
  ·have := sumN_mono hf (n := n) (k := k) (by omega)
   simp only [sumN]
   omega
theorem repLoop {N : Nat} {d : Db} {w : List Int} (h : SmallDb d) (hv : validWeights d w = true) (hN : 1048576 < N) : laws_FnMostLikelyRepair_l0 N N d.1 d.2 w (likely d w) 0 0 = some true := by
 have hg := good1 hv
 have hb := hg.blks
 have hf := hg.few
 have hs := sizeP_le hb.ne
 have h2p : 2 ^ ((blocksOf d).map List.length).sum ≤ 2 ^ 14 := Nat.pow_le_pow_right (by decide) hb.sum
 have hT := tw_le hb.ne hb.wts
 have h18 : 18 ^ ((blocksOf d).map List.length).sum ≤ 18 ^ 14 := Nat.pow_le_pow_right (by decide) hb.sum
 rw [pow18] at h18
 obtain ⟨l1, l2, l3⟩ := likely_ok hg
 have hl14 : (likely d w).length ≤ 14 := by have := hb.len; omega
 have hsum : sumN (fun k => pw w (nth (blocksOf d).reverse k)) (sizeP (blocksOf d)) = tw w (blocksOf d) := by
  rw [← sizeP_reverse, sum_choices w _ hb.rev.1, tw_reverse]
 have hnth := fun k => nth_le (w := w) (C := (blocksOf d).reverse) (k := k) hb.rev.1 fun c hc => hb.wts c (List.mem_reverse.1 hc)
 have hpos : ∀ k, 1 ≤ pw w (nth (blocksOf d).reverse k) := fun k => pw_pos (hnth k).2.1
 have hwb := weightV h hv hN l1 l2 hl14
 have := loop (fun k (s : Nat) => laws_FnMostLikelyRepair_l0 N k d.1 d.2 w (likely d w) (sumN (fun k => pw w (nth (blocksOf d).reverse k)) s) (s : Int)) (fun s => s ≤ sizeP (blocksOf d)) (fun s => sizeP (blocksOf d) - s) (fun o => o = some true) (fun f k hk => by
  simp only [laws_FnMostLikelyRepair_l0, laws_FnMostLikelyRepair_l0_b, countRepairsV (d := (d.1, d.2)) h hg hN, Option.bind_some, show blocksOf (d.1, d.2) = blocksOf d from rfl]
  by_cases hlt : k < sizeP (blocksOf d)
  ·right
   refine ⟨k + 1, hlt, by omega, ?_⟩
   have h1 : (k : Int) < ((sizeP (blocksOf d) : Nat) : Int) := by omega
   obtain ⟨c1, c2, c3⟩ := hnth k
   have hr1 : (repN (blocksOf d) k).Pairwise (· < ·) := by
    unfold repN
    rw [List.pairwise_reverse]
    exact nth_sorted hb.rev.1 hb.rev.2
   have hr2 : ∀ x ∈ repN (blocksOf d) k, 0 ≤ x ∧ x < (d.2.length : Int) := by
    intro x hx
    obtain ⟨c, q1, q2⟩ := nth_mem hb.rev.1 x (List.mem_reverse.1 hx)
    exact hb.ins c (List.mem_reverse.1 q1) x q2
   have hr3 : (repN (blocksOf d) k).length ≤ 14 := by
    unfold repN
    rw [List.length_reverse, c3, List.length_reverse]
    exact hb.len
   have hw := weightV h hv hN hr1 hr2 hr3
   have e1 : pw w (repN (blocksOf d) k) = pw w (nth (blocksOf d).reverse k) := pw_reverse w _
   have e2 : pw w ((blocksOf d).reverse.map (bestB w)) = pw w (likely d w) := by
    rw [List.map_reverse, pw_reverse]
    rfl
   have hle : ¬ pw w (repN (blocksOf d) k) > pw w (likely d w) := by omega
   have m1 := sumN_mono hpos (n := k) (k := k) (Nat.le_refl _)
   have m2 := sumN_mono hpos (n := sizeP (blocksOf d)) (k := k + 1) hlt
   have hp := hpos k
   have e3 : sumN (fun k => pw w (nth (blocksOf d).reverse k)) (k + 1) = sumN (fun k => pw w (nth (blocksOf d).reverse k)) k + pw w (nth (blocksOf d).reverse k) := rfl
   have ew : w64 (sumN (fun k => pw w (nth (blocksOf d).reverse k)) k + pw w (nth (blocksOf d).reverse k)) = sumN (fun k => pw w (nth (blocksOf d).reverse k)) (k + 1) := by
    rw [e3]
    exact w64_id (by omega) (by omega)
   simp only [h1, decide_true, cond_true, nthV (d := (d.1, d.2)) h hg hN hlt, Option.bind_some, show blocksOf (d.1, d.2) = blocksOf d from rfl]
   rw [hw, Option.bind_some, hwb, Option.bind_some, decide_eq_false hle, cond_false, e1, ew, w64_succ (by omega)]
  ·left
   have : k = sizeP (blocksOf d) := by omega
   subst this
   simp only [Int.lt_irrefl, decide_false, cond_false, totalV (d := (d.1, d.2)) h hv hN, Option.bind_some, show blocksOf (d.1, d.2) = blocksOf d from rfl, hsum, beq_self_eq_true, cond_true, repairV (d := (d.1, d.2)) (w := w) h hg hN]) N 0 (by omega) (by omega)
 exact this
theorem law_FnMostLikelyRepair {N : Nat} (hN : 1048576 < N) {code : List Int} : laws_FnMostLikelyRepair N code = some true := by
 unfold laws_FnMostLikelyRepair laws_FnMostLikelyRepair_b laws_big
 rw [Option.bind_some]
 by_cases hc : (code.length : Int) > 1048576
 ·rw [decide_eq_true hc]; rfl
 rw [decide_eq_false hc, cond_false]
 obtain ⟨d, w, e1, hd, hw⟩ := drawWeights (N := N) (code := code) (by omega) hN
 obtain ⟨d2, w2, l2, e2, hd2, hw2, hl2⟩ := drawSets (N := N) (code := code) (by omega) hN
 have hs := hd.small (by omega)
 have hs2 := hd2.small (by omega)
 obtain ⟨x, e3, e4⟩ := weightOf (N := N) (d := d2) (w := w2) (l := l2) hs2 (by omega) (by omega) hN
 have hrl := likelyR_len d w
 simp only [e1, e2, Option.bind_some, specLikely hs (show w.length ≤ 1048576 by omega) hN, implLikely hs (show w.length ≤ 1048576 by omega) hN, beq_self_eq_true, Bool.not_true, cond_false, sameInts (show (likelyR d w).1.length ≤ 1048576 by omega) hN, specWeights hs (show w.length ≤ 1048576 by omega) hN, implWeights hs (show w.length ≤ 1048576 by omega) hN, e3, e4, bneI, decide_true]
 cases hv : validWeights d w with
 | false =>
  unfold likelyR impl_TotalWeight impl_TotalWeight_b
  rw [hv, implWeights hs (by omega) hN, hv]
  rfl
 | true =>
  unfold likelyR
  rw [hv, if_pos rfl]
  simp only [Bool.not_true, cond_false]
  exact repLoop hs hv hN
end Go.PL
