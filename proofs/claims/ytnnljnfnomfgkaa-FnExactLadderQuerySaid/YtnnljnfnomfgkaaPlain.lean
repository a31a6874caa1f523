/- The functions read plainly, and the plain law of them. Conditions: those that stand in each theorem. -/
import GoSem.Core.View
import GoSem.Op.String
import Derived.KernelRfl

/- Words of the plain reading. Conditions: none (definitions alone). -/
namespace Go.PL

def w64 (x : Int) : Int := IntKind.i64.wrap x
def w (k : IntKind) (x : Int) : Int := k.wrap x
def grd {α : Type} (c : Bool) (x : Option α) : Option α := bif c then x else none
def grz {α : Type} (b : Int) (x : Option α) : Option α := bif decide (b = 0) then none else x
def letv {α β : Type} (v : α) (k : α → β) : β := k v
def at_ {α : Type} (d : α) (xs : List α) (i : Int) : α := xs.getD i.toNat d
def inb {α : Type} (i : Int) (xs : List α) : Bool := decide (0 ≤ i) && decide (i < (xs.length : Int))
/-- A row that grew is stored where it stood. -/
def growOk {α : Type} (i' i : Int) (xs : List α) : Bool := decide (i' = i) && (decide (0 ≤ i') && decide (i' < (xs.length : Int)))
def appOk {α : Type} (s x : List α) (b : Nat) : Bool := decide ((s.length + x.length) * b ≤ 140737488355328)
def makeOk (n : Int) (b : Nat) : Bool := decide (n = n) && (decide (0 ≤ n) && decide (n * b ≤ 140737488355328))
def byteAt (s : ByteArray) (n : Int) : Option UInt8 := if 0 ≤ n then s[n.toNat]? else none
def catOk (a b : ByteArray) : Bool := decide (a.size + b.size ≤ 140737488355328)
def seq (a b : ByteArray) : Bool := a.toList == b.toList
def slt (a b : ByteArray) : Bool := Op.bytesLess a.toList b.toList
def subOk (lo hi : Int) (n : Nat) : Bool := decide (0 ≤ lo) && (decide (lo ≤ hi) && decide (hi ≤ (n : Int)))
def sub (s : ByteArray) (lo hi : Int) : ByteArray := s.extract lo.toNat hi.toNat
def imax (a b : Int) : Int := if b > a then b else a
def imin (a b : Int) : Int := if b < a then b else a
end Go.PL

/- The functions, read plainly. Conditions: none (definitions alone). -/
namespace Go.PL
set_option linter.unusedVariables false

def spec_LadderQuery (N : Nat) : Option (Int × List (Int × List Int) × List Int) :=
  some (2, [(0, [0, 1]), (1, [1, 0])], [])
def impl_LadderQuery (N : Nat) : Option (Int × List (Int × List Int) × List Int) :=
  some (2, [(0, [0, 1]), (1, [1, 0])], [])
def laws_eqIntS_l0_b (N : Nat) (rec_ : (List Int) → (List Int) → Int → Option (Bool)) (a2 : List Int) (b2 : List Int) (i : Int) : Option (Bool) :=
  bif decide (i < (a2.length : Int)) then
    grd (inb i a2) <|
    grd (inb i b2) <|
    bif ((at_ 0 a2 i) != (at_ 0 b2 i)) then some false
    else
    rec_ a2 b2 (w64 (i + 1))
  else
  some true
def laws_eqIntS_l0 (N : Nat) : Nat → (List Int) → (List Int) → Int → Option (Bool)
  | 0, _, _, _ => none
  | k_ + 1, a2, b2, i => laws_eqIntS_l0_b N (laws_eqIntS_l0 N k_) a2 b2 i
def laws_eqIntS_b (N : Nat) (laws_eqIntS_l0S : (List Int) → (List Int) → Int → Option (Bool)) (a : List Int) (b : List Int) : Option (Bool) :=
  bif ((a.length : Int) != (b.length : Int)) then some false
  else
  laws_eqIntS_l0S a b 0
def laws_eqIntS (N : Nat) (a : List Int) (b : List Int) : Option (Bool) := laws_eqIntS_b N (laws_eqIntS_l0 N N) a b
def laws_eqAtom (N : Nat) (a : Int × List Int) (b : Int × List Int) : Option (Bool) :=
  bif (a.1 != b.1) then some false
  else
  (laws_eqIntS N a.2 b.2).bind fun r =>
  bif (!r) then some false
  else
  some true
def laws_eqAtomS_l0_b (N : Nat) (rec_ : (List (Int × List Int)) → (List (Int × List Int)) → Int → Option (Bool)) (a2 : List (Int × List Int)) (b2 : List (Int × List Int)) (i : Int) : Option (Bool) :=
  bif decide (i < (a2.length : Int)) then
    grd (inb i a2) <|
    grd (inb i b2) <|
    (laws_eqAtom N (at_ (0, []) a2 i) (at_ (0, []) b2 i)).bind fun r =>
    bif (!r) then some false
    else
    rec_ a2 b2 (w64 (i + 1))
  else
  some true
def laws_eqAtomS_l0 (N : Nat) : Nat → (List (Int × List Int)) → (List (Int × List Int)) → Int → Option (Bool)
  | 0, _, _, _ => none
  | k_ + 1, a2, b2, i => laws_eqAtomS_l0_b N (laws_eqAtomS_l0 N k_) a2 b2 i
def laws_eqAtomS_b (N : Nat) (laws_eqAtomS_l0S : (List (Int × List Int)) → (List (Int × List Int)) → Int → Option (Bool)) (a : List (Int × List Int)) (b : List (Int × List Int)) : Option (Bool) :=
  bif ((a.length : Int) != (b.length : Int)) then some false
  else
  laws_eqAtomS_l0S a b 0
def laws_eqAtomS (N : Nat) (a : List (Int × List Int)) (b : List (Int × List Int)) : Option (Bool) := laws_eqAtomS_b N (laws_eqAtomS_l0 N N) a b
def laws_eqQuery (N : Nat) (a : Int × List (Int × List Int) × List Int) (b : Int × List (Int × List Int) × List Int) : Option (Bool) :=
  bif (a.1 != b.1) then some false
  else
  (laws_eqAtomS N a.2.1 b.2.1).bind fun r =>
  bif (!r) then some false
  else
  (laws_eqIntS N a.2.2 b.2.2).bind fun r2 =>
  bif (!r2) then some false
  else
  some true
def laws_markIntS_l0_b (N : Nat) (rec_ : (List Int) → Int → Int → Option (List Int × Int)) (a2 : List Int) (k2 : Int) (i : Int) : Option (List Int × Int) :=
  bif decide (i < (a2.length : Int)) then
    grd (inb i a2) <|
    grd (inb i a2) <|
    letv (a2.set i.toNat k2) fun u =>
    rec_ u (w64 (k2 + 1)) (w64 (i + 1))
  else
  some (a2, k2)
def laws_markIntS_l0 (N : Nat) : Nat → (List Int) → Int → Int → Option (List Int × Int)
  | 0, _, _, _ => none
  | k_ + 1, a2, k2, i => laws_markIntS_l0_b N (laws_markIntS_l0 N k_) a2 k2 i
def laws_markIntS_b (N : Nat) (laws_markIntS_l0S : (List Int) → Int → Int → Option (List Int × Int)) (a : List Int) (k : Int) : Option (List Int × Int) :=
  laws_markIntS_l0S a k 0
def laws_markIntS (N : Nat) (a : List Int) (k : Int) : Option (List Int × Int) := laws_markIntS_b N (laws_markIntS_l0 N N) a k
def laws_markAtomS_l0_b (N : Nat) (rec_ : (List (Int × List Int)) → Int → Int → Option ((List (Int × List Int)) × Int)) (a2 : List (Int × List Int)) (k2 : Int) (i : Int) : Option ((List (Int × List Int)) × Int) :=
  bif decide (i < (a2.length : Int)) then
    grd (inb i a2) <|
    grd (inb i a2) <|
    letv (a2.set i.toNat (k2, (at_ (0, []) a2 i).2)) fun u =>
    grd (inb i u) <|
    (laws_markIntS N ((at_ (0, []) u i).2) (w64 (k2 + 1))).bind fun p_m =>
    letv (u.set i.toNat ((at_ (0, []) u i).1, p_m.1)) fun u2 =>
    rec_ u2 p_m.2 (w64 (i + 1))
  else
  some (a2, k2)
def laws_markAtomS_l0 (N : Nat) : Nat → (List (Int × List Int)) → Int → Int → Option ((List (Int × List Int)) × Int)
  | 0, _, _, _ => none
  | k_ + 1, a2, k2, i => laws_markAtomS_l0_b N (laws_markAtomS_l0 N k_) a2 k2 i
def laws_markAtomS_b (N : Nat) (laws_markAtomS_l0S : (List (Int × List Int)) → Int → Int → Option ((List (Int × List Int)) × Int)) (a : List (Int × List Int)) (k : Int) : Option ((List (Int × List Int)) × Int) :=
  laws_markAtomS_l0S a k 0
def laws_markAtomS (N : Nat) (a : List (Int × List Int)) (k : Int) : Option ((List (Int × List Int)) × Int) := laws_markAtomS_b N (laws_markAtomS_l0 N N) a k
def laws_markQuery (N : Nat) (a : Int × List (Int × List Int) × List Int) (k : Int) : Option ((Int × List (Int × List Int) × List Int) × Int) :=
  (laws_markAtomS N a.2.1 k).bind fun p_m =>
  (laws_markIntS N a.2.2 p_m.2).bind fun p_m2 =>
  some ((a.1, p_m.1, p_m2.1), p_m2.2)
def laws_heldIntS_l0_b (N : Nat) (rec_ : (List Int) → Int → Int → Option (Int)) (a2 : List Int) (k2 : Int) (i : Int) : Option (Int) :=
  bif decide (i < (a2.length : Int)) then
    grd (inb i a2) <|
    bif ((at_ 0 a2 i) != k2) then some (-1)
    else
    rec_ a2 (w64 (k2 + 1)) (w64 (i + 1))
  else
  some k2
def laws_heldIntS_l0 (N : Nat) : Nat → (List Int) → Int → Int → Option (Int)
  | 0, _, _, _ => none
  | k_ + 1, a2, k2, i => laws_heldIntS_l0_b N (laws_heldIntS_l0 N k_) a2 k2 i
def laws_heldIntS_b (N : Nat) (laws_heldIntS_l0S : (List Int) → Int → Int → Option (Int)) (a : List Int) (k : Int) : Option (Int) :=
  laws_heldIntS_l0S a k 0
def laws_heldIntS (N : Nat) (a : List Int) (k : Int) : Option (Int) := laws_heldIntS_b N (laws_heldIntS_l0 N N) a k
def laws_heldAtomS_l0_b (N : Nat) (rec_ : (List (Int × List Int)) → Int → Int → Option (Int)) (a2 : List (Int × List Int)) (k2 : Int) (i : Int) : Option (Int) :=
  bif decide (i < (a2.length : Int)) then
    grd (inb i a2) <|
    bif (((at_ (0, []) a2 i).1) != k2) then some (-1)
    else
    grd (inb i a2) <|
    (laws_heldIntS N ((at_ (0, []) a2 i).2) (w64 (k2 + 1))).bind fun r =>
    bif decide (r < 0) then some (-1)
    else
    rec_ a2 r (w64 (i + 1))
  else
  some k2
def laws_heldAtomS_l0 (N : Nat) : Nat → (List (Int × List Int)) → Int → Int → Option (Int)
  | 0, _, _, _ => none
  | k_ + 1, a2, k2, i => laws_heldAtomS_l0_b N (laws_heldAtomS_l0 N k_) a2 k2 i
def laws_heldAtomS_b (N : Nat) (laws_heldAtomS_l0S : (List (Int × List Int)) → Int → Int → Option (Int)) (a : List (Int × List Int)) (k : Int) : Option (Int) :=
  laws_heldAtomS_l0S a k 0
def laws_heldAtomS (N : Nat) (a : List (Int × List Int)) (k : Int) : Option (Int) := laws_heldAtomS_b N (laws_heldAtomS_l0 N N) a k
def laws_heldQuery (N : Nat) (a : Int × List (Int × List Int) × List Int) (k : Int) : Option (Int) :=
  (laws_heldAtomS N a.2.1 k).bind fun r =>
  bif decide (r < 0) then some (-1)
  else
  (laws_heldIntS N a.2.2 r).bind fun r2 =>
  bif decide (r2 < 0) then some (-1)
  else
  some r2
def laws_FnExactLadderQuery (N : Nat) : Option (Bool) :=
  (spec_LadderQuery N).bind fun r =>
  (impl_LadderQuery N).bind fun r2 =>
  (laws_eqQuery N r2 r).bind fun r3 =>
  bif (!r3) then some false
  else
  (laws_markQuery N r2 1).bind fun p_m =>
  (laws_heldQuery N (r2.1, p_m.1.2) 1).bind fun r5 =>
  bif decide (r5 < 0) then some false
  else
  bif (r5 != p_m.2) then some false
  else
  (impl_LadderQuery N).bind fun r6 =>
  (laws_eqQuery N r6 r).bind fun r7 =>
  bif (!r7) then some false
  else
  (laws_heldQuery N (r2.1, p_m.1.2) 1).bind fun r8 =>
  bif decide (r8 < 0) then some false
  else
  bif (r8 != p_m.2) then some false
  else
  some true
end Go.PL

/- The plain law, with all that it needs. Conditions: those that stand in each theorem. -/
namespace Go.PL
theorem law_LadderQuery : laws_FnExactLadderQuery 1099511627776 = some true := by kernel_rfl
end Go.PL
