/- The functions read plainly, and the plain law of them. Conditions: those that stand in each theorem. -/
import GoSem.Core.View
import GoSem.Op.String

/- Words of the plain reading. Conditions: none (definitions alone). -/
namespace Go.PL

def w64 (x : Int) : Int := IntKind.i64.wrap x
def w (k : IntKind) (x : Int) : Int := k.wrap x
def grd {α : Type} (c : Bool) (x : Option α) : Option α := bif c then x else none
def grz {α : Type} (b : Int) (x : Option α) : Option α := bif decide (b = 0) then none else x
def letv {α β : Type} (v : α) (k : α → β) : β := k v
def at_ {α : Type} (d : α) (xs : List α) (i : Int) : α := xs.getD i.toNat d
def inb {α : Type} (i : Int) (xs : List α) : Bool := decide (0 ≤ i) && decide (i < (xs.length : Int))
/-- A row that grew is stored where it stood. -/
def growOk {α : Type} (i' i : Int) (xs : List α) : Bool := decide (i' = i) && (decide (0 ≤ i') && decide (i' < (xs.length : Int)))
def appOk {α : Type} (s x : List α) (b : Nat) : Bool := decide ((s.length + x.length) * b ≤ 140737488355328)
def makeOk (n : Int) (b : Nat) : Bool := decide (n = n) && (decide (0 ≤ n) && decide (n * b ≤ 140737488355328))
def byteAt (s : ByteArray) (n : Int) : Option UInt8 := if 0 ≤ n then s[n.toNat]? else none
def catOk (a b : ByteArray) : Bool := decide (a.size + b.size ≤ 140737488355328)
def seq (a b : ByteArray) : Bool := a.toList == b.toList
def slt (a b : ByteArray) : Bool := Op.bytesLess a.toList b.toList
def subOk (lo hi : Int) (n : Nat) : Bool := decide (0 ≤ lo) && (decide (lo ≤ hi) && decide (hi ≤ (n : Int)))
def sub (s : ByteArray) (lo hi : Int) : ByteArray := s.extract lo.toNat hi.toNat
def imax (a b : Int) : Int := if b > a then b else a
def imin (a b : Int) : Int := if b < a then b else a
end Go.PL

/- The functions, read plainly. Conditions: none (definitions alone). -/
namespace Go.PL
set_option linter.unusedVariables false

def laws_szIntS (N : Nat) (a : List Int) (left_ : Int) : Option (Int) :=
  bif decide ((w64 (left_ - (a.length : Int))) < 0) then some (-1)
  else
  some (w64 (left_ - (a.length : Int)))
def laws_szAtom (N : Nat) (a : Int × List Int) (left_ : Int) : Option (Int) :=
  (laws_szIntS N a.2 left_).bind fun r =>
  bif decide (r < 0) then some (-1)
  else
  some r
def laws_szRewritingStep (N : Nat) (a : (Int × List Int) × List Int × List Int) (left_ : Int) : Option (Int) :=
  (laws_szAtom N a.1 left_).bind fun r =>
  bif decide (r < 0) then some (-1)
  else
  (laws_szIntS N a.2.1 r).bind fun r2 =>
  bif decide (r2 < 0) then some (-1)
  else
  (laws_szIntS N a.2.2 r2).bind fun r3 =>
  bif decide (r3 < 0) then some (-1)
  else
  some r3
def laws_szRewritingStepS_l0_b (N : Nat) (rec_ : (List ((Int × List Int) × List Int × List Int)) → Int → Int → Option (Int)) (a2 : List ((Int × List Int) × List Int × List Int)) (left_2 : Int) (i : Int) : Option (Int) :=
  bif decide (i < (a2.length : Int)) then
    grd (inb i a2) <|
    (laws_szRewritingStep N (((at_ ((0, []), ([], [])) a2 i).1), ((at_ ((0, []), ([], [])) a2 i).2)) left_2).bind fun r =>
    bif decide (r < 0) then some (-1)
    else
    rec_ a2 r (w64 (i + 1))
  else
  some left_2
def laws_szRewritingStepS_l0 (N : Nat) : Nat → (List ((Int × List Int) × List Int × List Int)) → Int → Int → Option (Int)
  | 0, _, _, _ => none
  | k_ + 1, a2, left_2, i => laws_szRewritingStepS_l0_b N (laws_szRewritingStepS_l0 N k_) a2 left_2 i
def laws_szRewritingStepS_b (N : Nat) (laws_szRewritingStepS_l0S : (List ((Int × List Int) × List Int × List Int)) → Int → Int → Option (Int)) (a : List ((Int × List Int) × List Int × List Int)) (left_ : Int) : Option (Int) :=
  bif decide ((w64 (left_ - (a.length : Int))) < 0) then some (-1)
  else
  laws_szRewritingStepS_l0S a (w64 (left_ - (a.length : Int))) 0
def laws_szRewritingStepS (N : Nat) (a : List ((Int × List Int) × List Int × List Int)) (left_ : Int) : Option (Int) := laws_szRewritingStepS_b N (laws_szRewritingStepS_l0 N N) a left_
def laws_szDerivationStep (N : Nat) (a : List Int × Int) (left_ : Int) : Option (Int) :=
  (laws_szIntS N a.1 left_).bind fun r =>
  bif decide (r < 0) then some (-1)
  else
  some r
def laws_szDerivationStepS_l0_b (N : Nat) (rec_ : (List (List Int × Int)) → Int → Int → Option (Int)) (a2 : List (List Int × Int)) (left_2 : Int) (i : Int) : Option (Int) :=
  bif decide (i < (a2.length : Int)) then
    grd (inb i a2) <|
    (laws_szDerivationStep N (at_ ([], 0) a2 i) left_2).bind fun r =>
    bif decide (r < 0) then some (-1)
    else
    rec_ a2 r (w64 (i + 1))
  else
  some left_2
def laws_szDerivationStepS_l0 (N : Nat) : Nat → (List (List Int × Int)) → Int → Int → Option (Int)
  | 0, _, _, _ => none
  | k_ + 1, a2, left_2, i => laws_szDerivationStepS_l0_b N (laws_szDerivationStepS_l0 N k_) a2 left_2 i
def laws_szDerivationStepS_b (N : Nat) (laws_szDerivationStepS_l0S : (List (List Int × Int)) → Int → Int → Option (Int)) (a : List (List Int × Int)) (left_ : Int) : Option (Int) :=
  bif decide ((w64 (left_ - (a.length : Int))) < 0) then some (-1)
  else
  laws_szDerivationStepS_l0S a (w64 (left_ - (a.length : Int))) 0
def laws_szDerivationStepS (N : Nat) (a : List (List Int × Int)) (left_ : Int) : Option (Int) := laws_szDerivationStepS_b N (laws_szDerivationStepS_l0 N N) a left_
def laws_szIntSS_l0_b (N : Nat) (rec_ : (List (List Int)) → Int → Int → Option (Int)) (a2 : List (List Int)) (left_2 : Int) (i : Int) : Option (Int) :=
  bif decide (i < (a2.length : Int)) then
    grd (inb i a2) <|
    (laws_szIntS N (at_ [] a2 i) left_2).bind fun r =>
    bif decide (r < 0) then some (-1)
    else
    rec_ a2 r (w64 (i + 1))
  else
  some left_2
def laws_szIntSS_l0 (N : Nat) : Nat → (List (List Int)) → Int → Int → Option (Int)
  | 0, _, _, _ => none
  | k_ + 1, a2, left_2, i => laws_szIntSS_l0_b N (laws_szIntSS_l0 N k_) a2 left_2 i
def laws_szIntSS_b (N : Nat) (laws_szIntSS_l0S : (List (List Int)) → Int → Int → Option (Int)) (a : List (List Int)) (left_ : Int) : Option (Int) :=
  bif decide ((w64 (left_ - (a.length : Int))) < 0) then some (-1)
  else
  laws_szIntSS_l0S a (w64 (left_ - (a.length : Int))) 0
def laws_szIntSS (N : Nat) (a : List (List Int)) (left_ : Int) : Option (Int) := laws_szIntSS_b N (laws_szIntSS_l0 N N) a left_
def laws_szJustification (N : Nat) (a : Int × Bool × List Int × List ((Int × List Int) × List Int × List Int) × List (List Int × Int) × List (List Int)) (left_ : Int) : Option (Int) :=
  (laws_szIntS N a.2.2.1 left_).bind fun r =>
  bif decide (r < 0) then some (-1)
  else
  (laws_szRewritingStepS N a.2.2.2.1 r).bind fun r2 =>
  bif decide (r2 < 0) then some (-1)
  else
  (laws_szDerivationStepS N a.2.2.2.2.1 r2).bind fun r3 =>
  bif decide (r3 < 0) then some (-1)
  else
  (laws_szIntSS N a.2.2.2.2.2 r3).bind fun r4 =>
  bif decide (r4 < 0) then some (-1)
  else
  some r4
def laws_szExplanation (N : Nat) (a : List Int × Int × Bool × List Int × List ((Int × List Int) × List Int × List Int) × List (List Int × Int) × List (List Int)) (left_ : Int) : Option (Int) :=
  (laws_szIntS N a.1 left_).bind fun r =>
  bif decide (r < 0) then some (-1)
  else
  (laws_szJustification N a.2 r).bind fun r2 =>
  bif decide (r2 < 0) then some (-1)
  else
  some r2
def laws_szExplanationS_l0_b (N : Nat) (rec_ : (List (List Int × Int × Bool × List Int × List ((Int × List Int) × List Int × List Int) × List (List Int × Int) × List (List Int))) → Int → Int → Option (Int)) (a2 : List (List Int × Int × Bool × List Int × List ((Int × List Int) × List Int × List Int) × List (List Int × Int) × List (List Int))) (left_2 : Int) (i : Int) : Option (Int) :=
  bif decide (i < (a2.length : Int)) then
    grd (inb i a2) <|
    (laws_szExplanation N ((at_ ([], (0, (false, ([], ([], ([], [])))))) a2 i).1, ((at_ ([], (0, (false, ([], ([], ([], [])))))) a2 i).2).1, (((at_ ([], (0, (false, ([], ([], ([], [])))))) a2 i).2).2).1, ((((at_ ([], (0, (false, ([], ([], ([], [])))))) a2 i).2).2).2).1, (((((at_ ([], (0, (false, ([], ([], ([], [])))))) a2 i).2).2).2).2).1, ((((((at_ ([], (0, (false, ([], ([], ([], [])))))) a2 i).2).2).2).2).2)) left_2).bind fun r =>
    bif decide (r < 0) then some (-1)
    else
    rec_ a2 r (w64 (i + 1))
  else
  some left_2
def laws_szExplanationS_l0 (N : Nat) : Nat → (List (List Int × Int × Bool × List Int × List ((Int × List Int) × List Int × List Int) × List (List Int × Int) × List (List Int))) → Int → Int → Option (Int)
  | 0, _, _, _ => none
  | k_ + 1, a2, left_2, i => laws_szExplanationS_l0_b N (laws_szExplanationS_l0 N k_) a2 left_2 i
def laws_szExplanationS_b (N : Nat) (laws_szExplanationS_l0S : (List (List Int × Int × Bool × List Int × List ((Int × List Int) × List Int × List Int) × List (List Int × Int) × List (List Int))) → Int → Int → Option (Int)) (a : List (List Int × Int × Bool × List Int × List ((Int × List Int) × List Int × List Int) × List (List Int × Int) × List (List Int))) (left_ : Int) : Option (Int) :=
  bif decide ((w64 (left_ - (a.length : Int))) < 0) then some (-1)
  else
  laws_szExplanationS_l0S a (w64 (left_ - (a.length : Int))) 0
def laws_szExplanationS (N : Nat) (a : List (List Int × Int × Bool × List Int × List ((Int × List Int) × List Int × List Int) × List (List Int × Int) × List (List Int))) (left_ : Int) : Option (Int) := laws_szExplanationS_b N (laws_szExplanationS_l0 N N) a left_
def laws_toIntS_l0_b (N : Nat) (rec_ : (List Int) → (List Int) → Int → Option (List Int)) (a2 : List Int) (out : List Int) (i : Int) : Option (List Int) :=
  bif decide (i < (a2.length : Int)) then
    grd (inb i a2) <|
    grd (inb i out) <|
    grd (inb i out) <|
    letv (out.set i.toNat (at_ 0 a2 i)) fun u =>
    rec_ a2 u (w64 (i + 1))
  else
  some out
def laws_toIntS_l0 (N : Nat) : Nat → (List Int) → (List Int) → Int → Option (List Int)
  | 0, _, _, _ => none
  | k_ + 1, a2, out, i => laws_toIntS_l0_b N (laws_toIntS_l0 N k_) a2 out i
def laws_toIntS_b (N : Nat) (laws_toIntS_l0S : (List Int) → (List Int) → Int → Option (List Int)) (a : List Int) : Option (List Int) :=
  grd (makeOk (a.length : Int) 8) <|
  laws_toIntS_l0S a (List.replicate (a.length : Int).toNat 0) 0
def laws_toIntS (N : Nat) (a : List Int) : Option (List Int) := laws_toIntS_b N (laws_toIntS_l0 N N) a
def laws_toAtom (N : Nat) (a : Int × List Int) : Option (Int × List Int) :=
  (laws_toIntS N a.2).bind fun r =>
  some (a.1, r)
def laws_toRewritingStep (N : Nat) (a : (Int × List Int) × List Int × List Int) : Option ((Int × List Int) × List Int × List Int) :=
  (laws_toAtom N a.1).bind fun r =>
  (laws_toIntS N a.2.1).bind fun r2 =>
  (laws_toIntS N a.2.2).bind fun r3 =>
  some (r, r2, r3)
def laws_toRewritingStepS_l0_b (N : Nat) (rec_ : (List ((Int × List Int) × List Int × List Int)) → (List ((Int × List Int) × List Int × List Int)) → Int → Option (List ((Int × List Int) × List Int × List Int))) (a2 : List ((Int × List Int) × List Int × List Int)) (out : List ((Int × List Int) × List Int × List Int)) (i : Int) : Option (List ((Int × List Int) × List Int × List Int)) :=
  bif decide (i < (a2.length : Int)) then
    grd (inb i a2) <|
    (laws_toRewritingStep N (((at_ ((0, []), ([], [])) a2 i).1), ((at_ ((0, []), ([], [])) a2 i).2))).bind fun r =>
    grd (inb i out) <|
    grd (inb i out) <|
    letv (out.set i.toNat r) fun u =>
    rec_ a2 u (w64 (i + 1))
  else
  some out
def laws_toRewritingStepS_l0 (N : Nat) : Nat → (List ((Int × List Int) × List Int × List Int)) → (List ((Int × List Int) × List Int × List Int)) → Int → Option (List ((Int × List Int) × List Int × List Int))
  | 0, _, _, _ => none
  | k_ + 1, a2, out, i => laws_toRewritingStepS_l0_b N (laws_toRewritingStepS_l0 N k_) a2 out i
def laws_toRewritingStepS_b (N : Nat) (laws_toRewritingStepS_l0S : (List ((Int × List Int) × List Int × List Int)) → (List ((Int × List Int) × List Int × List Int)) → Int → Option (List ((Int × List Int) × List Int × List Int))) (a : List ((Int × List Int) × List Int × List Int)) : Option (List ((Int × List Int) × List Int × List Int)) :=
  grd (makeOk (a.length : Int) 80) <|
  laws_toRewritingStepS_l0S a (List.replicate (a.length : Int).toNat ((0, []), ([], []))) 0
def laws_toRewritingStepS (N : Nat) (a : List ((Int × List Int) × List Int × List Int)) : Option (List ((Int × List Int) × List Int × List Int)) := laws_toRewritingStepS_b N (laws_toRewritingStepS_l0 N N) a
def laws_toDerivationStep (N : Nat) (a : List Int × Int) : Option (List Int × Int) :=
  (laws_toIntS N a.1).bind fun r =>
  some (r, a.2)
def laws_toDerivationStepS_l0_b (N : Nat) (rec_ : (List (List Int × Int)) → (List (List Int × Int)) → Int → Option (List (List Int × Int))) (a2 : List (List Int × Int)) (out : List (List Int × Int)) (i : Int) : Option (List (List Int × Int)) :=
  bif decide (i < (a2.length : Int)) then
    grd (inb i a2) <|
    (laws_toDerivationStep N (at_ ([], 0) a2 i)).bind fun r =>
    grd (inb i out) <|
    grd (inb i out) <|
    letv (out.set i.toNat r) fun u =>
    rec_ a2 u (w64 (i + 1))
  else
  some out
def laws_toDerivationStepS_l0 (N : Nat) : Nat → (List (List Int × Int)) → (List (List Int × Int)) → Int → Option (List (List Int × Int))
  | 0, _, _, _ => none
  | k_ + 1, a2, out, i => laws_toDerivationStepS_l0_b N (laws_toDerivationStepS_l0 N k_) a2 out i
def laws_toDerivationStepS_b (N : Nat) (laws_toDerivationStepS_l0S : (List (List Int × Int)) → (List (List Int × Int)) → Int → Option (List (List Int × Int))) (a : List (List Int × Int)) : Option (List (List Int × Int)) :=
  grd (makeOk (a.length : Int) 32) <|
  laws_toDerivationStepS_l0S a (List.replicate (a.length : Int).toNat ([], 0)) 0
def laws_toDerivationStepS (N : Nat) (a : List (List Int × Int)) : Option (List (List Int × Int)) := laws_toDerivationStepS_b N (laws_toDerivationStepS_l0 N N) a
def laws_toIntSS_l0_b (N : Nat) (rec_ : (List (List Int)) → (List (List Int)) → Int → Option (List (List Int))) (a2 : List (List Int)) (out : List (List Int)) (i : Int) : Option (List (List Int)) :=
  bif decide (i < (a2.length : Int)) then
    grd (inb i a2) <|
    (laws_toIntS N (at_ [] a2 i)).bind fun r =>
    grd (inb i out) <|
    grd (inb i out) <|
    letv (out.set i.toNat r) fun u =>
    rec_ a2 u (w64 (i + 1))
  else
  some out
def laws_toIntSS_l0 (N : Nat) : Nat → (List (List Int)) → (List (List Int)) → Int → Option (List (List Int))
  | 0, _, _, _ => none
  | k_ + 1, a2, out, i => laws_toIntSS_l0_b N (laws_toIntSS_l0 N k_) a2 out i
def laws_toIntSS_b (N : Nat) (laws_toIntSS_l0S : (List (List Int)) → (List (List Int)) → Int → Option (List (List Int))) (a : List (List Int)) : Option (List (List Int)) :=
  grd (makeOk (a.length : Int) 24) <|
  laws_toIntSS_l0S a (List.replicate (a.length : Int).toNat []) 0
def laws_toIntSS (N : Nat) (a : List (List Int)) : Option (List (List Int)) := laws_toIntSS_b N (laws_toIntSS_l0 N N) a
def laws_toJustification (N : Nat) (a : Int × Bool × List Int × List ((Int × List Int) × List Int × List Int) × List (List Int × Int) × List (List Int)) : Option (Int × Bool × List Int × List ((Int × List Int) × List Int × List Int) × List (List Int × Int) × List (List Int)) :=
  (laws_toIntS N a.2.2.1).bind fun r =>
  (laws_toRewritingStepS N a.2.2.2.1).bind fun r2 =>
  (laws_toDerivationStepS N a.2.2.2.2.1).bind fun r3 =>
  (laws_toIntSS N a.2.2.2.2.2).bind fun r4 =>
  some (a.1, a.2.1, r, r2, r3, r4)
def laws_toExplanation (N : Nat) (a : List Int × Int × Bool × List Int × List ((Int × List Int) × List Int × List Int) × List (List Int × Int) × List (List Int)) : Option (List Int × Int × Bool × List Int × List ((Int × List Int) × List Int × List Int) × List (List Int × Int) × List (List Int)) :=
  (laws_toIntS N a.1).bind fun r =>
  (laws_toJustification N a.2).bind fun r2 =>
  some (r, r2)
def laws_toExplanationS_l0_b (N : Nat) (rec_ : (List (List Int × Int × Bool × List Int × List ((Int × List Int) × List Int × List Int) × List (List Int × Int) × List (List Int))) → (List (List Int × Int × Bool × List Int × List ((Int × List Int) × List Int × List Int) × List (List Int × Int) × List (List Int))) → Int → Option (List (List Int × Int × Bool × List Int × List ((Int × List Int) × List Int × List Int) × List (List Int × Int) × List (List Int)))) (a2 : List (List Int × Int × Bool × List Int × List ((Int × List Int) × List Int × List Int) × List (List Int × Int) × List (List Int))) (out : List (List Int × Int × Bool × List Int × List ((Int × List Int) × List Int × List Int) × List (List Int × Int) × List (List Int))) (i : Int) : Option (List (List Int × Int × Bool × List Int × List ((Int × List Int) × List Int × List Int) × List (List Int × Int) × List (List Int))) :=
  bif decide (i < (a2.length : Int)) then
    grd (inb i a2) <|
    (laws_toExplanation N ((at_ ([], (0, (false, ([], ([], ([], [])))))) a2 i).1, ((at_ ([], (0, (false, ([], ([], ([], [])))))) a2 i).2).1, (((at_ ([], (0, (false, ([], ([], ([], [])))))) a2 i).2).2).1, ((((at_ ([], (0, (false, ([], ([], ([], [])))))) a2 i).2).2).2).1, (((((at_ ([], (0, (false, ([], ([], ([], [])))))) a2 i).2).2).2).2).1, ((((((at_ ([], (0, (false, ([], ([], ([], [])))))) a2 i).2).2).2).2).2))).bind fun r =>
    grd (inb i out) <|
    grd (inb i out) <|
    letv (out.set i.toNat r) fun u =>
    rec_ a2 u (w64 (i + 1))
  else
  some out
def laws_toExplanationS_l0 (N : Nat) : Nat → (List (List Int × Int × Bool × List Int × List ((Int × List Int) × List Int × List Int) × List (List Int × Int) × List (List Int))) → (List (List Int × Int × Bool × List Int × List ((Int × List Int) × List Int × List Int) × List (List Int × Int) × List (List Int))) → Int → Option (List (List Int × Int × Bool × List Int × List ((Int × List Int) × List Int × List Int) × List (List Int × Int) × List (List Int)))
  | 0, _, _, _ => none
  | k_ + 1, a2, out, i => laws_toExplanationS_l0_b N (laws_toExplanationS_l0 N k_) a2 out i
def laws_toExplanationS_b (N : Nat) (laws_toExplanationS_l0S : (List (List Int × Int × Bool × List Int × List ((Int × List Int) × List Int × List Int) × List (List Int × Int) × List (List Int))) → (List (List Int × Int × Bool × List Int × List ((Int × List Int) × List Int × List Int) × List (List Int × Int) × List (List Int))) → Int → Option (List (List Int × Int × Bool × List Int × List ((Int × List Int) × List Int × List Int) × List (List Int × Int) × List (List Int)))) (a : List (List Int × Int × Bool × List Int × List ((Int × List Int) × List Int × List Int) × List (List Int × Int) × List (List Int))) : Option (List (List Int × Int × Bool × List Int × List ((Int × List Int) × List Int × List Int) × List (List Int × Int) × List (List Int))) :=
  grd (makeOk (a.length : Int) 136) <|
  laws_toExplanationS_l0S a (List.replicate (a.length : Int).toNat ([], (0, (false, ([], ([], ([], []))))))) 0
def laws_toExplanationS (N : Nat) (a : List (List Int × Int × Bool × List Int × List ((Int × List Int) × List Int × List Int) × List (List Int × Int) × List (List Int))) : Option (List (List Int × Int × Bool × List Int × List ((Int × List Int) × List Int × List Int) × List (List Int × Int) × List (List Int))) := laws_toExplanationS_b N (laws_toExplanationS_l0 N N) a
def spec_CertainRowsOf_l0_b (N : Nat) (rec_ : (List (List Int × Int × Bool × List Int × List ((Int × List Int) × List Int × List Int) × List (List Int × Int) × List (List Int))) → (List (List Int)) → Int → Option (List (List Int))) (l2 : List (List Int × Int × Bool × List Int × List ((Int × List Int) × List Int × List Int) × List (List Int × Int) × List (List Int))) (out : List (List Int)) (i : Int) : Option (List (List Int)) :=
  bif decide (i < (l2.length : Int)) then
    grd (inb i l2) <|
    bif (((at_ ([], (0, (false, ([], ([], ([], [])))))) l2 i).2).2).1 then
      grd (inb i l2) <|
      grd (appOk [] ((at_ ([], (0, (false, ([], ([], ([], [])))))) l2 i).1) 8) <|
      grd (appOk out [(at_ ([], (0, (false, ([], ([], ([], [])))))) l2 i).1] 24) <|
      rec_ l2 (out ++ [(at_ ([], (0, (false, ([], ([], ([], [])))))) l2 i).1]) (w64 (i + 1))
    else
    rec_ l2 out (w64 (i + 1))
  else
  some out
def spec_CertainRowsOf_l0 (N : Nat) : Nat → (List (List Int × Int × Bool × List Int × List ((Int × List Int) × List Int × List Int) × List (List Int × Int) × List (List Int))) → (List (List Int)) → Int → Option (List (List Int))
  | 0, _, _, _ => none
  | k_ + 1, l2, out, i => spec_CertainRowsOf_l0_b N (spec_CertainRowsOf_l0 N k_) l2 out i
def spec_CertainRowsOf_b (N : Nat) (spec_CertainRowsOf_l0S : (List (List Int × Int × Bool × List Int × List ((Int × List Int) × List Int × List Int) × List (List Int × Int) × List (List Int))) → (List (List Int)) → Int → Option (List (List Int))) (l : List (List Int × Int × Bool × List Int × List ((Int × List Int) × List Int × List Int) × List (List Int × Int) × List (List Int))) : Option (List (List Int)) :=
  spec_CertainRowsOf_l0S l [] 0
def spec_CertainRowsOf (N : Nat) (l : List (List Int × Int × Bool × List Int × List ((Int × List Int) × List Int × List Int) × List (List Int × Int) × List (List Int))) : Option (List (List Int)) := spec_CertainRowsOf_b N (spec_CertainRowsOf_l0 N N) l
def impl_CertainRowsOf_l0_b (N : Nat) (rec_ : (List (List Int)) → (List (List Int × Int × Bool × List Int × List ((Int × List Int) × List Int × List Int) × List (List Int × Int) × List (List Int))) → Int → Int → Option (List (List Int))) (out : List (List Int)) (t7 : List (List Int × Int × Bool × List Int × List ((Int × List Int) × List Int × List Int) × List (List Int × Int) × List (List Int))) (t8 : Int) (t9 : Int) : Option (List (List Int)) :=
  bif decide (t9 < t8) then
    grd (inb t9 t7) <|
    bif (((at_ ([], (0, (false, ([], ([], ([], [])))))) t7 t9).2).2).1 then
      grd (appOk [] ((at_ ([], (0, (false, ([], ([], ([], [])))))) t7 t9).1) 8) <|
      grd (appOk out [(at_ ([], (0, (false, ([], ([], ([], [])))))) t7 t9).1] 24) <|
      rec_ (out ++ [(at_ ([], (0, (false, ([], ([], ([], [])))))) t7 t9).1]) t7 t8 (w64 (t9 + 1))
    else
    rec_ out t7 t8 (w64 (t9 + 1))
  else
  some out
def impl_CertainRowsOf_l0 (N : Nat) : Nat → (List (List Int)) → (List (List Int × Int × Bool × List Int × List ((Int × List Int) × List Int × List Int) × List (List Int × Int) × List (List Int))) → Int → Int → Option (List (List Int))
  | 0, _, _, _, _ => none
  | k_ + 1, out, t7, t8, t9 => impl_CertainRowsOf_l0_b N (impl_CertainRowsOf_l0 N k_) out t7 t8 t9
def impl_CertainRowsOf_b (N : Nat) (impl_CertainRowsOf_l0S : (List (List Int)) → (List (List Int × Int × Bool × List Int × List ((Int × List Int) × List Int × List Int) × List (List Int × Int) × List (List Int))) → Int → Int → Option (List (List Int))) (explanations : List (List Int × Int × Bool × List Int × List ((Int × List Int) × List Int × List Int) × List (List Int × Int) × List (List Int))) : Option (List (List Int)) :=
  impl_CertainRowsOf_l0S [] explanations (explanations.length : Int) 0
def impl_CertainRowsOf (N : Nat) (explanations : List (List Int × Int × Bool × List Int × List ((Int × List Int) × List Int × List Int) × List (List Int × Int) × List (List Int))) : Option (List (List Int)) := impl_CertainRowsOf_b N (impl_CertainRowsOf_l0 N N) explanations
def laws_eqIntS_l0_b (N : Nat) (rec_ : (List Int) → (List Int) → Int → Option (Bool)) (a2 : List Int) (b2 : List Int) (i : Int) : Option (Bool) :=
  bif decide (i < (a2.length : Int)) then
    grd (inb i a2) <|
    grd (inb i b2) <|
    bif ((at_ 0 a2 i) != (at_ 0 b2 i)) then some false
    else
    rec_ a2 b2 (w64 (i + 1))
  else
  some true
def laws_eqIntS_l0 (N : Nat) : Nat → (List Int) → (List Int) → Int → Option (Bool)
  | 0, _, _, _ => none
  | k_ + 1, a2, b2, i => laws_eqIntS_l0_b N (laws_eqIntS_l0 N k_) a2 b2 i
def laws_eqIntS_b (N : Nat) (laws_eqIntS_l0S : (List Int) → (List Int) → Int → Option (Bool)) (a : List Int) (b : List Int) : Option (Bool) :=
  bif ((a.length : Int) != (b.length : Int)) then some false
  else
  laws_eqIntS_l0S a b 0
def laws_eqIntS (N : Nat) (a : List Int) (b : List Int) : Option (Bool) := laws_eqIntS_b N (laws_eqIntS_l0 N N) a b
def laws_eqIntSS_l0_b (N : Nat) (rec_ : (List (List Int)) → (List (List Int)) → Int → Option (Bool)) (a2 : List (List Int)) (b2 : List (List Int)) (i : Int) : Option (Bool) :=
  bif decide (i < (a2.length : Int)) then
    grd (inb i a2) <|
    grd (inb i b2) <|
    (laws_eqIntS N (at_ [] a2 i) (at_ [] b2 i)).bind fun r =>
    bif (!r) then some false
    else
    rec_ a2 b2 (w64 (i + 1))
  else
  some true
def laws_eqIntSS_l0 (N : Nat) : Nat → (List (List Int)) → (List (List Int)) → Int → Option (Bool)
  | 0, _, _, _ => none
  | k_ + 1, a2, b2, i => laws_eqIntSS_l0_b N (laws_eqIntSS_l0 N k_) a2 b2 i
def laws_eqIntSS_b (N : Nat) (laws_eqIntSS_l0S : (List (List Int)) → (List (List Int)) → Int → Option (Bool)) (a : List (List Int)) (b : List (List Int)) : Option (Bool) :=
  bif ((a.length : Int) != (b.length : Int)) then some false
  else
  laws_eqIntSS_l0S a b 0
def laws_eqIntSS (N : Nat) (a : List (List Int)) (b : List (List Int)) : Option (Bool) := laws_eqIntSS_b N (laws_eqIntSS_l0 N N) a b
def laws_eqAtom (N : Nat) (a : Int × List Int) (b : Int × List Int) : Option (Bool) :=
  bif (a.1 != b.1) then some false
  else
  (laws_eqIntS N a.2 b.2).bind fun r =>
  bif (!r) then some false
  else
  some true
def laws_eqRewritingStep (N : Nat) (a : (Int × List Int) × List Int × List Int) (b : (Int × List Int) × List Int × List Int) : Option (Bool) :=
  (laws_eqAtom N a.1 b.1).bind fun r =>
  bif (!r) then some false
  else
  (laws_eqIntS N a.2.1 b.2.1).bind fun r2 =>
  bif (!r2) then some false
  else
  (laws_eqIntS N a.2.2 b.2.2).bind fun r3 =>
  bif (!r3) then some false
  else
  some true
def laws_eqRewritingStepS_l0_b (N : Nat) (rec_ : (List ((Int × List Int) × List Int × List Int)) → (List ((Int × List Int) × List Int × List Int)) → Int → Option (Bool)) (a2 : List ((Int × List Int) × List Int × List Int)) (b2 : List ((Int × List Int) × List Int × List Int)) (i : Int) : Option (Bool) :=
  bif decide (i < (a2.length : Int)) then
    grd (inb i a2) <|
    grd (inb i b2) <|
    (laws_eqRewritingStep N (((at_ ((0, []), ([], [])) a2 i).1), ((at_ ((0, []), ([], [])) a2 i).2)) (((at_ ((0, []), ([], [])) b2 i).1), ((at_ ((0, []), ([], [])) b2 i).2))).bind fun r =>
    bif (!r) then some false
    else
    rec_ a2 b2 (w64 (i + 1))
  else
  some true
def laws_eqRewritingStepS_l0 (N : Nat) : Nat → (List ((Int × List Int) × List Int × List Int)) → (List ((Int × List Int) × List Int × List Int)) → Int → Option (Bool)
  | 0, _, _, _ => none
  | k_ + 1, a2, b2, i => laws_eqRewritingStepS_l0_b N (laws_eqRewritingStepS_l0 N k_) a2 b2 i
def laws_eqRewritingStepS_b (N : Nat) (laws_eqRewritingStepS_l0S : (List ((Int × List Int) × List Int × List Int)) → (List ((Int × List Int) × List Int × List Int)) → Int → Option (Bool)) (a : List ((Int × List Int) × List Int × List Int)) (b : List ((Int × List Int) × List Int × List Int)) : Option (Bool) :=
  bif ((a.length : Int) != (b.length : Int)) then some false
  else
  laws_eqRewritingStepS_l0S a b 0
def laws_eqRewritingStepS (N : Nat) (a : List ((Int × List Int) × List Int × List Int)) (b : List ((Int × List Int) × List Int × List Int)) : Option (Bool) := laws_eqRewritingStepS_b N (laws_eqRewritingStepS_l0 N N) a b
def laws_eqDerivationStep (N : Nat) (a : List Int × Int) (b : List Int × Int) : Option (Bool) :=
  (laws_eqIntS N a.1 b.1).bind fun r =>
  bif (!r) then some false
  else
  bif (a.2 != b.2) then some false
  else
  some true
def laws_eqDerivationStepS_l0_b (N : Nat) (rec_ : (List (List Int × Int)) → (List (List Int × Int)) → Int → Option (Bool)) (a2 : List (List Int × Int)) (b2 : List (List Int × Int)) (i : Int) : Option (Bool) :=
  bif decide (i < (a2.length : Int)) then
    grd (inb i a2) <|
    grd (inb i b2) <|
    (laws_eqDerivationStep N (at_ ([], 0) a2 i) (at_ ([], 0) b2 i)).bind fun r =>
    bif (!r) then some false
    else
    rec_ a2 b2 (w64 (i + 1))
  else
  some true
def laws_eqDerivationStepS_l0 (N : Nat) : Nat → (List (List Int × Int)) → (List (List Int × Int)) → Int → Option (Bool)
  | 0, _, _, _ => none
  | k_ + 1, a2, b2, i => laws_eqDerivationStepS_l0_b N (laws_eqDerivationStepS_l0 N k_) a2 b2 i
def laws_eqDerivationStepS_b (N : Nat) (laws_eqDerivationStepS_l0S : (List (List Int × Int)) → (List (List Int × Int)) → Int → Option (Bool)) (a : List (List Int × Int)) (b : List (List Int × Int)) : Option (Bool) :=
  bif ((a.length : Int) != (b.length : Int)) then some false
  else
  laws_eqDerivationStepS_l0S a b 0
def laws_eqDerivationStepS (N : Nat) (a : List (List Int × Int)) (b : List (List Int × Int)) : Option (Bool) := laws_eqDerivationStepS_b N (laws_eqDerivationStepS_l0 N N) a b
def laws_eqJustification (N : Nat) (a : Int × Bool × List Int × List ((Int × List Int) × List Int × List Int) × List (List Int × Int) × List (List Int)) (b : Int × Bool × List Int × List ((Int × List Int) × List Int × List Int) × List (List Int × Int) × List (List Int)) : Option (Bool) :=
  bif (a.1 != b.1) then some false
  else
  bif (!(a.2.1 == b.2.1)) then some false
  else
  (laws_eqIntS N a.2.2.1 b.2.2.1).bind fun r =>
  bif (!r) then some false
  else
  (laws_eqRewritingStepS N a.2.2.2.1 b.2.2.2.1).bind fun r2 =>
  bif (!r2) then some false
  else
  (laws_eqDerivationStepS N a.2.2.2.2.1 b.2.2.2.2.1).bind fun r3 =>
  bif (!r3) then some false
  else
  (laws_eqIntSS N a.2.2.2.2.2 b.2.2.2.2.2).bind fun r4 =>
  bif (!r4) then some false
  else
  some true
def laws_eqExplanation (N : Nat) (a : List Int × Int × Bool × List Int × List ((Int × List Int) × List Int × List Int) × List (List Int × Int) × List (List Int)) (b : List Int × Int × Bool × List Int × List ((Int × List Int) × List Int × List Int) × List (List Int × Int) × List (List Int)) : Option (Bool) :=
  (laws_eqIntS N a.1 b.1).bind fun r =>
  bif (!r) then some false
  else
  (laws_eqJustification N a.2 b.2).bind fun r2 =>
  bif (!r2) then some false
  else
  some true
def laws_eqExplanationS_l0_b (N : Nat) (rec_ : (List (List Int × Int × Bool × List Int × List ((Int × List Int) × List Int × List Int) × List (List Int × Int) × List (List Int))) → (List (List Int × Int × Bool × List Int × List ((Int × List Int) × List Int × List Int) × List (List Int × Int) × List (List Int))) → Int → Option (Bool)) (a2 : List (List Int × Int × Bool × List Int × List ((Int × List Int) × List Int × List Int) × List (List Int × Int) × List (List Int))) (b2 : List (List Int × Int × Bool × List Int × List ((Int × List Int) × List Int × List Int) × List (List Int × Int) × List (List Int))) (i : Int) : Option (Bool) :=
  bif decide (i < (a2.length : Int)) then
    grd (inb i a2) <|
    grd (inb i b2) <|
    (laws_eqExplanation N ((at_ ([], (0, (false, ([], ([], ([], [])))))) a2 i).1, ((at_ ([], (0, (false, ([], ([], ([], [])))))) a2 i).2).1, (((at_ ([], (0, (false, ([], ([], ([], [])))))) a2 i).2).2).1, ((((at_ ([], (0, (false, ([], ([], ([], [])))))) a2 i).2).2).2).1, (((((at_ ([], (0, (false, ([], ([], ([], [])))))) a2 i).2).2).2).2).1, ((((((at_ ([], (0, (false, ([], ([], ([], [])))))) a2 i).2).2).2).2).2)) ((at_ ([], (0, (false, ([], ([], ([], [])))))) b2 i).1, ((at_ ([], (0, (false, ([], ([], ([], [])))))) b2 i).2).1, (((at_ ([], (0, (false, ([], ([], ([], [])))))) b2 i).2).2).1, ((((at_ ([], (0, (false, ([], ([], ([], [])))))) b2 i).2).2).2).1, (((((at_ ([], (0, (false, ([], ([], ([], [])))))) b2 i).2).2).2).2).1, ((((((at_ ([], (0, (false, ([], ([], ([], [])))))) b2 i).2).2).2).2).2))).bind fun r =>
    bif (!r) then some false
    else
    rec_ a2 b2 (w64 (i + 1))
  else
  some true
def laws_eqExplanationS_l0 (N : Nat) : Nat → (List (List Int × Int × Bool × List Int × List ((Int × List Int) × List Int × List Int) × List (List Int × Int) × List (List Int))) → (List (List Int × Int × Bool × List Int × List ((Int × List Int) × List Int × List Int) × List (List Int × Int) × List (List Int))) → Int → Option (Bool)
  | 0, _, _, _ => none
  | k_ + 1, a2, b2, i => laws_eqExplanationS_l0_b N (laws_eqExplanationS_l0 N k_) a2 b2 i
def laws_eqExplanationS_b (N : Nat) (laws_eqExplanationS_l0S : (List (List Int × Int × Bool × List Int × List ((Int × List Int) × List Int × List Int) × List (List Int × Int) × List (List Int))) → (List (List Int × Int × Bool × List Int × List ((Int × List Int) × List Int × List Int) × List (List Int × Int) × List (List Int))) → Int → Option (Bool)) (a : List (List Int × Int × Bool × List Int × List ((Int × List Int) × List Int × List Int) × List (List Int × Int) × List (List Int))) (b : List (List Int × Int × Bool × List Int × List ((Int × List Int) × List Int × List Int) × List (List Int × Int) × List (List Int))) : Option (Bool) :=
  bif ((a.length : Int) != (b.length : Int)) then some false
  else
  laws_eqExplanationS_l0S a b 0
def laws_eqExplanationS (N : Nat) (a : List (List Int × Int × Bool × List Int × List ((Int × List Int) × List Int × List Int) × List (List Int × Int) × List (List Int))) (b : List (List Int × Int × Bool × List Int × List ((Int × List Int) × List Int × List Int) × List (List Int × Int) × List (List Int))) : Option (Bool) := laws_eqExplanationS_b N (laws_eqExplanationS_l0 N N) a b
def laws_markIntS_l0_b (N : Nat) (rec_ : (List Int) → Int → Int → Option (List Int × Int)) (a2 : List Int) (k2 : Int) (i : Int) : Option (List Int × Int) :=
  bif decide (i < (a2.length : Int)) then
    grd (inb i a2) <|
    grd (inb i a2) <|
    letv (a2.set i.toNat k2) fun u =>
    rec_ u (w64 (k2 + 1)) (w64 (i + 1))
  else
  some (a2, k2)
def laws_markIntS_l0 (N : Nat) : Nat → (List Int) → Int → Int → Option (List Int × Int)
  | 0, _, _, _ => none
  | k_ + 1, a2, k2, i => laws_markIntS_l0_b N (laws_markIntS_l0 N k_) a2 k2 i
def laws_markIntS_b (N : Nat) (laws_markIntS_l0S : (List Int) → Int → Int → Option (List Int × Int)) (a : List Int) (k : Int) : Option (List Int × Int) :=
  laws_markIntS_l0S a k 0
def laws_markIntS (N : Nat) (a : List Int) (k : Int) : Option (List Int × Int) := laws_markIntS_b N (laws_markIntS_l0 N N) a k
def laws_markRewritingStepS_l0_b (N : Nat) (rec_ : (List ((Int × List Int) × List Int × List Int)) → Int → Int → Option ((List ((Int × List Int) × List Int × List Int)) × Int)) (a2 : List ((Int × List Int) × List Int × List Int)) (k2 : Int) (i : Int) : Option ((List ((Int × List Int) × List Int × List Int)) × Int) :=
  bif decide (i < (a2.length : Int)) then
    grd (inb i a2) <|
    grd (inb i a2) <|
    letv (a2.set i.toNat ((k2, ((at_ ((0, []), ([], [])) a2 i).1).2), ((at_ ((0, []), ([], [])) a2 i).2))) fun u =>
    grd (inb i u) <|
    (laws_markIntS N (((at_ ((0, []), ([], [])) u i).1).2) (w64 (k2 + 1))).bind fun p_m =>
    letv (u.set i.toNat ((((at_ ((0, []), ([], [])) u i).1).1, p_m.1), ((at_ ((0, []), ([], [])) u i).2))) fun u2 =>
    grd (inb i u2) <|
    (laws_markIntS N (((at_ ((0, []), ([], [])) u2 i).2).1) p_m.2).bind fun p_m2 =>
    letv (u2.set i.toNat (((at_ ((0, []), ([], [])) u2 i).1), p_m2.1, ((at_ ((0, []), ([], [])) u2 i).2).2)) fun u3 =>
    grd (inb i u3) <|
    (laws_markIntS N (((at_ ((0, []), ([], [])) u3 i).2).2) p_m2.2).bind fun p_m3 =>
    letv (u3.set i.toNat (((at_ ((0, []), ([], [])) u3 i).1), ((at_ ((0, []), ([], [])) u3 i).2).1, p_m3.1)) fun u4 =>
    rec_ u4 p_m3.2 (w64 (i + 1))
  else
  some (a2, k2)
def laws_markRewritingStepS_l0 (N : Nat) : Nat → (List ((Int × List Int) × List Int × List Int)) → Int → Int → Option ((List ((Int × List Int) × List Int × List Int)) × Int)
  | 0, _, _, _ => none
  | k_ + 1, a2, k2, i => laws_markRewritingStepS_l0_b N (laws_markRewritingStepS_l0 N k_) a2 k2 i
def laws_markRewritingStepS_b (N : Nat) (laws_markRewritingStepS_l0S : (List ((Int × List Int) × List Int × List Int)) → Int → Int → Option ((List ((Int × List Int) × List Int × List Int)) × Int)) (a : List ((Int × List Int) × List Int × List Int)) (k : Int) : Option ((List ((Int × List Int) × List Int × List Int)) × Int) :=
  laws_markRewritingStepS_l0S a k 0
def laws_markRewritingStepS (N : Nat) (a : List ((Int × List Int) × List Int × List Int)) (k : Int) : Option ((List ((Int × List Int) × List Int × List Int)) × Int) := laws_markRewritingStepS_b N (laws_markRewritingStepS_l0 N N) a k
def laws_markDerivationStepS_l0_b (N : Nat) (rec_ : (List (List Int × Int)) → Int → Int → Option ((List (List Int × Int)) × Int)) (a2 : List (List Int × Int)) (k2 : Int) (i : Int) : Option ((List (List Int × Int)) × Int) :=
  bif decide (i < (a2.length : Int)) then
    grd (inb i a2) <|
    (laws_markIntS N ((at_ ([], 0) a2 i).1) k2).bind fun p_m =>
    letv (a2.set i.toNat (p_m.1, (at_ ([], 0) a2 i).2)) fun u =>
    grd (inb i u) <|
    grd (inb i u) <|
    letv (u.set i.toNat ((at_ ([], 0) u i).1, p_m.2)) fun u2 =>
    rec_ u2 (w64 (p_m.2 + 1)) (w64 (i + 1))
  else
  some (a2, k2)
def laws_markDerivationStepS_l0 (N : Nat) : Nat → (List (List Int × Int)) → Int → Int → Option ((List (List Int × Int)) × Int)
  | 0, _, _, _ => none
  | k_ + 1, a2, k2, i => laws_markDerivationStepS_l0_b N (laws_markDerivationStepS_l0 N k_) a2 k2 i
def laws_markDerivationStepS_b (N : Nat) (laws_markDerivationStepS_l0S : (List (List Int × Int)) → Int → Int → Option ((List (List Int × Int)) × Int)) (a : List (List Int × Int)) (k : Int) : Option ((List (List Int × Int)) × Int) :=
  laws_markDerivationStepS_l0S a k 0
def laws_markDerivationStepS (N : Nat) (a : List (List Int × Int)) (k : Int) : Option ((List (List Int × Int)) × Int) := laws_markDerivationStepS_b N (laws_markDerivationStepS_l0 N N) a k
def laws_markIntSS_l0_b (N : Nat) (rec_ : (List (List Int)) → Int → Int → Option (List (List Int) × Int)) (a2 : List (List Int)) (k2 : Int) (i : Int) : Option (List (List Int) × Int) :=
  bif decide (i < (a2.length : Int)) then
    grd (inb i a2) <|
    (laws_markIntS N (at_ [] a2 i) k2).bind fun p_m =>
    letv (a2.set i.toNat p_m.1) fun u =>
    rec_ u p_m.2 (w64 (i + 1))
  else
  some (a2, k2)
def laws_markIntSS_l0 (N : Nat) : Nat → (List (List Int)) → Int → Int → Option (List (List Int) × Int)
  | 0, _, _, _ => none
  | k_ + 1, a2, k2, i => laws_markIntSS_l0_b N (laws_markIntSS_l0 N k_) a2 k2 i
def laws_markIntSS_b (N : Nat) (laws_markIntSS_l0S : (List (List Int)) → Int → Int → Option (List (List Int) × Int)) (a : List (List Int)) (k : Int) : Option (List (List Int) × Int) :=
  laws_markIntSS_l0S a k 0
def laws_markIntSS (N : Nat) (a : List (List Int)) (k : Int) : Option (List (List Int) × Int) := laws_markIntSS_b N (laws_markIntSS_l0 N N) a k
def laws_markExplanationS_l0_b (N : Nat) (rec_ : (List (List Int × Int × Bool × List Int × List ((Int × List Int) × List Int × List Int) × List (List Int × Int) × List (List Int))) → Int → Int → Option ((List (List Int × Int × Bool × List Int × List ((Int × List Int) × List Int × List Int) × List (List Int × Int) × List (List Int))) × Int)) (a2 : List (List Int × Int × Bool × List Int × List ((Int × List Int) × List Int × List Int) × List (List Int × Int) × List (List Int))) (k2 : Int) (i : Int) : Option ((List (List Int × Int × Bool × List Int × List ((Int × List Int) × List Int × List Int) × List (List Int × Int) × List (List Int))) × Int) :=
  bif decide (i < (a2.length : Int)) then
    grd (inb i a2) <|
    (laws_markIntS N ((at_ ([], (0, (false, ([], ([], ([], [])))))) a2 i).1) k2).bind fun p_m =>
    letv (a2.set i.toNat (p_m.1, ((at_ ([], (0, (false, ([], ([], ([], [])))))) a2 i).2).1, (((at_ ([], (0, (false, ([], ([], ([], [])))))) a2 i).2).2).1, ((((at_ ([], (0, (false, ([], ([], ([], [])))))) a2 i).2).2).2).1, (((((at_ ([], (0, (false, ([], ([], ([], [])))))) a2 i).2).2).2).2).1, ((((((at_ ([], (0, (false, ([], ([], ([], [])))))) a2 i).2).2).2).2).2))) fun u =>
    grd (inb i u) <|
    grd (inb i u) <|
    letv (u.set i.toNat ((at_ ([], (0, (false, ([], ([], ([], [])))))) u i).1, p_m.2, (((at_ ([], (0, (false, ([], ([], ([], [])))))) u i).2).2).1, ((((at_ ([], (0, (false, ([], ([], ([], [])))))) u i).2).2).2).1, (((((at_ ([], (0, (false, ([], ([], ([], [])))))) u i).2).2).2).2).1, ((((((at_ ([], (0, (false, ([], ([], ([], [])))))) u i).2).2).2).2).2))) fun u2 =>
    grz 3 <|
    grd (inb i u2) <|
    grd (inb i u2) <|
    letv (u2.set i.toNat ((at_ ([], (0, (false, ([], ([], ([], [])))))) u2 i).1, ((at_ ([], (0, (false, ([], ([], ([], [])))))) u2 i).2).1, (((w64 (p_m.2 + 1)).tmod 3) == 0), ((((at_ ([], (0, (false, ([], ([], ([], [])))))) u2 i).2).2).2).1, (((((at_ ([], (0, (false, ([], ([], ([], [])))))) u2 i).2).2).2).2).1, ((((((at_ ([], (0, (false, ([], ([], ([], [])))))) u2 i).2).2).2).2).2))) fun u3 =>
    grd (inb i u3) <|
    (laws_markIntS N (((((at_ ([], (0, (false, ([], ([], ([], [])))))) u3 i).2).2).2).1) (w64 ((w64 (p_m.2 + 1)) + 1))).bind fun p_m2 =>
    letv (u3.set i.toNat ((at_ ([], (0, (false, ([], ([], ([], [])))))) u3 i).1, ((at_ ([], (0, (false, ([], ([], ([], [])))))) u3 i).2).1, (((at_ ([], (0, (false, ([], ([], ([], [])))))) u3 i).2).2).1, p_m2.1, (((((at_ ([], (0, (false, ([], ([], ([], [])))))) u3 i).2).2).2).2).1, ((((((at_ ([], (0, (false, ([], ([], ([], [])))))) u3 i).2).2).2).2).2))) fun u4 =>
    grd (inb i u4) <|
    (laws_markRewritingStepS N ((((((at_ ([], (0, (false, ([], ([], ([], [])))))) u4 i).2).2).2).2).1) p_m2.2).bind fun p_m3 =>
    letv (u4.set i.toNat ((at_ ([], (0, (false, ([], ([], ([], [])))))) u4 i).1, ((at_ ([], (0, (false, ([], ([], ([], [])))))) u4 i).2).1, (((at_ ([], (0, (false, ([], ([], ([], [])))))) u4 i).2).2).1, ((((at_ ([], (0, (false, ([], ([], ([], [])))))) u4 i).2).2).2).1, p_m3.1, ((((((at_ ([], (0, (false, ([], ([], ([], [])))))) u4 i).2).2).2).2).2))) fun u5 =>
    grd (inb i u5) <|
    (laws_markDerivationStepS N (((((((at_ ([], (0, (false, ([], ([], ([], [])))))) u5 i).2).2).2).2).2).1) p_m3.2).bind fun p_m4 =>
    letv (u5.set i.toNat ((at_ ([], (0, (false, ([], ([], ([], [])))))) u5 i).1, ((at_ ([], (0, (false, ([], ([], ([], [])))))) u5 i).2).1, (((at_ ([], (0, (false, ([], ([], ([], [])))))) u5 i).2).2).1, ((((at_ ([], (0, (false, ([], ([], ([], [])))))) u5 i).2).2).2).1, (((((at_ ([], (0, (false, ([], ([], ([], [])))))) u5 i).2).2).2).2).1, p_m4.1, ((((((at_ ([], (0, (false, ([], ([], ([], [])))))) u5 i).2).2).2).2).2).2)) fun u6 =>
    grd (inb i u6) <|
    (laws_markIntSS N (((((((at_ ([], (0, (false, ([], ([], ([], [])))))) u6 i).2).2).2).2).2).2) p_m4.2).bind fun p_m5 =>
    letv (u6.set i.toNat ((at_ ([], (0, (false, ([], ([], ([], [])))))) u6 i).1, ((at_ ([], (0, (false, ([], ([], ([], [])))))) u6 i).2).1, (((at_ ([], (0, (false, ([], ([], ([], [])))))) u6 i).2).2).1, ((((at_ ([], (0, (false, ([], ([], ([], [])))))) u6 i).2).2).2).1, (((((at_ ([], (0, (false, ([], ([], ([], [])))))) u6 i).2).2).2).2).1, ((((((at_ ([], (0, (false, ([], ([], ([], [])))))) u6 i).2).2).2).2).2).1, p_m5.1)) fun u7 =>
    rec_ u7 p_m5.2 (w64 (i + 1))
  else
  some (a2, k2)
def laws_markExplanationS_l0 (N : Nat) : Nat → (List (List Int × Int × Bool × List Int × List ((Int × List Int) × List Int × List Int) × List (List Int × Int) × List (List Int))) → Int → Int → Option ((List (List Int × Int × Bool × List Int × List ((Int × List Int) × List Int × List Int) × List (List Int × Int) × List (List Int))) × Int)
  | 0, _, _, _ => none
  | k_ + 1, a2, k2, i => laws_markExplanationS_l0_b N (laws_markExplanationS_l0 N k_) a2 k2 i
def laws_markExplanationS_b (N : Nat) (laws_markExplanationS_l0S : (List (List Int × Int × Bool × List Int × List ((Int × List Int) × List Int × List Int) × List (List Int × Int) × List (List Int))) → Int → Int → Option ((List (List Int × Int × Bool × List Int × List ((Int × List Int) × List Int × List Int) × List (List Int × Int) × List (List Int))) × Int)) (a : List (List Int × Int × Bool × List Int × List ((Int × List Int) × List Int × List Int) × List (List Int × Int) × List (List Int))) (k : Int) : Option ((List (List Int × Int × Bool × List Int × List ((Int × List Int) × List Int × List Int) × List (List Int × Int) × List (List Int))) × Int) :=
  laws_markExplanationS_l0S a k 0
def laws_markExplanationS (N : Nat) (a : List (List Int × Int × Bool × List Int × List ((Int × List Int) × List Int × List Int) × List (List Int × Int) × List (List Int))) (k : Int) : Option ((List (List Int × Int × Bool × List Int × List ((Int × List Int) × List Int × List Int) × List (List Int × Int) × List (List Int))) × Int) := laws_markExplanationS_b N (laws_markExplanationS_l0 N N) a k
def laws_heldIntS_l0_b (N : Nat) (rec_ : (List Int) → Int → Int → Option (Int)) (a2 : List Int) (k2 : Int) (i : Int) : Option (Int) :=
  bif decide (i < (a2.length : Int)) then
    grd (inb i a2) <|
    bif ((at_ 0 a2 i) != k2) then some (-1)
    else
    rec_ a2 (w64 (k2 + 1)) (w64 (i + 1))
  else
  some k2
def laws_heldIntS_l0 (N : Nat) : Nat → (List Int) → Int → Int → Option (Int)
  | 0, _, _, _ => none
  | k_ + 1, a2, k2, i => laws_heldIntS_l0_b N (laws_heldIntS_l0 N k_) a2 k2 i
def laws_heldIntS_b (N : Nat) (laws_heldIntS_l0S : (List Int) → Int → Int → Option (Int)) (a : List Int) (k : Int) : Option (Int) :=
  laws_heldIntS_l0S a k 0
def laws_heldIntS (N : Nat) (a : List Int) (k : Int) : Option (Int) := laws_heldIntS_b N (laws_heldIntS_l0 N N) a k
def laws_heldIntSS_l0_b (N : Nat) (rec_ : (List (List Int)) → Int → Int → Option (Int)) (a2 : List (List Int)) (k2 : Int) (i : Int) : Option (Int) :=
  bif decide (i < (a2.length : Int)) then
    grd (inb i a2) <|
    (laws_heldIntS N (at_ [] a2 i) k2).bind fun r =>
    bif decide (r < 0) then some (-1)
    else
    rec_ a2 r (w64 (i + 1))
  else
  some k2
def laws_heldIntSS_l0 (N : Nat) : Nat → (List (List Int)) → Int → Int → Option (Int)
  | 0, _, _, _ => none
  | k_ + 1, a2, k2, i => laws_heldIntSS_l0_b N (laws_heldIntSS_l0 N k_) a2 k2 i
def laws_heldIntSS_b (N : Nat) (laws_heldIntSS_l0S : (List (List Int)) → Int → Int → Option (Int)) (a : List (List Int)) (k : Int) : Option (Int) :=
  laws_heldIntSS_l0S a k 0
def laws_heldIntSS (N : Nat) (a : List (List Int)) (k : Int) : Option (Int) := laws_heldIntSS_b N (laws_heldIntSS_l0 N N) a k
def laws_FnExactCertainRowsOf (N : Nat) (aExplanations : List (List Int × Int × Bool × List Int × List ((Int × List Int) × List Int × List Int) × List (List Int × Int) × List (List Int))) : Option (Bool) :=
  (laws_szExplanationS N aExplanations 1048576).bind fun r =>
  bif decide (r < 0) then some true
  else
  (laws_toExplanationS N aExplanations).bind fun r2 =>
  (spec_CertainRowsOf N r2).bind fun r3 =>
  (laws_toExplanationS N aExplanations).bind fun r4 =>
  (impl_CertainRowsOf N r4).bind fun r5 =>
  (laws_eqIntSS N r5 r3).bind fun r6 =>
  bif (!r6) then some false
  else
  (laws_toExplanationS N aExplanations).bind fun r7 =>
  (laws_eqExplanationS N r4 r7).bind fun r8 =>
  bif (!r8) then some false
  else
  (laws_markExplanationS N r4 1).bind fun p_m =>
  bif decide (p_m.2 < 0) then some false
  else
  (laws_eqIntSS N r5 r3).bind fun r10 =>
  bif (!r10) then some false
  else
  (laws_markIntSS N r5 1).bind fun p_m2 =>
  (laws_heldIntSS N p_m2.1 1).bind fun r12 =>
  bif decide (r12 < 0) then some false
  else
  bif (r12 != p_m2.2) then some false
  else
  (laws_toExplanationS N aExplanations).bind fun r13 =>
  (impl_CertainRowsOf N r13).bind fun r14 =>
  (laws_eqIntSS N r14 r3).bind fun r15 =>
  bif (!r15) then some false
  else
  (laws_heldIntSS N p_m2.1 1).bind fun r16 =>
  bif decide (r16 < 0) then some false
  else
  bif (r16 != p_m2.2) then some false
  else
  some true
end Go.PL

/- The plain law, with all that it needs. Conditions: those that stand in each theorem. -/
namespace Go.PL
set_option linter.unusedVariables false
theorem w64_id {x : Int} (h1 : -9223372036854775808 ≤ x) (h2 : x ≤ 9223372036854775807) : w64 x = x := by
  unfold w64 IntKind.wrap
  simp [IntKind.bits, IntKind.signed]
  omega
theorem w64_succ {j : Nat} (h : j < 4611686018427387904) : w64 ((j : Int) + 1) = ((j + 1 : Nat) : Int) := by
  rw [w64_id (by omega) (by omega)]; omega
@[simp] theorem grd_true {α : Type} (x : Option α) : grd true x = x := rfl
@[simp] theorem grd_false {α : Type} (x : Option α) : grd false x = none := rfl
theorem grz_ne {α : Type} {b : Int} (h : b ≠ 0) (x : Option α) : grz b x = x := by simp [grz, h]
@[simp] theorem letv_eq {α β : Type} (v : α) (k : α → β) : letv v k = k v := rfl
theorem inb_nat {α : Type} (j : Nat) (xs : List α) : inb (j : Int) xs = decide (j < xs.length) := by
  simp [inb]
theorem inb_lt {α : Type} {j : Nat} {xs : List α} (h : j < xs.length) : inb (j : Int) xs = true := by simp [inb_nat, h]
theorem at_lt {α : Type} {d : α} {j : Nat} {xs : List α} (h : j < xs.length) : at_ d xs (j : Int) = xs[j] := by simp [at_, h]
theorem makeOk_lt {n : Nat} {b : Nat} (h : n * b ≤ 140737488355328) : makeOk (n : Int) b = true := by
  have h1 : (n : Int) * (b : Int) ≤ 140737488355328 := by rw [← Int.natCast_mul]; omega
  have h2 : (0 : Int) ≤ n := by omega
  simp only [makeOk, h1, h2, decide_true, Bool.and_self]

theorem bytes_loop (bs : ByteArray) : ∀ (m i : Nat) (r : List UInt8), bs.size - i = m → ByteArray.toList.loop bs i r = r.reverse ++ bs.data.toList.drop i
  | 0, i, r, h => by
    have hs : bs.data.toList.length = bs.size := rfl
    unfold ByteArray.toList.loop
    rw [if_neg (by omega), List.drop_of_length_le (by omega)]; simp
  | m + 1, i, r, h => by
    have hs : bs.data.toList.length = bs.size := rfl
    unfold ByteArray.toList.loop
    rw [if_pos (by omega), bytes_loop bs m (i + 1) _ (by omega)]
    have hi : i < bs.data.toList.length := by omega
    rw [List.drop_eq_getElem_cons hi]
    have hi2 : i < bs.data.size := by simpa using hi
    have : bs.get! i = bs.data.toList[i] := by
      show bs.data[i]! = _
      rw [getElem!_pos bs.data i hi2]; simp
    rw [this]; simp
theorem bytes_toList (bs : ByteArray) : bs.toList = bs.data.toList := by
  unfold ByteArray.toList; rw [bytes_loop bs _ 0 [] rfl]; simp
theorem seq_eq (a b : ByteArray) : seq a b = decide (a = b) := by
  unfold seq
  rw [bytes_toList, bytes_toList]
  by_cases h : a = b
  · subst h; simp
  · have : ¬ a.data = b.data := fun h2 => h (ByteArray.ext h2)
    simp [h, this]

theorem bneI (a b : Int) : (a != b) = !decide (a = b) := by by_cases h : a = b <;> simp [h]
theorem ite_dec {p : Prop} [Decidable p] {α : Type} (x y : Option α) : (bif !decide p then x else y) = if decide p then y else x := by by_cases h : p <;> simp [h]

/-- A loop: what holds at each round's start, and what goes down; what comes out. -/
theorem loop {σ R : Type} (f : Nat → σ → Option R) (I : σ → Prop) (μ : σ → Nat) (Q : Option R → Prop) (hstep : ∀ k s, I s → Q (f (k + 1) s) ∨ ∃ s', I s' ∧ μ s' < μ s ∧ f (k + 1) s = f k s') : ∀ (k : Nat) (s : σ), μ s < k → I s → Q (f k s)
  | 0, s, hk, hs => by omega
  | k + 1, s, hk, hs => by
    rcases hstep k s hs with h | ⟨s', h1, h2, h3⟩
    · exact h
    · rw [h3]
      exact loop f I μ Q hstep k s' (by omega) h1

theorem take_succ_set {α : Type} {out a : List α} {j : Nat} {y : α} (h1 : j < a.length) (h2 : j < out.length) (ht : out.take j = a.take j) (hy : y = a[j]) : (out.set j y).take (j + 1) = a.take (j + 1) := by
  subst hy
  rw [List.take_set, List.take_succ_eq_append_getElem h2, List.take_succ_eq_append_getElem h1, ht]
  simp [List.set_append_right, List.length_take, Nat.min_eq_left (Nat.le_of_lt h1)]

/-- A loop that fills a row. -/
theorem fill {β : Type} {b : List β} (f : Nat → List β → Int → Option (List β)) (hend : ∀ k out, f (k + 1) out (b.length : Int) = some out)
    (hstep : ∀ k out j (h : j < b.length), out.length = b.length → f (k + 1) out (j : Int) = f k (out.set j b[j]) ((j + 1 : Nat) : Int)) {k : Nat} (hk : b.length < k) {out : List β} (ho : out.length = b.length) : f k out 0 = some b := by
  have := loop (fun k (s : List β × Nat) => f k s.1 (s.2 : Int)) (fun s => s.1.length = b.length ∧ s.2 ≤ b.length ∧ s.1.take s.2 = b.take s.2) (fun s => b.length - s.2) (fun o => o = some b) (fun k s hs => by
    obtain ⟨out, j⟩ := s
    obtain ⟨h1, h2, h3⟩ := hs
    simp only at h1 h2 h3 ⊢
    by_cases hj : j < b.length
    · right
      exact ⟨(out.set j b[j], j + 1), ⟨by simp [h1], hj, take_succ_set hj (by omega) h3 rfl⟩, by simp only; omega, hstep k out j hj h1⟩
    · left
      have : j = b.length := by omega
      subst this
      rw [hend, ← List.take_of_length_le (Nat.le_of_eq h1), h3, List.take_length]) k (out, 0) (by simpa using hk) ⟨ho, by simp, by simp⟩
  exact this
/-- A loop that asks something of each index. -/
theorem every {n : Nat} (p : Nat → Bool) (f : Nat → Int → Option Bool) (hend : ∀ k, f (k + 1) (n : Int) = some true) (hstep : ∀ k j, j < n → f (k + 1) (j : Int) = if p j then f k ((j + 1 : Nat) : Int) else some false) {k : Nat} (hk : n < k) : f k 0 = some (decide (∀ j, j < n → p j = true)) := by
  have := loop (fun k (j : Nat) => f k (j : Int)) (fun j => j ≤ n ∧ ∀ i, i < j → p i = true) (fun j => n - j) (fun o => o = some (decide (∀ j, j < n → p j = true))) (fun k j hs => by
    obtain ⟨h1, h2⟩ := hs
    by_cases hj : j < n
    · rw [hstep k j hj]
      cases hp : p j with
      | true =>
        right
        exact ⟨j + 1, ⟨hj, fun i hi => by rcases Nat.lt_or_eq_of_le (Nat.le_of_lt_succ hi) with h | h; exact h2 i h; rw [h]; exact hp⟩, by omega, by simp⟩
      | false =>
        left
        have : ¬ ∀ j, j < n → p j = true := fun h => by have := h j hj; rw [hp] at this; simp at this
        simp [this]
    · left
      have : j = n := by omega
      subst this
      rw [hend]
      simp only [Option.some.injEq]
      symm
      simpa using h2) k 0 (by simpa using hk) ⟨by omega, by omega⟩
  exact this
/-- A loop that looks for the first index of which something holds. -/
theorem first {n : Nat} (p : Nat → Bool) (f : Nat → Int → Option Int) (hend : ∀ k, f (k + 1) (n : Int) = some (-1)) (hstep : ∀ k j, j < n → f (k + 1) (j : Int) = if p j then some (j : Int) else f k ((j + 1 : Nat) : Int)) {k : Nat} (hk : n < k) :
    (∃ j, j < n ∧ p j = true ∧ (∀ i, i < j → p i = false) ∧ f k 0 = some (j : Int)) ∨ ((∀ i, i < n → p i = false) ∧ f k 0 = some (-1)) := by
  have := loop (fun k (j : Nat) => f k (j : Int)) (fun j => j ≤ n ∧ ∀ i, i < j → p i = false) (fun j => n - j) (fun o => (∃ j, j < n ∧ p j = true ∧ (∀ i, i < j → p i = false) ∧ o = some (j : Int)) ∨ ((∀ i, i < n → p i = false) ∧ o = some (-1))) (fun k j hs => by
    obtain ⟨h1, h2⟩ := hs
    by_cases hj : j < n
    · rw [hstep k j hj]
      cases hp : p j with
      | true => left; left; exact ⟨j, hj, hp, h2, rfl⟩
      | false =>
        right
        exact ⟨j + 1, ⟨hj, fun i hi => by rcases Nat.lt_or_eq_of_le (Nat.le_of_lt_succ hi) with h | h; exact h2 i h; rw [h]; exact hp⟩, by omega, by simp⟩
    · left; right
      have : j = n := by omega
      subst this
      exact ⟨h2, hend k⟩) k 0 (by simpa using hk) ⟨by omega, by omega⟩
  exact this
end Go.PL
namespace Go.PL
set_option linter.unusedVariables false
set_option linter.unusedSimpArgs false
def in_int (x : Int) : Prop := IntKind.min .i64 ≤ x ∧ x ≤ IntKind.max .i64
def in_bool (x : Bool) : Prop := True
theorem bneB (a b : Bool) : (a != b) = !decide (a = b) := by cases a <;> cases b <;> rfl
theorem beqB (a b : Bool) : (a == b) = decide (a = b) := by cases a <;> cases b <;> rfl
theorem list_eq_iff' {α : Type} [DecidableEq α] {a b : List α} (h : a.length = b.length) : (a = b) ↔ ∀ j, j < a.length → (decide (a[j]? = b[j]?)) = true := by
  constructor
  · rintro rfl j _; simp
  · intro h2
    apply List.ext_getElem?
    intro j
    by_cases hj : j < a.length
    · simpa using h2 j hj
    · rw [List.getElem?_eq_none (by omega), List.getElem?_eq_none (by omega)]
/-- How much of what is left is taken. -/
def sub1 (l : Int) (s : Nat) : Int := if (s : Int) ≤ l then l - s else -1
theorem sub1_pos {l : Int} {s : Nat} (h : (s : Int) ≤ l) : sub1 l s = l - s := if_pos h
theorem sub1_neg {l : Int} {s : Nat} (h : ¬ (s : Int) ≤ l) : sub1 l s = -1 := if_neg h
def sumL {α : Type} (s : α → Nat) (a : List α) : Nat := a.length + (a.map s).sum
theorem sumL_len {α : Type} {s : α → Nat} {a : List α} {m : Nat} (h : sumL s a ≤ m) : a.length ≤ m := Nat.le_trans (Nat.le_add_right _ _) h
theorem sum_mem {α : Type} {s : α → Nat} : ∀ {a : List α} {y : α}, y ∈ a → s y ≤ (a.map s).sum
  | [], y, h => by simp at h
  | x :: a, y, h => by
    rcases List.mem_cons.1 h with rfl | h
    · simp
    · have := sum_mem (s := s) h
      simp only [List.map_cons, List.sum_cons]; omega
theorem sumL_mem {α : Type} {s : α → Nat} {a : List α} {y : α} (h : y ∈ a) : s y ≤ sumL s a := Nat.le_trans (sum_mem h) (Nat.le_add_left _ _)
/-- A loop that takes from what is left. -/
theorem szL {α : Type} {a : List α} {s : α → Nat} {g : α → Int → Option Int} {f : Nat → Int → Int → Option Int} (hg : ∀ x ∈ a, ∀ l : Int, 0 ≤ l → l ≤ 1048576 → g x l = some (sub1 l (s x)))
    (hend : ∀ k l, f (k + 1) l (a.length : Int) = some l) (hstep : ∀ k l j (h : j < a.length), f (k + 1) l (j : Int) = (g a[j] l).bind fun r => bif decide (r < 0) then some (-1) else f k r ((j + 1 : Nat) : Int))
    {k : Nat} (hk : a.length < k) {l : Int} (h0 : 0 ≤ l) (h1 : l ≤ 1048576) : f k l 0 = some (sub1 l ((a.map s).sum)) := by
  have := loop (fun k (q : Int × Nat) => f k q.1 (q.2 : Int)) (fun q => 0 ≤ q.1 ∧ q.1 ≤ 1048576 ∧ q.2 ≤ a.length ∧ sub1 q.1 (((a.drop q.2).map s).sum) = sub1 l ((a.map s).sum)) (fun q => a.length - q.2) (fun o => o = some (sub1 l ((a.map s).sum))) (fun k q hs => by
    obtain ⟨v, j⟩ := q
    obtain ⟨g0, g1, g2, g3⟩ := hs
    simp only at g0 g1 g2 g3 ⊢
    by_cases hj : j < a.length
    · rw [hstep k v j hj, hg a[j] (List.getElem_mem hj) v g0 g1, Option.bind_some]
      rw [List.drop_eq_getElem_cons hj, List.map_cons, List.sum_cons] at g3
      by_cases hc : (s a[j] : Int) ≤ v
      · right
        refine ⟨(v - s a[j], j + 1), ⟨by simp only; omega, by simp only; omega, hj, ?_⟩, by simp only; omega, ?_⟩
        · rw [← g3]; simp only [sub1]; split <;> split <;> omega
        · rw [sub1_pos hc, decide_eq_false (by omega), cond_false]
      · left
        rw [sub1_neg hc, decide_eq_true (by omega), cond_true]
        rw [← g3, sub1_neg (by omega)]
    · left
      have : j = a.length := by omega
      subst this
      rw [hend]
      rw [List.drop_length] at g3
      rw [← g3]; simp [sub1, g0]) k (l, 0) (by simpa using hk) ⟨h0, h1, by simp, by simp⟩
  exact this
def mkL {α : Type} (c : α → Nat) (mv : α → Int → α) : List α → Int → List α
  | [], _ => []
  | x :: r, k => mv x k :: mkL c mv r (k + (c x : Int))
def costL {α : Type} (c : α → Nat) (a : List α) : Nat := (a.map c).sum
theorem costL_le {α : Type} {c : α → Nat} (h : ∀ x, c x ≤ 8) : ∀ a : List α, costL c a ≤ 8 * a.length
  | [] => by simp [costL]
  | x :: a => by
    have h1 := h x
    have h2 := costL_le h a
    simp only [costL, List.map_cons, List.sum_cons, List.length_cons] at h2 ⊢; omega
theorem costL_les {α : Type} {c s : α → Nat} (h : ∀ x, c x ≤ 8 + 8 * s x) : ∀ a : List α, costL c a ≤ 8 * sumL s a
  | [] => by simp [costL, sumL]
  | x :: a => by
    have h1 := h x
    have h2 := costL_les h a
    simp only [costL, sumL, List.map_cons, List.sum_cons, List.length_cons] at h2 ⊢; omega
theorem mkL_length {α : Type} (c : α → Nat) (mv : α → Int → α) : ∀ (a : List α) (k : Int), (mkL c mv a k).length = a.length
  | [], k => rfl
  | x :: a, k => by simp [mkL, mkL_length c mv a]
theorem inb_set {α : Type} {xs : List α} {j : Nat} {v : α} {i : Int} : inb i (xs.set j v) = inb i xs := by simp [inb]
theorem at_set {α : Type} {d : α} {xs : List α} {j : Nat} {v : α} (h : j < xs.length) : at_ d (xs.set j v) (j : Int) = v := by simp [at_, h]
theorem set_set {α : Type} {xs : List α} {j : Nat} {a b : α} : (xs.set j a).set j b = xs.set j b := by simp
theorem w64_ok {x : Int} (h0 : 0 ≤ x) (h1 : x ≤ 4611686018427387904) : w64 x = x := w64_id (by omega) (by omega)
theorem not_neg {x : Int} (h : 0 ≤ x) : decide (x < 0) = false := decide_eq_false (by omega)
/-- A loop that marks. -/
theorem markL {α : Type} {c : α → Nat} {mv : α → Int → α} {P : α → Prop} {f : Nat → List α → Int → Int → Option (List α × Int)}
    (hend : ∀ k a2 k2 (j : Nat), j = a2.length → f (k + 1) a2 k2 (j : Int) = some (a2, k2))
    (hstep : ∀ k a2 k2 (j : Nat) (h : j < a2.length), P a2[j] → 0 ≤ k2 → k2 + (c a2[j] : Int) ≤ 4611686018427387904 → j < 1048576 → f (k + 1) a2 k2 (j : Int) = f k (a2.set j (mv a2[j] k2)) (k2 + (c a2[j] : Int)) ((j + 1 : Nat) : Int))
    {a : List α} (hP : ∀ y ∈ a, P y) {k0 : Int} (h0 : 0 ≤ k0) (h1 : k0 + (costL c a : Int) ≤ 4611686018427387904) (hl : a.length ≤ 1048576) {k : Nat} (hk : a.length < k) : f k a k0 0 = some (mkL c mv a k0, k0 + (costL c a : Int)) := by
  have := loop (fun k (q : List α × Int × Nat) => f k q.1 q.2.1 (q.2.2 : Int)) (fun q => ∃ done, q.1 = done ++ a.drop q.2.2 ∧ done.length = q.2.2 ∧ q.2.2 ≤ a.length ∧ done ++ mkL c mv (a.drop q.2.2) q.2.1 = mkL c mv a k0 ∧ q.2.1 + (costL c (a.drop q.2.2) : Int) = k0 + (costL c a : Int) ∧ 0 ≤ q.2.1) (fun q => a.length - q.2.2) (fun o => o = some (mkL c mv a k0, k0 + (costL c a : Int))) (fun k q hs => by
    obtain ⟨a2, k2, j⟩ := q
    obtain ⟨done, g1, g2, g3, g4, g5, g6⟩ := hs
    simp only at g1 g2 g3 g4 g5 g6 ⊢
    by_cases hj : j < a.length
    · right
      rw [List.drop_eq_getElem_cons hj] at g1 g4 g5
      have hj2 : j < a2.length := by rw [g1]; simp; omega
      have ha2 : a2[j] = a[j] := by
        have : a2[j]? = some a[j] := by rw [g1, List.getElem?_append_right (by omega), g2]; simp
        rw [List.getElem?_eq_getElem hj2] at this
        exact Option.some.inj this
      simp only [costL, List.map_cons, List.sum_cons, Int.natCast_add] at g5
      have hcost : 0 ≤ (((a.drop (j + 1)).map c).sum : Int) := by omega
      refine ⟨(a2.set j (mv a2[j] k2), k2 + (c a2[j] : Int), j + 1), ⟨done ++ [mv a[j] k2], ?_, by simp [g2], hj, ?_, ?_, by simp only; omega⟩, by simp only; omega, ?_⟩
      · simp only
        rw [ha2, g1, List.set_append_right _ _ (by omega), g2, Nat.sub_self, List.set_cons_zero, List.append_assoc]
        rfl
      · simp only [ha2]
        rw [← g4]; simp [mkL]
      · rw [ha2]; simp only [costL] at g5 ⊢; omega
      · exact hstep k a2 k2 j hj2 (by rw [ha2]; exact hP _ (List.getElem_mem hj)) g6 (by rw [ha2]; simp only [costL] at g5 h1 ⊢; omega) (by omega)
    · left
      have hja : j = a.length := by omega
      subst hja
      rw [List.drop_length] at g1 g4 g5
      rw [hend k a2 k2 a.length (by rw [g1]; simp [g2])]
      simp only [mkL, List.append_nil] at g1 g4
      simp only [costL, List.map_nil, List.sum_nil] at g5
      rw [g1, g4]
      simp only [costL] at g5 ⊢
      congr 2; omega) k (a, k0, 0) (by simpa using hk) ⟨[], by simp, rfl, by simp, by simp, by simp, h0⟩
  exact this
/-- A loop that looks for the marks. -/
theorem heldL {α : Type} {c : α → Nat} {mv : α → Int → α} {P : α → Prop} {f : Nat → List α → Int → Int → Option Int}
    (hend : ∀ k a2 k2 (j : Nat), j = a2.length → f (k + 1) a2 k2 (j : Int) = some k2)
    (hstep : ∀ k a2 k2 (j : Nat) (y : α) (h : j < a2.length), P y → 0 ≤ k2 → k2 + (c y : Int) ≤ 4611686018427387904 → j < 1048576 → a2[j] = mv y k2 → f (k + 1) a2 k2 (j : Int) = f k a2 (k2 + (c y : Int)) ((j + 1 : Nat) : Int))
    {a : List α} (hP : ∀ y ∈ a, P y) {k0 : Int} (h0 : 0 ≤ k0) (h1 : k0 + (costL c a : Int) ≤ 4611686018427387904) (hl : a.length ≤ 1048576) {k : Nat} (hk : a.length < k) : f k (mkL c mv a k0) k0 0 = some (k0 + (costL c a : Int)) := by
  have hlen := mkL_length c mv a k0
  have := loop (fun k (q : Int × Nat) => f k (mkL c mv a k0) q.1 (q.2 : Int)) (fun q => q.2 ≤ a.length ∧ (mkL c mv a k0).drop q.2 = mkL c mv (a.drop q.2) q.1 ∧ q.1 + (costL c (a.drop q.2) : Int) = k0 + (costL c a : Int) ∧ 0 ≤ q.1) (fun q => a.length - q.2) (fun o => o = some (k0 + (costL c a : Int))) (fun k q hs => by
    obtain ⟨k2, j⟩ := q
    obtain ⟨g3, g4, g5, g6⟩ := hs
    simp only at g3 g4 g5 g6 ⊢
    by_cases hj : j < a.length
    · right
      have hj2 : j < (mkL c mv a k0).length := by omega
      rw [List.drop_eq_getElem_cons hj2, List.drop_eq_getElem_cons hj] at g4
      simp only [mkL, List.cons.injEq] at g4
      rw [List.drop_eq_getElem_cons hj] at g5
      simp only [costL, List.map_cons, List.sum_cons, Int.natCast_add] at g5
      have hcost : 0 ≤ (((a.drop (j + 1)).map c).sum : Int) := by omega
      refine ⟨(k2 + (c a[j] : Int), j + 1), ⟨hj, g4.2, ?_, by simp only; omega⟩, by simp only; omega, ?_⟩
      · simp only [costL] at g5 ⊢; omega
      · exact hstep k _ k2 j a[j] hj2 (hP _ (List.getElem_mem hj)) g6 (by simp only [costL] at g5 h1 ⊢; omega) (by omega) g4.1
    · left
      have hja : j = a.length := by omega
      subst hja
      rw [List.drop_length] at g5
      rw [hend k _ k2 a.length hlen.symm]
      simp only [costL, List.map_nil, List.sum_nil] at g5 ⊢
      congr 1; omega) k (k0, 0) (by simpa using hk) ⟨by simp, by simp, by simp, h0⟩
  exact this

abbrev T_IntS := List Int
def in_IntS (a : T_IntS) : Prop := a.length ≤ 9223372036854775807 ∧ ∀ y ∈ a, in_int y
def s_IntS (a : T_IntS) : Nat := a.length
def b_IntS (a : T_IntS) : Prop := a.length ≤ 1048576
theorem b_of_IntS {a : T_IntS} (h : s_IntS a ≤ 1048576) : b_IntS a := h
theorem fto_IntS {N : Nat} {a : T_IntS} (h : b_IntS a) (hN : 1048576 < N) : laws_toIntS N a = some a := by
  have hl : a.length ≤ 1048576 := h
  unfold laws_toIntS laws_toIntS_b
  rw [makeOk_lt (by omega), grd_true]
  refine fill (b := a) (fun k out i => laws_toIntS_l0 N k a out i) (fun k out => by simp [laws_toIntS_l0, laws_toIntS_l0_b]) (fun k out j h1 h3 => ?_) (by omega) (by simp)
  have h2 : j < out.length := by omega
  have hj : (j : Int) < (a.length : Int) := by omega
  simp [laws_toIntS_l0, laws_toIntS_l0_b, hj, inb_lt h1, inb_lt h2, at_lt h1, w64_succ (show j < 4611686018427387904 by omega)]
theorem feq_IntS {N : Nat} {a b : T_IntS} (h : b_IntS a) (hN : 1048576 < N) : laws_eqIntS N a b = some (decide (a = b)) := by
  have hla : a.length ≤ 1048576 := h
  unfold laws_eqIntS laws_eqIntS_b
  by_cases hl : a.length = b.length
  · have h0 : ((a.length : Int) != (b.length : Int)) = false := by simp [hl]
    rw [h0, cond_false, decide_eq_decide.2 (list_eq_iff' hl)]
    refine every (n := a.length) (fun j => decide (a[j]? = b[j]?)) (fun k i => laws_eqIntS_l0 N k a b i) (fun k => by simp [laws_eqIntS_l0, laws_eqIntS_l0_b]) (fun k j hj => ?_) (by omega)
    have h1 : (j : Int) < (a.length : Int) := by omega
    have h2 : j < b.length := by omega
    simp only [laws_eqIntS_l0, laws_eqIntS_l0_b, h1, decide_true, cond_true, inb_lt hj, inb_lt h2, grd_true, at_lt hj, at_lt h2, bneI, ite_dec, w64_succ (show j < 4611686018427387904 by omega), List.getElem?_eq_getElem hj, List.getElem?_eq_getElem h2, Option.some.injEq]
  · have h0 : ((a.length : Int) != (b.length : Int)) = true := by simp; omega
    rw [h0, cond_true]
    have : a ≠ b := fun h => hl (by rw [h])
    simp [this]
theorem fsz_IntS {N : Nat} {a : T_IntS} {l : Int} (h : in_IntS a) (h0 : 0 ≤ l) (h1 : l ≤ 1048576) (hN : 1048576 < N) : laws_szIntS N a l = some (sub1 l (s_IntS a)) := by
  have := h.1
  unfold laws_szIntS s_IntS sub1
  rw [w64_id (by omega) (by omega)]
  by_cases h : (a.length : Int) ≤ l
  · rw [if_pos h, decide_eq_false (by omega)]; rfl
  · rw [if_neg h, decide_eq_true (by omega)]; rfl
def me_IntS (N : Nat) (x : Int) (k : Int) : Int := k
def ce_IntS (x : Int) : Nat := 1
def mk_IntS (N : Nat) (a : T_IntS) (k : Int) : T_IntS := mkL ce_IntS (me_IntS N) a k
def c_IntS (a : T_IntS) : Nat := costL ce_IntS a
theorem c_s_IntS (a : T_IntS) : c_IntS a ≤ 8 * s_IntS a := costL_le (c := ce_IntS) (fun x => by show 1 ≤ 8; omega) a
theorem fmk_IntS {N : Nat} {a : T_IntS} {k : Int} (h : b_IntS a) (h0 : 0 ≤ k) (h1 : k + (c_IntS a : Int) ≤ 4611686018427387904) (hN : 1048576 < N) : laws_markIntS N a k = some (mk_IntS N a k, k + (c_IntS a : Int)) := by
  have hla : a.length ≤ 1048576 := h
  unfold laws_markIntS laws_markIntS_b
  refine markL (P := fun y => True) (f := fun k a2 k2 i => laws_markIntS_l0 N k a2 k2 i) (fun k a2 k2 j hj => by subst hj; simp [laws_markIntS_l0, laws_markIntS_l0_b]) (fun k a2 k2 j h1 hy h0 hc hl => ?_) (fun _ _ => trivial) h0 h1 (by omega) (by omega)
  have h2 : (j : Int) < (a2.length : Int) := by omega
  simp only [ce_IntS, Int.natCast_add, Int.cast_ofNat_Int, Int.natCast_one] at hc
  simp (disch := first | assumption | omega) only [laws_markIntS_l0, laws_markIntS_l0_b, h2, decide_true, cond_true, inb_lt h1, inb_set, grd_true, grz_ne, letv_eq, at_lt h1, at_set, set_set, Int.toNat_natCast, w64_ok, w64_succ, Option.bind_some, Option.bind_some]
  simp only [ce_IntS, me_IntS, Int.natCast_add, Int.cast_ofNat_Int, Int.natCast_one, Int.add_assoc]
theorem fhd_IntS {N : Nat} {a : T_IntS} {k : Int} (h : b_IntS a) (h0 : 0 ≤ k) (h1 : k + (c_IntS a : Int) ≤ 4611686018427387904) (hN : 1048576 < N) : laws_heldIntS N (mk_IntS N a k) k = some (k + (c_IntS a : Int)) := by
  have hla : a.length ≤ 1048576 := h
  unfold laws_heldIntS laws_heldIntS_b
  refine heldL (P := fun y => True) (f := fun k a2 k2 i => laws_heldIntS_l0 N k a2 k2 i) (fun k a2 k2 j hj => by subst hj; simp [laws_heldIntS_l0, laws_heldIntS_l0_b]) (fun k a2 k2 j y h1 hy h0 hc hl he => ?_) (fun _ _ => trivial) h0 h1 (by omega) (by omega)
  have h2 : (j : Int) < (a2.length : Int) := by omega
  simp only [ce_IntS, Int.natCast_add, Int.cast_ofNat_Int, Int.natCast_one] at hc
  simp only [laws_heldIntS_l0, laws_heldIntS_l0_b, h2, decide_true, cond_true, inb_lt h1, grd_true, at_lt h1, he, me_IntS]
  simp (disch := first | assumption | omega) only [bneI, bneB, beqB, decide_true, Bool.not_true, cond_false, w64_ok, w64_succ, Option.bind_some, not_neg, grz_ne, Int.add_assoc, Option.bind_some]
  simp only [ce_IntS, Int.natCast_add, Int.cast_ofNat_Int, Int.natCast_one, Int.add_assoc]
abbrev T_IntSS := List T_IntS
def in_IntSS (a : T_IntSS) : Prop := a.length ≤ 9223372036854775807 ∧ ∀ y ∈ a, in_IntS y
def s_IntSS (a : T_IntSS) : Nat := sumL s_IntS a
def b_IntSS (a : T_IntSS) : Prop := a.length ≤ 1048576 ∧ ∀ y ∈ a, b_IntS y
theorem b_of_IntSS {a : T_IntSS} (h : s_IntSS a ≤ 1048576) : b_IntSS a := ⟨(sumL_len h), fun y hy => b_of_IntS (Nat.le_trans (sumL_mem hy) h)⟩
theorem fto_IntSS {N : Nat} {a : T_IntSS} (h : b_IntSS a) (hN : 1048576 < N) : laws_toIntSS N a = some a := by
  have hl : a.length ≤ 1048576 := h.1
  unfold laws_toIntSS laws_toIntSS_b
  rw [makeOk_lt (by omega), grd_true]
  refine fill (b := a) (fun k out i => laws_toIntSS_l0 N k a out i) (fun k out => by simp [laws_toIntSS_l0, laws_toIntSS_l0_b]) (fun k out j h1 h3 => ?_) (by omega) (by simp)
  have h2 : j < out.length := by omega
  have hj : (j : Int) < (a.length : Int) := by omega
  simp [laws_toIntSS_l0, laws_toIntSS_l0_b, hj, inb_lt h1, inb_lt h2, at_lt h1, fto_IntS (h.2 _ (List.getElem_mem h1)) hN, w64_succ (show j < 4611686018427387904 by omega)]
theorem feq_IntSS {N : Nat} {a b : T_IntSS} (h : b_IntSS a) (hN : 1048576 < N) : laws_eqIntSS N a b = some (decide (a = b)) := by
  have hla : a.length ≤ 1048576 := h.1
  unfold laws_eqIntSS laws_eqIntSS_b
  by_cases hl : a.length = b.length
  · have h0 : ((a.length : Int) != (b.length : Int)) = false := by simp [hl]
    rw [h0, cond_false, decide_eq_decide.2 (list_eq_iff' hl)]
    refine every (n := a.length) (fun j => decide (a[j]? = b[j]?)) (fun k i => laws_eqIntSS_l0 N k a b i) (fun k => by simp [laws_eqIntSS_l0, laws_eqIntSS_l0_b]) (fun k j hj => ?_) (by omega)
    have h1 : (j : Int) < (a.length : Int) := by omega
    have h2 : j < b.length := by omega
    simp only [laws_eqIntSS_l0, laws_eqIntSS_l0_b, h1, decide_true, cond_true, inb_lt hj, inb_lt h2, grd_true, at_lt hj, at_lt h2, feq_IntS (h.2 _ (List.getElem_mem hj)) hN, Option.bind_some, ite_dec, w64_succ (show j < 4611686018427387904 by omega), List.getElem?_eq_getElem hj, List.getElem?_eq_getElem h2, Option.some.injEq]
  · have h0 : ((a.length : Int) != (b.length : Int)) = true := by simp; omega
    rw [h0, cond_true]
    have : a ≠ b := fun h => hl (by rw [h])
    simp [this]
theorem fsz_IntSS {N : Nat} {a : T_IntSS} {l : Int} (h : in_IntSS a) (h0 : 0 ≤ l) (h1 : l ≤ 1048576) (hN : 1048576 < N) : laws_szIntSS N a l = some (sub1 l (s_IntSS a)) := by
  have hlen := h.1
  unfold laws_szIntSS laws_szIntSS_b
  rw [w64_id (by omega) (by omega)]
  by_cases hc : (a.length : Int) ≤ l
  · rw [decide_eq_false (by omega), cond_false]
    rw [szL (a := a) (s := s_IntS) (g := fun x l => laws_szIntS N x l) (f := fun k l i => laws_szIntSS_l0 N k a l i) (fun x hx l h0 h1 => fsz_IntS (h.2 x hx) h0 h1 hN) (fun k l => by simp [laws_szIntSS_l0, laws_szIntSS_l0_b]) (fun k l j hj => by
        have h2 : (j : Int) < (a.length : Int) := by omega
        simp only [laws_szIntSS_l0, laws_szIntSS_l0_b, h2, decide_true, cond_true, inb_lt hj, grd_true, at_lt hj, w64_succ (show j < 4611686018427387904 by omega)]) (by omega) (by omega) (by omega)]
    unfold s_IntSS sumL sub1
    congr 1
    split <;> split <;> omega
  · rw [decide_eq_true (by omega), cond_true]
    unfold s_IntSS sumL sub1
    rw [if_neg (by omega)]
def me_IntSS (N : Nat) (x : T_IntS) (k : Int) : T_IntS := mk_IntS N x k
def ce_IntSS (x : T_IntS) : Nat := c_IntS x
def mk_IntSS (N : Nat) (a : T_IntSS) (k : Int) : T_IntSS := mkL ce_IntSS (me_IntSS N) a k
def c_IntSS (a : T_IntSS) : Nat := costL ce_IntSS a
theorem c_s_IntSS (a : T_IntSS) : c_IntSS a ≤ 8 * s_IntSS a := costL_les (c := ce_IntSS) (fun x => by have := c_s_IntS x; show c_IntS x ≤ 8 + 8 * s_IntS x; omega) a
theorem fmk_IntSS {N : Nat} {a : T_IntSS} {k : Int} (h : b_IntSS a) (h0 : 0 ≤ k) (h1 : k + (c_IntSS a : Int) ≤ 4611686018427387904) (hN : 1048576 < N) : laws_markIntSS N a k = some (mk_IntSS N a k, k + (c_IntSS a : Int)) := by
  have hla : a.length ≤ 1048576 := h.1
  unfold laws_markIntSS laws_markIntSS_b
  refine markL (P := fun y => b_IntS y) (f := fun k a2 k2 i => laws_markIntSS_l0 N k a2 k2 i) (fun k a2 k2 j hj => by subst hj; simp [laws_markIntSS_l0, laws_markIntSS_l0_b]) (fun k a2 k2 j h1 hy h0 hc hl => ?_) h.2 h0 h1 (by omega) (by omega)
  have h2 : (j : Int) < (a2.length : Int) := by omega
  simp only [ce_IntSS, Int.natCast_add, Int.cast_ofNat_Int, Int.natCast_one] at hc
  simp (disch := first | assumption | omega) only [laws_markIntSS_l0, laws_markIntSS_l0_b, h2, decide_true, cond_true, inb_lt h1, inb_set, grd_true, grz_ne, letv_eq, at_lt h1, at_set, set_set, Int.toNat_natCast, w64_ok, w64_succ, Option.bind_some, fmk_IntS]
  simp only [ce_IntSS, me_IntSS, Int.natCast_add, Int.cast_ofNat_Int, Int.natCast_one, Int.add_assoc]
theorem fhd_IntSS {N : Nat} {a : T_IntSS} {k : Int} (h : b_IntSS a) (h0 : 0 ≤ k) (h1 : k + (c_IntSS a : Int) ≤ 4611686018427387904) (hN : 1048576 < N) : laws_heldIntSS N (mk_IntSS N a k) k = some (k + (c_IntSS a : Int)) := by
  have hla : a.length ≤ 1048576 := h.1
  unfold laws_heldIntSS laws_heldIntSS_b
  refine heldL (P := fun y => b_IntS y) (f := fun k a2 k2 i => laws_heldIntSS_l0 N k a2 k2 i) (fun k a2 k2 j hj => by subst hj; simp [laws_heldIntSS_l0, laws_heldIntSS_l0_b]) (fun k a2 k2 j y h1 hy h0 hc hl he => ?_) h.2 h0 h1 (by omega) (by omega)
  have h2 : (j : Int) < (a2.length : Int) := by omega
  simp only [ce_IntSS, Int.natCast_add, Int.cast_ofNat_Int, Int.natCast_one] at hc
  simp only [laws_heldIntSS_l0, laws_heldIntSS_l0_b, h2, decide_true, cond_true, inb_lt h1, grd_true, at_lt h1, he, me_IntSS]
  simp (disch := first | assumption | omega) only [bneI, bneB, beqB, decide_true, Bool.not_true, cond_false, w64_ok, w64_succ, Option.bind_some, not_neg, grz_ne, Int.add_assoc, fhd_IntS]
  simp only [ce_IntSS, Int.natCast_add, Int.cast_ofNat_Int, Int.natCast_one, Int.add_assoc]
abbrev T_Atom := Int × List Int
def in_Atom (x : T_Atom) : Prop := in_int x.1 ∧ in_IntS x.2
def s_Atom (x : T_Atom) : Nat := s_IntS x.2
def b_Atom (x : T_Atom) : Prop := b_IntS x.2
theorem b_of_Atom {x : T_Atom} (h : s_Atom x ≤ 1048576) : b_Atom x := b_of_IntS (by unfold s_Atom at h; omega)
theorem fto_Atom {N : Nat} {x : T_Atom} (h : b_Atom x) (hN : 1048576 < N) : laws_toAtom N x = some x := by
  simp [laws_toAtom, fto_IntS h hN]
theorem feq_Atom {N : Nat} {x y : T_Atom} (h : b_Atom x) (hN : 1048576 < N) : laws_eqAtom N x y = some (decide (x = y)) := by
  simp only [laws_eqAtom, bneI, bneB, beqB, seq_eq, feq_IntS h hN, Option.bind_some]
  obtain ⟨x0, x1⟩ := x
  obtain ⟨y0, y1⟩ := y
  simp only [Prod.mk.injEq]
  by_cases e0 : x0 = y0 <;>
  by_cases e1 : x1 = y1 <;> simp [e0, e1]
theorem fsz_Atom {N : Nat} {x : T_Atom} {l : Int} (h : in_Atom x) (h0 : 0 ≤ l) (h1 : l ≤ 1048576) (hN : 1048576 < N) : laws_szAtom N x l = some (sub1 l (s_Atom x)) := by
  unfold laws_szAtom s_Atom
  rw [fsz_IntS (l := l) h.2 (by omega) (by omega) hN, Option.bind_some]
  unfold sub1
  split
  · rw [decide_eq_false (by omega)]; rfl
  · rfl
abbrev T_RewritingStep := (Int × List Int) × List Int × List Int
def in_RewritingStep (x : T_RewritingStep) : Prop := in_Atom x.1 ∧ in_IntS x.2.1 ∧ in_IntS x.2.2
def s_RewritingStep (x : T_RewritingStep) : Nat := s_Atom x.1 + s_IntS x.2.1 + s_IntS x.2.2
def b_RewritingStep (x : T_RewritingStep) : Prop := b_Atom x.1 ∧ b_IntS x.2.1 ∧ b_IntS x.2.2
theorem b_of_RewritingStep {x : T_RewritingStep} (h : s_RewritingStep x ≤ 1048576) : b_RewritingStep x := ⟨b_of_Atom (by unfold s_RewritingStep at h; omega), b_of_IntS (by unfold s_RewritingStep at h; omega), b_of_IntS (by unfold s_RewritingStep at h; omega)⟩
theorem fto_RewritingStep {N : Nat} {x : T_RewritingStep} (h : b_RewritingStep x) (hN : 1048576 < N) : laws_toRewritingStep N x = some x := by
  simp [laws_toRewritingStep, fto_Atom h.1 hN, fto_IntS h.2.1 hN, fto_IntS h.2.2 hN]
theorem feq_RewritingStep {N : Nat} {x y : T_RewritingStep} (h : b_RewritingStep x) (hN : 1048576 < N) : laws_eqRewritingStep N x y = some (decide (x = y)) := by
  simp only [laws_eqRewritingStep, bneI, bneB, beqB, seq_eq, feq_Atom h.1 hN, feq_IntS h.2.1 hN, feq_IntS h.2.2 hN, Option.bind_some]
  obtain ⟨x0, x1, x2⟩ := x
  obtain ⟨y0, y1, y2⟩ := y
  simp only [Prod.mk.injEq]
  by_cases e0 : x0 = y0 <;>
  by_cases e1 : x1 = y1 <;>
  by_cases e2 : x2 = y2 <;> simp [e0, e1, e2]
theorem fsz_RewritingStep {N : Nat} {x : T_RewritingStep} {l : Int} (h : in_RewritingStep x) (h0 : 0 ≤ l) (h1 : l ≤ 1048576) (hN : 1048576 < N) : laws_szRewritingStep N x l = some (sub1 l (s_RewritingStep x)) := by
  unfold laws_szRewritingStep s_RewritingStep
  rw [fsz_Atom (l := l) h.1 (by omega) (by omega) hN, Option.bind_some]
  by_cases c0 : (s_Atom x.1 : Int) ≤ l
  case neg => rw [sub1_neg c0]; rw [sub1_neg (by omega)]; rfl
  rw [sub1_pos c0, decide_eq_false (show ¬ l - (s_Atom x.1 : Int) < 0 by omega), cond_false]
  rw [fsz_IntS (l := (l - (s_Atom x.1 : Int))) h.2.1 (by omega) (by omega) hN, Option.bind_some]
  by_cases c1 : (s_IntS x.2.1 : Int) ≤ (l - (s_Atom x.1 : Int))
  case neg => rw [sub1_neg c1]; rw [sub1_neg (by omega)]; rfl
  rw [sub1_pos c1, decide_eq_false (show ¬ (l - (s_Atom x.1 : Int)) - (s_IntS x.2.1 : Int) < 0 by omega), cond_false]
  rw [fsz_IntS (l := ((l - (s_Atom x.1 : Int)) - (s_IntS x.2.1 : Int))) h.2.2 (by omega) (by omega) hN, Option.bind_some]
  by_cases c2 : (s_IntS x.2.2 : Int) ≤ ((l - (s_Atom x.1 : Int)) - (s_IntS x.2.1 : Int))
  case neg => rw [sub1_neg c2]; rw [sub1_neg (by omega)]; rfl
  rw [sub1_pos c2, decide_eq_false (show ¬ ((l - (s_Atom x.1 : Int)) - (s_IntS x.2.1 : Int)) - (s_IntS x.2.2 : Int) < 0 by omega), cond_false]
  rw [sub1_pos (by omega)]; congr 1; omega
abbrev T_RewritingStepS := List T_RewritingStep
def in_RewritingStepS (a : T_RewritingStepS) : Prop := a.length ≤ 9223372036854775807 ∧ ∀ y ∈ a, in_RewritingStep y
def s_RewritingStepS (a : T_RewritingStepS) : Nat := sumL s_RewritingStep a
def b_RewritingStepS (a : T_RewritingStepS) : Prop := a.length ≤ 1048576 ∧ ∀ y ∈ a, b_RewritingStep y
theorem b_of_RewritingStepS {a : T_RewritingStepS} (h : s_RewritingStepS a ≤ 1048576) : b_RewritingStepS a := ⟨(sumL_len h), fun y hy => b_of_RewritingStep (Nat.le_trans (sumL_mem hy) h)⟩
theorem fto_RewritingStepS {N : Nat} {a : T_RewritingStepS} (h : b_RewritingStepS a) (hN : 1048576 < N) : laws_toRewritingStepS N a = some a := by
  have hl : a.length ≤ 1048576 := h.1
  unfold laws_toRewritingStepS laws_toRewritingStepS_b
  rw [makeOk_lt (by omega), grd_true]
  refine fill (b := a) (fun k out i => laws_toRewritingStepS_l0 N k a out i) (fun k out => by simp [laws_toRewritingStepS_l0, laws_toRewritingStepS_l0_b]) (fun k out j h1 h3 => ?_) (by omega) (by simp)
  have h2 : j < out.length := by omega
  have hj : (j : Int) < (a.length : Int) := by omega
  simp [laws_toRewritingStepS_l0, laws_toRewritingStepS_l0_b, hj, inb_lt h1, inb_lt h2, at_lt h1, fto_RewritingStep (h.2 _ (List.getElem_mem h1)) hN, w64_succ (show j < 4611686018427387904 by omega)]
theorem feq_RewritingStepS {N : Nat} {a b : T_RewritingStepS} (h : b_RewritingStepS a) (hN : 1048576 < N) : laws_eqRewritingStepS N a b = some (decide (a = b)) := by
  have hla : a.length ≤ 1048576 := h.1
  unfold laws_eqRewritingStepS laws_eqRewritingStepS_b
  by_cases hl : a.length = b.length
  · have h0 : ((a.length : Int) != (b.length : Int)) = false := by simp [hl]
    rw [h0, cond_false, decide_eq_decide.2 (list_eq_iff' hl)]
    refine every (n := a.length) (fun j => decide (a[j]? = b[j]?)) (fun k i => laws_eqRewritingStepS_l0 N k a b i) (fun k => by simp [laws_eqRewritingStepS_l0, laws_eqRewritingStepS_l0_b]) (fun k j hj => ?_) (by omega)
    have h1 : (j : Int) < (a.length : Int) := by omega
    have h2 : j < b.length := by omega
    simp only [laws_eqRewritingStepS_l0, laws_eqRewritingStepS_l0_b, h1, decide_true, cond_true, inb_lt hj, inb_lt h2, grd_true, at_lt hj, at_lt h2, feq_RewritingStep (h.2 _ (List.getElem_mem hj)) hN, Option.bind_some, ite_dec, w64_succ (show j < 4611686018427387904 by omega), List.getElem?_eq_getElem hj, List.getElem?_eq_getElem h2, Option.some.injEq]
  · have h0 : ((a.length : Int) != (b.length : Int)) = true := by simp; omega
    rw [h0, cond_true]
    have : a ≠ b := fun h => hl (by rw [h])
    simp [this]
theorem fsz_RewritingStepS {N : Nat} {a : T_RewritingStepS} {l : Int} (h : in_RewritingStepS a) (h0 : 0 ≤ l) (h1 : l ≤ 1048576) (hN : 1048576 < N) : laws_szRewritingStepS N a l = some (sub1 l (s_RewritingStepS a)) := by
  have hlen := h.1
  unfold laws_szRewritingStepS laws_szRewritingStepS_b
  rw [w64_id (by omega) (by omega)]
  by_cases hc : (a.length : Int) ≤ l
  · rw [decide_eq_false (by omega), cond_false]
    rw [szL (a := a) (s := s_RewritingStep) (g := fun x l => laws_szRewritingStep N x l) (f := fun k l i => laws_szRewritingStepS_l0 N k a l i) (fun x hx l h0 h1 => fsz_RewritingStep (h.2 x hx) h0 h1 hN) (fun k l => by simp [laws_szRewritingStepS_l0, laws_szRewritingStepS_l0_b]) (fun k l j hj => by
        have h2 : (j : Int) < (a.length : Int) := by omega
        simp only [laws_szRewritingStepS_l0, laws_szRewritingStepS_l0_b, h2, decide_true, cond_true, inb_lt hj, grd_true, at_lt hj, w64_succ (show j < 4611686018427387904 by omega)]) (by omega) (by omega) (by omega)]
    unfold s_RewritingStepS sumL sub1
    congr 1
    split <;> split <;> omega
  · rw [decide_eq_true (by omega), cond_true]
    unfold s_RewritingStepS sumL sub1
    rw [if_neg (by omega)]
def me_RewritingStepS (N : Nat) (x : T_RewritingStep) (k : Int) : T_RewritingStep := (((k), mk_IntS N x.1.2 (k + 1)), mk_IntS N x.2.1 (k + 1 + (c_IntS x.1.2 : Int)), mk_IntS N x.2.2 (k + 1 + (c_IntS x.1.2 : Int) + (c_IntS x.2.1 : Int)))
def ce_RewritingStepS (x : T_RewritingStep) : Nat := 1 + c_IntS x.1.2 + c_IntS x.2.1 + c_IntS x.2.2
def mk_RewritingStepS (N : Nat) (a : T_RewritingStepS) (k : Int) : T_RewritingStepS := mkL ce_RewritingStepS (me_RewritingStepS N) a k
def c_RewritingStepS (a : T_RewritingStepS) : Nat := costL ce_RewritingStepS a
theorem c_s_RewritingStepS (a : T_RewritingStepS) : c_RewritingStepS a ≤ 8 * s_RewritingStepS a := costL_les (c := ce_RewritingStepS) (fun x => by have h0 := c_s_IntS x.1.2; have h1 := c_s_IntS x.2.1; have h2 := c_s_IntS x.2.2; unfold ce_RewritingStepS s_RewritingStep s_Atom; omega) a
theorem fmk_RewritingStepS {N : Nat} {a : T_RewritingStepS} {k : Int} (h : b_RewritingStepS a) (h0 : 0 ≤ k) (h1 : k + (c_RewritingStepS a : Int) ≤ 4611686018427387904) (hN : 1048576 < N) : laws_markRewritingStepS N a k = some (mk_RewritingStepS N a k, k + (c_RewritingStepS a : Int)) := by
  have hla : a.length ≤ 1048576 := h.1
  unfold laws_markRewritingStepS laws_markRewritingStepS_b
  refine markL (P := fun y => b_RewritingStep y) (f := fun k a2 k2 i => laws_markRewritingStepS_l0 N k a2 k2 i) (fun k a2 k2 j hj => by subst hj; simp [laws_markRewritingStepS_l0, laws_markRewritingStepS_l0_b]) (fun k a2 k2 j h1 hy h0 hc hl => ?_) h.2 h0 h1 (by omega) (by omega)
  have h2 : (j : Int) < (a2.length : Int) := by omega
  have hy0 : b_IntS a2[j].1.2 := hy.1
  have hy1 : b_IntS a2[j].2.1 := hy.2.1
  have hy2 : b_IntS a2[j].2.2 := hy.2.2
  simp only [ce_RewritingStepS, Int.natCast_add, Int.cast_ofNat_Int, Int.natCast_one] at hc
  simp (disch := first | assumption | omega) only [laws_markRewritingStepS_l0, laws_markRewritingStepS_l0_b, h2, decide_true, cond_true, inb_lt h1, inb_set, grd_true, grz_ne, letv_eq, at_lt h1, at_set, set_set, Int.toNat_natCast, w64_ok, w64_succ, Option.bind_some, fmk_IntS]
  simp only [ce_RewritingStepS, me_RewritingStepS, Int.natCast_add, Int.cast_ofNat_Int, Int.natCast_one, Int.add_assoc]
abbrev T_DerivationStep := List Int × Int
def in_DerivationStep (x : T_DerivationStep) : Prop := in_IntS x.1 ∧ in_int x.2
def s_DerivationStep (x : T_DerivationStep) : Nat := s_IntS x.1
def b_DerivationStep (x : T_DerivationStep) : Prop := b_IntS x.1
theorem b_of_DerivationStep {x : T_DerivationStep} (h : s_DerivationStep x ≤ 1048576) : b_DerivationStep x := b_of_IntS (by unfold s_DerivationStep at h; omega)
theorem fto_DerivationStep {N : Nat} {x : T_DerivationStep} (h : b_DerivationStep x) (hN : 1048576 < N) : laws_toDerivationStep N x = some x := by
  simp [laws_toDerivationStep, fto_IntS h hN]
theorem feq_DerivationStep {N : Nat} {x y : T_DerivationStep} (h : b_DerivationStep x) (hN : 1048576 < N) : laws_eqDerivationStep N x y = some (decide (x = y)) := by
  simp only [laws_eqDerivationStep, bneI, bneB, beqB, seq_eq, feq_IntS h hN, Option.bind_some]
  obtain ⟨x0, x1⟩ := x
  obtain ⟨y0, y1⟩ := y
  simp only [Prod.mk.injEq]
  by_cases e0 : x0 = y0 <;>
  by_cases e1 : x1 = y1 <;> simp [e0, e1]
theorem fsz_DerivationStep {N : Nat} {x : T_DerivationStep} {l : Int} (h : in_DerivationStep x) (h0 : 0 ≤ l) (h1 : l ≤ 1048576) (hN : 1048576 < N) : laws_szDerivationStep N x l = some (sub1 l (s_DerivationStep x)) := by
  unfold laws_szDerivationStep s_DerivationStep
  rw [fsz_IntS (l := l) h.1 (by omega) (by omega) hN, Option.bind_some]
  unfold sub1
  split
  · rw [decide_eq_false (by omega)]; rfl
  · rfl
abbrev T_DerivationStepS := List T_DerivationStep
def in_DerivationStepS (a : T_DerivationStepS) : Prop := a.length ≤ 9223372036854775807 ∧ ∀ y ∈ a, in_DerivationStep y
def s_DerivationStepS (a : T_DerivationStepS) : Nat := sumL s_DerivationStep a
def b_DerivationStepS (a : T_DerivationStepS) : Prop := a.length ≤ 1048576 ∧ ∀ y ∈ a, b_DerivationStep y
theorem b_of_DerivationStepS {a : T_DerivationStepS} (h : s_DerivationStepS a ≤ 1048576) : b_DerivationStepS a := ⟨(sumL_len h), fun y hy => b_of_DerivationStep (Nat.le_trans (sumL_mem hy) h)⟩
theorem fto_DerivationStepS {N : Nat} {a : T_DerivationStepS} (h : b_DerivationStepS a) (hN : 1048576 < N) : laws_toDerivationStepS N a = some a := by
  have hl : a.length ≤ 1048576 := h.1
  unfold laws_toDerivationStepS laws_toDerivationStepS_b
  rw [makeOk_lt (by omega), grd_true]
  refine fill (b := a) (fun k out i => laws_toDerivationStepS_l0 N k a out i) (fun k out => by simp [laws_toDerivationStepS_l0, laws_toDerivationStepS_l0_b]) (fun k out j h1 h3 => ?_) (by omega) (by simp)
  have h2 : j < out.length := by omega
  have hj : (j : Int) < (a.length : Int) := by omega
  simp [laws_toDerivationStepS_l0, laws_toDerivationStepS_l0_b, hj, inb_lt h1, inb_lt h2, at_lt h1, fto_DerivationStep (h.2 _ (List.getElem_mem h1)) hN, w64_succ (show j < 4611686018427387904 by omega)]
theorem feq_DerivationStepS {N : Nat} {a b : T_DerivationStepS} (h : b_DerivationStepS a) (hN : 1048576 < N) : laws_eqDerivationStepS N a b = some (decide (a = b)) := by
  have hla : a.length ≤ 1048576 := h.1
  unfold laws_eqDerivationStepS laws_eqDerivationStepS_b
  by_cases hl : a.length = b.length
  · have h0 : ((a.length : Int) != (b.length : Int)) = false := by simp [hl]
    rw [h0, cond_false, decide_eq_decide.2 (list_eq_iff' hl)]
    refine every (n := a.length) (fun j => decide (a[j]? = b[j]?)) (fun k i => laws_eqDerivationStepS_l0 N k a b i) (fun k => by simp [laws_eqDerivationStepS_l0, laws_eqDerivationStepS_l0_b]) (fun k j hj => ?_) (by omega)
    have h1 : (j : Int) < (a.length : Int) := by omega
    have h2 : j < b.length := by omega
    simp only [laws_eqDerivationStepS_l0, laws_eqDerivationStepS_l0_b, h1, decide_true, cond_true, inb_lt hj, inb_lt h2, grd_true, at_lt hj, at_lt h2, feq_DerivationStep (h.2 _ (List.getElem_mem hj)) hN, Option.bind_some, ite_dec, w64_succ (show j < 4611686018427387904 by omega), List.getElem?_eq_getElem hj, List.getElem?_eq_getElem h2, Option.some.injEq]
  · have h0 : ((a.length : Int) != (b.length : Int)) = true := by simp; omega
    rw [h0, cond_true]
    have : a ≠ b := fun h => hl (by rw [h])
    simp [this]
theorem fsz_DerivationStepS {N : Nat} {a : T_DerivationStepS} {l : Int} (h : in_DerivationStepS a) (h0 : 0 ≤ l) (h1 : l ≤ 1048576) (hN : 1048576 < N) : laws_szDerivationStepS N a l = some (sub1 l (s_DerivationStepS a)) := by
  have hlen := h.1
  unfold laws_szDerivationStepS laws_szDerivationStepS_b
  rw [w64_id (by omega) (by omega)]
  by_cases hc : (a.length : Int) ≤ l
  · rw [decide_eq_false (by omega), cond_false]
    rw [szL (a := a) (s := s_DerivationStep) (g := fun x l => laws_szDerivationStep N x l) (f := fun k l i => laws_szDerivationStepS_l0 N k a l i) (fun x hx l h0 h1 => fsz_DerivationStep (h.2 x hx) h0 h1 hN) (fun k l => by simp [laws_szDerivationStepS_l0, laws_szDerivationStepS_l0_b]) (fun k l j hj => by
        have h2 : (j : Int) < (a.length : Int) := by omega
        simp only [laws_szDerivationStepS_l0, laws_szDerivationStepS_l0_b, h2, decide_true, cond_true, inb_lt hj, grd_true, at_lt hj, w64_succ (show j < 4611686018427387904 by omega)]) (by omega) (by omega) (by omega)]
    unfold s_DerivationStepS sumL sub1
    congr 1
    split <;> split <;> omega
  · rw [decide_eq_true (by omega), cond_true]
    unfold s_DerivationStepS sumL sub1
    rw [if_neg (by omega)]
def me_DerivationStepS (N : Nat) (x : T_DerivationStep) (k : Int) : T_DerivationStep := (mk_IntS N x.1 (k), (k + (c_IntS x.1 : Int)))
def ce_DerivationStepS (x : T_DerivationStep) : Nat := c_IntS x.1 + 1
def mk_DerivationStepS (N : Nat) (a : T_DerivationStepS) (k : Int) : T_DerivationStepS := mkL ce_DerivationStepS (me_DerivationStepS N) a k
def c_DerivationStepS (a : T_DerivationStepS) : Nat := costL ce_DerivationStepS a
theorem c_s_DerivationStepS (a : T_DerivationStepS) : c_DerivationStepS a ≤ 8 * s_DerivationStepS a := costL_les (c := ce_DerivationStepS) (fun x => by have h0 := c_s_IntS x.1; unfold ce_DerivationStepS s_DerivationStep; omega) a
theorem fmk_DerivationStepS {N : Nat} {a : T_DerivationStepS} {k : Int} (h : b_DerivationStepS a) (h0 : 0 ≤ k) (h1 : k + (c_DerivationStepS a : Int) ≤ 4611686018427387904) (hN : 1048576 < N) : laws_markDerivationStepS N a k = some (mk_DerivationStepS N a k, k + (c_DerivationStepS a : Int)) := by
  have hla : a.length ≤ 1048576 := h.1
  unfold laws_markDerivationStepS laws_markDerivationStepS_b
  refine markL (P := fun y => b_DerivationStep y) (f := fun k a2 k2 i => laws_markDerivationStepS_l0 N k a2 k2 i) (fun k a2 k2 j hj => by subst hj; simp [laws_markDerivationStepS_l0, laws_markDerivationStepS_l0_b]) (fun k a2 k2 j h1 hy h0 hc hl => ?_) h.2 h0 h1 (by omega) (by omega)
  have h2 : (j : Int) < (a2.length : Int) := by omega
  have hy0 : b_IntS a2[j].1 := hy
  simp only [ce_DerivationStepS, Int.natCast_add, Int.cast_ofNat_Int, Int.natCast_one] at hc
  simp (disch := first | assumption | omega) only [laws_markDerivationStepS_l0, laws_markDerivationStepS_l0_b, h2, decide_true, cond_true, inb_lt h1, inb_set, grd_true, grz_ne, letv_eq, at_lt h1, at_set, set_set, Int.toNat_natCast, w64_ok, w64_succ, Option.bind_some, fmk_IntS]
  simp only [ce_DerivationStepS, me_DerivationStepS, Int.natCast_add, Int.cast_ofNat_Int, Int.natCast_one, Int.add_assoc]
abbrev T_Justification := Int × Bool × List Int × (List ((Int × List Int) × List Int × List Int)) × (List (List Int × Int)) × List (List Int)
noncomputable instance dec_Justification : DecidableEq T_Justification := fun _ _ => Classical.propDecidable _
def in_Justification (x : T_Justification) : Prop := in_int x.1 ∧ in_bool x.2.1 ∧ in_IntS x.2.2.1 ∧ in_RewritingStepS x.2.2.2.1 ∧ in_DerivationStepS x.2.2.2.2.1 ∧ in_IntSS x.2.2.2.2.2
def s_Justification (x : T_Justification) : Nat := s_IntS x.2.2.1 + s_RewritingStepS x.2.2.2.1 + s_DerivationStepS x.2.2.2.2.1 + s_IntSS x.2.2.2.2.2
def b_Justification (x : T_Justification) : Prop := b_IntS x.2.2.1 ∧ b_RewritingStepS x.2.2.2.1 ∧ b_DerivationStepS x.2.2.2.2.1 ∧ b_IntSS x.2.2.2.2.2
theorem b_of_Justification {x : T_Justification} (h : s_Justification x ≤ 1048576) : b_Justification x := ⟨b_of_IntS (by unfold s_Justification at h; omega), b_of_RewritingStepS (by unfold s_Justification at h; omega), b_of_DerivationStepS (by unfold s_Justification at h; omega), b_of_IntSS (by unfold s_Justification at h; omega)⟩
theorem fto_Justification {N : Nat} {x : T_Justification} (h : b_Justification x) (hN : 1048576 < N) : laws_toJustification N x = some x := by
  simp [laws_toJustification, fto_IntS h.1 hN, fto_RewritingStepS h.2.1 hN, fto_DerivationStepS h.2.2.1 hN, fto_IntSS h.2.2.2 hN]
theorem feq_Justification {N : Nat} {x y : T_Justification} (h : b_Justification x) (hN : 1048576 < N) : laws_eqJustification N x y = some (decide (x = y)) := by
  simp only [laws_eqJustification, bneI, bneB, beqB, seq_eq, feq_IntS h.1 hN, feq_RewritingStepS h.2.1 hN, feq_DerivationStepS h.2.2.1 hN, feq_IntSS h.2.2.2 hN, Option.bind_some]
  obtain ⟨x0, x1, x2, x3, x4, x5⟩ := x
  obtain ⟨y0, y1, y2, y3, y4, y5⟩ := y
  simp only [Prod.mk.injEq]
  by_cases e0 : x0 = y0 <;>
  by_cases e1 : x1 = y1 <;>
  by_cases e2 : x2 = y2 <;>
  by_cases e3 : x3 = y3 <;>
  by_cases e4 : x4 = y4 <;>
  by_cases e5 : x5 = y5 <;> simp [e0, e1, e2, e3, e4, e5]
theorem fsz_Justification {N : Nat} {x : T_Justification} {l : Int} (h : in_Justification x) (h0 : 0 ≤ l) (h1 : l ≤ 1048576) (hN : 1048576 < N) : laws_szJustification N x l = some (sub1 l (s_Justification x)) := by
  unfold laws_szJustification s_Justification
  rw [fsz_IntS (l := l) h.2.2.1 (by omega) (by omega) hN, Option.bind_some]
  by_cases c0 : (s_IntS x.2.2.1 : Int) ≤ l
  case neg => rw [sub1_neg c0]; rw [sub1_neg (by omega)]; rfl
  rw [sub1_pos c0, decide_eq_false (show ¬ l - (s_IntS x.2.2.1 : Int) < 0 by omega), cond_false]
  rw [fsz_RewritingStepS (l := (l - (s_IntS x.2.2.1 : Int))) h.2.2.2.1 (by omega) (by omega) hN, Option.bind_some]
  by_cases c1 : (s_RewritingStepS x.2.2.2.1 : Int) ≤ (l - (s_IntS x.2.2.1 : Int))
  case neg => rw [sub1_neg c1]; rw [sub1_neg (by omega)]; rfl
  rw [sub1_pos c1, decide_eq_false (show ¬ (l - (s_IntS x.2.2.1 : Int)) - (s_RewritingStepS x.2.2.2.1 : Int) < 0 by omega), cond_false]
  rw [fsz_DerivationStepS (l := ((l - (s_IntS x.2.2.1 : Int)) - (s_RewritingStepS x.2.2.2.1 : Int))) h.2.2.2.2.1 (by omega) (by omega) hN, Option.bind_some]
  by_cases c2 : (s_DerivationStepS x.2.2.2.2.1 : Int) ≤ ((l - (s_IntS x.2.2.1 : Int)) - (s_RewritingStepS x.2.2.2.1 : Int))
  case neg => rw [sub1_neg c2]; rw [sub1_neg (by omega)]; rfl
  rw [sub1_pos c2, decide_eq_false (show ¬ ((l - (s_IntS x.2.2.1 : Int)) - (s_RewritingStepS x.2.2.2.1 : Int)) - (s_DerivationStepS x.2.2.2.2.1 : Int) < 0 by omega), cond_false]
  rw [fsz_IntSS (l := (((l - (s_IntS x.2.2.1 : Int)) - (s_RewritingStepS x.2.2.2.1 : Int)) - (s_DerivationStepS x.2.2.2.2.1 : Int))) h.2.2.2.2.2 (by omega) (by omega) hN, Option.bind_some]
  by_cases c3 : (s_IntSS x.2.2.2.2.2 : Int) ≤ (((l - (s_IntS x.2.2.1 : Int)) - (s_RewritingStepS x.2.2.2.1 : Int)) - (s_DerivationStepS x.2.2.2.2.1 : Int))
  case neg => rw [sub1_neg c3]; rw [sub1_neg (by omega)]; rfl
  rw [sub1_pos c3, decide_eq_false (show ¬ (((l - (s_IntS x.2.2.1 : Int)) - (s_RewritingStepS x.2.2.2.1 : Int)) - (s_DerivationStepS x.2.2.2.2.1 : Int)) - (s_IntSS x.2.2.2.2.2 : Int) < 0 by omega), cond_false]
  rw [sub1_pos (by omega)]; congr 1; omega
abbrev T_Explanation := List Int × Int × Bool × List Int × (List ((Int × List Int) × List Int × List Int)) × (List (List Int × Int)) × List (List Int)
noncomputable instance dec_Explanation : DecidableEq T_Explanation := fun _ _ => Classical.propDecidable _
def in_Explanation (x : T_Explanation) : Prop := in_IntS x.1 ∧ in_Justification x.2
def s_Explanation (x : T_Explanation) : Nat := s_IntS x.1 + s_Justification x.2
def b_Explanation (x : T_Explanation) : Prop := b_IntS x.1 ∧ b_Justification x.2
theorem b_of_Explanation {x : T_Explanation} (h : s_Explanation x ≤ 1048576) : b_Explanation x := ⟨b_of_IntS (by unfold s_Explanation at h; omega), b_of_Justification (by unfold s_Explanation at h; omega)⟩
theorem fto_Explanation {N : Nat} {x : T_Explanation} (h : b_Explanation x) (hN : 1048576 < N) : laws_toExplanation N x = some x := by
  simp [laws_toExplanation, fto_IntS h.1 hN, fto_Justification h.2 hN]
theorem feq_Explanation {N : Nat} {x y : T_Explanation} (h : b_Explanation x) (hN : 1048576 < N) : laws_eqExplanation N x y = some (decide (x = y)) := by
  simp only [laws_eqExplanation, bneI, bneB, beqB, seq_eq, feq_IntS h.1 hN, feq_Justification h.2 hN, Option.bind_some]
  obtain ⟨x0, x1⟩ := x
  obtain ⟨y0, y1⟩ := y
  simp only [Prod.mk.injEq]
  by_cases e0 : x0 = y0 <;>
  by_cases e1 : x1 = y1 <;> simp [e0, e1]
theorem fsz_Explanation {N : Nat} {x : T_Explanation} {l : Int} (h : in_Explanation x) (h0 : 0 ≤ l) (h1 : l ≤ 1048576) (hN : 1048576 < N) : laws_szExplanation N x l = some (sub1 l (s_Explanation x)) := by
  unfold laws_szExplanation s_Explanation
  rw [fsz_IntS (l := l) h.1 (by omega) (by omega) hN, Option.bind_some]
  by_cases c0 : (s_IntS x.1 : Int) ≤ l
  case neg => rw [sub1_neg c0]; rw [sub1_neg (by omega)]; rfl
  rw [sub1_pos c0, decide_eq_false (show ¬ l - (s_IntS x.1 : Int) < 0 by omega), cond_false]
  rw [fsz_Justification (l := (l - (s_IntS x.1 : Int))) h.2 (by omega) (by omega) hN, Option.bind_some]
  by_cases c1 : (s_Justification x.2 : Int) ≤ (l - (s_IntS x.1 : Int))
  case neg => rw [sub1_neg c1]; rw [sub1_neg (by omega)]; rfl
  rw [sub1_pos c1, decide_eq_false (show ¬ (l - (s_IntS x.1 : Int)) - (s_Justification x.2 : Int) < 0 by omega), cond_false]
  rw [sub1_pos (by omega)]; congr 1; omega
abbrev T_ExplanationS := List T_Explanation
def in_ExplanationS (a : T_ExplanationS) : Prop := a.length ≤ 9223372036854775807 ∧ ∀ y ∈ a, in_Explanation y
def s_ExplanationS (a : T_ExplanationS) : Nat := sumL s_Explanation a
def b_ExplanationS (a : T_ExplanationS) : Prop := a.length ≤ 1048576 ∧ ∀ y ∈ a, b_Explanation y
theorem b_of_ExplanationS {a : T_ExplanationS} (h : s_ExplanationS a ≤ 1048576) : b_ExplanationS a := ⟨(sumL_len h), fun y hy => b_of_Explanation (Nat.le_trans (sumL_mem hy) h)⟩
theorem fto_ExplanationS {N : Nat} {a : T_ExplanationS} (h : b_ExplanationS a) (hN : 1048576 < N) : laws_toExplanationS N a = some a := by
  have hl : a.length ≤ 1048576 := h.1
  unfold laws_toExplanationS laws_toExplanationS_b
  rw [makeOk_lt (by omega), grd_true]
  refine fill (b := a) (fun k out i => laws_toExplanationS_l0 N k a out i) (fun k out => by simp [laws_toExplanationS_l0, laws_toExplanationS_l0_b]) (fun k out j h1 h3 => ?_) (by omega) (by simp)
  have h2 : j < out.length := by omega
  have hj : (j : Int) < (a.length : Int) := by omega
  simp [laws_toExplanationS_l0, laws_toExplanationS_l0_b, hj, inb_lt h1, inb_lt h2, at_lt h1, fto_Explanation (h.2 _ (List.getElem_mem h1)) hN, w64_succ (show j < 4611686018427387904 by omega)]
theorem feq_ExplanationS {N : Nat} {a b : T_ExplanationS} (h : b_ExplanationS a) (hN : 1048576 < N) : laws_eqExplanationS N a b = some (decide (a = b)) := by
  have hla : a.length ≤ 1048576 := h.1
  unfold laws_eqExplanationS laws_eqExplanationS_b
  by_cases hl : a.length = b.length
  · have h0 : ((a.length : Int) != (b.length : Int)) = false := by simp [hl]
    rw [h0, cond_false, decide_eq_decide.2 (list_eq_iff' hl)]
    refine every (n := a.length) (fun j => decide (a[j]? = b[j]?)) (fun k i => laws_eqExplanationS_l0 N k a b i) (fun k => by simp [laws_eqExplanationS_l0, laws_eqExplanationS_l0_b]) (fun k j hj => ?_) (by omega)
    have h1 : (j : Int) < (a.length : Int) := by omega
    have h2 : j < b.length := by omega
    simp only [laws_eqExplanationS_l0, laws_eqExplanationS_l0_b, h1, decide_true, cond_true, inb_lt hj, inb_lt h2, grd_true, at_lt hj, at_lt h2, feq_Explanation (h.2 _ (List.getElem_mem hj)) hN, Option.bind_some, ite_dec, w64_succ (show j < 4611686018427387904 by omega), List.getElem?_eq_getElem hj, List.getElem?_eq_getElem h2, Option.some.injEq]
  · have h0 : ((a.length : Int) != (b.length : Int)) = true := by simp; omega
    rw [h0, cond_true]
    have : a ≠ b := fun h => hl (by rw [h])
    simp [this]
theorem fsz_ExplanationS {N : Nat} {a : T_ExplanationS} {l : Int} (h : in_ExplanationS a) (h0 : 0 ≤ l) (h1 : l ≤ 1048576) (hN : 1048576 < N) : laws_szExplanationS N a l = some (sub1 l (s_ExplanationS a)) := by
  have hlen := h.1
  unfold laws_szExplanationS laws_szExplanationS_b
  rw [w64_id (by omega) (by omega)]
  by_cases hc : (a.length : Int) ≤ l
  · rw [decide_eq_false (by omega), cond_false]
    rw [szL (a := a) (s := s_Explanation) (g := fun x l => laws_szExplanation N x l) (f := fun k l i => laws_szExplanationS_l0 N k a l i) (fun x hx l h0 h1 => fsz_Explanation (h.2 x hx) h0 h1 hN) (fun k l => by simp [laws_szExplanationS_l0, laws_szExplanationS_l0_b]) (fun k l j hj => by
        have h2 : (j : Int) < (a.length : Int) := by omega
        simp only [laws_szExplanationS_l0, laws_szExplanationS_l0_b, h2, decide_true, cond_true, inb_lt hj, grd_true, at_lt hj, w64_succ (show j < 4611686018427387904 by omega)]) (by omega) (by omega) (by omega)]
    unfold s_ExplanationS sumL sub1
    congr 1
    split <;> split <;> omega
  · rw [decide_eq_true (by omega), cond_true]
    unfold s_ExplanationS sumL sub1
    rw [if_neg (by omega)]
def me_ExplanationS (N : Nat) (x : T_Explanation) (k : Int) : T_Explanation := (mk_IntS N x.1 (k), ((k + (c_IntS x.1 : Int)), ((k + (c_IntS x.1 : Int) + 1).tmod 3 == 0), mk_IntS N x.2.2.2.1 (k + (c_IntS x.1 : Int) + 1 + 1), mk_RewritingStepS N x.2.2.2.2.1 (k + (c_IntS x.1 : Int) + 1 + 1 + (c_IntS x.2.2.2.1 : Int)), mk_DerivationStepS N x.2.2.2.2.2.1 (k + (c_IntS x.1 : Int) + 1 + 1 + (c_IntS x.2.2.2.1 : Int) + (c_RewritingStepS x.2.2.2.2.1 : Int)), mk_IntSS N x.2.2.2.2.2.2 (k + (c_IntS x.1 : Int) + 1 + 1 + (c_IntS x.2.2.2.1 : Int) + (c_RewritingStepS x.2.2.2.2.1 : Int) + (c_DerivationStepS x.2.2.2.2.2.1 : Int))))
def ce_ExplanationS (x : T_Explanation) : Nat := c_IntS x.1 + 1 + 1 + c_IntS x.2.2.2.1 + c_RewritingStepS x.2.2.2.2.1 + c_DerivationStepS x.2.2.2.2.2.1 + c_IntSS x.2.2.2.2.2.2
def mk_ExplanationS (N : Nat) (a : T_ExplanationS) (k : Int) : T_ExplanationS := mkL ce_ExplanationS (me_ExplanationS N) a k
def c_ExplanationS (a : T_ExplanationS) : Nat := costL ce_ExplanationS a
theorem c_s_ExplanationS (a : T_ExplanationS) : c_ExplanationS a ≤ 8 * s_ExplanationS a := costL_les (c := ce_ExplanationS) (fun x => by have h0 := c_s_IntS x.1; have h1 := c_s_IntS x.2.2.2.1; have h2 := c_s_RewritingStepS x.2.2.2.2.1; have h3 := c_s_DerivationStepS x.2.2.2.2.2.1; have h4 := c_s_IntSS x.2.2.2.2.2.2; unfold ce_ExplanationS s_Explanation s_Justification; omega) a
theorem fmk_ExplanationS {N : Nat} {a : T_ExplanationS} {k : Int} (h : b_ExplanationS a) (h0 : 0 ≤ k) (h1 : k + (c_ExplanationS a : Int) ≤ 4611686018427387904) (hN : 1048576 < N) : laws_markExplanationS N a k = some (mk_ExplanationS N a k, k + (c_ExplanationS a : Int)) := by
  have hla : a.length ≤ 1048576 := h.1
  unfold laws_markExplanationS laws_markExplanationS_b
  refine markL (P := fun y => b_Explanation y) (f := fun k a2 k2 i => laws_markExplanationS_l0 N k a2 k2 i) (fun k a2 k2 j hj => by subst hj; simp [laws_markExplanationS_l0, laws_markExplanationS_l0_b]) (fun k a2 k2 j h1 hy h0 hc hl => ?_) h.2 h0 h1 (by omega) (by omega)
  have h2 : (j : Int) < (a2.length : Int) := by omega
  have hy0 : b_IntS a2[j].1 := hy.1
  have hy1 : b_IntS a2[j].2.2.2.1 := hy.2.1
  have hy2 : b_RewritingStepS a2[j].2.2.2.2.1 := hy.2.2.1
  have hy3 : b_DerivationStepS a2[j].2.2.2.2.2.1 := hy.2.2.2.1
  have hy4 : b_IntSS a2[j].2.2.2.2.2.2 := hy.2.2.2.2
  simp only [ce_ExplanationS, Int.natCast_add, Int.cast_ofNat_Int, Int.natCast_one] at hc
  simp (disch := first | assumption | omega) only [laws_markExplanationS_l0, laws_markExplanationS_l0_b, h2, decide_true, cond_true, inb_lt h1, inb_set, grd_true, grz_ne, letv_eq, at_lt h1, at_set, set_set, Int.toNat_natCast, w64_ok, w64_succ, Option.bind_some, fmk_IntS, fmk_RewritingStepS, fmk_DerivationStepS, fmk_IntSS]
  simp only [ce_ExplanationS, me_ExplanationS, Int.natCast_add, Int.cast_ofNat_Int, Int.natCast_one, Int.add_assoc]
end Go.PL
namespace Go.PL
set_option linter.unusedVariables false
/-- A loop that appends a piece for each element. -/
theorem collect {α β : Type} {a : List α} (piece : α → List β) {f : Nat → List β → Int → Option (List β)} (hp : ∀ x ∈ a, (piece x).length ≤ 1) (hend : ∀ k out, f (k + 1) out (a.length : Int) = some out)
    (hstep : ∀ k out j (h : j < a.length), out.length ≤ j → f (k + 1) out (j : Int) = f k (out ++ piece a[j]) ((j + 1 : Nat) : Int)) {k : Nat} (hk : a.length < k) : f k [] 0 = some (a.flatMap piece) := by
  have := loop (fun k (q : List β × Nat) => f k q.1 (q.2 : Int)) (fun q => q.2 ≤ a.length ∧ q.1.length ≤ q.2 ∧ q.1 ++ (a.drop q.2).flatMap piece = a.flatMap piece) (fun q => a.length - q.2) (fun o => o = some (a.flatMap piece)) (fun k q hs => by
    obtain ⟨out, j⟩ := q
    obtain ⟨h1, h2, h3⟩ := hs
    simp only at h1 h2 h3 ⊢
    by_cases hj : j < a.length
    · right
      refine ⟨(out ++ piece a[j], j + 1), ⟨hj, ?_, ?_⟩, by simp only; omega, hstep k out j hj h2⟩
      · have := hp a[j] (List.getElem_mem hj)
        simp only [List.length_append]; omega
      · rw [← h3, List.drop_eq_getElem_cons hj, List.flatMap_cons, List.append_assoc]
    · left
      have : j = a.length := by omega
      subst this
      rw [hend, ← h3, List.drop_length]; simp) k ([], 0) (by simpa using hk) ⟨by simp, by simp, by simp⟩
  exact this
theorem appOk_lt {α : Type} {s x : List α} {b : Nat} (h : (s.length + x.length) * b ≤ 140737488355328) : appOk s x b = true := decide_eq_true h
theorem flatMap_len {α β : Type} {piece : α → List β} {n : Nat} : ∀ {a : List α}, (∀ x ∈ a, (piece x).length ≤ n) → (a.flatMap piece).length ≤ a.length * n
  | [], _ => by simp
  | x :: a, h => by
    have h1 := h x (by simp)
    have h2 := flatMap_len (a := a) fun y hy => h y (by simp [hy])
    rw [List.flatMap_cons, List.length_append, List.length_cons, Nat.add_mul]; omega

/-- What marks cost. -/
theorem cost_le {α : Type} {c : α → Nat} {n : Nat} : ∀ {a : List α}, (∀ x ∈ a, c x ≤ n) → costL c a ≤ a.length * n
  | [], _ => by simp [costL]
  | x :: a, h => by
    have h1 := h x (by simp)
    have h2 := cost_le (a := a) fun y hy => h y (by simp [hy])
    simp only [costL, List.map_cons, List.sum_cons, List.length_cons] at h2 ⊢
    rw [Nat.add_mul]; omega
theorem c_IntS_eq (a : List Int) : c_IntS a = a.length := by
  unfold c_IntS costL
  have : ce_IntS = fun _ => 1 := rfl
  rw [this]
  induction a with
  | nil => rfl
  | cons x a ih => simp only [List.map_cons, List.sum_cons, List.length_cons, ih]; omega
theorem c_IntSS_le {a : List (List Int)} (h : b_IntSS a) : c_IntSS a ≤ 1099511627776 := by
  have := cost_le (c := ce_IntSS) (n := 1048576) (a := a) fun x hx => by
    show c_IntS x ≤ 1048576
    rw [c_IntS_eq]; exact h.2 x hx
  have h2 : a.length ≤ 1048576 := h.1
  exact Nat.le_trans this (Nat.le_trans (Nat.mul_le_mul_right 1048576 h2) (by decide))
end Go.PL
namespace Go.PL
set_option linter.unusedVariables false
def rowC (e : T_Explanation) : List (List Int) := if e.2.2.1 then [e.1] else []
theorem rowC_len (e : T_Explanation) : (rowC e).length ≤ 1 := by unfold rowC; split <;> simp
theorem rowB {l : T_ExplanationS} (hl : b_ExplanationS l) : b_IntSS (l.flatMap rowC) := by
  have hll : l.length ≤ 1048576 := hl.1
  refine ⟨Nat.le_trans (flatMap_len (n := 1) fun x _ => rowC_len x) (by omega), fun y hy => ?_⟩
  simp only [List.mem_flatMap] at hy
  obtain ⟨i, hi, hy⟩ := hy
  unfold rowC at hy
  split at hy
  · obtain rfl : y = _ := by simpa using hy
    exact (hl.2 _ hi).1
  · simp at hy
theorem specRows {N : Nat} {l : T_ExplanationS} (hl : b_ExplanationS l) (hN : 1048576 < N) : spec_CertainRowsOf N l = some (l.flatMap rowC) := by
  have hll : l.length ≤ 1048576 := hl.1
  unfold spec_CertainRowsOf spec_CertainRowsOf_b
  refine collect (a := l) rowC (f := fun k out i => spec_CertainRowsOf_l0 N k l out i) (fun x _ => rowC_len x) (fun k out => by simp [spec_CertainRowsOf_l0, spec_CertainRowsOf_l0_b]) (fun k out j hj ho => ?_) (by omega)
  have h1 : (j : Int) < (l.length : Int) := by omega
  have h2 : l[j].1.length ≤ 1048576 := (hl.2 _ (List.getElem_mem hj)).1
  simp only [spec_CertainRowsOf_l0, spec_CertainRowsOf_l0_b, h1, decide_true, cond_true, inb_lt hj, grd_true, at_lt hj, w64_succ (show j < 4611686018427387904 by omega)]
  unfold rowC
  cases hb : l[j].2.2.1 with
  | true => rw [cond_true, if_pos rfl, appOk_lt (by simp; omega), grd_true, appOk_lt (by simp; omega), grd_true]
  | false => rw [cond_false, if_neg (by simp), List.append_nil]
theorem implRows {N : Nat} {l : T_ExplanationS} (hl : b_ExplanationS l) (hN : 1048576 < N) : impl_CertainRowsOf N l = some (l.flatMap rowC) := by
  have hll : l.length ≤ 1048576 := hl.1
  unfold impl_CertainRowsOf impl_CertainRowsOf_b
  refine collect (a := l) rowC (f := fun k out i => impl_CertainRowsOf_l0 N k out l (l.length : Int) i) (fun x _ => rowC_len x) (fun k out => by simp [impl_CertainRowsOf_l0, impl_CertainRowsOf_l0_b]) (fun k out j hj ho => ?_) (by omega)
  have h1 : (j : Int) < (l.length : Int) := by omega
  have h2 : l[j].1.length ≤ 1048576 := (hl.2 _ (List.getElem_mem hj)).1
  simp only [impl_CertainRowsOf_l0, impl_CertainRowsOf_l0_b, h1, decide_true, cond_true, inb_lt hj, grd_true, at_lt hj, w64_succ (show j < 4611686018427387904 by omega)]
  unfold rowC
  cases hb : l[j].2.2.1 with
  | true => rw [cond_true, if_pos rfl, appOk_lt (by simp; omega), grd_true, appOk_lt (by simp; omega), grd_true]
  | false => rw [cond_false, if_neg (by simp), List.append_nil]
end Go.PL
namespace Go.PL
theorem law_CertainRowsOf {N : Nat} (hN : 1048576 < N) {l : T_ExplanationS} (hc : in_ExplanationS l) : laws_FnExactCertainRowsOf N l = some true := by
  unfold laws_FnExactCertainRowsOf
  rw [fsz_ExplanationS hc (by omega) (by omega) hN, Option.bind_some]
  by_cases h1 : (s_ExplanationS l : Int) ≤ 1048576
  case neg => rw [sub1_neg h1]; rfl
  rw [sub1_pos h1, not_neg (by omega), cond_false]
  have hb : b_ExplanationS l := b_of_ExplanationS (by omega)
  have hr := rowB hb
  have hcr := c_IntSS_le hr
  have hcc := c_s_ExplanationS l
  simp only [fto_ExplanationS hb hN, Option.bind_some, specRows hb hN, implRows hb hN, feq_IntSS hr hN, feq_ExplanationS hb hN, decide_true, Bool.not_true, cond_false]
  rw [fmk_ExplanationS hb (by omega) (by omega) hN, Option.bind_some]
  simp only
  rw [not_neg (by omega), cond_false, fmk_IntSS hr (by omega) (by omega) hN, Option.bind_some]
  simp only [fhd_IntSS hr (show (0 : Int) ≤ 1 by omega) (by omega) hN, Option.bind_some]
  rw [not_neg (by omega)]
  simp
end Go.PL
