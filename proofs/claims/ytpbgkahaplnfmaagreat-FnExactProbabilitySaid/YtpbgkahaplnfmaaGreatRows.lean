/-
  No cell of these rows narrows 'for every input' (looked for: loops, veiled, ifaces, maps, wideKeys, modest, calm, conditions, laid).
  DERIVED. THE GIVEN ROWS OF THIS SEAT. 11 by the template 'for every input the law returns true; each argument reads behind the call as it read before'; 0 by the template 'total and deterministic' (their statements: YtpbgkahaplnfmaaGreatTotals.lean).
  GIVEN WITH THE SEED: the statements are not yours to turn. If you find one false, say at which input.
  Laid BY PROGRAM, IN A SANDBOX (cutbox-rows.mjs): the forced cells as the released guide's own fill.sh prints them over the translation 6956bc0256c42c2d… (all of the seat's roots in one cut). By AI agents, Wed Nov 11 2026. No macro, syntax, notation, axiom, sorry.
-/
import Derived.Test.YtpbgkahaplnfmaaGreatChecked
import GoSem.Claim
import GoSem.ClaimJoined
import GoSem.ClaimMapViews
import Derived.JoinedTies
import Derived.KernelRfl
namespace Go.Proofs.YtpbgkahaplnfmaaGreat
/- THE CELL 'sum', in the pinned program and in every row, IS THE sha256 OF THE DUMP (.gsa) THAT YtpbgkahaplnfmaaGreatProg.lean LOADS. Nothing in Lean hashes anything: it is a label: what it is worth is what the hold of that sum in a sandbox is worth. -/
noncomputable def Tryz.pinned : Pinned := { name := "ytpbgkahaplnfmaagreat", sum := "6956bc0256c42c2dc857944bb911add6a9183fb6b4498aabd396167e505661db", checked := Tryz.checked }
namespace Rows
def none {H : Type} : Left H := { results := [], args := [] }

/-- 'laws.FnExactProbability': WHATEVER THE INPUT: true; the input reads as it did. -/
def fnExactProbabilitySpec : ChangeSpec := { name := "fnExactProbability", fn := fun _ => fun
  | [d1, d2, d3] => { results := [.lit (.bool true)], args := [d1, d2, d3] }
  | _ => none }
def fnExactProbabilityRow : OpenClaim := { program := "ytpbgkahaplnfmaagreat", sum := "6956bc0256c42c2dc857944bb911add6a9183fb6b4498aabd396167e505661db", func := "loop.example/g01918/laws.FnExactProbability", spec := "fnExactProbability", unfollowed := true, recurses := true, apart := false }
def FnExactProbabilitySaid : Prop := fnExactProbabilityRow.holds Tryz.pinned (OpenSpec.ofChange fnExactProbabilitySpec)

/-- ITS FALSE NEIGHBOUR: 'it returns false'. Refute it at one input. -/
def fnExactProbabilityWrong : ChangeSpec := { name := "fnExactProbability", fn := fun _ => fun
  | [d1, d2, d3] => { results := [.lit (.bool false)], args := [d1, d2, d3] }
  | _ => none }
def FnExactProbabilityWrongFalsely : Prop := fnExactProbabilityRow.holds Tryz.pinned (OpenSpec.ofChange fnExactProbabilityWrong)

/-- 'laws.FnExactProbabilityByComponents': WHATEVER THE INPUT: true; the input reads as it did. -/
def fnExactProbabilityByComponentsSpec : ChangeSpec := { name := "fnExactProbabilityByComponents", fn := fun _ => fun
  | [d1, d2, d3] => { results := [.lit (.bool true)], args := [d1, d2, d3] }
  | _ => none }
def fnExactProbabilityByComponentsRow : OpenClaim := { program := "ytpbgkahaplnfmaagreat", sum := "6956bc0256c42c2dc857944bb911add6a9183fb6b4498aabd396167e505661db", func := "loop.example/g01918/laws.FnExactProbabilityByComponents", spec := "fnExactProbabilityByComponents", unfollowed := true, recurses := true, apart := false }
def FnExactProbabilityByComponentsSaid : Prop := fnExactProbabilityByComponentsRow.holds Tryz.pinned (OpenSpec.ofChange fnExactProbabilityByComponentsSpec)

/-- ITS FALSE NEIGHBOUR: 'it returns false'. Refute it at one input. -/
def fnExactProbabilityByComponentsWrong : ChangeSpec := { name := "fnExactProbabilityByComponents", fn := fun _ => fun
  | [d1, d2, d3] => { results := [.lit (.bool false)], args := [d1, d2, d3] }
  | _ => none }
def FnExactProbabilityByComponentsWrongFalsely : Prop := fnExactProbabilityByComponentsRow.holds Tryz.pinned (OpenSpec.ofChange fnExactProbabilityByComponentsWrong)

/-- 'laws.FnExactSubsetCounts': WHATEVER THE INPUT: true; the input reads as it did. -/
def fnExactSubsetCountsSpec : ChangeSpec := { name := "fnExactSubsetCounts", fn := fun _ => fun
  | [d1, d2, d3] => { results := [.lit (.bool true)], args := [d1, d2, d3] }
  | _ => none }
def fnExactSubsetCountsRow : OpenClaim := { program := "ytpbgkahaplnfmaagreat", sum := "6956bc0256c42c2dc857944bb911add6a9183fb6b4498aabd396167e505661db", func := "loop.example/g01918/laws.FnExactSubsetCounts", spec := "fnExactSubsetCounts", unfollowed := true, recurses := true, apart := false }
def FnExactSubsetCountsSaid : Prop := fnExactSubsetCountsRow.holds Tryz.pinned (OpenSpec.ofChange fnExactSubsetCountsSpec)

/-- ITS FALSE NEIGHBOUR: 'it returns false'. Refute it at one input. -/
def fnExactSubsetCountsWrong : ChangeSpec := { name := "fnExactSubsetCounts", fn := fun _ => fun
  | [d1, d2, d3] => { results := [.lit (.bool false)], args := [d1, d2, d3] }
  | _ => none }
def FnExactSubsetCountsWrongFalsely : Prop := fnExactSubsetCountsRow.holds Tryz.pinned (OpenSpec.ofChange fnExactSubsetCountsWrong)

/-- 'laws.FnExactSubsetPossible': WHATEVER THE INPUT: true; the input reads as it did. -/
def fnExactSubsetPossibleSpec : ChangeSpec := { name := "fnExactSubsetPossible", fn := fun _ => fun
  | [d1, d2, d3] => { results := [.lit (.bool true)], args := [d1, d2, d3] }
  | _ => none }
def fnExactSubsetPossibleRow : OpenClaim := { program := "ytpbgkahaplnfmaagreat", sum := "6956bc0256c42c2dc857944bb911add6a9183fb6b4498aabd396167e505661db", func := "loop.example/g01918/laws.FnExactSubsetPossible", spec := "fnExactSubsetPossible", unfollowed := true, recurses := true, apart := false }
def FnExactSubsetPossibleSaid : Prop := fnExactSubsetPossibleRow.holds Tryz.pinned (OpenSpec.ofChange fnExactSubsetPossibleSpec)

/-- ITS FALSE NEIGHBOUR: 'it returns false'. Refute it at one input. -/
def fnExactSubsetPossibleWrong : ChangeSpec := { name := "fnExactSubsetPossible", fn := fun _ => fun
  | [d1, d2, d3] => { results := [.lit (.bool false)], args := [d1, d2, d3] }
  | _ => none }
def FnExactSubsetPossibleWrongFalsely : Prop := fnExactSubsetPossibleRow.holds Tryz.pinned (OpenSpec.ofChange fnExactSubsetPossibleWrong)

/-- 'laws.FnExactSubsetCertain': WHATEVER THE INPUT: true; the input reads as it did. -/
def fnExactSubsetCertainSpec : ChangeSpec := { name := "fnExactSubsetCertain", fn := fun _ => fun
  | [d1, d2, d3] => { results := [.lit (.bool true)], args := [d1, d2, d3] }
  | _ => none }
def fnExactSubsetCertainRow : OpenClaim := { program := "ytpbgkahaplnfmaagreat", sum := "6956bc0256c42c2dc857944bb911add6a9183fb6b4498aabd396167e505661db", func := "loop.example/g01918/laws.FnExactSubsetCertain", spec := "fnExactSubsetCertain", unfollowed := true, recurses := true, apart := false }
def FnExactSubsetCertainSaid : Prop := fnExactSubsetCertainRow.holds Tryz.pinned (OpenSpec.ofChange fnExactSubsetCertainSpec)

/-- ITS FALSE NEIGHBOUR: 'it returns false'. Refute it at one input. -/
def fnExactSubsetCertainWrong : ChangeSpec := { name := "fnExactSubsetCertain", fn := fun _ => fun
  | [d1, d2, d3] => { results := [.lit (.bool false)], args := [d1, d2, d3] }
  | _ => none }
def FnExactSubsetCertainWrongFalsely : Prop := fnExactSubsetCertainRow.holds Tryz.pinned (OpenSpec.ofChange fnExactSubsetCertainWrong)

/-- 'laws.FnExactCardinalityCertain': WHATEVER THE INPUT: true; the input reads as it did. -/
def fnExactCardinalityCertainSpec : ChangeSpec := { name := "fnExactCardinalityCertain", fn := fun _ => fun
  | [d1, d2, d3] => { results := [.lit (.bool true)], args := [d1, d2, d3] }
  | _ => none }
def fnExactCardinalityCertainRow : OpenClaim := { program := "ytpbgkahaplnfmaagreat", sum := "6956bc0256c42c2dc857944bb911add6a9183fb6b4498aabd396167e505661db", func := "loop.example/g01918/laws.FnExactCardinalityCertain", spec := "fnExactCardinalityCertain", unfollowed := true, recurses := true, apart := false }
def FnExactCardinalityCertainSaid : Prop := fnExactCardinalityCertainRow.holds Tryz.pinned (OpenSpec.ofChange fnExactCardinalityCertainSpec)

/-- ITS FALSE NEIGHBOUR: 'it returns false'. Refute it at one input. -/
def fnExactCardinalityCertainWrong : ChangeSpec := { name := "fnExactCardinalityCertain", fn := fun _ => fun
  | [d1, d2, d3] => { results := [.lit (.bool false)], args := [d1, d2, d3] }
  | _ => none }
def FnExactCardinalityCertainWrongFalsely : Prop := fnExactCardinalityCertainRow.holds Tryz.pinned (OpenSpec.ofChange fnExactCardinalityCertainWrong)

/-- 'laws.FnExactSubsetFalsifyingRepair': WHATEVER THE INPUT: true; the input reads as it did. -/
def fnExactSubsetFalsifyingRepairSpec : ChangeSpec := { name := "fnExactSubsetFalsifyingRepair", fn := fun _ => fun
  | [d1, d2, d3] => { results := [.lit (.bool true)], args := [d1, d2, d3] }
  | _ => none }
def fnExactSubsetFalsifyingRepairRow : OpenClaim := { program := "ytpbgkahaplnfmaagreat", sum := "6956bc0256c42c2dc857944bb911add6a9183fb6b4498aabd396167e505661db", func := "loop.example/g01918/laws.FnExactSubsetFalsifyingRepair", spec := "fnExactSubsetFalsifyingRepair", unfollowed := true, recurses := true, apart := false }
def FnExactSubsetFalsifyingRepairSaid : Prop := fnExactSubsetFalsifyingRepairRow.holds Tryz.pinned (OpenSpec.ofChange fnExactSubsetFalsifyingRepairSpec)

/-- ITS FALSE NEIGHBOUR: 'it returns false'. Refute it at one input. -/
def fnExactSubsetFalsifyingRepairWrong : ChangeSpec := { name := "fnExactSubsetFalsifyingRepair", fn := fun _ => fun
  | [d1, d2, d3] => { results := [.lit (.bool false)], args := [d1, d2, d3] }
  | _ => none }
def FnExactSubsetFalsifyingRepairWrongFalsely : Prop := fnExactSubsetFalsifyingRepairRow.holds Tryz.pinned (OpenSpec.ofChange fnExactSubsetFalsifyingRepairWrong)

/-- 'laws.FnExactCardinalityFalsifyingRepair': WHATEVER THE INPUT: true; the input reads as it did. -/
def fnExactCardinalityFalsifyingRepairSpec : ChangeSpec := { name := "fnExactCardinalityFalsifyingRepair", fn := fun _ => fun
  | [d1, d2, d3] => { results := [.lit (.bool true)], args := [d1, d2, d3] }
  | _ => none }
def fnExactCardinalityFalsifyingRepairRow : OpenClaim := { program := "ytpbgkahaplnfmaagreat", sum := "6956bc0256c42c2dc857944bb911add6a9183fb6b4498aabd396167e505661db", func := "loop.example/g01918/laws.FnExactCardinalityFalsifyingRepair", spec := "fnExactCardinalityFalsifyingRepair", unfollowed := true, recurses := true, apart := false }
def FnExactCardinalityFalsifyingRepairSaid : Prop := fnExactCardinalityFalsifyingRepairRow.holds Tryz.pinned (OpenSpec.ofChange fnExactCardinalityFalsifyingRepairSpec)

/-- ITS FALSE NEIGHBOUR: 'it returns false'. Refute it at one input. -/
def fnExactCardinalityFalsifyingRepairWrong : ChangeSpec := { name := "fnExactCardinalityFalsifyingRepair", fn := fun _ => fun
  | [d1, d2, d3] => { results := [.lit (.bool false)], args := [d1, d2, d3] }
  | _ => none }
def FnExactCardinalityFalsifyingRepairWrongFalsely : Prop := fnExactCardinalityFalsifyingRepairRow.holds Tryz.pinned (OpenSpec.ofChange fnExactCardinalityFalsifyingRepairWrong)

/-- 'laws.FnExactPreferredCertain': WHATEVER THE INPUT: true; the input reads as it did. -/
def fnExactPreferredCertainSpec : ChangeSpec := { name := "fnExactPreferredCertain", fn := fun _ => fun
  | [d1, d2, d3, d4] => { results := [.lit (.bool true)], args := [d1, d2, d3, d4] }
  | _ => none }
def fnExactPreferredCertainRow : OpenClaim := { program := "ytpbgkahaplnfmaagreat", sum := "6956bc0256c42c2dc857944bb911add6a9183fb6b4498aabd396167e505661db", func := "loop.example/g01918/laws.FnExactPreferredCertain", spec := "fnExactPreferredCertain", unfollowed := true, recurses := true, apart := false }
def FnExactPreferredCertainSaid : Prop := fnExactPreferredCertainRow.holds Tryz.pinned (OpenSpec.ofChange fnExactPreferredCertainSpec)

/-- ITS FALSE NEIGHBOUR: 'it returns false'. Refute it at one input. -/
def fnExactPreferredCertainWrong : ChangeSpec := { name := "fnExactPreferredCertain", fn := fun _ => fun
  | [d1, d2, d3, d4] => { results := [.lit (.bool false)], args := [d1, d2, d3, d4] }
  | _ => none }
def FnExactPreferredCertainWrongFalsely : Prop := fnExactPreferredCertainRow.holds Tryz.pinned (OpenSpec.ofChange fnExactPreferredCertainWrong)

/-- 'laws.FnExactResponsibleFacts': WHATEVER THE INPUT: true; the input reads as it did. -/
def fnExactResponsibleFactsSpec : ChangeSpec := { name := "fnExactResponsibleFacts", fn := fun _ => fun
  | [d1, d2] => { results := [.lit (.bool true)], args := [d1, d2] }
  | _ => none }
def fnExactResponsibleFactsRow : OpenClaim := { program := "ytpbgkahaplnfmaagreat", sum := "6956bc0256c42c2dc857944bb911add6a9183fb6b4498aabd396167e505661db", func := "loop.example/g01918/laws.FnExactResponsibleFacts", spec := "fnExactResponsibleFacts", unfollowed := true, recurses := true, apart := false }
def FnExactResponsibleFactsSaid : Prop := fnExactResponsibleFactsRow.holds Tryz.pinned (OpenSpec.ofChange fnExactResponsibleFactsSpec)

/-- ITS FALSE NEIGHBOUR: 'it returns false'. Refute it at one input. -/
def fnExactResponsibleFactsWrong : ChangeSpec := { name := "fnExactResponsibleFacts", fn := fun _ => fun
  | [d1, d2] => { results := [.lit (.bool false)], args := [d1, d2] }
  | _ => none }
def FnExactResponsibleFactsWrongFalsely : Prop := fnExactResponsibleFactsRow.holds Tryz.pinned (OpenSpec.ofChange fnExactResponsibleFactsWrong)

/-- 'laws.FnExactGreedyCertain': WHATEVER THE INPUT: true; the input reads as it did. -/
def fnExactGreedyCertainSpec : ChangeSpec := { name := "fnExactGreedyCertain", fn := fun _ => fun
  | [d1, d2, d3, d4] => { results := [.lit (.bool true)], args := [d1, d2, d3, d4] }
  | _ => none }
def fnExactGreedyCertainRow : OpenClaim := { program := "ytpbgkahaplnfmaagreat", sum := "6956bc0256c42c2dc857944bb911add6a9183fb6b4498aabd396167e505661db", func := "loop.example/g01918/laws.FnExactGreedyCertain", spec := "fnExactGreedyCertain", unfollowed := true, recurses := true, apart := false }
def FnExactGreedyCertainSaid : Prop := fnExactGreedyCertainRow.holds Tryz.pinned (OpenSpec.ofChange fnExactGreedyCertainSpec)

/-- ITS FALSE NEIGHBOUR: 'it returns false'. Refute it at one input. -/
def fnExactGreedyCertainWrong : ChangeSpec := { name := "fnExactGreedyCertain", fn := fun _ => fun
  | [d1, d2, d3, d4] => { results := [.lit (.bool false)], args := [d1, d2, d3, d4] }
  | _ => none }
def FnExactGreedyCertainWrongFalsely : Prop := fnExactGreedyCertainRow.holds Tryz.pinned (OpenSpec.ofChange fnExactGreedyCertainWrong)

/- THE SECOND FORM. 'bulk': how many values and letters a reading holds, each counted each time it is reached (what is shared counts as often as it is met; a slice's spare places count too). A statement '..UptoSaid' is the law's where the arguments, and the package variables that the reading takes, are together of bulk at most 1048576: NARROWER than '..Said'. Prove '..Said' where nothing that the law and all that it calls make is longer than what came in: it says more and counts as full. Else prove '..UptoSaid'. A law counts once. -/
mutual
def uptoBulk {H : Type} : DataW H → Nat
  | .lit (.string bytes) => bytes.length + 1
  | .lit _ => 1
  | .nil => 1
  | .ptr d => uptoBulk d + 1
  | .slice elems spare => uptoBulkAll elems + uptoBulkAll spare + 1
  | .agg parts => uptoBulkAll parts + 1
  | .iface _ d => uptoBulk d + 1
  | .map entries => uptoBulkEntries entries + 1
  | .held _ => 1
def uptoBulkAll {H : Type} : List (DataW H) → Nat
  | [] => 0
  | d :: r => uptoBulk d + uptoBulkAll r
def uptoBulkEntries {H : Type} : List (Lit × DataW H) → Nat
  | [] => 0
  | x :: r => uptoBulkEntry x + uptoBulkEntries r
def uptoBulkEntry {H : Type} : Lit × DataW H → Nat
  | (.string bytes, d) => bytes.length + uptoBulk d + 1
  | (_, d) => uptoBulk d + 1
 end
def uptoSmall : (H : Type) → List (DataW H) → Bool := fun _ ds => decide (uptoBulkAll ds ≤ 1048576)
def OpenSpec.upto (s : _root_.Go.ChangeSpec) : _root_.Go.OpenSpec := { _root_.Go.OpenSpec.ofChange s with cond := some uptoSmall }

/-- 'laws.FnExactProbability', WHERE WHAT IT READS IS OF BULK AT MOST 1048576: true; the input reads as it did. -/
def fnExactProbabilityUptoRow : OpenClaim := { program := "ytpbgkahaplnfmaagreat", sum := "6956bc0256c42c2dc857944bb911add6a9183fb6b4498aabd396167e505661db", func := "loop.example/g01918/laws.FnExactProbability", spec := "fnExactProbability", unfollowed := true, recurses := true, apart := false, narrowed := true }
def FnExactProbabilityUptoSaid : Prop := fnExactProbabilityUptoRow.holds Tryz.pinned (OpenSpec.upto fnExactProbabilitySpec)

/-- 'laws.FnExactProbabilityByComponents', WHERE WHAT IT READS IS OF BULK AT MOST 1048576: true; the input reads as it did. -/
def fnExactProbabilityByComponentsUptoRow : OpenClaim := { program := "ytpbgkahaplnfmaagreat", sum := "6956bc0256c42c2dc857944bb911add6a9183fb6b4498aabd396167e505661db", func := "loop.example/g01918/laws.FnExactProbabilityByComponents", spec := "fnExactProbabilityByComponents", unfollowed := true, recurses := true, apart := false, narrowed := true }
def FnExactProbabilityByComponentsUptoSaid : Prop := fnExactProbabilityByComponentsUptoRow.holds Tryz.pinned (OpenSpec.upto fnExactProbabilityByComponentsSpec)

/-- 'laws.FnExactSubsetCounts', WHERE WHAT IT READS IS OF BULK AT MOST 1048576: true; the input reads as it did. -/
def fnExactSubsetCountsUptoRow : OpenClaim := { program := "ytpbgkahaplnfmaagreat", sum := "6956bc0256c42c2dc857944bb911add6a9183fb6b4498aabd396167e505661db", func := "loop.example/g01918/laws.FnExactSubsetCounts", spec := "fnExactSubsetCounts", unfollowed := true, recurses := true, apart := false, narrowed := true }
def FnExactSubsetCountsUptoSaid : Prop := fnExactSubsetCountsUptoRow.holds Tryz.pinned (OpenSpec.upto fnExactSubsetCountsSpec)

/-- 'laws.FnExactSubsetPossible', WHERE WHAT IT READS IS OF BULK AT MOST 1048576: true; the input reads as it did. -/
def fnExactSubsetPossibleUptoRow : OpenClaim := { program := "ytpbgkahaplnfmaagreat", sum := "6956bc0256c42c2dc857944bb911add6a9183fb6b4498aabd396167e505661db", func := "loop.example/g01918/laws.FnExactSubsetPossible", spec := "fnExactSubsetPossible", unfollowed := true, recurses := true, apart := false, narrowed := true }
def FnExactSubsetPossibleUptoSaid : Prop := fnExactSubsetPossibleUptoRow.holds Tryz.pinned (OpenSpec.upto fnExactSubsetPossibleSpec)

/-- 'laws.FnExactSubsetCertain', WHERE WHAT IT READS IS OF BULK AT MOST 1048576: true; the input reads as it did. -/
def fnExactSubsetCertainUptoRow : OpenClaim := { program := "ytpbgkahaplnfmaagreat", sum := "6956bc0256c42c2dc857944bb911add6a9183fb6b4498aabd396167e505661db", func := "loop.example/g01918/laws.FnExactSubsetCertain", spec := "fnExactSubsetCertain", unfollowed := true, recurses := true, apart := false, narrowed := true }
def FnExactSubsetCertainUptoSaid : Prop := fnExactSubsetCertainUptoRow.holds Tryz.pinned (OpenSpec.upto fnExactSubsetCertainSpec)

/-- 'laws.FnExactCardinalityCertain', WHERE WHAT IT READS IS OF BULK AT MOST 1048576: true; the input reads as it did. -/
def fnExactCardinalityCertainUptoRow : OpenClaim := { program := "ytpbgkahaplnfmaagreat", sum := "6956bc0256c42c2dc857944bb911add6a9183fb6b4498aabd396167e505661db", func := "loop.example/g01918/laws.FnExactCardinalityCertain", spec := "fnExactCardinalityCertain", unfollowed := true, recurses := true, apart := false, narrowed := true }
def FnExactCardinalityCertainUptoSaid : Prop := fnExactCardinalityCertainUptoRow.holds Tryz.pinned (OpenSpec.upto fnExactCardinalityCertainSpec)

/-- 'laws.FnExactSubsetFalsifyingRepair', WHERE WHAT IT READS IS OF BULK AT MOST 1048576: true; the input reads as it did. -/
def fnExactSubsetFalsifyingRepairUptoRow : OpenClaim := { program := "ytpbgkahaplnfmaagreat", sum := "6956bc0256c42c2dc857944bb911add6a9183fb6b4498aabd396167e505661db", func := "loop.example/g01918/laws.FnExactSubsetFalsifyingRepair", spec := "fnExactSubsetFalsifyingRepair", unfollowed := true, recurses := true, apart := false, narrowed := true }
def FnExactSubsetFalsifyingRepairUptoSaid : Prop := fnExactSubsetFalsifyingRepairUptoRow.holds Tryz.pinned (OpenSpec.upto fnExactSubsetFalsifyingRepairSpec)

/-- 'laws.FnExactCardinalityFalsifyingRepair', WHERE WHAT IT READS IS OF BULK AT MOST 1048576: true; the input reads as it did. -/
def fnExactCardinalityFalsifyingRepairUptoRow : OpenClaim := { program := "ytpbgkahaplnfmaagreat", sum := "6956bc0256c42c2dc857944bb911add6a9183fb6b4498aabd396167e505661db", func := "loop.example/g01918/laws.FnExactCardinalityFalsifyingRepair", spec := "fnExactCardinalityFalsifyingRepair", unfollowed := true, recurses := true, apart := false, narrowed := true }
def FnExactCardinalityFalsifyingRepairUptoSaid : Prop := fnExactCardinalityFalsifyingRepairUptoRow.holds Tryz.pinned (OpenSpec.upto fnExactCardinalityFalsifyingRepairSpec)

/-- 'laws.FnExactPreferredCertain', WHERE WHAT IT READS IS OF BULK AT MOST 1048576: true; the input reads as it did. -/
def fnExactPreferredCertainUptoRow : OpenClaim := { program := "ytpbgkahaplnfmaagreat", sum := "6956bc0256c42c2dc857944bb911add6a9183fb6b4498aabd396167e505661db", func := "loop.example/g01918/laws.FnExactPreferredCertain", spec := "fnExactPreferredCertain", unfollowed := true, recurses := true, apart := false, narrowed := true }
def FnExactPreferredCertainUptoSaid : Prop := fnExactPreferredCertainUptoRow.holds Tryz.pinned (OpenSpec.upto fnExactPreferredCertainSpec)

/-- 'laws.FnExactResponsibleFacts', WHERE WHAT IT READS IS OF BULK AT MOST 1048576: true; the input reads as it did. -/
def fnExactResponsibleFactsUptoRow : OpenClaim := { program := "ytpbgkahaplnfmaagreat", sum := "6956bc0256c42c2dc857944bb911add6a9183fb6b4498aabd396167e505661db", func := "loop.example/g01918/laws.FnExactResponsibleFacts", spec := "fnExactResponsibleFacts", unfollowed := true, recurses := true, apart := false, narrowed := true }
def FnExactResponsibleFactsUptoSaid : Prop := fnExactResponsibleFactsUptoRow.holds Tryz.pinned (OpenSpec.upto fnExactResponsibleFactsSpec)

/-- 'laws.FnExactGreedyCertain', WHERE WHAT IT READS IS OF BULK AT MOST 1048576: true; the input reads as it did. -/
def fnExactGreedyCertainUptoRow : OpenClaim := { program := "ytpbgkahaplnfmaagreat", sum := "6956bc0256c42c2dc857944bb911add6a9183fb6b4498aabd396167e505661db", func := "loop.example/g01918/laws.FnExactGreedyCertain", spec := "fnExactGreedyCertain", unfollowed := true, recurses := true, apart := false, narrowed := true }
def FnExactGreedyCertainUptoSaid : Prop := fnExactGreedyCertainUptoRow.holds Tryz.pinned (OpenSpec.upto fnExactGreedyCertainSpec)

end Rows
end Go.Proofs.YtpbgkahaplnfmaaGreat
