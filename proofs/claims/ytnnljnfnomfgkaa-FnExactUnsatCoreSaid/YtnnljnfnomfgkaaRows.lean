/-
  No cell of these rows narrows 'for every input' (looked for: loops, veiled, ifaces, maps, wideKeys, modest, calm, conditions, laid).
  DERIVED. THE GIVEN ROWS OF THIS SEAT. 12 by the template 'for every input the law returns true; each argument reads behind the call as it read before'; 0 by the template 'total and deterministic' (their statements: YtnnljnfnomfgkaaTotals.lean).
  GIVEN WITH THE SEED: the statements are not yours to turn. If you find one false, say at which input.
  Laid BY PROGRAM, IN A SANDBOX (cutbox-rows.mjs): the forced cells as the released guide's own fill.sh prints them over the translation db488dc658bd0bed… (all of the seat's roots in one cut). By AI agents, Wed Nov 11 2026. No macro, syntax, notation, axiom, sorry.
-/
import Derived.Test.YtnnljnfnomfgkaaChecked
import GoSem.Claim
import GoSem.ClaimJoined
import GoSem.ClaimMapViews
import Derived.JoinedTies
import Derived.KernelRfl
namespace Go.Proofs.Ytnnljnfnomfgkaa
/- THE CELL 'sum', in the pinned program and in every row, IS THE sha256 OF THE DUMP (.gsa) THAT YtnnljnfnomfgkaaProg.lean LOADS. Nothing in Lean hashes anything: it is a label: what it is worth is what the hold of that sum in a sandbox is worth. -/
noncomputable def Try.pinned : Pinned := { name := "ytnnljnfnomfgkaa", sum := "db488dc658bd0bed2ebce8dcab6282e37f04a70d1c6a008f3fcc02537e98cd86", checked := Try.checked }
namespace Rows
def none {H : Type} : Left H := { results := [], args := [] }

/-- 'laws.FnExactLadderQuery': WHATEVER THE INPUT: true; the input reads as it did. -/
def fnExactLadderQuerySpec : ChangeSpec := { name := "fnExactLadderQuery", fn := fun _ => fun
  | [] => { results := [.lit (.bool true)], args := [] }
  | _ => none }
def fnExactLadderQueryRow : OpenClaim := { program := "ytnnljnfnomfgkaa", sum := "db488dc658bd0bed2ebce8dcab6282e37f04a70d1c6a008f3fcc02537e98cd86", func := "loop.example/g01918/laws.FnExactLadderQuery", spec := "fnExactLadderQuery", apart := false }
def FnExactLadderQuerySaid : Prop := fnExactLadderQueryRow.holds Try.pinned (OpenSpec.ofChange fnExactLadderQuerySpec)

/-- ITS FALSE NEIGHBOUR: 'it returns false'. Refute it at one input. -/
def fnExactLadderQueryWrong : ChangeSpec := { name := "fnExactLadderQuery", fn := fun _ => fun
  | [] => { results := [.lit (.bool false)], args := [] }
  | _ => none }
def FnExactLadderQueryWrongFalsely : Prop := fnExactLadderQueryRow.holds Try.pinned (OpenSpec.ofChange fnExactLadderQueryWrong)

/-- 'laws.FnExactSelectClauses': WHATEVER THE INPUT: true; the input reads as it did. -/
def fnExactSelectClausesSpec : ChangeSpec := { name := "fnExactSelectClauses", fn := fun _ => fun
  | [d1, d2] => { results := [.lit (.bool true)], args := [d1, d2] }
  | _ => none }
def fnExactSelectClausesRow : OpenClaim := { program := "ytnnljnfnomfgkaa", sum := "db488dc658bd0bed2ebce8dcab6282e37f04a70d1c6a008f3fcc02537e98cd86", func := "loop.example/g01918/laws.FnExactSelectClauses", spec := "fnExactSelectClauses", apart := false }
def FnExactSelectClausesSaid : Prop := fnExactSelectClausesRow.holds Try.pinned (OpenSpec.ofChange fnExactSelectClausesSpec)

/-- ITS FALSE NEIGHBOUR: 'it returns false'. Refute it at one input. -/
def fnExactSelectClausesWrong : ChangeSpec := { name := "fnExactSelectClauses", fn := fun _ => fun
  | [d1, d2] => { results := [.lit (.bool false)], args := [d1, d2] }
  | _ => none }
def FnExactSelectClausesWrongFalsely : Prop := fnExactSelectClausesRow.holds Try.pinned (OpenSpec.ofChange fnExactSelectClausesWrong)

/-- 'laws.FnExactAreValidWeights': WHATEVER THE INPUT: true; the input reads as it did. -/
def fnExactAreValidWeightsSpec : ChangeSpec := { name := "fnExactAreValidWeights", fn := fun _ => fun
  | [d1, d2] => { results := [.lit (.bool true)], args := [d1, d2] }
  | _ => none }
def fnExactAreValidWeightsRow : OpenClaim := { program := "ytnnljnfnomfgkaa", sum := "db488dc658bd0bed2ebce8dcab6282e37f04a70d1c6a008f3fcc02537e98cd86", func := "loop.example/g01918/laws.FnExactAreValidWeights", spec := "fnExactAreValidWeights", unfollowed := true, recurses := true, apart := false }
def FnExactAreValidWeightsSaid : Prop := fnExactAreValidWeightsRow.holds Try.pinned (OpenSpec.ofChange fnExactAreValidWeightsSpec)

/-- ITS FALSE NEIGHBOUR: 'it returns false'. Refute it at one input. -/
def fnExactAreValidWeightsWrong : ChangeSpec := { name := "fnExactAreValidWeights", fn := fun _ => fun
  | [d1, d2] => { results := [.lit (.bool false)], args := [d1, d2] }
  | _ => none }
def FnExactAreValidWeightsWrongFalsely : Prop := fnExactAreValidWeightsRow.holds Try.pinned (OpenSpec.ofChange fnExactAreValidWeightsWrong)

/-- 'laws.FnExactUnsatCore': WHATEVER THE INPUT: true; the input reads as it did. -/
def fnExactUnsatCoreSpec : ChangeSpec := { name := "fnExactUnsatCore", fn := fun _ => fun
  | [d1, d2, d3] => { results := [.lit (.bool true)], args := [d1, d2, d3] }
  | _ => none }
def fnExactUnsatCoreRow : OpenClaim := { program := "ytnnljnfnomfgkaa", sum := "db488dc658bd0bed2ebce8dcab6282e37f04a70d1c6a008f3fcc02537e98cd86", func := "loop.example/g01918/laws.FnExactUnsatCore", spec := "fnExactUnsatCore", unfollowed := true, recurses := true, apart := false }
def FnExactUnsatCoreSaid : Prop := fnExactUnsatCoreRow.holds Try.pinned (OpenSpec.ofChange fnExactUnsatCoreSpec)

/-- ITS FALSE NEIGHBOUR: 'it returns false'. Refute it at one input. -/
def fnExactUnsatCoreWrong : ChangeSpec := { name := "fnExactUnsatCore", fn := fun _ => fun
  | [d1, d2, d3] => { results := [.lit (.bool false)], args := [d1, d2, d3] }
  | _ => none }
def FnExactUnsatCoreWrongFalsely : Prop := fnExactUnsatCoreRow.holds Try.pinned (OpenSpec.ofChange fnExactUnsatCoreWrong)

/-- 'laws.FnExactTrimProof': WHATEVER THE INPUT: true; the input reads as it did. -/
def fnExactTrimProofSpec : ChangeSpec := { name := "fnExactTrimProof", fn := fun _ => fun
  | [d1, d2, d3] => { results := [.lit (.bool true)], args := [d1, d2, d3] }
  | _ => none }
def fnExactTrimProofRow : OpenClaim := { program := "ytnnljnfnomfgkaa", sum := "db488dc658bd0bed2ebce8dcab6282e37f04a70d1c6a008f3fcc02537e98cd86", func := "loop.example/g01918/laws.FnExactTrimProof", spec := "fnExactTrimProof", unfollowed := true, recurses := true, apart := false }
def FnExactTrimProofSaid : Prop := fnExactTrimProofRow.holds Try.pinned (OpenSpec.ofChange fnExactTrimProofSpec)

/-- ITS FALSE NEIGHBOUR: 'it returns false'. Refute it at one input. -/
def fnExactTrimProofWrong : ChangeSpec := { name := "fnExactTrimProof", fn := fun _ => fun
  | [d1, d2, d3] => { results := [.lit (.bool false)], args := [d1, d2, d3] }
  | _ => none }
def FnExactTrimProofWrongFalsely : Prop := fnExactTrimProofRow.holds Try.pinned (OpenSpec.ofChange fnExactTrimProofWrong)

/-- 'laws.FnExactRepairWeight': WHATEVER THE INPUT: true; the input reads as it did. -/
def fnExactRepairWeightSpec : ChangeSpec := { name := "fnExactRepairWeight", fn := fun _ => fun
  | [d1, d2, d3] => { results := [.lit (.bool true)], args := [d1, d2, d3] }
  | _ => none }
def fnExactRepairWeightRow : OpenClaim := { program := "ytnnljnfnomfgkaa", sum := "db488dc658bd0bed2ebce8dcab6282e37f04a70d1c6a008f3fcc02537e98cd86", func := "loop.example/g01918/laws.FnExactRepairWeight", spec := "fnExactRepairWeight", unfollowed := true, recurses := true, apart := false }
def FnExactRepairWeightSaid : Prop := fnExactRepairWeightRow.holds Try.pinned (OpenSpec.ofChange fnExactRepairWeightSpec)

/-- ITS FALSE NEIGHBOUR: 'it returns false'. Refute it at one input. -/
def fnExactRepairWeightWrong : ChangeSpec := { name := "fnExactRepairWeight", fn := fun _ => fun
  | [d1, d2, d3] => { results := [.lit (.bool false)], args := [d1, d2, d3] }
  | _ => none }
def FnExactRepairWeightWrongFalsely : Prop := fnExactRepairWeightRow.holds Try.pinned (OpenSpec.ofChange fnExactRepairWeightWrong)

/-- 'laws.FnExactCertainRowsOf': WHATEVER THE INPUT: true; the input reads as it did. -/
def fnExactCertainRowsOfSpec : ChangeSpec := { name := "fnExactCertainRowsOf", fn := fun _ => fun
  | [d] => { results := [.lit (.bool true)], args := [d] }
  | _ => none }
def fnExactCertainRowsOfRow : OpenClaim := { program := "ytnnljnfnomfgkaa", sum := "db488dc658bd0bed2ebce8dcab6282e37f04a70d1c6a008f3fcc02537e98cd86", func := "loop.example/g01918/laws.FnExactCertainRowsOf", spec := "fnExactCertainRowsOf", apart := false }
def FnExactCertainRowsOfSaid : Prop := fnExactCertainRowsOfRow.holds Try.pinned (OpenSpec.ofChange fnExactCertainRowsOfSpec)

/-- ITS FALSE NEIGHBOUR: 'it returns false'. Refute it at one input. -/
def fnExactCertainRowsOfWrong : ChangeSpec := { name := "fnExactCertainRowsOf", fn := fun _ => fun
  | [d] => { results := [.lit (.bool false)], args := [d] }
  | _ => none }
def FnExactCertainRowsOfWrongFalsely : Prop := fnExactCertainRowsOfRow.holds Try.pinned (OpenSpec.ofChange fnExactCertainRowsOfWrong)

/-- 'laws.FnExactInconsistencyMeasure': WHATEVER THE INPUT: true; the input reads as it did. -/
def fnExactInconsistencyMeasureSpec : ChangeSpec := { name := "fnExactInconsistencyMeasure", fn := fun _ => fun
  | [d] => { results := [.lit (.bool true)], args := [d] }
  | _ => none }
def fnExactInconsistencyMeasureRow : OpenClaim := { program := "ytnnljnfnomfgkaa", sum := "db488dc658bd0bed2ebce8dcab6282e37f04a70d1c6a008f3fcc02537e98cd86", func := "loop.example/g01918/laws.FnExactInconsistencyMeasure", spec := "fnExactInconsistencyMeasure", unfollowed := true, recurses := true, apart := false }
def FnExactInconsistencyMeasureSaid : Prop := fnExactInconsistencyMeasureRow.holds Try.pinned (OpenSpec.ofChange fnExactInconsistencyMeasureSpec)

/-- ITS FALSE NEIGHBOUR: 'it returns false'. Refute it at one input. -/
def fnExactInconsistencyMeasureWrong : ChangeSpec := { name := "fnExactInconsistencyMeasure", fn := fun _ => fun
  | [d] => { results := [.lit (.bool false)], args := [d] }
  | _ => none }
def FnExactInconsistencyMeasureWrongFalsely : Prop := fnExactInconsistencyMeasureRow.holds Try.pinned (OpenSpec.ofChange fnExactInconsistencyMeasureWrong)

/-- 'laws.FnExactConflictStatistics': WHATEVER THE INPUT: true; the input reads as it did. -/
def fnExactConflictStatisticsSpec : ChangeSpec := { name := "fnExactConflictStatistics", fn := fun _ => fun
  | [d] => { results := [.lit (.bool true)], args := [d] }
  | _ => none }
def fnExactConflictStatisticsRow : OpenClaim := { program := "ytnnljnfnomfgkaa", sum := "db488dc658bd0bed2ebce8dcab6282e37f04a70d1c6a008f3fcc02537e98cd86", func := "loop.example/g01918/laws.FnExactConflictStatistics", spec := "fnExactConflictStatistics", unfollowed := true, recurses := true, apart := false }
def FnExactConflictStatisticsSaid : Prop := fnExactConflictStatisticsRow.holds Try.pinned (OpenSpec.ofChange fnExactConflictStatisticsSpec)

/-- ITS FALSE NEIGHBOUR: 'it returns false'. Refute it at one input. -/
def fnExactConflictStatisticsWrong : ChangeSpec := { name := "fnExactConflictStatistics", fn := fun _ => fun
  | [d] => { results := [.lit (.bool false)], args := [d] }
  | _ => none }
def FnExactConflictStatisticsWrongFalsely : Prop := fnExactConflictStatisticsRow.holds Try.pinned (OpenSpec.ofChange fnExactConflictStatisticsWrong)

/-- 'laws.FnExactTotalWeight': WHATEVER THE INPUT: true; the input reads as it did. -/
def fnExactTotalWeightSpec : ChangeSpec := { name := "fnExactTotalWeight", fn := fun _ => fun
  | [d1, d2] => { results := [.lit (.bool true)], args := [d1, d2] }
  | _ => none }
def fnExactTotalWeightRow : OpenClaim := { program := "ytnnljnfnomfgkaa", sum := "db488dc658bd0bed2ebce8dcab6282e37f04a70d1c6a008f3fcc02537e98cd86", func := "loop.example/g01918/laws.FnExactTotalWeight", spec := "fnExactTotalWeight", unfollowed := true, recurses := true, apart := false }
def FnExactTotalWeightSaid : Prop := fnExactTotalWeightRow.holds Try.pinned (OpenSpec.ofChange fnExactTotalWeightSpec)

/-- ITS FALSE NEIGHBOUR: 'it returns false'. Refute it at one input. -/
def fnExactTotalWeightWrong : ChangeSpec := { name := "fnExactTotalWeight", fn := fun _ => fun
  | [d1, d2] => { results := [.lit (.bool false)], args := [d1, d2] }
  | _ => none }
def FnExactTotalWeightWrongFalsely : Prop := fnExactTotalWeightRow.holds Try.pinned (OpenSpec.ofChange fnExactTotalWeightWrong)

/-- 'laws.FnExactGroupInAllRepairs': WHATEVER THE INPUT: true; the input reads as it did. -/
def fnExactGroupInAllRepairsSpec : ChangeSpec := { name := "fnExactGroupInAllRepairs", fn := fun _ => fun
  | [d1, d2, d3, d4] => { results := [.lit (.bool true)], args := [d1, d2, d3, d4] }
  | _ => none }
def fnExactGroupInAllRepairsRow : OpenClaim := { program := "ytnnljnfnomfgkaa", sum := "db488dc658bd0bed2ebce8dcab6282e37f04a70d1c6a008f3fcc02537e98cd86", func := "loop.example/g01918/laws.FnExactGroupInAllRepairs", spec := "fnExactGroupInAllRepairs", unfollowed := true, recurses := true, apart := false }
def FnExactGroupInAllRepairsSaid : Prop := fnExactGroupInAllRepairsRow.holds Try.pinned (OpenSpec.ofChange fnExactGroupInAllRepairsSpec)

/-- ITS FALSE NEIGHBOUR: 'it returns false'. Refute it at one input. -/
def fnExactGroupInAllRepairsWrong : ChangeSpec := { name := "fnExactGroupInAllRepairs", fn := fun _ => fun
  | [d1, d2, d3, d4] => { results := [.lit (.bool false)], args := [d1, d2, d3, d4] }
  | _ => none }
def FnExactGroupInAllRepairsWrongFalsely : Prop := fnExactGroupInAllRepairsRow.holds Try.pinned (OpenSpec.ofChange fnExactGroupInAllRepairsWrong)

/-- 'laws.FnExactGroupSumRange': WHATEVER THE INPUT: true; the input reads as it did. -/
def fnExactGroupSumRangeSpec : ChangeSpec := { name := "fnExactGroupSumRange", fn := fun _ => fun
  | [d1, d2, d3, d4, d5] => { results := [.lit (.bool true)], args := [d1, d2, d3, d4, d5] }
  | _ => none }
def fnExactGroupSumRangeRow : OpenClaim := { program := "ytnnljnfnomfgkaa", sum := "db488dc658bd0bed2ebce8dcab6282e37f04a70d1c6a008f3fcc02537e98cd86", func := "loop.example/g01918/laws.FnExactGroupSumRange", spec := "fnExactGroupSumRange", unfollowed := true, recurses := true, apart := false }
def FnExactGroupSumRangeSaid : Prop := fnExactGroupSumRangeRow.holds Try.pinned (OpenSpec.ofChange fnExactGroupSumRangeSpec)

/-- ITS FALSE NEIGHBOUR: 'it returns false'. Refute it at one input. -/
def fnExactGroupSumRangeWrong : ChangeSpec := { name := "fnExactGroupSumRange", fn := fun _ => fun
  | [d1, d2, d3, d4, d5] => { results := [.lit (.bool false)], args := [d1, d2, d3, d4, d5] }
  | _ => none }
def FnExactGroupSumRangeWrongFalsely : Prop := fnExactGroupSumRangeRow.holds Try.pinned (OpenSpec.ofChange fnExactGroupSumRangeWrong)

/- THE SECOND FORM. 'bulk': how many values and letters a reading holds, each counted each time it is reached (what is shared counts as often as it is met; a slice's spare places count too). A statement '..UptoSaid' is the law's where the arguments, and the package variables that the reading takes, are together of bulk at most 1048576: NARROWER than '..Said'. Prove '..Said' where nothing that the law and all that it calls make is longer than what came in: it says more and counts as full. Else prove '..UptoSaid'. A law counts once. -/
mutual
def uptoBulk {H : Type} : DataW H → Nat
  | .lit (.string bytes) => bytes.length + 1
  | .lit _ => 1
  | .nil => 1
  | .ptr d => uptoBulk d + 1
  | .slice elems spare => uptoBulkAll elems + uptoBulkAll spare + 1
  | .agg parts => uptoBulkAll parts + 1
  | .iface _ d => uptoBulk d + 1
  | .map entries => uptoBulkEntries entries + 1
  | .held _ => 1
def uptoBulkAll {H : Type} : List (DataW H) → Nat
  | [] => 0
  | d :: r => uptoBulk d + uptoBulkAll r
def uptoBulkEntries {H : Type} : List (Lit × DataW H) → Nat
  | [] => 0
  | x :: r => uptoBulkEntry x + uptoBulkEntries r
def uptoBulkEntry {H : Type} : Lit × DataW H → Nat
  | (.string bytes, d) => bytes.length + uptoBulk d + 1
  | (_, d) => uptoBulk d + 1
 end
def uptoSmall : (H : Type) → List (DataW H) → Bool := fun _ ds => decide (uptoBulkAll ds ≤ 1048576)
def OpenSpec.upto (s : _root_.Go.ChangeSpec) : _root_.Go.OpenSpec := { _root_.Go.OpenSpec.ofChange s with cond := some uptoSmall }

/-- 'laws.FnExactLadderQuery', WHERE WHAT IT READS IS OF BULK AT MOST 1048576: true; the input reads as it did. -/
def fnExactLadderQueryUptoRow : OpenClaim := { program := "ytnnljnfnomfgkaa", sum := "db488dc658bd0bed2ebce8dcab6282e37f04a70d1c6a008f3fcc02537e98cd86", func := "loop.example/g01918/laws.FnExactLadderQuery", spec := "fnExactLadderQuery", apart := false, narrowed := true }
def FnExactLadderQueryUptoSaid : Prop := fnExactLadderQueryUptoRow.holds Try.pinned (OpenSpec.upto fnExactLadderQuerySpec)

/-- 'laws.FnExactSelectClauses', WHERE WHAT IT READS IS OF BULK AT MOST 1048576: true; the input reads as it did. -/
def fnExactSelectClausesUptoRow : OpenClaim := { program := "ytnnljnfnomfgkaa", sum := "db488dc658bd0bed2ebce8dcab6282e37f04a70d1c6a008f3fcc02537e98cd86", func := "loop.example/g01918/laws.FnExactSelectClauses", spec := "fnExactSelectClauses", apart := false, narrowed := true }
def FnExactSelectClausesUptoSaid : Prop := fnExactSelectClausesUptoRow.holds Try.pinned (OpenSpec.upto fnExactSelectClausesSpec)

/-- 'laws.FnExactAreValidWeights', WHERE WHAT IT READS IS OF BULK AT MOST 1048576: true; the input reads as it did. -/
def fnExactAreValidWeightsUptoRow : OpenClaim := { program := "ytnnljnfnomfgkaa", sum := "db488dc658bd0bed2ebce8dcab6282e37f04a70d1c6a008f3fcc02537e98cd86", func := "loop.example/g01918/laws.FnExactAreValidWeights", spec := "fnExactAreValidWeights", unfollowed := true, recurses := true, apart := false, narrowed := true }
def FnExactAreValidWeightsUptoSaid : Prop := fnExactAreValidWeightsUptoRow.holds Try.pinned (OpenSpec.upto fnExactAreValidWeightsSpec)

/-- 'laws.FnExactUnsatCore', WHERE WHAT IT READS IS OF BULK AT MOST 1048576: true; the input reads as it did. -/
def fnExactUnsatCoreUptoRow : OpenClaim := { program := "ytnnljnfnomfgkaa", sum := "db488dc658bd0bed2ebce8dcab6282e37f04a70d1c6a008f3fcc02537e98cd86", func := "loop.example/g01918/laws.FnExactUnsatCore", spec := "fnExactUnsatCore", unfollowed := true, recurses := true, apart := false, narrowed := true }
def FnExactUnsatCoreUptoSaid : Prop := fnExactUnsatCoreUptoRow.holds Try.pinned (OpenSpec.upto fnExactUnsatCoreSpec)

/-- 'laws.FnExactTrimProof', WHERE WHAT IT READS IS OF BULK AT MOST 1048576: true; the input reads as it did. -/
def fnExactTrimProofUptoRow : OpenClaim := { program := "ytnnljnfnomfgkaa", sum := "db488dc658bd0bed2ebce8dcab6282e37f04a70d1c6a008f3fcc02537e98cd86", func := "loop.example/g01918/laws.FnExactTrimProof", spec := "fnExactTrimProof", unfollowed := true, recurses := true, apart := false, narrowed := true }
def FnExactTrimProofUptoSaid : Prop := fnExactTrimProofUptoRow.holds Try.pinned (OpenSpec.upto fnExactTrimProofSpec)

/-- 'laws.FnExactRepairWeight', WHERE WHAT IT READS IS OF BULK AT MOST 1048576: true; the input reads as it did. -/
def fnExactRepairWeightUptoRow : OpenClaim := { program := "ytnnljnfnomfgkaa", sum := "db488dc658bd0bed2ebce8dcab6282e37f04a70d1c6a008f3fcc02537e98cd86", func := "loop.example/g01918/laws.FnExactRepairWeight", spec := "fnExactRepairWeight", unfollowed := true, recurses := true, apart := false, narrowed := true }
def FnExactRepairWeightUptoSaid : Prop := fnExactRepairWeightUptoRow.holds Try.pinned (OpenSpec.upto fnExactRepairWeightSpec)

/-- 'laws.FnExactCertainRowsOf', WHERE WHAT IT READS IS OF BULK AT MOST 1048576: true; the input reads as it did. -/
def fnExactCertainRowsOfUptoRow : OpenClaim := { program := "ytnnljnfnomfgkaa", sum := "db488dc658bd0bed2ebce8dcab6282e37f04a70d1c6a008f3fcc02537e98cd86", func := "loop.example/g01918/laws.FnExactCertainRowsOf", spec := "fnExactCertainRowsOf", apart := false, narrowed := true }
def FnExactCertainRowsOfUptoSaid : Prop := fnExactCertainRowsOfUptoRow.holds Try.pinned (OpenSpec.upto fnExactCertainRowsOfSpec)

/-- 'laws.FnExactInconsistencyMeasure', WHERE WHAT IT READS IS OF BULK AT MOST 1048576: true; the input reads as it did. -/
def fnExactInconsistencyMeasureUptoRow : OpenClaim := { program := "ytnnljnfnomfgkaa", sum := "db488dc658bd0bed2ebce8dcab6282e37f04a70d1c6a008f3fcc02537e98cd86", func := "loop.example/g01918/laws.FnExactInconsistencyMeasure", spec := "fnExactInconsistencyMeasure", unfollowed := true, recurses := true, apart := false, narrowed := true }
def FnExactInconsistencyMeasureUptoSaid : Prop := fnExactInconsistencyMeasureUptoRow.holds Try.pinned (OpenSpec.upto fnExactInconsistencyMeasureSpec)

/-- 'laws.FnExactConflictStatistics', WHERE WHAT IT READS IS OF BULK AT MOST 1048576: true; the input reads as it did. -/
def fnExactConflictStatisticsUptoRow : OpenClaim := { program := "ytnnljnfnomfgkaa", sum := "db488dc658bd0bed2ebce8dcab6282e37f04a70d1c6a008f3fcc02537e98cd86", func := "loop.example/g01918/laws.FnExactConflictStatistics", spec := "fnExactConflictStatistics", unfollowed := true, recurses := true, apart := false, narrowed := true }
def FnExactConflictStatisticsUptoSaid : Prop := fnExactConflictStatisticsUptoRow.holds Try.pinned (OpenSpec.upto fnExactConflictStatisticsSpec)

/-- 'laws.FnExactTotalWeight', WHERE WHAT IT READS IS OF BULK AT MOST 1048576: true; the input reads as it did. -/
def fnExactTotalWeightUptoRow : OpenClaim := { program := "ytnnljnfnomfgkaa", sum := "db488dc658bd0bed2ebce8dcab6282e37f04a70d1c6a008f3fcc02537e98cd86", func := "loop.example/g01918/laws.FnExactTotalWeight", spec := "fnExactTotalWeight", unfollowed := true, recurses := true, apart := false, narrowed := true }
def FnExactTotalWeightUptoSaid : Prop := fnExactTotalWeightUptoRow.holds Try.pinned (OpenSpec.upto fnExactTotalWeightSpec)

/-- 'laws.FnExactGroupInAllRepairs', WHERE WHAT IT READS IS OF BULK AT MOST 1048576: true; the input reads as it did. -/
def fnExactGroupInAllRepairsUptoRow : OpenClaim := { program := "ytnnljnfnomfgkaa", sum := "db488dc658bd0bed2ebce8dcab6282e37f04a70d1c6a008f3fcc02537e98cd86", func := "loop.example/g01918/laws.FnExactGroupInAllRepairs", spec := "fnExactGroupInAllRepairs", unfollowed := true, recurses := true, apart := false, narrowed := true }
def FnExactGroupInAllRepairsUptoSaid : Prop := fnExactGroupInAllRepairsUptoRow.holds Try.pinned (OpenSpec.upto fnExactGroupInAllRepairsSpec)

/-- 'laws.FnExactGroupSumRange', WHERE WHAT IT READS IS OF BULK AT MOST 1048576: true; the input reads as it did. -/
def fnExactGroupSumRangeUptoRow : OpenClaim := { program := "ytnnljnfnomfgkaa", sum := "db488dc658bd0bed2ebce8dcab6282e37f04a70d1c6a008f3fcc02537e98cd86", func := "loop.example/g01918/laws.FnExactGroupSumRange", spec := "fnExactGroupSumRange", unfollowed := true, recurses := true, apart := false, narrowed := true }
def FnExactGroupSumRangeUptoSaid : Prop := fnExactGroupSumRangeUptoRow.holds Try.pinned (OpenSpec.upto fnExactGroupSumRangeSpec)

end Rows
end Go.Proofs.Ytnnljnfnomfgkaa
