/-
  No cell of these rows narrows 'for every input' (looked for: loops, veiled, ifaces, maps, wideKeys, modest, calm, conditions, laid).
  DERIVED. THE GIVEN ROWS OF THIS SEAT. 10 by the template 'for every input the law returns true; each argument reads behind the call as it read before'; 0 by the template 'total and deterministic' (their statements: YtonpdomdcgfpfaaTotals.lean).
  GIVEN WITH THE SEED: the statements are not yours to turn. If you find one false, say at which input.
  Laid BY PROGRAM, IN A SANDBOX (cutbox-rows.mjs): the forced cells as the released guide's own fill.sh prints them over the translation e98dceef00c0c89d… (all of the seat's roots in one cut). By AI agents, Wed Nov 11 2026. No macro, syntax, notation, axiom, sorry.
-/
import Derived.Test.YtonpdomdcgfpfaaChecked
import GoSem.Claim
import GoSem.ClaimJoined
import GoSem.ClaimMapViews
import Derived.JoinedTies
import Derived.KernelRfl
namespace Go.Proofs.Ytonpdomdcgfpfaa
/- THE CELL 'sum', in the pinned program and in every row, IS THE sha256 OF THE DUMP (.gsa) THAT YtonpdomdcgfpfaaProg.lean LOADS. Nothing in Lean hashes anything: it is a label: what it is worth is what the hold of that sum in a sandbox is worth. -/
noncomputable def Try.pinned : Pinned := { name := "ytonpdomdcgfpfaa", sum := "e98dceef00c0c89d71aa01fcb6744c2091b57817f72ed7d977a4723e3e4c8c24", checked := Try.checked }
namespace Rows
def none {H : Type} : Left H := { results := [], args := [] }

/-- 'laws.FnConflictStatistics': WHATEVER THE INPUT: true; the input reads as it did. -/
def fnConflictStatisticsSpec : ChangeSpec := { name := "fnConflictStatistics", fn := fun _ => fun
  | [d] => { results := [.lit (.bool true)], args := [d] }
  | _ => none }
def fnConflictStatisticsRow : OpenClaim := { program := "ytonpdomdcgfpfaa", sum := "e98dceef00c0c89d71aa01fcb6744c2091b57817f72ed7d977a4723e3e4c8c24", func := "loop.example/g01918/laws.FnConflictStatistics", spec := "fnConflictStatistics", unfollowed := true, recurses := true, apart := false }
def FnConflictStatisticsSaid : Prop := fnConflictStatisticsRow.holds Try.pinned (OpenSpec.ofChange fnConflictStatisticsSpec)

/-- ITS FALSE NEIGHBOUR: 'it returns false'. Refute it at one input. -/
def fnConflictStatisticsWrong : ChangeSpec := { name := "fnConflictStatistics", fn := fun _ => fun
  | [d] => { results := [.lit (.bool false)], args := [d] }
  | _ => none }
def FnConflictStatisticsWrongFalsely : Prop := fnConflictStatisticsRow.holds Try.pinned (OpenSpec.ofChange fnConflictStatisticsWrong)

/-- 'laws.FnTrimProof': WHATEVER THE INPUT: true; the input reads as it did. -/
def fnTrimProofSpec : ChangeSpec := { name := "fnTrimProof", fn := fun _ => fun
  | [d] => { results := [.lit (.bool true)], args := [d] }
  | _ => none }
def fnTrimProofRow : OpenClaim := { program := "ytonpdomdcgfpfaa", sum := "e98dceef00c0c89d71aa01fcb6744c2091b57817f72ed7d977a4723e3e4c8c24", func := "loop.example/g01918/laws.FnTrimProof", spec := "fnTrimProof", unfollowed := true, recurses := true, apart := false }
def FnTrimProofSaid : Prop := fnTrimProofRow.holds Try.pinned (OpenSpec.ofChange fnTrimProofSpec)

/-- ITS FALSE NEIGHBOUR: 'it returns false'. Refute it at one input. -/
def fnTrimProofWrong : ChangeSpec := { name := "fnTrimProof", fn := fun _ => fun
  | [d] => { results := [.lit (.bool false)], args := [d] }
  | _ => none }
def FnTrimProofWrongFalsely : Prop := fnTrimProofRow.holds Try.pinned (OpenSpec.ofChange fnTrimProofWrong)

/-- 'laws.FnExactMostLikelyRepair': WHATEVER THE INPUT: true; the input reads as it did. -/
def fnExactMostLikelyRepairSpec : ChangeSpec := { name := "fnExactMostLikelyRepair", fn := fun _ => fun
  | [d1, d2] => { results := [.lit (.bool true)], args := [d1, d2] }
  | _ => none }
def fnExactMostLikelyRepairRow : OpenClaim := { program := "ytonpdomdcgfpfaa", sum := "e98dceef00c0c89d71aa01fcb6744c2091b57817f72ed7d977a4723e3e4c8c24", func := "loop.example/g01918/laws.FnExactMostLikelyRepair", spec := "fnExactMostLikelyRepair", unfollowed := true, recurses := true, apart := false }
def FnExactMostLikelyRepairSaid : Prop := fnExactMostLikelyRepairRow.holds Try.pinned (OpenSpec.ofChange fnExactMostLikelyRepairSpec)

/-- ITS FALSE NEIGHBOUR: 'it returns false'. Refute it at one input. -/
def fnExactMostLikelyRepairWrong : ChangeSpec := { name := "fnExactMostLikelyRepair", fn := fun _ => fun
  | [d1, d2] => { results := [.lit (.bool false)], args := [d1, d2] }
  | _ => none }
def FnExactMostLikelyRepairWrongFalsely : Prop := fnExactMostLikelyRepairRow.holds Try.pinned (OpenSpec.ofChange fnExactMostLikelyRepairWrong)

/-- 'laws.FnMostLikelyRepair': WHATEVER THE INPUT: true; the input reads as it did. -/
def fnMostLikelyRepairSpec : ChangeSpec := { name := "fnMostLikelyRepair", fn := fun _ => fun
  | [d] => { results := [.lit (.bool true)], args := [d] }
  | _ => none }
def fnMostLikelyRepairRow : OpenClaim := { program := "ytonpdomdcgfpfaa", sum := "e98dceef00c0c89d71aa01fcb6744c2091b57817f72ed7d977a4723e3e4c8c24", func := "loop.example/g01918/laws.FnMostLikelyRepair", spec := "fnMostLikelyRepair", unfollowed := true, recurses := true, apart := false }
def FnMostLikelyRepairSaid : Prop := fnMostLikelyRepairRow.holds Try.pinned (OpenSpec.ofChange fnMostLikelyRepairSpec)

/-- ITS FALSE NEIGHBOUR: 'it returns false'. Refute it at one input. -/
def fnMostLikelyRepairWrong : ChangeSpec := { name := "fnMostLikelyRepair", fn := fun _ => fun
  | [d] => { results := [.lit (.bool false)], args := [d] }
  | _ => none }
def FnMostLikelyRepairWrongFalsely : Prop := fnMostLikelyRepairRow.holds Try.pinned (OpenSpec.ofChange fnMostLikelyRepairWrong)

/-- 'laws.FnExactNewestFirst': WHATEVER THE INPUT: true; the input reads as it did. -/
def fnExactNewestFirstSpec : ChangeSpec := { name := "fnExactNewestFirst", fn := fun _ => fun
  | [d1, d2] => { results := [.lit (.bool true)], args := [d1, d2] }
  | _ => none }
def fnExactNewestFirstRow : OpenClaim := { program := "ytonpdomdcgfpfaa", sum := "e98dceef00c0c89d71aa01fcb6744c2091b57817f72ed7d977a4723e3e4c8c24", func := "loop.example/g01918/laws.FnExactNewestFirst", spec := "fnExactNewestFirst", unfollowed := true, recurses := true, apart := false }
def FnExactNewestFirstSaid : Prop := fnExactNewestFirstRow.holds Try.pinned (OpenSpec.ofChange fnExactNewestFirstSpec)

/-- ITS FALSE NEIGHBOUR: 'it returns false'. Refute it at one input. -/
def fnExactNewestFirstWrong : ChangeSpec := { name := "fnExactNewestFirst", fn := fun _ => fun
  | [d1, d2] => { results := [.lit (.bool false)], args := [d1, d2] }
  | _ => none }
def FnExactNewestFirstWrongFalsely : Prop := fnExactNewestFirstRow.holds Try.pinned (OpenSpec.ofChange fnExactNewestFirstWrong)

/-- 'laws.FnExactLadderDatabase': WHATEVER THE INPUT: true; the input reads as it did. -/
def fnExactLadderDatabaseSpec : ChangeSpec := { name := "fnExactLadderDatabase", fn := fun _ => fun
  | [d1, d2] => { results := [.lit (.bool true)], args := [d1, d2] }
  | _ => none }
def fnExactLadderDatabaseRow : OpenClaim := { program := "ytonpdomdcgfpfaa", sum := "e98dceef00c0c89d71aa01fcb6744c2091b57817f72ed7d977a4723e3e4c8c24", func := "loop.example/g01918/laws.FnExactLadderDatabase", spec := "fnExactLadderDatabase", unfollowed := true, recurses := true, apart := false }
def FnExactLadderDatabaseSaid : Prop := fnExactLadderDatabaseRow.holds Try.pinned (OpenSpec.ofChange fnExactLadderDatabaseSpec)

/-- ITS FALSE NEIGHBOUR: 'it returns false'. Refute it at one input. -/
def fnExactLadderDatabaseWrong : ChangeSpec := { name := "fnExactLadderDatabase", fn := fun _ => fun
  | [d1, d2] => { results := [.lit (.bool false)], args := [d1, d2] }
  | _ => none }
def FnExactLadderDatabaseWrongFalsely : Prop := fnExactLadderDatabaseRow.holds Try.pinned (OpenSpec.ofChange fnExactLadderDatabaseWrong)

/-- 'laws.FnExactDeletedFactCount': WHATEVER THE INPUT: true; the input reads as it did. -/
def fnExactDeletedFactCountSpec : ChangeSpec := { name := "fnExactDeletedFactCount", fn := fun _ => fun
  | [d1, d2] => { results := [.lit (.bool true)], args := [d1, d2] }
  | _ => none }
def fnExactDeletedFactCountRow : OpenClaim := { program := "ytonpdomdcgfpfaa", sum := "e98dceef00c0c89d71aa01fcb6744c2091b57817f72ed7d977a4723e3e4c8c24", func := "loop.example/g01918/laws.FnExactDeletedFactCount", spec := "fnExactDeletedFactCount", unfollowed := true, recurses := true, apart := false }
def FnExactDeletedFactCountSaid : Prop := fnExactDeletedFactCountRow.holds Try.pinned (OpenSpec.ofChange fnExactDeletedFactCountSpec)

/-- ITS FALSE NEIGHBOUR: 'it returns false'. Refute it at one input. -/
def fnExactDeletedFactCountWrong : ChangeSpec := { name := "fnExactDeletedFactCount", fn := fun _ => fun
  | [d1, d2] => { results := [.lit (.bool false)], args := [d1, d2] }
  | _ => none }
def FnExactDeletedFactCountWrongFalsely : Prop := fnExactDeletedFactCountRow.holds Try.pinned (OpenSpec.ofChange fnExactDeletedFactCountWrong)

/-- 'laws.FnExactSubsetRepairs': WHATEVER THE INPUT: true; the input reads as it did. -/
def fnExactSubsetRepairsSpec : ChangeSpec := { name := "fnExactSubsetRepairs", fn := fun _ => fun
  | [d1, d2] => { results := [.lit (.bool true)], args := [d1, d2] }
  | _ => none }
def fnExactSubsetRepairsRow : OpenClaim := { program := "ytonpdomdcgfpfaa", sum := "e98dceef00c0c89d71aa01fcb6744c2091b57817f72ed7d977a4723e3e4c8c24", func := "loop.example/g01918/laws.FnExactSubsetRepairs", spec := "fnExactSubsetRepairs", unfollowed := true, recurses := true, apart := false }
def FnExactSubsetRepairsSaid : Prop := fnExactSubsetRepairsRow.holds Try.pinned (OpenSpec.ofChange fnExactSubsetRepairsSpec)

/-- ITS FALSE NEIGHBOUR: 'it returns false'. Refute it at one input. -/
def fnExactSubsetRepairsWrong : ChangeSpec := { name := "fnExactSubsetRepairs", fn := fun _ => fun
  | [d1, d2] => { results := [.lit (.bool false)], args := [d1, d2] }
  | _ => none }
def FnExactSubsetRepairsWrongFalsely : Prop := fnExactSubsetRepairsRow.holds Try.pinned (OpenSpec.ofChange fnExactSubsetRepairsWrong)

/-- 'laws.FnExactClosestRepair': WHATEVER THE INPUT: true; the input reads as it did. -/
def fnExactClosestRepairSpec : ChangeSpec := { name := "fnExactClosestRepair", fn := fun _ => fun
  | [d1, d2, d3] => { results := [.lit (.bool true)], args := [d1, d2, d3] }
  | _ => none }
def fnExactClosestRepairRow : OpenClaim := { program := "ytonpdomdcgfpfaa", sum := "e98dceef00c0c89d71aa01fcb6744c2091b57817f72ed7d977a4723e3e4c8c24", func := "loop.example/g01918/laws.FnExactClosestRepair", spec := "fnExactClosestRepair", unfollowed := true, recurses := true, apart := false }
def FnExactClosestRepairSaid : Prop := fnExactClosestRepairRow.holds Try.pinned (OpenSpec.ofChange fnExactClosestRepairSpec)

/-- ITS FALSE NEIGHBOUR: 'it returns false'. Refute it at one input. -/
def fnExactClosestRepairWrong : ChangeSpec := { name := "fnExactClosestRepair", fn := fun _ => fun
  | [d1, d2, d3] => { results := [.lit (.bool false)], args := [d1, d2, d3] }
  | _ => none }
def FnExactClosestRepairWrongFalsely : Prop := fnExactClosestRepairRow.holds Try.pinned (OpenSpec.ofChange fnExactClosestRepairWrong)

/-- 'laws.FnExactCardinalityRepairs': WHATEVER THE INPUT: true; the input reads as it did. -/
def fnExactCardinalityRepairsSpec : ChangeSpec := { name := "fnExactCardinalityRepairs", fn := fun _ => fun
  | [d1, d2] => { results := [.lit (.bool true)], args := [d1, d2] }
  | _ => none }
def fnExactCardinalityRepairsRow : OpenClaim := { program := "ytonpdomdcgfpfaa", sum := "e98dceef00c0c89d71aa01fcb6744c2091b57817f72ed7d977a4723e3e4c8c24", func := "loop.example/g01918/laws.FnExactCardinalityRepairs", spec := "fnExactCardinalityRepairs", unfollowed := true, recurses := true, apart := false }
def FnExactCardinalityRepairsSaid : Prop := fnExactCardinalityRepairsRow.holds Try.pinned (OpenSpec.ofChange fnExactCardinalityRepairsSpec)

/-- ITS FALSE NEIGHBOUR: 'it returns false'. Refute it at one input. -/
def fnExactCardinalityRepairsWrong : ChangeSpec := { name := "fnExactCardinalityRepairs", fn := fun _ => fun
  | [d1, d2] => { results := [.lit (.bool false)], args := [d1, d2] }
  | _ => none }
def FnExactCardinalityRepairsWrongFalsely : Prop := fnExactCardinalityRepairsRow.holds Try.pinned (OpenSpec.ofChange fnExactCardinalityRepairsWrong)

/- THE SECOND FORM. 'bulk': how many values and letters a reading holds, each counted each time it is reached (what is shared counts as often as it is met; a slice's spare places count too). A statement '..UptoSaid' is the law's where the arguments, and the package variables that the reading takes, are together of bulk at most 1048576: NARROWER than '..Said'. Prove '..Said' where nothing that the law and all that it calls make is longer than what came in: it says more and counts as full. Else prove '..UptoSaid'. A law counts once. -/
mutual
def uptoBulk {H : Type} : DataW H → Nat
  | .lit (.string bytes) => bytes.length + 1
  | .lit _ => 1
  | .nil => 1
  | .ptr d => uptoBulk d + 1
  | .slice elems spare => uptoBulkAll elems + uptoBulkAll spare + 1
  | .agg parts => uptoBulkAll parts + 1
  | .iface _ d => uptoBulk d + 1
  | .map entries => uptoBulkEntries entries + 1
  | .held _ => 1
def uptoBulkAll {H : Type} : List (DataW H) → Nat
  | [] => 0
  | d :: r => uptoBulk d + uptoBulkAll r
def uptoBulkEntries {H : Type} : List (Lit × DataW H) → Nat
  | [] => 0
  | x :: r => uptoBulkEntry x + uptoBulkEntries r
def uptoBulkEntry {H : Type} : Lit × DataW H → Nat
  | (.string bytes, d) => bytes.length + uptoBulk d + 1
  | (_, d) => uptoBulk d + 1
 end
def uptoSmall : (H : Type) → List (DataW H) → Bool := fun _ ds => decide (uptoBulkAll ds ≤ 1048576)
def OpenSpec.upto (s : _root_.Go.ChangeSpec) : _root_.Go.OpenSpec := { _root_.Go.OpenSpec.ofChange s with cond := some uptoSmall }

/-- 'laws.FnConflictStatistics', WHERE WHAT IT READS IS OF BULK AT MOST 1048576: true; the input reads as it did. -/
def fnConflictStatisticsUptoRow : OpenClaim := { program := "ytonpdomdcgfpfaa", sum := "e98dceef00c0c89d71aa01fcb6744c2091b57817f72ed7d977a4723e3e4c8c24", func := "loop.example/g01918/laws.FnConflictStatistics", spec := "fnConflictStatistics", unfollowed := true, recurses := true, apart := false, narrowed := true }
def FnConflictStatisticsUptoSaid : Prop := fnConflictStatisticsUptoRow.holds Try.pinned (OpenSpec.upto fnConflictStatisticsSpec)

/-- 'laws.FnTrimProof', WHERE WHAT IT READS IS OF BULK AT MOST 1048576: true; the input reads as it did. -/
def fnTrimProofUptoRow : OpenClaim := { program := "ytonpdomdcgfpfaa", sum := "e98dceef00c0c89d71aa01fcb6744c2091b57817f72ed7d977a4723e3e4c8c24", func := "loop.example/g01918/laws.FnTrimProof", spec := "fnTrimProof", unfollowed := true, recurses := true, apart := false, narrowed := true }
def FnTrimProofUptoSaid : Prop := fnTrimProofUptoRow.holds Try.pinned (OpenSpec.upto fnTrimProofSpec)

/-- 'laws.FnExactMostLikelyRepair', WHERE WHAT IT READS IS OF BULK AT MOST 1048576: true; the input reads as it did. -/
def fnExactMostLikelyRepairUptoRow : OpenClaim := { program := "ytonpdomdcgfpfaa", sum := "e98dceef00c0c89d71aa01fcb6744c2091b57817f72ed7d977a4723e3e4c8c24", func := "loop.example/g01918/laws.FnExactMostLikelyRepair", spec := "fnExactMostLikelyRepair", unfollowed := true, recurses := true, apart := false, narrowed := true }
def FnExactMostLikelyRepairUptoSaid : Prop := fnExactMostLikelyRepairUptoRow.holds Try.pinned (OpenSpec.upto fnExactMostLikelyRepairSpec)

/-- 'laws.FnMostLikelyRepair', WHERE WHAT IT READS IS OF BULK AT MOST 1048576: true; the input reads as it did. -/
def fnMostLikelyRepairUptoRow : OpenClaim := { program := "ytonpdomdcgfpfaa", sum := "e98dceef00c0c89d71aa01fcb6744c2091b57817f72ed7d977a4723e3e4c8c24", func := "loop.example/g01918/laws.FnMostLikelyRepair", spec := "fnMostLikelyRepair", unfollowed := true, recurses := true, apart := false, narrowed := true }
def FnMostLikelyRepairUptoSaid : Prop := fnMostLikelyRepairUptoRow.holds Try.pinned (OpenSpec.upto fnMostLikelyRepairSpec)

/-- 'laws.FnExactNewestFirst', WHERE WHAT IT READS IS OF BULK AT MOST 1048576: true; the input reads as it did. -/
def fnExactNewestFirstUptoRow : OpenClaim := { program := "ytonpdomdcgfpfaa", sum := "e98dceef00c0c89d71aa01fcb6744c2091b57817f72ed7d977a4723e3e4c8c24", func := "loop.example/g01918/laws.FnExactNewestFirst", spec := "fnExactNewestFirst", unfollowed := true, recurses := true, apart := false, narrowed := true }
def FnExactNewestFirstUptoSaid : Prop := fnExactNewestFirstUptoRow.holds Try.pinned (OpenSpec.upto fnExactNewestFirstSpec)

/-- 'laws.FnExactLadderDatabase', WHERE WHAT IT READS IS OF BULK AT MOST 1048576: true; the input reads as it did. -/
def fnExactLadderDatabaseUptoRow : OpenClaim := { program := "ytonpdomdcgfpfaa", sum := "e98dceef00c0c89d71aa01fcb6744c2091b57817f72ed7d977a4723e3e4c8c24", func := "loop.example/g01918/laws.FnExactLadderDatabase", spec := "fnExactLadderDatabase", unfollowed := true, recurses := true, apart := false, narrowed := true }
def FnExactLadderDatabaseUptoSaid : Prop := fnExactLadderDatabaseUptoRow.holds Try.pinned (OpenSpec.upto fnExactLadderDatabaseSpec)

/-- 'laws.FnExactDeletedFactCount', WHERE WHAT IT READS IS OF BULK AT MOST 1048576: true; the input reads as it did. -/
def fnExactDeletedFactCountUptoRow : OpenClaim := { program := "ytonpdomdcgfpfaa", sum := "e98dceef00c0c89d71aa01fcb6744c2091b57817f72ed7d977a4723e3e4c8c24", func := "loop.example/g01918/laws.FnExactDeletedFactCount", spec := "fnExactDeletedFactCount", unfollowed := true, recurses := true, apart := false, narrowed := true }
def FnExactDeletedFactCountUptoSaid : Prop := fnExactDeletedFactCountUptoRow.holds Try.pinned (OpenSpec.upto fnExactDeletedFactCountSpec)

/-- 'laws.FnExactSubsetRepairs', WHERE WHAT IT READS IS OF BULK AT MOST 1048576: true; the input reads as it did. -/
def fnExactSubsetRepairsUptoRow : OpenClaim := { program := "ytonpdomdcgfpfaa", sum := "e98dceef00c0c89d71aa01fcb6744c2091b57817f72ed7d977a4723e3e4c8c24", func := "loop.example/g01918/laws.FnExactSubsetRepairs", spec := "fnExactSubsetRepairs", unfollowed := true, recurses := true, apart := false, narrowed := true }
def FnExactSubsetRepairsUptoSaid : Prop := fnExactSubsetRepairsUptoRow.holds Try.pinned (OpenSpec.upto fnExactSubsetRepairsSpec)

/-- 'laws.FnExactClosestRepair', WHERE WHAT IT READS IS OF BULK AT MOST 1048576: true; the input reads as it did. -/
def fnExactClosestRepairUptoRow : OpenClaim := { program := "ytonpdomdcgfpfaa", sum := "e98dceef00c0c89d71aa01fcb6744c2091b57817f72ed7d977a4723e3e4c8c24", func := "loop.example/g01918/laws.FnExactClosestRepair", spec := "fnExactClosestRepair", unfollowed := true, recurses := true, apart := false, narrowed := true }
def FnExactClosestRepairUptoSaid : Prop := fnExactClosestRepairUptoRow.holds Try.pinned (OpenSpec.upto fnExactClosestRepairSpec)

/-- 'laws.FnExactCardinalityRepairs', WHERE WHAT IT READS IS OF BULK AT MOST 1048576: true; the input reads as it did. -/
def fnExactCardinalityRepairsUptoRow : OpenClaim := { program := "ytonpdomdcgfpfaa", sum := "e98dceef00c0c89d71aa01fcb6744c2091b57817f72ed7d977a4723e3e4c8c24", func := "loop.example/g01918/laws.FnExactCardinalityRepairs", spec := "fnExactCardinalityRepairs", unfollowed := true, recurses := true, apart := false, narrowed := true }
def FnExactCardinalityRepairsUptoSaid : Prop := fnExactCardinalityRepairsUptoRow.holds Try.pinned (OpenSpec.upto fnExactCardinalityRepairsSpec)

end Rows
end Go.Proofs.Ytonpdomdcgfpfaa
