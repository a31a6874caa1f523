/-
  No cell of these rows narrows 'for every input' (looked for: loops, veiled, ifaces, maps, wideKeys, modest, calm, conditions, laid).
  DERIVED. THE GIVEN ROWS OF THIS SEAT. 4 by the template 'for every input the law returns true; each argument reads behind the call as it read before'; 0 by the template 'total and deterministic' (their statements: YtdnmcmhnikjphaaGreatTotals.lean).
  GIVEN WITH THE SEED: the statements are not yours to turn. If you find one false, say at which input.
  Laid BY PROGRAM, IN A SANDBOX (cutbox-rows.mjs): the forced cells as the released guide's own fill.sh prints them over the translation cf4d84766f6fb5e1… (all of the seat's roots in one cut). By AI agents, Wed Nov 11 2026. No macro, syntax, notation, axiom, sorry.
-/
import Derived.Test.YtdnmcmhnikjphaaGreatChecked
import GoSem.Claim
import GoSem.ClaimJoined
import GoSem.ClaimMapViews
import Derived.JoinedTies
import Derived.KernelRfl
namespace Go.Proofs.YtdnmcmhnikjphaaGreat
/- THE CELL 'sum', in the pinned program and in every row, IS THE sha256 OF THE DUMP (.gsa) THAT YtdnmcmhnikjphaaGreatProg.lean LOADS. Nothing in Lean hashes anything: it is a label: what it is worth is what the hold of that sum in a sandbox is worth. -/
noncomputable def Tryz.pinned : Pinned := { name := "ytdnmcmhnikjphaagreat", sum := "cf4d84766f6fb5e1f0e7a45f68871eee34f117bf75c298172b98d8d311527c20", checked := Tryz.checked }
namespace Rows
def none {H : Type} : Left H := { results := [], args := [] }

/-- 'laws.FnExactProbabilityByComponents': WHATEVER THE INPUT: true; the input reads as it did. -/
def fnExactProbabilityByComponentsSpec : ChangeSpec := { name := "fnExactProbabilityByComponents", fn := fun _ => fun
  | [d1, d2, d3] => { results := [.lit (.bool true)], args := [d1, d2, d3] }
  | _ => none }
def fnExactProbabilityByComponentsRow : OpenClaim := { program := "ytdnmcmhnikjphaagreat", sum := "cf4d84766f6fb5e1f0e7a45f68871eee34f117bf75c298172b98d8d311527c20", func := "loop.example/g01918/laws.FnExactProbabilityByComponents", spec := "fnExactProbabilityByComponents", unfollowed := true, recurses := true, apart := false }
def FnExactProbabilityByComponentsSaid : Prop := fnExactProbabilityByComponentsRow.holds Tryz.pinned (OpenSpec.ofChange fnExactProbabilityByComponentsSpec)

/-- ITS FALSE NEIGHBOUR: 'it returns false'. Refute it at one input. -/
def fnExactProbabilityByComponentsWrong : ChangeSpec := { name := "fnExactProbabilityByComponents", fn := fun _ => fun
  | [d1, d2, d3] => { results := [.lit (.bool false)], args := [d1, d2, d3] }
  | _ => none }
def FnExactProbabilityByComponentsWrongFalsely : Prop := fnExactProbabilityByComponentsRow.holds Tryz.pinned (OpenSpec.ofChange fnExactProbabilityByComponentsWrong)

/-- 'laws.FnProbability': WHATEVER THE INPUT: true; the input reads as it did. -/
def fnProbabilitySpec : ChangeSpec := { name := "fnProbability", fn := fun _ => fun
  | [d] => { results := [.lit (.bool true)], args := [d] }
  | _ => none }
def fnProbabilityRow : OpenClaim := { program := "ytdnmcmhnikjphaagreat", sum := "cf4d84766f6fb5e1f0e7a45f68871eee34f117bf75c298172b98d8d311527c20", func := "loop.example/g01918/laws.FnProbability", spec := "fnProbability", unfollowed := true, recurses := true, apart := false }
def FnProbabilitySaid : Prop := fnProbabilityRow.holds Tryz.pinned (OpenSpec.ofChange fnProbabilitySpec)

/-- ITS FALSE NEIGHBOUR: 'it returns false'. Refute it at one input. -/
def fnProbabilityWrong : ChangeSpec := { name := "fnProbability", fn := fun _ => fun
  | [d] => { results := [.lit (.bool false)], args := [d] }
  | _ => none }
def FnProbabilityWrongFalsely : Prop := fnProbabilityRow.holds Tryz.pinned (OpenSpec.ofChange fnProbabilityWrong)

/-- 'laws.FnCardinalityRepairs': WHATEVER THE INPUT: true; the input reads as it did. -/
def fnCardinalityRepairsSpec : ChangeSpec := { name := "fnCardinalityRepairs", fn := fun _ => fun
  | [d] => { results := [.lit (.bool true)], args := [d] }
  | _ => none }
def fnCardinalityRepairsRow : OpenClaim := { program := "ytdnmcmhnikjphaagreat", sum := "cf4d84766f6fb5e1f0e7a45f68871eee34f117bf75c298172b98d8d311527c20", func := "loop.example/g01918/laws.FnCardinalityRepairs", spec := "fnCardinalityRepairs", unfollowed := true, recurses := true, apart := false }
def FnCardinalityRepairsSaid : Prop := fnCardinalityRepairsRow.holds Tryz.pinned (OpenSpec.ofChange fnCardinalityRepairsSpec)

/-- ITS FALSE NEIGHBOUR: 'it returns false'. Refute it at one input. -/
def fnCardinalityRepairsWrong : ChangeSpec := { name := "fnCardinalityRepairs", fn := fun _ => fun
  | [d] => { results := [.lit (.bool false)], args := [d] }
  | _ => none }
def FnCardinalityRepairsWrongFalsely : Prop := fnCardinalityRepairsRow.holds Tryz.pinned (OpenSpec.ofChange fnCardinalityRepairsWrong)

/-- 'laws.FnSubsetRepairs': WHATEVER THE INPUT: true; the input reads as it did. -/
def fnSubsetRepairsSpec : ChangeSpec := { name := "fnSubsetRepairs", fn := fun _ => fun
  | [d] => { results := [.lit (.bool true)], args := [d] }
  | _ => none }
def fnSubsetRepairsRow : OpenClaim := { program := "ytdnmcmhnikjphaagreat", sum := "cf4d84766f6fb5e1f0e7a45f68871eee34f117bf75c298172b98d8d311527c20", func := "loop.example/g01918/laws.FnSubsetRepairs", spec := "fnSubsetRepairs", unfollowed := true, recurses := true, apart := false }
def FnSubsetRepairsSaid : Prop := fnSubsetRepairsRow.holds Tryz.pinned (OpenSpec.ofChange fnSubsetRepairsSpec)

/-- ITS FALSE NEIGHBOUR: 'it returns false'. Refute it at one input. -/
def fnSubsetRepairsWrong : ChangeSpec := { name := "fnSubsetRepairs", fn := fun _ => fun
  | [d] => { results := [.lit (.bool false)], args := [d] }
  | _ => none }
def FnSubsetRepairsWrongFalsely : Prop := fnSubsetRepairsRow.holds Tryz.pinned (OpenSpec.ofChange fnSubsetRepairsWrong)

/- THE SECOND FORM. 'bulk': how many values and letters a reading holds, each counted each time it is reached (what is shared counts as often as it is met; a slice's spare places count too). A statement '..UptoSaid' is the law's where the arguments, and the package variables that the reading takes, are together of bulk at most 1048576: NARROWER than '..Said'. Prove '..Said' where nothing that the law and all that it calls make is longer than what came in: it says more and counts as full. Else prove '..UptoSaid'. A law counts once. -/
mutual
def uptoBulk {H : Type} : DataW H → Nat
  | .lit (.string bytes) => bytes.length + 1
  | .lit _ => 1
  | .nil => 1
  | .ptr d => uptoBulk d + 1
  | .slice elems spare => uptoBulkAll elems + uptoBulkAll spare + 1
  | .agg parts => uptoBulkAll parts + 1
  | .iface _ d => uptoBulk d + 1
  | .map entries => uptoBulkEntries entries + 1
  | .held _ => 1
def uptoBulkAll {H : Type} : List (DataW H) → Nat
  | [] => 0
  | d :: r => uptoBulk d + uptoBulkAll r
def uptoBulkEntries {H : Type} : List (Lit × DataW H) → Nat
  | [] => 0
  | x :: r => uptoBulkEntry x + uptoBulkEntries r
def uptoBulkEntry {H : Type} : Lit × DataW H → Nat
  | (.string bytes, d) => bytes.length + uptoBulk d + 1
  | (_, d) => uptoBulk d + 1
 end
def uptoSmall : (H : Type) → List (DataW H) → Bool := fun _ ds => decide (uptoBulkAll ds ≤ 1048576)
def OpenSpec.upto (s : _root_.Go.ChangeSpec) : _root_.Go.OpenSpec := { _root_.Go.OpenSpec.ofChange s with cond := some uptoSmall }

/-- 'laws.FnExactProbabilityByComponents', WHERE WHAT IT READS IS OF BULK AT MOST 1048576: true; the input reads as it did. -/
def fnExactProbabilityByComponentsUptoRow : OpenClaim := { program := "ytdnmcmhnikjphaagreat", sum := "cf4d84766f6fb5e1f0e7a45f68871eee34f117bf75c298172b98d8d311527c20", func := "loop.example/g01918/laws.FnExactProbabilityByComponents", spec := "fnExactProbabilityByComponents", unfollowed := true, recurses := true, apart := false, narrowed := true }
def FnExactProbabilityByComponentsUptoSaid : Prop := fnExactProbabilityByComponentsUptoRow.holds Tryz.pinned (OpenSpec.upto fnExactProbabilityByComponentsSpec)

/-- 'laws.FnProbability', WHERE WHAT IT READS IS OF BULK AT MOST 1048576: true; the input reads as it did. -/
def fnProbabilityUptoRow : OpenClaim := { program := "ytdnmcmhnikjphaagreat", sum := "cf4d84766f6fb5e1f0e7a45f68871eee34f117bf75c298172b98d8d311527c20", func := "loop.example/g01918/laws.FnProbability", spec := "fnProbability", unfollowed := true, recurses := true, apart := false, narrowed := true }
def FnProbabilityUptoSaid : Prop := fnProbabilityUptoRow.holds Tryz.pinned (OpenSpec.upto fnProbabilitySpec)

/-- 'laws.FnCardinalityRepairs', WHERE WHAT IT READS IS OF BULK AT MOST 1048576: true; the input reads as it did. -/
def fnCardinalityRepairsUptoRow : OpenClaim := { program := "ytdnmcmhnikjphaagreat", sum := "cf4d84766f6fb5e1f0e7a45f68871eee34f117bf75c298172b98d8d311527c20", func := "loop.example/g01918/laws.FnCardinalityRepairs", spec := "fnCardinalityRepairs", unfollowed := true, recurses := true, apart := false, narrowed := true }
def FnCardinalityRepairsUptoSaid : Prop := fnCardinalityRepairsUptoRow.holds Tryz.pinned (OpenSpec.upto fnCardinalityRepairsSpec)

/-- 'laws.FnSubsetRepairs', WHERE WHAT IT READS IS OF BULK AT MOST 1048576: true; the input reads as it did. -/
def fnSubsetRepairsUptoRow : OpenClaim := { program := "ytdnmcmhnikjphaagreat", sum := "cf4d84766f6fb5e1f0e7a45f68871eee34f117bf75c298172b98d8d311527c20", func := "loop.example/g01918/laws.FnSubsetRepairs", spec := "fnSubsetRepairs", unfollowed := true, recurses := true, apart := false, narrowed := true }
def FnSubsetRepairsUptoSaid : Prop := fnSubsetRepairsUptoRow.holds Tryz.pinned (OpenSpec.upto fnSubsetRepairsSpec)

end Rows
end Go.Proofs.YtdnmcmhnikjphaaGreat
