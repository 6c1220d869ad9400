/-
  No cell of these rows narrows 'for every input' (looked for: loops, veiled, ifaces, maps, wideKeys, modest, calm, conditions, laid).
  DERIVED. THE GIVEN ROWS OF THIS SEAT. 12 by the template 'for every input the law returns true; each argument reads behind the call as it read before'; 0 by the template 'total and deterministic' (their statements: YtdeffkhkhpjodaaTotals.lean).
  GIVEN WITH THE SEED: the statements are not yours to turn. If you find one false, say at which input.
  Laid BY PROGRAM, IN A SANDBOX (cutbox-rows.mjs): the forced cells as the released guide's own fill.sh prints them over the translation 72c848935b717342… (all of the seat's roots in one cut). By AI agents, Wed Nov 11 2026. No macro, syntax, notation, axiom, sorry.
-/
import Derived.Test.YtdeffkhkhpjodaaChecked
import GoSem.Claim
import GoSem.ClaimJoined
import GoSem.ClaimMapViews
import Derived.JoinedTies
import Derived.KernelRfl
namespace Go.Proofs.Ytdeffkhkhpjodaa
/- THE CELL 'sum', in the pinned program and in every row, IS THE sha256 OF THE DUMP (.gsa) THAT YtdeffkhkhpjodaaProg.lean LOADS. Nothing in Lean hashes anything: it is a label: what it is worth is what the hold of that sum in a sandbox is worth. -/
noncomputable def Try.pinned : Pinned := { name := "ytdeffkhkhpjodaa", sum := "72c848935b7173426252240d12dab77dad6d8e5eae8ab5c2f91440e147065323", checked := Try.checked }
namespace Rows
def none {H : Type} : Left H := { results := [], args := [] }

/-- 'laws.FnExactBoxOk': WHATEVER THE INPUT: true; the input reads as it did. -/
def fnExactBoxOkSpec : ChangeSpec := { name := "fnExactBoxOk", fn := fun _ => fun
  | [d] => { results := [.lit (.bool true)], args := [d] }
  | _ => none }
def fnExactBoxOkRow : OpenClaim := { program := "ytdeffkhkhpjodaa", sum := "72c848935b7173426252240d12dab77dad6d8e5eae8ab5c2f91440e147065323", func := "loop.example/g00492/laws.FnExactBoxOk", spec := "fnExactBoxOk", apart := false }
def FnExactBoxOkSaid : Prop := fnExactBoxOkRow.holds Try.pinned (OpenSpec.ofChange fnExactBoxOkSpec)

/-- ITS FALSE NEIGHBOUR: 'it returns false'. Refute it at one input. -/
def fnExactBoxOkWrong : ChangeSpec := { name := "fnExactBoxOk", fn := fun _ => fun
  | [d] => { results := [.lit (.bool false)], args := [d] }
  | _ => none }
def FnExactBoxOkWrongFalsely : Prop := fnExactBoxOkRow.holds Try.pinned (OpenSpec.ofChange fnExactBoxOkWrong)

/-- 'laws.FnExactMeets': WHATEVER THE INPUT: true; the input reads as it did. -/
def fnExactMeetsSpec : ChangeSpec := { name := "fnExactMeets", fn := fun _ => fun
  | [d1, d2] => { results := [.lit (.bool true)], args := [d1, d2] }
  | _ => none }
def fnExactMeetsRow : OpenClaim := { program := "ytdeffkhkhpjodaa", sum := "72c848935b7173426252240d12dab77dad6d8e5eae8ab5c2f91440e147065323", func := "loop.example/g00492/laws.FnExactMeets", spec := "fnExactMeets", apart := false }
def FnExactMeetsSaid : Prop := fnExactMeetsRow.holds Try.pinned (OpenSpec.ofChange fnExactMeetsSpec)

/-- ITS FALSE NEIGHBOUR: 'it returns false'. Refute it at one input. -/
def fnExactMeetsWrong : ChangeSpec := { name := "fnExactMeets", fn := fun _ => fun
  | [d1, d2] => { results := [.lit (.bool false)], args := [d1, d2] }
  | _ => none }
def FnExactMeetsWrongFalsely : Prop := fnExactMeetsRow.holds Try.pinned (OpenSpec.ofChange fnExactMeetsWrong)

/-- 'laws.FnExactItemOk': WHATEVER THE INPUT: true; the input reads as it did. -/
def fnExactItemOkSpec : ChangeSpec := { name := "fnExactItemOk", fn := fun _ => fun
  | [d] => { results := [.lit (.bool true)], args := [d] }
  | _ => none }
def fnExactItemOkRow : OpenClaim := { program := "ytdeffkhkhpjodaa", sum := "72c848935b7173426252240d12dab77dad6d8e5eae8ab5c2f91440e147065323", func := "loop.example/g00492/laws.FnExactItemOk", spec := "fnExactItemOk", apart := false }
def FnExactItemOkSaid : Prop := fnExactItemOkRow.holds Try.pinned (OpenSpec.ofChange fnExactItemOkSpec)

/-- ITS FALSE NEIGHBOUR: 'it returns false'. Refute it at one input. -/
def fnExactItemOkWrong : ChangeSpec := { name := "fnExactItemOk", fn := fun _ => fun
  | [d] => { results := [.lit (.bool false)], args := [d] }
  | _ => none }
def FnExactItemOkWrongFalsely : Prop := fnExactItemOkRow.holds Try.pinned (OpenSpec.ofChange fnExactItemOkWrong)

/-- 'laws.FnExactArea': WHATEVER THE INPUT: true; the input reads as it did. -/
def fnExactAreaSpec : ChangeSpec := { name := "fnExactArea", fn := fun _ => fun
  | [d] => { results := [.lit (.bool true)], args := [d] }
  | _ => none }
def fnExactAreaRow : OpenClaim := { program := "ytdeffkhkhpjodaa", sum := "72c848935b7173426252240d12dab77dad6d8e5eae8ab5c2f91440e147065323", func := "loop.example/g00492/laws.FnExactArea", spec := "fnExactArea", apart := false }
def FnExactAreaSaid : Prop := fnExactAreaRow.holds Try.pinned (OpenSpec.ofChange fnExactAreaSpec)

/-- ITS FALSE NEIGHBOUR: 'it returns false'. Refute it at one input. -/
def fnExactAreaWrong : ChangeSpec := { name := "fnExactArea", fn := fun _ => fun
  | [d] => { results := [.lit (.bool false)], args := [d] }
  | _ => none }
def FnExactAreaWrongFalsely : Prop := fnExactAreaRow.holds Try.pinned (OpenSpec.ofChange fnExactAreaWrong)

/-- 'laws.FnExactHolds': WHATEVER THE INPUT: true; the input reads as it did. -/
def fnExactHoldsSpec : ChangeSpec := { name := "fnExactHolds", fn := fun _ => fun
  | [d1, d2] => { results := [.lit (.bool true)], args := [d1, d2] }
  | _ => none }
def fnExactHoldsRow : OpenClaim := { program := "ytdeffkhkhpjodaa", sum := "72c848935b7173426252240d12dab77dad6d8e5eae8ab5c2f91440e147065323", func := "loop.example/g00492/laws.FnExactHolds", spec := "fnExactHolds", apart := false }
def FnExactHoldsSaid : Prop := fnExactHoldsRow.holds Try.pinned (OpenSpec.ofChange fnExactHoldsSpec)

/-- ITS FALSE NEIGHBOUR: 'it returns false'. Refute it at one input. -/
def fnExactHoldsWrong : ChangeSpec := { name := "fnExactHolds", fn := fun _ => fun
  | [d1, d2] => { results := [.lit (.bool false)], args := [d1, d2] }
  | _ => none }
def FnExactHoldsWrongFalsely : Prop := fnExactHoldsRow.holds Try.pinned (OpenSpec.ofChange fnExactHoldsWrong)

/-- 'laws.FnExactGet2': WHATEVER THE INPUT: true; the input reads as it did. -/
def fnExactGet2Spec : ChangeSpec := { name := "fnExactGet2", fn := fun _ => fun
  | [d1, d2] => { results := [.lit (.bool true)], args := [d1, d2] }
  | _ => none }
def fnExactGet2Row : OpenClaim := { program := "ytdeffkhkhpjodaa", sum := "72c848935b7173426252240d12dab77dad6d8e5eae8ab5c2f91440e147065323", func := "loop.example/g00492/laws.FnExactGet2", spec := "fnExactGet2", apart := false }
def FnExactGet2Said : Prop := fnExactGet2Row.holds Try.pinned (OpenSpec.ofChange fnExactGet2Spec)

/-- ITS FALSE NEIGHBOUR: 'it returns false'. Refute it at one input. -/
def fnExactGet2Wrong : ChangeSpec := { name := "fnExactGet2", fn := fun _ => fun
  | [d1, d2] => { results := [.lit (.bool false)], args := [d1, d2] }
  | _ => none }
def FnExactGet2WrongFalsely : Prop := fnExactGet2Row.holds Try.pinned (OpenSpec.ofChange fnExactGet2Wrong)

/-- 'laws.FnExactAlong': WHATEVER THE INPUT: true; the input reads as it did. -/
def fnExactAlongSpec : ChangeSpec := { name := "fnExactAlong", fn := fun _ => fun
  | [d1, d2] => { results := [.lit (.bool true)], args := [d1, d2] }
  | _ => none }
def fnExactAlongRow : OpenClaim := { program := "ytdeffkhkhpjodaa", sum := "72c848935b7173426252240d12dab77dad6d8e5eae8ab5c2f91440e147065323", func := "loop.example/g00492/laws.FnExactAlong", spec := "fnExactAlong", apart := false }
def FnExactAlongSaid : Prop := fnExactAlongRow.holds Try.pinned (OpenSpec.ofChange fnExactAlongSpec)

/-- ITS FALSE NEIGHBOUR: 'it returns false'. Refute it at one input. -/
def fnExactAlongWrong : ChangeSpec := { name := "fnExactAlong", fn := fun _ => fun
  | [d1, d2] => { results := [.lit (.bool false)], args := [d1, d2] }
  | _ => none }
def FnExactAlongWrongFalsely : Prop := fnExactAlongRow.holds Try.pinned (OpenSpec.ofChange fnExactAlongWrong)

/-- 'laws.FnExactJoin': WHATEVER THE INPUT: true; the input reads as it did. -/
def fnExactJoinSpec : ChangeSpec := { name := "fnExactJoin", fn := fun _ => fun
  | [d1, d2] => { results := [.lit (.bool true)], args := [d1, d2] }
  | _ => none }
def fnExactJoinRow : OpenClaim := { program := "ytdeffkhkhpjodaa", sum := "72c848935b7173426252240d12dab77dad6d8e5eae8ab5c2f91440e147065323", func := "loop.example/g00492/laws.FnExactJoin", spec := "fnExactJoin", apart := false }
def FnExactJoinSaid : Prop := fnExactJoinRow.holds Try.pinned (OpenSpec.ofChange fnExactJoinSpec)

/-- ITS FALSE NEIGHBOUR: 'it returns false'. Refute it at one input. -/
def fnExactJoinWrong : ChangeSpec := { name := "fnExactJoin", fn := fun _ => fun
  | [d1, d2] => { results := [.lit (.bool false)], args := [d1, d2] }
  | _ => none }
def FnExactJoinWrongFalsely : Prop := fnExactJoinRow.holds Try.pinned (OpenSpec.ofChange fnExactJoinWrong)

/-- 'laws.FnExactPointAt': WHATEVER THE INPUT: true; the input reads as it did. -/
def fnExactPointAtSpec : ChangeSpec := { name := "fnExactPointAt", fn := fun _ => fun
  | [d] => { results := [.lit (.bool true)], args := [d] }
  | _ => none }
def fnExactPointAtRow : OpenClaim := { program := "ytdeffkhkhpjodaa", sum := "72c848935b7173426252240d12dab77dad6d8e5eae8ab5c2f91440e147065323", func := "loop.example/g00492/laws.FnExactPointAt", spec := "fnExactPointAt", apart := false }
def FnExactPointAtSaid : Prop := fnExactPointAtRow.holds Try.pinned (OpenSpec.ofChange fnExactPointAtSpec)

/-- ITS FALSE NEIGHBOUR: 'it returns false'. Refute it at one input. -/
def fnExactPointAtWrong : ChangeSpec := { name := "fnExactPointAt", fn := fun _ => fun
  | [d] => { results := [.lit (.bool false)], args := [d] }
  | _ => none }
def FnExactPointAtWrongFalsely : Prop := fnExactPointAtRow.holds Try.pinned (OpenSpec.ofChange fnExactPointAtWrong)

/-- 'laws.FnExactGrowth': WHATEVER THE INPUT: true; the input reads as it did. -/
def fnExactGrowthSpec : ChangeSpec := { name := "fnExactGrowth", fn := fun _ => fun
  | [d1, d2] => { results := [.lit (.bool true)], args := [d1, d2] }
  | _ => none }
def fnExactGrowthRow : OpenClaim := { program := "ytdeffkhkhpjodaa", sum := "72c848935b7173426252240d12dab77dad6d8e5eae8ab5c2f91440e147065323", func := "loop.example/g00492/laws.FnExactGrowth", spec := "fnExactGrowth", apart := false }
def FnExactGrowthSaid : Prop := fnExactGrowthRow.holds Try.pinned (OpenSpec.ofChange fnExactGrowthSpec)

/-- ITS FALSE NEIGHBOUR: 'it returns false'. Refute it at one input. -/
def fnExactGrowthWrong : ChangeSpec := { name := "fnExactGrowth", fn := fun _ => fun
  | [d1, d2] => { results := [.lit (.bool false)], args := [d1, d2] }
  | _ => none }
def FnExactGrowthWrongFalsely : Prop := fnExactGrowthRow.holds Try.pinned (OpenSpec.ofChange fnExactGrowthWrong)

/-- 'laws.FnExactKeyOf': WHATEVER THE INPUT: true; the input reads as it did. -/
def fnExactKeyOfSpec : ChangeSpec := { name := "fnExactKeyOf", fn := fun _ => fun
  | [d] => { results := [.lit (.bool true)], args := [d] }
  | _ => none }
def fnExactKeyOfRow : OpenClaim := { program := "ytdeffkhkhpjodaa", sum := "72c848935b7173426252240d12dab77dad6d8e5eae8ab5c2f91440e147065323", func := "loop.example/g00492/laws.FnExactKeyOf", spec := "fnExactKeyOf", apart := false }
def FnExactKeyOfSaid : Prop := fnExactKeyOfRow.holds Try.pinned (OpenSpec.ofChange fnExactKeyOfSpec)

/-- ITS FALSE NEIGHBOUR: 'it returns false'. Refute it at one input. -/
def fnExactKeyOfWrong : ChangeSpec := { name := "fnExactKeyOf", fn := fun _ => fun
  | [d] => { results := [.lit (.bool false)], args := [d] }
  | _ => none }
def FnExactKeyOfWrongFalsely : Prop := fnExactKeyOfRow.holds Try.pinned (OpenSpec.ofChange fnExactKeyOfWrong)

/-- 'laws.FnExactPut2': WHATEVER THE INPUT: true; the input reads as it did. -/
def fnExactPut2Spec : ChangeSpec := { name := "fnExactPut2", fn := fun _ => fun
  | [d1, d2] => { results := [.lit (.bool true)], args := [d1, d2] }
  | _ => none }
def fnExactPut2Row : OpenClaim := { program := "ytdeffkhkhpjodaa", sum := "72c848935b7173426252240d12dab77dad6d8e5eae8ab5c2f91440e147065323", func := "loop.example/g00492/laws.FnExactPut2", spec := "fnExactPut2", apart := false }
def FnExactPut2Said : Prop := fnExactPut2Row.holds Try.pinned (OpenSpec.ofChange fnExactPut2Spec)

/-- ITS FALSE NEIGHBOUR: 'it returns false'. Refute it at one input. -/
def fnExactPut2Wrong : ChangeSpec := { name := "fnExactPut2", fn := fun _ => fun
  | [d1, d2] => { results := [.lit (.bool false)], args := [d1, d2] }
  | _ => none }
def FnExactPut2WrongFalsely : Prop := fnExactPut2Row.holds Try.pinned (OpenSpec.ofChange fnExactPut2Wrong)

/- THE SECOND FORM. 'bulk': how many values and letters a reading holds, each counted each time it is reached (what is shared counts as often as it is met; a slice's spare places count too). A statement '..UptoSaid' is the law's where the arguments, and the package variables that the reading takes, are together of bulk at most 1048576: NARROWER than '..Said'. Prove '..Said' where nothing that the law and all that it calls make is longer than what came in: it says more and counts as full. Else prove '..UptoSaid'. A law counts once. -/
mutual
def uptoBulk {H : Type} : DataW H → Nat
  | .lit (.string bytes) => bytes.length + 1
  | .lit _ => 1
  | .nil => 1
  | .ptr d => uptoBulk d + 1
  | .slice elems spare => uptoBulkAll elems + uptoBulkAll spare + 1
  | .agg parts => uptoBulkAll parts + 1
  | .iface _ d => uptoBulk d + 1
  | .map entries => uptoBulkEntries entries + 1
  | .held _ => 1
def uptoBulkAll {H : Type} : List (DataW H) → Nat
  | [] => 0
  | d :: r => uptoBulk d + uptoBulkAll r
def uptoBulkEntries {H : Type} : List (Lit × DataW H) → Nat
  | [] => 0
  | x :: r => uptoBulkEntry x + uptoBulkEntries r
def uptoBulkEntry {H : Type} : Lit × DataW H → Nat
  | (.string bytes, d) => bytes.length + uptoBulk d + 1
  | (_, d) => uptoBulk d + 1
 end
def uptoSmall : (H : Type) → List (DataW H) → Bool := fun _ ds => decide (uptoBulkAll ds ≤ 1048576)
def OpenSpec.upto (s : _root_.Go.ChangeSpec) : _root_.Go.OpenSpec := { _root_.Go.OpenSpec.ofChange s with cond := some uptoSmall }

/-- 'laws.FnExactBoxOk', WHERE WHAT IT READS IS OF BULK AT MOST 1048576: true; the input reads as it did. -/
def fnExactBoxOkUptoRow : OpenClaim := { program := "ytdeffkhkhpjodaa", sum := "72c848935b7173426252240d12dab77dad6d8e5eae8ab5c2f91440e147065323", func := "loop.example/g00492/laws.FnExactBoxOk", spec := "fnExactBoxOk", apart := false, narrowed := true }
def FnExactBoxOkUptoSaid : Prop := fnExactBoxOkUptoRow.holds Try.pinned (OpenSpec.upto fnExactBoxOkSpec)

/-- 'laws.FnExactMeets', WHERE WHAT IT READS IS OF BULK AT MOST 1048576: true; the input reads as it did. -/
def fnExactMeetsUptoRow : OpenClaim := { program := "ytdeffkhkhpjodaa", sum := "72c848935b7173426252240d12dab77dad6d8e5eae8ab5c2f91440e147065323", func := "loop.example/g00492/laws.FnExactMeets", spec := "fnExactMeets", apart := false, narrowed := true }
def FnExactMeetsUptoSaid : Prop := fnExactMeetsUptoRow.holds Try.pinned (OpenSpec.upto fnExactMeetsSpec)

/-- 'laws.FnExactItemOk', WHERE WHAT IT READS IS OF BULK AT MOST 1048576: true; the input reads as it did. -/
def fnExactItemOkUptoRow : OpenClaim := { program := "ytdeffkhkhpjodaa", sum := "72c848935b7173426252240d12dab77dad6d8e5eae8ab5c2f91440e147065323", func := "loop.example/g00492/laws.FnExactItemOk", spec := "fnExactItemOk", apart := false, narrowed := true }
def FnExactItemOkUptoSaid : Prop := fnExactItemOkUptoRow.holds Try.pinned (OpenSpec.upto fnExactItemOkSpec)

/-- 'laws.FnExactArea', WHERE WHAT IT READS IS OF BULK AT MOST 1048576: true; the input reads as it did. -/
def fnExactAreaUptoRow : OpenClaim := { program := "ytdeffkhkhpjodaa", sum := "72c848935b7173426252240d12dab77dad6d8e5eae8ab5c2f91440e147065323", func := "loop.example/g00492/laws.FnExactArea", spec := "fnExactArea", apart := false, narrowed := true }
def FnExactAreaUptoSaid : Prop := fnExactAreaUptoRow.holds Try.pinned (OpenSpec.upto fnExactAreaSpec)

/-- 'laws.FnExactHolds', WHERE WHAT IT READS IS OF BULK AT MOST 1048576: true; the input reads as it did. -/
def fnExactHoldsUptoRow : OpenClaim := { program := "ytdeffkhkhpjodaa", sum := "72c848935b7173426252240d12dab77dad6d8e5eae8ab5c2f91440e147065323", func := "loop.example/g00492/laws.FnExactHolds", spec := "fnExactHolds", apart := false, narrowed := true }
def FnExactHoldsUptoSaid : Prop := fnExactHoldsUptoRow.holds Try.pinned (OpenSpec.upto fnExactHoldsSpec)

/-- 'laws.FnExactGet2', WHERE WHAT IT READS IS OF BULK AT MOST 1048576: true; the input reads as it did. -/
def fnExactGet2UptoRow : OpenClaim := { program := "ytdeffkhkhpjodaa", sum := "72c848935b7173426252240d12dab77dad6d8e5eae8ab5c2f91440e147065323", func := "loop.example/g00492/laws.FnExactGet2", spec := "fnExactGet2", apart := false, narrowed := true }
def FnExactGet2UptoSaid : Prop := fnExactGet2UptoRow.holds Try.pinned (OpenSpec.upto fnExactGet2Spec)

/-- 'laws.FnExactAlong', WHERE WHAT IT READS IS OF BULK AT MOST 1048576: true; the input reads as it did. -/
def fnExactAlongUptoRow : OpenClaim := { program := "ytdeffkhkhpjodaa", sum := "72c848935b7173426252240d12dab77dad6d8e5eae8ab5c2f91440e147065323", func := "loop.example/g00492/laws.FnExactAlong", spec := "fnExactAlong", apart := false, narrowed := true }
def FnExactAlongUptoSaid : Prop := fnExactAlongUptoRow.holds Try.pinned (OpenSpec.upto fnExactAlongSpec)

/-- 'laws.FnExactJoin', WHERE WHAT IT READS IS OF BULK AT MOST 1048576: true; the input reads as it did. -/
def fnExactJoinUptoRow : OpenClaim := { program := "ytdeffkhkhpjodaa", sum := "72c848935b7173426252240d12dab77dad6d8e5eae8ab5c2f91440e147065323", func := "loop.example/g00492/laws.FnExactJoin", spec := "fnExactJoin", apart := false, narrowed := true }
def FnExactJoinUptoSaid : Prop := fnExactJoinUptoRow.holds Try.pinned (OpenSpec.upto fnExactJoinSpec)

/-- 'laws.FnExactPointAt', WHERE WHAT IT READS IS OF BULK AT MOST 1048576: true; the input reads as it did. -/
def fnExactPointAtUptoRow : OpenClaim := { program := "ytdeffkhkhpjodaa", sum := "72c848935b7173426252240d12dab77dad6d8e5eae8ab5c2f91440e147065323", func := "loop.example/g00492/laws.FnExactPointAt", spec := "fnExactPointAt", apart := false, narrowed := true }
def FnExactPointAtUptoSaid : Prop := fnExactPointAtUptoRow.holds Try.pinned (OpenSpec.upto fnExactPointAtSpec)

/-- 'laws.FnExactGrowth', WHERE WHAT IT READS IS OF BULK AT MOST 1048576: true; the input reads as it did. -/
def fnExactGrowthUptoRow : OpenClaim := { program := "ytdeffkhkhpjodaa", sum := "72c848935b7173426252240d12dab77dad6d8e5eae8ab5c2f91440e147065323", func := "loop.example/g00492/laws.FnExactGrowth", spec := "fnExactGrowth", apart := false, narrowed := true }
def FnExactGrowthUptoSaid : Prop := fnExactGrowthUptoRow.holds Try.pinned (OpenSpec.upto fnExactGrowthSpec)

/-- 'laws.FnExactKeyOf', WHERE WHAT IT READS IS OF BULK AT MOST 1048576: true; the input reads as it did. -/
def fnExactKeyOfUptoRow : OpenClaim := { program := "ytdeffkhkhpjodaa", sum := "72c848935b7173426252240d12dab77dad6d8e5eae8ab5c2f91440e147065323", func := "loop.example/g00492/laws.FnExactKeyOf", spec := "fnExactKeyOf", apart := false, narrowed := true }
def FnExactKeyOfUptoSaid : Prop := fnExactKeyOfUptoRow.holds Try.pinned (OpenSpec.upto fnExactKeyOfSpec)

/-- 'laws.FnExactPut2', WHERE WHAT IT READS IS OF BULK AT MOST 1048576: true; the input reads as it did. -/
def fnExactPut2UptoRow : OpenClaim := { program := "ytdeffkhkhpjodaa", sum := "72c848935b7173426252240d12dab77dad6d8e5eae8ab5c2f91440e147065323", func := "loop.example/g00492/laws.FnExactPut2", spec := "fnExactPut2", apart := false, narrowed := true }
def FnExactPut2UptoSaid : Prop := fnExactPut2UptoRow.holds Try.pinned (OpenSpec.upto fnExactPut2Spec)

end Rows
end Go.Proofs.Ytdeffkhkhpjodaa
