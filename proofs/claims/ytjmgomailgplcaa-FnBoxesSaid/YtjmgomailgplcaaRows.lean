/-
  No cell of these rows narrows 'for every input' (looked for: loops, veiled, ifaces, maps, wideKeys, modest, calm, conditions, laid).
  DERIVED. THE GIVEN ROWS OF THIS SEAT. 12 by the template 'for every input the law returns true; each argument reads behind the call as it read before'; 0 by the template 'total and deterministic' (their statements: YtjmgomailgplcaaTotals.lean).
  GIVEN WITH THE SEED: the statements are not yours to turn. If you find one false, say at which input.
  Laid BY PROGRAM, IN A SANDBOX (cutbox-rows.mjs): the forced cells as the released guide's own fill.sh prints them over the translation 4a93c443be4a68ba… (all of the seat's roots in one cut). By AI agents, Wed Nov 11 2026. No macro, syntax, notation, axiom, sorry.
-/
import Derived.Test.YtjmgomailgplcaaChecked
import GoSem.Claim
import GoSem.ClaimJoined
import GoSem.ClaimMapViews
import Derived.JoinedTies
import Derived.KernelRfl
namespace Go.Proofs.Ytjmgomailgplcaa
/- THE CELL 'sum', in the pinned program and in every row, IS THE sha256 OF THE DUMP (.gsa) THAT YtjmgomailgplcaaProg.lean LOADS. Nothing in Lean hashes anything: it is a label: what it is worth is what the hold of that sum in a sandbox is worth. -/
noncomputable def Try.pinned : Pinned := { name := "ytjmgomailgplcaa", sum := "4a93c443be4a68ba3e5753ed1b0cc2014c1eb694f40925198233b591606224f1", checked := Try.checked }
namespace Rows
def none {H : Type} : Left H := { results := [], args := [] }

/-- 'laws.FnExactNodeOk': WHATEVER THE INPUT: true; the input reads as it did. -/
def fnExactNodeOkSpec : ChangeSpec := { name := "fnExactNodeOk", fn := fun _ => fun
  | [d] => { results := [.lit (.bool true)], args := [d] }
  | _ => none }
def fnExactNodeOkRow : OpenClaim := { program := "ytjmgomailgplcaa", sum := "4a93c443be4a68ba3e5753ed1b0cc2014c1eb694f40925198233b591606224f1", func := "loop.example/g00492/laws.FnExactNodeOk", spec := "fnExactNodeOk", unfollowed := true, recurses := true, apart := false }
def FnExactNodeOkSaid : Prop := fnExactNodeOkRow.holds Try.pinned (OpenSpec.ofChange fnExactNodeOkSpec)

/-- ITS FALSE NEIGHBOUR: 'it returns false'. Refute it at one input. -/
def fnExactNodeOkWrong : ChangeSpec := { name := "fnExactNodeOk", fn := fun _ => fun
  | [d] => { results := [.lit (.bool false)], args := [d] }
  | _ => none }
def FnExactNodeOkWrongFalsely : Prop := fnExactNodeOkRow.holds Try.pinned (OpenSpec.ofChange fnExactNodeOkWrong)

/-- 'laws.FnExactBookNew': WHATEVER THE INPUT: true; the input reads as it did. -/
def fnExactBookNewSpec : ChangeSpec := { name := "fnExactBookNew", fn := fun _ => fun
  | [] => { results := [.lit (.bool true)], args := [] }
  | _ => none }
def fnExactBookNewRow : OpenClaim := { program := "ytjmgomailgplcaa", sum := "4a93c443be4a68ba3e5753ed1b0cc2014c1eb694f40925198233b591606224f1", func := "loop.example/g00492/laws.FnExactBookNew", spec := "fnExactBookNew", apart := false }
def FnExactBookNewSaid : Prop := fnExactBookNewRow.holds Try.pinned (OpenSpec.ofChange fnExactBookNewSpec)

/-- ITS FALSE NEIGHBOUR: 'it returns false'. Refute it at one input. -/
def fnExactBookNewWrong : ChangeSpec := { name := "fnExactBookNew", fn := fun _ => fun
  | [] => { results := [.lit (.bool false)], args := [] }
  | _ => none }
def FnExactBookNewWrongFalsely : Prop := fnExactBookNewRow.holds Try.pinned (OpenSpec.ofChange fnExactBookNewWrong)

/-- 'laws.FnExactLeafOf': WHATEVER THE INPUT: true; the input reads as it did. -/
def fnExactLeafOfSpec : ChangeSpec := { name := "fnExactLeafOf", fn := fun _ => fun
  | [d] => { results := [.lit (.bool true)], args := [d] }
  | _ => none }
def fnExactLeafOfRow : OpenClaim := { program := "ytjmgomailgplcaa", sum := "4a93c443be4a68ba3e5753ed1b0cc2014c1eb694f40925198233b591606224f1", func := "loop.example/g00492/laws.FnExactLeafOf", spec := "fnExactLeafOf", apart := false }
def FnExactLeafOfSaid : Prop := fnExactLeafOfRow.holds Try.pinned (OpenSpec.ofChange fnExactLeafOfSpec)

/-- ITS FALSE NEIGHBOUR: 'it returns false'. Refute it at one input. -/
def fnExactLeafOfWrong : ChangeSpec := { name := "fnExactLeafOf", fn := fun _ => fun
  | [d] => { results := [.lit (.bool false)], args := [d] }
  | _ => none }
def FnExactLeafOfWrongFalsely : Prop := fnExactLeafOfRow.holds Try.pinned (OpenSpec.ofChange fnExactLeafOfWrong)

/-- 'laws.FnExactItemsOf': WHATEVER THE INPUT: true; the input reads as it did. -/
def fnExactItemsOfSpec : ChangeSpec := { name := "fnExactItemsOf", fn := fun _ => fun
  | [d] => { results := [.lit (.bool true)], args := [d] }
  | _ => none }
def fnExactItemsOfRow : OpenClaim := { program := "ytjmgomailgplcaa", sum := "4a93c443be4a68ba3e5753ed1b0cc2014c1eb694f40925198233b591606224f1", func := "loop.example/g00492/laws.FnExactItemsOf", spec := "fnExactItemsOf", apart := false }
def FnExactItemsOfSaid : Prop := fnExactItemsOfRow.holds Try.pinned (OpenSpec.ofChange fnExactItemsOfSpec)

/-- ITS FALSE NEIGHBOUR: 'it returns false'. Refute it at one input. -/
def fnExactItemsOfWrong : ChangeSpec := { name := "fnExactItemsOf", fn := fun _ => fun
  | [d] => { results := [.lit (.bool false)], args := [d] }
  | _ => none }
def FnExactItemsOfWrongFalsely : Prop := fnExactItemsOfRow.holds Try.pinned (OpenSpec.ofChange fnExactItemsOfWrong)

/-- 'laws.FnExactSameBook': WHATEVER THE INPUT: true; the input reads as it did. -/
def fnExactSameBookSpec : ChangeSpec := { name := "fnExactSameBook", fn := fun _ => fun
  | [d1, d2] => { results := [.lit (.bool true)], args := [d1, d2] }
  | _ => none }
def fnExactSameBookRow : OpenClaim := { program := "ytjmgomailgplcaa", sum := "4a93c443be4a68ba3e5753ed1b0cc2014c1eb694f40925198233b591606224f1", func := "loop.example/g00492/laws.FnExactSameBook", spec := "fnExactSameBook", unfollowed := true, recurses := true, apart := false }
def FnExactSameBookSaid : Prop := fnExactSameBookRow.holds Try.pinned (OpenSpec.ofChange fnExactSameBookSpec)

/-- ITS FALSE NEIGHBOUR: 'it returns false'. Refute it at one input. -/
def fnExactSameBookWrong : ChangeSpec := { name := "fnExactSameBook", fn := fun _ => fun
  | [d1, d2] => { results := [.lit (.bool false)], args := [d1, d2] }
  | _ => none }
def FnExactSameBookWrongFalsely : Prop := fnExactSameBookRow.holds Try.pinned (OpenSpec.ofChange fnExactSameBookWrong)

/-- 'laws.FnExactNodeAt': WHATEVER THE INPUT: true; the input reads as it did. -/
def fnExactNodeAtSpec : ChangeSpec := { name := "fnExactNodeAt", fn := fun _ => fun
  | [d1, d2] => { results := [.lit (.bool true)], args := [d1, d2] }
  | _ => none }
def fnExactNodeAtRow : OpenClaim := { program := "ytjmgomailgplcaa", sum := "4a93c443be4a68ba3e5753ed1b0cc2014c1eb694f40925198233b591606224f1", func := "loop.example/g00492/laws.FnExactNodeAt", spec := "fnExactNodeAt", apart := false }
def FnExactNodeAtSaid : Prop := fnExactNodeAtRow.holds Try.pinned (OpenSpec.ofChange fnExactNodeAtSpec)

/-- ITS FALSE NEIGHBOUR: 'it returns false'. Refute it at one input. -/
def fnExactNodeAtWrong : ChangeSpec := { name := "fnExactNodeAt", fn := fun _ => fun
  | [d1, d2] => { results := [.lit (.bool false)], args := [d1, d2] }
  | _ => none }
def FnExactNodeAtWrongFalsely : Prop := fnExactNodeAtRow.holds Try.pinned (OpenSpec.ofChange fnExactNodeAtWrong)

/-- 'laws.FnExactPutNode': WHATEVER THE INPUT: true; the input reads as it did. -/
def fnExactPutNodeSpec : ChangeSpec := { name := "fnExactPutNode", fn := fun _ => fun
  | [d] => { results := [.lit (.bool true)], args := [d] }
  | _ => none }
def fnExactPutNodeRow : OpenClaim := { program := "ytjmgomailgplcaa", sum := "4a93c443be4a68ba3e5753ed1b0cc2014c1eb694f40925198233b591606224f1", func := "loop.example/g00492/laws.FnExactPutNode", spec := "fnExactPutNode", unfollowed := true, recurses := true, apart := false }
def FnExactPutNodeSaid : Prop := fnExactPutNodeRow.holds Try.pinned (OpenSpec.ofChange fnExactPutNodeSpec)

/-- ITS FALSE NEIGHBOUR: 'it returns false'. Refute it at one input. -/
def fnExactPutNodeWrong : ChangeSpec := { name := "fnExactPutNode", fn := fun _ => fun
  | [d] => { results := [.lit (.bool false)], args := [d] }
  | _ => none }
def FnExactPutNodeWrongFalsely : Prop := fnExactPutNodeRow.holds Try.pinned (OpenSpec.ofChange fnExactPutNodeWrong)

/-- 'laws.FnExactById': WHATEVER THE INPUT: true; the input reads as it did. -/
def fnExactByIdSpec : ChangeSpec := { name := "fnExactById", fn := fun _ => fun
  | [d] => { results := [.lit (.bool true)], args := [d] }
  | _ => none }
def fnExactByIdRow : OpenClaim := { program := "ytjmgomailgplcaa", sum := "4a93c443be4a68ba3e5753ed1b0cc2014c1eb694f40925198233b591606224f1", func := "loop.example/g00492/laws.FnExactById", spec := "fnExactById", unfollowed := true, recurses := true, apart := false }
def FnExactByIdSaid : Prop := fnExactByIdRow.holds Try.pinned (OpenSpec.ofChange fnExactByIdSpec)

/-- ITS FALSE NEIGHBOUR: 'it returns false'. Refute it at one input. -/
def fnExactByIdWrong : ChangeSpec := { name := "fnExactById", fn := fun _ => fun
  | [d] => { results := [.lit (.bool false)], args := [d] }
  | _ => none }
def FnExactByIdWrongFalsely : Prop := fnExactByIdRow.holds Try.pinned (OpenSpec.ofChange fnExactByIdWrong)

/-- 'laws.FnExactGetNode': WHATEVER THE INPUT: true; the input reads as it did. -/
def fnExactGetNodeSpec : ChangeSpec := { name := "fnExactGetNode", fn := fun _ => fun
  | [d] => { results := [.lit (.bool true)], args := [d] }
  | _ => none }
def fnExactGetNodeRow : OpenClaim := { program := "ytjmgomailgplcaa", sum := "4a93c443be4a68ba3e5753ed1b0cc2014c1eb694f40925198233b591606224f1", func := "loop.example/g00492/laws.FnExactGetNode", spec := "fnExactGetNode", unfollowed := true, recurses := true, apart := false }
def FnExactGetNodeSaid : Prop := fnExactGetNodeRow.holds Try.pinned (OpenSpec.ofChange fnExactGetNodeSpec)

/-- ITS FALSE NEIGHBOUR: 'it returns false'. Refute it at one input. -/
def fnExactGetNodeWrong : ChangeSpec := { name := "fnExactGetNode", fn := fun _ => fun
  | [d] => { results := [.lit (.bool false)], args := [d] }
  | _ => none }
def FnExactGetNodeWrongFalsely : Prop := fnExactGetNodeRow.holds Try.pinned (OpenSpec.ofChange fnExactGetNodeWrong)

/-- 'laws.FnNums': WHATEVER THE INPUT: true; the input reads as it did. -/
def fnNumsSpec : ChangeSpec := { name := "fnNums", fn := fun _ => fun
  | [d] => { results := [.lit (.bool true)], args := [d] }
  | _ => none }
def fnNumsRow : OpenClaim := { program := "ytjmgomailgplcaa", sum := "4a93c443be4a68ba3e5753ed1b0cc2014c1eb694f40925198233b591606224f1", func := "loop.example/g00492/laws.FnNums", spec := "fnNums", apart := false }
def FnNumsSaid : Prop := fnNumsRow.holds Try.pinned (OpenSpec.ofChange fnNumsSpec)

/-- ITS FALSE NEIGHBOUR: 'it returns false'. Refute it at one input. -/
def fnNumsWrong : ChangeSpec := { name := "fnNums", fn := fun _ => fun
  | [d] => { results := [.lit (.bool false)], args := [d] }
  | _ => none }
def FnNumsWrongFalsely : Prop := fnNumsRow.holds Try.pinned (OpenSpec.ofChange fnNumsWrong)

/-- 'laws.FnBoxes': WHATEVER THE INPUT: true; the input reads as it did. -/
def fnBoxesSpec : ChangeSpec := { name := "fnBoxes", fn := fun _ => fun
  | [d] => { results := [.lit (.bool true)], args := [d] }
  | _ => none }
def fnBoxesRow : OpenClaim := { program := "ytjmgomailgplcaa", sum := "4a93c443be4a68ba3e5753ed1b0cc2014c1eb694f40925198233b591606224f1", func := "loop.example/g00492/laws.FnBoxes", spec := "fnBoxes", apart := false }
def FnBoxesSaid : Prop := fnBoxesRow.holds Try.pinned (OpenSpec.ofChange fnBoxesSpec)

/-- ITS FALSE NEIGHBOUR: 'it returns false'. Refute it at one input. -/
def fnBoxesWrong : ChangeSpec := { name := "fnBoxes", fn := fun _ => fun
  | [d] => { results := [.lit (.bool false)], args := [d] }
  | _ => none }
def FnBoxesWrongFalsely : Prop := fnBoxesRow.holds Try.pinned (OpenSpec.ofChange fnBoxesWrong)

/-- 'laws.FnCurves': WHATEVER THE INPUT: true; the input reads as it did. -/
def fnCurvesSpec : ChangeSpec := { name := "fnCurves", fn := fun _ => fun
  | [d] => { results := [.lit (.bool true)], args := [d] }
  | _ => none }
def fnCurvesRow : OpenClaim := { program := "ytjmgomailgplcaa", sum := "4a93c443be4a68ba3e5753ed1b0cc2014c1eb694f40925198233b591606224f1", func := "loop.example/g00492/laws.FnCurves", spec := "fnCurves", apart := false }
def FnCurvesSaid : Prop := fnCurvesRow.holds Try.pinned (OpenSpec.ofChange fnCurvesSpec)

/-- ITS FALSE NEIGHBOUR: 'it returns false'. Refute it at one input. -/
def fnCurvesWrong : ChangeSpec := { name := "fnCurves", fn := fun _ => fun
  | [d] => { results := [.lit (.bool false)], args := [d] }
  | _ => none }
def FnCurvesWrongFalsely : Prop := fnCurvesRow.holds Try.pinned (OpenSpec.ofChange fnCurvesWrong)

/- THE SECOND FORM. 'bulk': how many values and letters a reading holds, each counted each time it is reached (what is shared counts as often as it is met; a slice's spare places count too). A statement '..UptoSaid' is the law's where the arguments, and the package variables that the reading takes, are together of bulk at most 1048576: NARROWER than '..Said'. Prove '..Said' where nothing that the law and all that it calls make is longer than what came in: it says more and counts as full. Else prove '..UptoSaid'. A law counts once. -/
mutual
def uptoBulk {H : Type} : DataW H → Nat
  | .lit (.string bytes) => bytes.length + 1
  | .lit _ => 1
  | .nil => 1
  | .ptr d => uptoBulk d + 1
  | .slice elems spare => uptoBulkAll elems + uptoBulkAll spare + 1
  | .agg parts => uptoBulkAll parts + 1
  | .iface _ d => uptoBulk d + 1
  | .map entries => uptoBulkEntries entries + 1
  | .held _ => 1
def uptoBulkAll {H : Type} : List (DataW H) → Nat
  | [] => 0
  | d :: r => uptoBulk d + uptoBulkAll r
def uptoBulkEntries {H : Type} : List (Lit × DataW H) → Nat
  | [] => 0
  | x :: r => uptoBulkEntry x + uptoBulkEntries r
def uptoBulkEntry {H : Type} : Lit × DataW H → Nat
  | (.string bytes, d) => bytes.length + uptoBulk d + 1
  | (_, d) => uptoBulk d + 1
 end
def uptoSmall : (H : Type) → List (DataW H) → Bool := fun _ ds => decide (uptoBulkAll ds ≤ 1048576)
def OpenSpec.upto (s : _root_.Go.ChangeSpec) : _root_.Go.OpenSpec := { _root_.Go.OpenSpec.ofChange s with cond := some uptoSmall }

/-- 'laws.FnExactNodeOk', WHERE WHAT IT READS IS OF BULK AT MOST 1048576: true; the input reads as it did. -/
def fnExactNodeOkUptoRow : OpenClaim := { program := "ytjmgomailgplcaa", sum := "4a93c443be4a68ba3e5753ed1b0cc2014c1eb694f40925198233b591606224f1", func := "loop.example/g00492/laws.FnExactNodeOk", spec := "fnExactNodeOk", unfollowed := true, recurses := true, apart := false, narrowed := true }
def FnExactNodeOkUptoSaid : Prop := fnExactNodeOkUptoRow.holds Try.pinned (OpenSpec.upto fnExactNodeOkSpec)

/-- 'laws.FnExactBookNew', WHERE WHAT IT READS IS OF BULK AT MOST 1048576: true; the input reads as it did. -/
def fnExactBookNewUptoRow : OpenClaim := { program := "ytjmgomailgplcaa", sum := "4a93c443be4a68ba3e5753ed1b0cc2014c1eb694f40925198233b591606224f1", func := "loop.example/g00492/laws.FnExactBookNew", spec := "fnExactBookNew", apart := false, narrowed := true }
def FnExactBookNewUptoSaid : Prop := fnExactBookNewUptoRow.holds Try.pinned (OpenSpec.upto fnExactBookNewSpec)

/-- 'laws.FnExactLeafOf', WHERE WHAT IT READS IS OF BULK AT MOST 1048576: true; the input reads as it did. -/
def fnExactLeafOfUptoRow : OpenClaim := { program := "ytjmgomailgplcaa", sum := "4a93c443be4a68ba3e5753ed1b0cc2014c1eb694f40925198233b591606224f1", func := "loop.example/g00492/laws.FnExactLeafOf", spec := "fnExactLeafOf", apart := false, narrowed := true }
def FnExactLeafOfUptoSaid : Prop := fnExactLeafOfUptoRow.holds Try.pinned (OpenSpec.upto fnExactLeafOfSpec)

/-- 'laws.FnExactItemsOf', WHERE WHAT IT READS IS OF BULK AT MOST 1048576: true; the input reads as it did. -/
def fnExactItemsOfUptoRow : OpenClaim := { program := "ytjmgomailgplcaa", sum := "4a93c443be4a68ba3e5753ed1b0cc2014c1eb694f40925198233b591606224f1", func := "loop.example/g00492/laws.FnExactItemsOf", spec := "fnExactItemsOf", apart := false, narrowed := true }
def FnExactItemsOfUptoSaid : Prop := fnExactItemsOfUptoRow.holds Try.pinned (OpenSpec.upto fnExactItemsOfSpec)

/-- 'laws.FnExactSameBook', WHERE WHAT IT READS IS OF BULK AT MOST 1048576: true; the input reads as it did. -/
def fnExactSameBookUptoRow : OpenClaim := { program := "ytjmgomailgplcaa", sum := "4a93c443be4a68ba3e5753ed1b0cc2014c1eb694f40925198233b591606224f1", func := "loop.example/g00492/laws.FnExactSameBook", spec := "fnExactSameBook", unfollowed := true, recurses := true, apart := false, narrowed := true }
def FnExactSameBookUptoSaid : Prop := fnExactSameBookUptoRow.holds Try.pinned (OpenSpec.upto fnExactSameBookSpec)

/-- 'laws.FnExactNodeAt', WHERE WHAT IT READS IS OF BULK AT MOST 1048576: true; the input reads as it did. -/
def fnExactNodeAtUptoRow : OpenClaim := { program := "ytjmgomailgplcaa", sum := "4a93c443be4a68ba3e5753ed1b0cc2014c1eb694f40925198233b591606224f1", func := "loop.example/g00492/laws.FnExactNodeAt", spec := "fnExactNodeAt", apart := false, narrowed := true }
def FnExactNodeAtUptoSaid : Prop := fnExactNodeAtUptoRow.holds Try.pinned (OpenSpec.upto fnExactNodeAtSpec)

/-- 'laws.FnExactPutNode', WHERE WHAT IT READS IS OF BULK AT MOST 1048576: true; the input reads as it did. -/
def fnExactPutNodeUptoRow : OpenClaim := { program := "ytjmgomailgplcaa", sum := "4a93c443be4a68ba3e5753ed1b0cc2014c1eb694f40925198233b591606224f1", func := "loop.example/g00492/laws.FnExactPutNode", spec := "fnExactPutNode", unfollowed := true, recurses := true, apart := false, narrowed := true }
def FnExactPutNodeUptoSaid : Prop := fnExactPutNodeUptoRow.holds Try.pinned (OpenSpec.upto fnExactPutNodeSpec)

/-- 'laws.FnExactById', WHERE WHAT IT READS IS OF BULK AT MOST 1048576: true; the input reads as it did. -/
def fnExactByIdUptoRow : OpenClaim := { program := "ytjmgomailgplcaa", sum := "4a93c443be4a68ba3e5753ed1b0cc2014c1eb694f40925198233b591606224f1", func := "loop.example/g00492/laws.FnExactById", spec := "fnExactById", unfollowed := true, recurses := true, apart := false, narrowed := true }
def FnExactByIdUptoSaid : Prop := fnExactByIdUptoRow.holds Try.pinned (OpenSpec.upto fnExactByIdSpec)

/-- 'laws.FnExactGetNode', WHERE WHAT IT READS IS OF BULK AT MOST 1048576: true; the input reads as it did. -/
def fnExactGetNodeUptoRow : OpenClaim := { program := "ytjmgomailgplcaa", sum := "4a93c443be4a68ba3e5753ed1b0cc2014c1eb694f40925198233b591606224f1", func := "loop.example/g00492/laws.FnExactGetNode", spec := "fnExactGetNode", unfollowed := true, recurses := true, apart := false, narrowed := true }
def FnExactGetNodeUptoSaid : Prop := fnExactGetNodeUptoRow.holds Try.pinned (OpenSpec.upto fnExactGetNodeSpec)

/-- 'laws.FnNums', WHERE WHAT IT READS IS OF BULK AT MOST 1048576: true; the input reads as it did. -/
def fnNumsUptoRow : OpenClaim := { program := "ytjmgomailgplcaa", sum := "4a93c443be4a68ba3e5753ed1b0cc2014c1eb694f40925198233b591606224f1", func := "loop.example/g00492/laws.FnNums", spec := "fnNums", apart := false, narrowed := true }
def FnNumsUptoSaid : Prop := fnNumsUptoRow.holds Try.pinned (OpenSpec.upto fnNumsSpec)

/-- 'laws.FnBoxes', WHERE WHAT IT READS IS OF BULK AT MOST 1048576: true; the input reads as it did. -/
def fnBoxesUptoRow : OpenClaim := { program := "ytjmgomailgplcaa", sum := "4a93c443be4a68ba3e5753ed1b0cc2014c1eb694f40925198233b591606224f1", func := "loop.example/g00492/laws.FnBoxes", spec := "fnBoxes", apart := false, narrowed := true }
def FnBoxesUptoSaid : Prop := fnBoxesUptoRow.holds Try.pinned (OpenSpec.upto fnBoxesSpec)

/-- 'laws.FnCurves', WHERE WHAT IT READS IS OF BULK AT MOST 1048576: true; the input reads as it did. -/
def fnCurvesUptoRow : OpenClaim := { program := "ytjmgomailgplcaa", sum := "4a93c443be4a68ba3e5753ed1b0cc2014c1eb694f40925198233b591606224f1", func := "loop.example/g00492/laws.FnCurves", spec := "fnCurves", apart := false, narrowed := true }
def FnCurvesUptoSaid : Prop := fnCurvesUptoRow.holds Try.pinned (OpenSpec.upto fnCurvesSpec)

end Rows
end Go.Proofs.Ytjmgomailgplcaa
