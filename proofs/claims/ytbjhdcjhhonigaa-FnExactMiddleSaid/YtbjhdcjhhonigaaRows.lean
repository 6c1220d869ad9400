/-
  No cell of these rows narrows 'for every input' (looked for: loops, veiled, ifaces, maps, wideKeys, modest, calm, conditions, laid).
  DERIVED. THE GIVEN ROWS OF THIS SEAT. 5 by the template 'for every input the law returns true; each argument reads behind the call as it read before'; 0 by the template 'total and deterministic' (their statements: YtbjhdcjhhonigaaTotals.lean).
  GIVEN WITH THE SEED: the statements are not yours to turn. If you find one false, say at which input.
  Laid BY PROGRAM, IN A SANDBOX (cutbox-rows.mjs): the forced cells as the released guide's own fill.sh prints them over the translation 156a4b8346145831… (all of the seat's roots in one cut). By AI agents, Wed Nov 11 2026. No macro, syntax, notation, axiom, sorry.
-/
import Derived.Test.YtbjhdcjhhonigaaChecked
import GoSem.Claim
import GoSem.ClaimJoined
import GoSem.ClaimMapViews
import Derived.JoinedTies
import Derived.KernelRfl
namespace Go.Proofs.Ytbjhdcjhhonigaa
/- THE CELL 'sum', in the pinned program and in every row, IS THE sha256 OF THE DUMP (.gsa) THAT YtbjhdcjhhonigaaProg.lean LOADS. Nothing in Lean hashes anything: it is a label: what it is worth is what the hold of that sum in a sandbox is worth. -/
noncomputable def Try.pinned : Pinned := { name := "ytbjhdcjhhonigaa", sum := "156a4b834614583116d9bcc490888b0b65960967c090bfec2f99d5bf514cd8e3", checked := Try.checked }
namespace Rows
def none {H : Type} : Left H := { results := [], args := [] }

/-- 'laws.FnExactConstants': WHATEVER THE INPUT: true; the input reads as it did. -/
def fnExactConstantsSpec : ChangeSpec := { name := "fnExactConstants", fn := fun _ => fun
  | [] => { results := [.lit (.bool true)], args := [] }
  | _ => none }
def fnExactConstantsRow : OpenClaim := { program := "ytbjhdcjhhonigaa", sum := "156a4b834614583116d9bcc490888b0b65960967c090bfec2f99d5bf514cd8e3", func := "loop.example/g00492/laws.FnExactConstants", spec := "fnExactConstants", apart := false }
def FnExactConstantsSaid : Prop := fnExactConstantsRow.holds Try.pinned (OpenSpec.ofChange fnExactConstantsSpec)

/-- ITS FALSE NEIGHBOUR: 'it returns false'. Refute it at one input. -/
def fnExactConstantsWrong : ChangeSpec := { name := "fnExactConstants", fn := fun _ => fun
  | [] => { results := [.lit (.bool false)], args := [] }
  | _ => none }
def FnExactConstantsWrongFalsely : Prop := fnExactConstantsRow.holds Try.pinned (OpenSpec.ofChange fnExactConstantsWrong)

/-- 'laws.FnExactLeast': WHATEVER THE INPUT: true; the input reads as it did. -/
def fnExactLeastSpec : ChangeSpec := { name := "fnExactLeast", fn := fun _ => fun
  | [d1, d2] => { results := [.lit (.bool true)], args := [d1, d2] }
  | _ => none }
def fnExactLeastRow : OpenClaim := { program := "ytbjhdcjhhonigaa", sum := "156a4b834614583116d9bcc490888b0b65960967c090bfec2f99d5bf514cd8e3", func := "loop.example/g00492/laws.FnExactLeast", spec := "fnExactLeast", apart := false }
def FnExactLeastSaid : Prop := fnExactLeastRow.holds Try.pinned (OpenSpec.ofChange fnExactLeastSpec)

/-- ITS FALSE NEIGHBOUR: 'it returns false'. Refute it at one input. -/
def fnExactLeastWrong : ChangeSpec := { name := "fnExactLeast", fn := fun _ => fun
  | [d1, d2] => { results := [.lit (.bool false)], args := [d1, d2] }
  | _ => none }
def FnExactLeastWrongFalsely : Prop := fnExactLeastRow.holds Try.pinned (OpenSpec.ofChange fnExactLeastWrong)

/-- 'laws.FnExactMost': WHATEVER THE INPUT: true; the input reads as it did. -/
def fnExactMostSpec : ChangeSpec := { name := "fnExactMost", fn := fun _ => fun
  | [d1, d2] => { results := [.lit (.bool true)], args := [d1, d2] }
  | _ => none }
def fnExactMostRow : OpenClaim := { program := "ytbjhdcjhhonigaa", sum := "156a4b834614583116d9bcc490888b0b65960967c090bfec2f99d5bf514cd8e3", func := "loop.example/g00492/laws.FnExactMost", spec := "fnExactMost", apart := false }
def FnExactMostSaid : Prop := fnExactMostRow.holds Try.pinned (OpenSpec.ofChange fnExactMostSpec)

/-- ITS FALSE NEIGHBOUR: 'it returns false'. Refute it at one input. -/
def fnExactMostWrong : ChangeSpec := { name := "fnExactMost", fn := fun _ => fun
  | [d1, d2] => { results := [.lit (.bool false)], args := [d1, d2] }
  | _ => none }
def FnExactMostWrongFalsely : Prop := fnExactMostRow.holds Try.pinned (OpenSpec.ofChange fnExactMostWrong)

/-- 'laws.FnExactMiddle': WHATEVER THE INPUT: true; the input reads as it did. -/
def fnExactMiddleSpec : ChangeSpec := { name := "fnExactMiddle", fn := fun _ => fun
  | [d] => { results := [.lit (.bool true)], args := [d] }
  | _ => none }
def fnExactMiddleRow : OpenClaim := { program := "ytbjhdcjhhonigaa", sum := "156a4b834614583116d9bcc490888b0b65960967c090bfec2f99d5bf514cd8e3", func := "loop.example/g00492/laws.FnExactMiddle", spec := "fnExactMiddle", apart := false }
def FnExactMiddleSaid : Prop := fnExactMiddleRow.holds Try.pinned (OpenSpec.ofChange fnExactMiddleSpec)

/-- ITS FALSE NEIGHBOUR: 'it returns false'. Refute it at one input. -/
def fnExactMiddleWrong : ChangeSpec := { name := "fnExactMiddle", fn := fun _ => fun
  | [d] => { results := [.lit (.bool false)], args := [d] }
  | _ => none }
def FnExactMiddleWrongFalsely : Prop := fnExactMiddleRow.holds Try.pinned (OpenSpec.ofChange fnExactMiddleWrong)

/-- 'laws.FnExactUp': WHATEVER THE INPUT: true; the input reads as it did. -/
def fnExactUpSpec : ChangeSpec := { name := "fnExactUp", fn := fun _ => fun
  | [d1, d2] => { results := [.lit (.bool true)], args := [d1, d2] }
  | _ => none }
def fnExactUpRow : OpenClaim := { program := "ytbjhdcjhhonigaa", sum := "156a4b834614583116d9bcc490888b0b65960967c090bfec2f99d5bf514cd8e3", func := "loop.example/g00492/laws.FnExactUp", spec := "fnExactUp", apart := false }
def FnExactUpSaid : Prop := fnExactUpRow.holds Try.pinned (OpenSpec.ofChange fnExactUpSpec)

/-- ITS FALSE NEIGHBOUR: 'it returns false'. Refute it at one input. -/
def fnExactUpWrong : ChangeSpec := { name := "fnExactUp", fn := fun _ => fun
  | [d1, d2] => { results := [.lit (.bool false)], args := [d1, d2] }
  | _ => none }
def FnExactUpWrongFalsely : Prop := fnExactUpRow.holds Try.pinned (OpenSpec.ofChange fnExactUpWrong)

/- THE SECOND FORM. 'bulk': how many values and letters a reading holds, each counted each time it is reached (what is shared counts as often as it is met; a slice's spare places count too). A statement '..UptoSaid' is the law's where the arguments, and the package variables that the reading takes, are together of bulk at most 1048576: NARROWER than '..Said'. Prove '..Said' where nothing that the law and all that it calls make is longer than what came in: it says more and counts as full. Else prove '..UptoSaid'. A law counts once. -/
mutual
def uptoBulk {H : Type} : DataW H → Nat
  | .lit (.string bytes) => bytes.length + 1
  | .lit _ => 1
  | .nil => 1
  | .ptr d => uptoBulk d + 1
  | .slice elems spare => uptoBulkAll elems + uptoBulkAll spare + 1
  | .agg parts => uptoBulkAll parts + 1
  | .iface _ d => uptoBulk d + 1
  | .map entries => uptoBulkEntries entries + 1
  | .held _ => 1
def uptoBulkAll {H : Type} : List (DataW H) → Nat
  | [] => 0
  | d :: r => uptoBulk d + uptoBulkAll r
def uptoBulkEntries {H : Type} : List (Lit × DataW H) → Nat
  | [] => 0
  | x :: r => uptoBulkEntry x + uptoBulkEntries r
def uptoBulkEntry {H : Type} : Lit × DataW H → Nat
  | (.string bytes, d) => bytes.length + uptoBulk d + 1
  | (_, d) => uptoBulk d + 1
 end
def uptoSmall : (H : Type) → List (DataW H) → Bool := fun _ ds => decide (uptoBulkAll ds ≤ 1048576)
def OpenSpec.upto (s : _root_.Go.ChangeSpec) : _root_.Go.OpenSpec := { _root_.Go.OpenSpec.ofChange s with cond := some uptoSmall }

/-- 'laws.FnExactConstants', WHERE WHAT IT READS IS OF BULK AT MOST 1048576: true; the input reads as it did. -/
def fnExactConstantsUptoRow : OpenClaim := { program := "ytbjhdcjhhonigaa", sum := "156a4b834614583116d9bcc490888b0b65960967c090bfec2f99d5bf514cd8e3", func := "loop.example/g00492/laws.FnExactConstants", spec := "fnExactConstants", apart := false, narrowed := true }
def FnExactConstantsUptoSaid : Prop := fnExactConstantsUptoRow.holds Try.pinned (OpenSpec.upto fnExactConstantsSpec)

/-- 'laws.FnExactLeast', WHERE WHAT IT READS IS OF BULK AT MOST 1048576: true; the input reads as it did. -/
def fnExactLeastUptoRow : OpenClaim := { program := "ytbjhdcjhhonigaa", sum := "156a4b834614583116d9bcc490888b0b65960967c090bfec2f99d5bf514cd8e3", func := "loop.example/g00492/laws.FnExactLeast", spec := "fnExactLeast", apart := false, narrowed := true }
def FnExactLeastUptoSaid : Prop := fnExactLeastUptoRow.holds Try.pinned (OpenSpec.upto fnExactLeastSpec)

/-- 'laws.FnExactMost', WHERE WHAT IT READS IS OF BULK AT MOST 1048576: true; the input reads as it did. -/
def fnExactMostUptoRow : OpenClaim := { program := "ytbjhdcjhhonigaa", sum := "156a4b834614583116d9bcc490888b0b65960967c090bfec2f99d5bf514cd8e3", func := "loop.example/g00492/laws.FnExactMost", spec := "fnExactMost", apart := false, narrowed := true }
def FnExactMostUptoSaid : Prop := fnExactMostUptoRow.holds Try.pinned (OpenSpec.upto fnExactMostSpec)

/-- 'laws.FnExactMiddle', WHERE WHAT IT READS IS OF BULK AT MOST 1048576: true; the input reads as it did. -/
def fnExactMiddleUptoRow : OpenClaim := { program := "ytbjhdcjhhonigaa", sum := "156a4b834614583116d9bcc490888b0b65960967c090bfec2f99d5bf514cd8e3", func := "loop.example/g00492/laws.FnExactMiddle", spec := "fnExactMiddle", apart := false, narrowed := true }
def FnExactMiddleUptoSaid : Prop := fnExactMiddleUptoRow.holds Try.pinned (OpenSpec.upto fnExactMiddleSpec)

/-- 'laws.FnExactUp', WHERE WHAT IT READS IS OF BULK AT MOST 1048576: true; the input reads as it did. -/
def fnExactUpUptoRow : OpenClaim := { program := "ytbjhdcjhhonigaa", sum := "156a4b834614583116d9bcc490888b0b65960967c090bfec2f99d5bf514cd8e3", func := "loop.example/g00492/laws.FnExactUp", spec := "fnExactUp", apart := false, narrowed := true }
def FnExactUpUptoSaid : Prop := fnExactUpUptoRow.holds Try.pinned (OpenSpec.upto fnExactUpSpec)

end Rows
end Go.Proofs.Ytbjhdcjhhonigaa
