/-
  No cell of these rows narrows 'for every input' (looked for: loops, veiled, ifaces, maps, wideKeys, modest, calm, conditions, laid).
  DERIVED. THE GIVEN ROWS OF THIS SEAT. 12 by the template 'for every input the law returns true; each argument reads behind the call as it read before'; 0 by the template 'total and deterministic' (their statements: YtcjbjmbflonieaaTotals.lean).
  GIVEN WITH THE SEED: the statements are not yours to turn. If you find one false, say at which input.
  Laid BY PROGRAM, IN A SANDBOX (cutbox-rows.mjs): the forced cells as the released guide's own fill.sh prints them over the translation 0e0f62f677def607… (all of the seat's roots in one cut). By AI agents, Wed Nov 11 2026. No macro, syntax, notation, axiom, sorry.
-/
import Derived.Test.YtcjbjmbflonieaaChecked
import GoSem.Claim
import GoSem.ClaimJoined
import GoSem.ClaimMapViews
import Derived.JoinedTies
import Derived.KernelRfl
namespace Go.Proofs.Ytcjbjmbflonieaa
/- THE CELL 'sum', in the pinned program and in every row, IS THE sha256 OF THE DUMP (.gsa) THAT YtcjbjmbflonieaaProg.lean LOADS. Nothing in Lean hashes anything: it is a label: what it is worth is what the hold of that sum in a sandbox is worth. -/
noncomputable def Try.pinned : Pinned := { name := "ytcjbjmbflonieaa", sum := "0e0f62f677def607edaa1e70bb8ea3d564b219887a0c989f84efcec12ea66939", checked := Try.checked }
namespace Rows
def none {H : Type} : Left H := { results := [], args := [] }

/-- 'laws.FnExactApart': WHATEVER THE INPUT: true; the input reads as it did. -/
def fnExactApartSpec : ChangeSpec := { name := "fnExactApart", fn := fun _ => fun
  | [d1, d2] => { results := [.lit (.bool true)], args := [d1, d2] }
  | _ => none }
def fnExactApartRow : OpenClaim := { program := "ytcjbjmbflonieaa", sum := "0e0f62f677def607edaa1e70bb8ea3d564b219887a0c989f84efcec12ea66939", func := "loop.example/g00492/laws.FnExactApart", spec := "fnExactApart", apart := false }
def FnExactApartSaid : Prop := fnExactApartRow.holds Try.pinned (OpenSpec.ofChange fnExactApartSpec)

/-- ITS FALSE NEIGHBOUR: 'it returns false'. Refute it at one input. -/
def fnExactApartWrong : ChangeSpec := { name := "fnExactApart", fn := fun _ => fun
  | [d1, d2] => { results := [.lit (.bool false)], args := [d1, d2] }
  | _ => none }
def FnExactApartWrongFalsely : Prop := fnExactApartRow.holds Try.pinned (OpenSpec.ofChange fnExactApartWrong)

/-- 'laws.FnExactPad': WHATEVER THE INPUT: true; the input reads as it did. -/
def fnExactPadSpec : ChangeSpec := { name := "fnExactPad", fn := fun _ => fun
  | [d1, d2] => { results := [.lit (.bool true)], args := [d1, d2] }
  | _ => none }
def fnExactPadRow : OpenClaim := { program := "ytcjbjmbflonieaa", sum := "0e0f62f677def607edaa1e70bb8ea3d564b219887a0c989f84efcec12ea66939", func := "loop.example/g00492/laws.FnExactPad", spec := "fnExactPad", apart := false }
def FnExactPadSaid : Prop := fnExactPadRow.holds Try.pinned (OpenSpec.ofChange fnExactPadSpec)

/-- ITS FALSE NEIGHBOUR: 'it returns false'. Refute it at one input. -/
def fnExactPadWrong : ChangeSpec := { name := "fnExactPad", fn := fun _ => fun
  | [d1, d2] => { results := [.lit (.bool false)], args := [d1, d2] }
  | _ => none }
def FnExactPadWrongFalsely : Prop := fnExactPadRow.holds Try.pinned (OpenSpec.ofChange fnExactPadWrong)

/-- 'laws.FnExactEntryAt': WHATEVER THE INPUT: true; the input reads as it did. -/
def fnExactEntryAtSpec : ChangeSpec := { name := "fnExactEntryAt", fn := fun _ => fun
  | [d1, d2] => { results := [.lit (.bool true)], args := [d1, d2] }
  | _ => none }
def fnExactEntryAtRow : OpenClaim := { program := "ytcjbjmbflonieaa", sum := "0e0f62f677def607edaa1e70bb8ea3d564b219887a0c989f84efcec12ea66939", func := "loop.example/g00492/laws.FnExactEntryAt", spec := "fnExactEntryAt", unfollowed := true, recurses := true, apart := false }
def FnExactEntryAtSaid : Prop := fnExactEntryAtRow.holds Try.pinned (OpenSpec.ofChange fnExactEntryAtSpec)

/-- ITS FALSE NEIGHBOUR: 'it returns false'. Refute it at one input. -/
def fnExactEntryAtWrong : ChangeSpec := { name := "fnExactEntryAt", fn := fun _ => fun
  | [d1, d2] => { results := [.lit (.bool false)], args := [d1, d2] }
  | _ => none }
def FnExactEntryAtWrongFalsely : Prop := fnExactEntryAtRow.holds Try.pinned (OpenSpec.ofChange fnExactEntryAtWrong)

/-- 'laws.FnExactItemAt': WHATEVER THE INPUT: true; the input reads as it did. -/
def fnExactItemAtSpec : ChangeSpec := { name := "fnExactItemAt", fn := fun _ => fun
  | [d1, d2] => { results := [.lit (.bool true)], args := [d1, d2] }
  | _ => none }
def fnExactItemAtRow : OpenClaim := { program := "ytcjbjmbflonieaa", sum := "0e0f62f677def607edaa1e70bb8ea3d564b219887a0c989f84efcec12ea66939", func := "loop.example/g00492/laws.FnExactItemAt", spec := "fnExactItemAt", unfollowed := true, recurses := true, apart := false }
def FnExactItemAtSaid : Prop := fnExactItemAtRow.holds Try.pinned (OpenSpec.ofChange fnExactItemAtSpec)

/-- ITS FALSE NEIGHBOUR: 'it returns false'. Refute it at one input. -/
def fnExactItemAtWrong : ChangeSpec := { name := "fnExactItemAt", fn := fun _ => fun
  | [d1, d2] => { results := [.lit (.bool false)], args := [d1, d2] }
  | _ => none }
def FnExactItemAtWrongFalsely : Prop := fnExactItemAtRow.holds Try.pinned (OpenSpec.ofChange fnExactItemAtWrong)

/-- 'laws.FnExactGetEntry': WHATEVER THE INPUT: true; the input reads as it did. -/
def fnExactGetEntrySpec : ChangeSpec := { name := "fnExactGetEntry", fn := fun _ => fun
  | [d1, d2] => { results := [.lit (.bool true)], args := [d1, d2] }
  | _ => none }
def fnExactGetEntryRow : OpenClaim := { program := "ytcjbjmbflonieaa", sum := "0e0f62f677def607edaa1e70bb8ea3d564b219887a0c989f84efcec12ea66939", func := "loop.example/g00492/laws.FnExactGetEntry", spec := "fnExactGetEntry", apart := false }
def FnExactGetEntrySaid : Prop := fnExactGetEntryRow.holds Try.pinned (OpenSpec.ofChange fnExactGetEntrySpec)

/-- ITS FALSE NEIGHBOUR: 'it returns false'. Refute it at one input. -/
def fnExactGetEntryWrong : ChangeSpec := { name := "fnExactGetEntry", fn := fun _ => fun
  | [d1, d2] => { results := [.lit (.bool false)], args := [d1, d2] }
  | _ => none }
def FnExactGetEntryWrongFalsely : Prop := fnExactGetEntryRow.holds Try.pinned (OpenSpec.ofChange fnExactGetEntryWrong)

/-- 'laws.FnExactPutEntry': WHATEVER THE INPUT: true; the input reads as it did. -/
def fnExactPutEntrySpec : ChangeSpec := { name := "fnExactPutEntry", fn := fun _ => fun
  | [d] => { results := [.lit (.bool true)], args := [d] }
  | _ => none }
def fnExactPutEntryRow : OpenClaim := { program := "ytcjbjmbflonieaa", sum := "0e0f62f677def607edaa1e70bb8ea3d564b219887a0c989f84efcec12ea66939", func := "loop.example/g00492/laws.FnExactPutEntry", spec := "fnExactPutEntry", apart := false }
def FnExactPutEntrySaid : Prop := fnExactPutEntryRow.holds Try.pinned (OpenSpec.ofChange fnExactPutEntrySpec)

/-- ITS FALSE NEIGHBOUR: 'it returns false'. Refute it at one input. -/
def fnExactPutEntryWrong : ChangeSpec := { name := "fnExactPutEntry", fn := fun _ => fun
  | [d] => { results := [.lit (.bool false)], args := [d] }
  | _ => none }
def FnExactPutEntryWrongFalsely : Prop := fnExactPutEntryRow.holds Try.pinned (OpenSpec.ofChange fnExactPutEntryWrong)

/-- 'laws.FnExactSameItems': WHATEVER THE INPUT: true; the input reads as it did. -/
def fnExactSameItemsSpec : ChangeSpec := { name := "fnExactSameItems", fn := fun _ => fun
  | [d1, d2] => { results := [.lit (.bool true)], args := [d1, d2] }
  | _ => none }
def fnExactSameItemsRow : OpenClaim := { program := "ytcjbjmbflonieaa", sum := "0e0f62f677def607edaa1e70bb8ea3d564b219887a0c989f84efcec12ea66939", func := "loop.example/g00492/laws.FnExactSameItems", spec := "fnExactSameItems", apart := false }
def FnExactSameItemsSaid : Prop := fnExactSameItemsRow.holds Try.pinned (OpenSpec.ofChange fnExactSameItemsSpec)

/-- ITS FALSE NEIGHBOUR: 'it returns false'. Refute it at one input. -/
def fnExactSameItemsWrong : ChangeSpec := { name := "fnExactSameItems", fn := fun _ => fun
  | [d1, d2] => { results := [.lit (.bool false)], args := [d1, d2] }
  | _ => none }
def FnExactSameItemsWrongFalsely : Prop := fnExactSameItemsRow.holds Try.pinned (OpenSpec.ofChange fnExactSameItemsWrong)

/-- 'laws.FnExactJoinAll': WHATEVER THE INPUT: true; the input reads as it did. -/
def fnExactJoinAllSpec : ChangeSpec := { name := "fnExactJoinAll", fn := fun _ => fun
  | [d] => { results := [.lit (.bool true)], args := [d] }
  | _ => none }
def fnExactJoinAllRow : OpenClaim := { program := "ytcjbjmbflonieaa", sum := "0e0f62f677def607edaa1e70bb8ea3d564b219887a0c989f84efcec12ea66939", func := "loop.example/g00492/laws.FnExactJoinAll", spec := "fnExactJoinAll", apart := false }
def FnExactJoinAllSaid : Prop := fnExactJoinAllRow.holds Try.pinned (OpenSpec.ofChange fnExactJoinAllSpec)

/-- ITS FALSE NEIGHBOUR: 'it returns false'. Refute it at one input. -/
def fnExactJoinAllWrong : ChangeSpec := { name := "fnExactJoinAll", fn := fun _ => fun
  | [d] => { results := [.lit (.bool false)], args := [d] }
  | _ => none }
def FnExactJoinAllWrongFalsely : Prop := fnExactJoinAllRow.holds Try.pinned (OpenSpec.ofChange fnExactJoinAllWrong)

/-- 'laws.FnExactAhead': WHATEVER THE INPUT: true; the input reads as it did. -/
def fnExactAheadSpec : ChangeSpec := { name := "fnExactAhead", fn := fun _ => fun
  | [d1, d2] => { results := [.lit (.bool true)], args := [d1, d2] }
  | _ => none }
def fnExactAheadRow : OpenClaim := { program := "ytcjbjmbflonieaa", sum := "0e0f62f677def607edaa1e70bb8ea3d564b219887a0c989f84efcec12ea66939", func := "loop.example/g00492/laws.FnExactAhead", spec := "fnExactAhead", apart := false }
def FnExactAheadSaid : Prop := fnExactAheadRow.holds Try.pinned (OpenSpec.ofChange fnExactAheadSpec)

/-- ITS FALSE NEIGHBOUR: 'it returns false'. Refute it at one input. -/
def fnExactAheadWrong : ChangeSpec := { name := "fnExactAhead", fn := fun _ => fun
  | [d1, d2] => { results := [.lit (.bool false)], args := [d1, d2] }
  | _ => none }
def FnExactAheadWrongFalsely : Prop := fnExactAheadRow.holds Try.pinned (OpenSpec.ofChange fnExactAheadWrong)

/-- 'laws.FnExactSameNode': WHATEVER THE INPUT: true; the input reads as it did. -/
def fnExactSameNodeSpec : ChangeSpec := { name := "fnExactSameNode", fn := fun _ => fun
  | [d1, d2] => { results := [.lit (.bool true)], args := [d1, d2] }
  | _ => none }
def fnExactSameNodeRow : OpenClaim := { program := "ytcjbjmbflonieaa", sum := "0e0f62f677def607edaa1e70bb8ea3d564b219887a0c989f84efcec12ea66939", func := "loop.example/g00492/laws.FnExactSameNode", spec := "fnExactSameNode", apart := false }
def FnExactSameNodeSaid : Prop := fnExactSameNodeRow.holds Try.pinned (OpenSpec.ofChange fnExactSameNodeSpec)

/-- ITS FALSE NEIGHBOUR: 'it returns false'. Refute it at one input. -/
def fnExactSameNodeWrong : ChangeSpec := { name := "fnExactSameNode", fn := fun _ => fun
  | [d1, d2] => { results := [.lit (.bool false)], args := [d1, d2] }
  | _ => none }
def FnExactSameNodeWrongFalsely : Prop := fnExactSameNodeRow.holds Try.pinned (OpenSpec.ofChange fnExactSameNodeWrong)

/-- 'laws.FnExactItemsOk': WHATEVER THE INPUT: true; the input reads as it did. -/
def fnExactItemsOkSpec : ChangeSpec := { name := "fnExactItemsOk", fn := fun _ => fun
  | [d] => { results := [.lit (.bool true)], args := [d] }
  | _ => none }
def fnExactItemsOkRow : OpenClaim := { program := "ytcjbjmbflonieaa", sum := "0e0f62f677def607edaa1e70bb8ea3d564b219887a0c989f84efcec12ea66939", func := "loop.example/g00492/laws.FnExactItemsOk", spec := "fnExactItemsOk", unfollowed := true, recurses := true, apart := false }
def FnExactItemsOkSaid : Prop := fnExactItemsOkRow.holds Try.pinned (OpenSpec.ofChange fnExactItemsOkSpec)

/-- ITS FALSE NEIGHBOUR: 'it returns false'. Refute it at one input. -/
def fnExactItemsOkWrong : ChangeSpec := { name := "fnExactItemsOk", fn := fun _ => fun
  | [d] => { results := [.lit (.bool false)], args := [d] }
  | _ => none }
def FnExactItemsOkWrongFalsely : Prop := fnExactItemsOkRow.holds Try.pinned (OpenSpec.ofChange fnExactItemsOkWrong)

/-- 'laws.FnJoins': WHATEVER THE INPUT: true; the input reads as it did. -/
def fnJoinsSpec : ChangeSpec := { name := "fnJoins", fn := fun _ => fun
  | [d] => { results := [.lit (.bool true)], args := [d] }
  | _ => none }
def fnJoinsRow : OpenClaim := { program := "ytcjbjmbflonieaa", sum := "0e0f62f677def607edaa1e70bb8ea3d564b219887a0c989f84efcec12ea66939", func := "loop.example/g00492/laws.FnJoins", spec := "fnJoins", apart := false }
def FnJoinsSaid : Prop := fnJoinsRow.holds Try.pinned (OpenSpec.ofChange fnJoinsSpec)

/-- ITS FALSE NEIGHBOUR: 'it returns false'. Refute it at one input. -/
def fnJoinsWrong : ChangeSpec := { name := "fnJoins", fn := fun _ => fun
  | [d] => { results := [.lit (.bool false)], args := [d] }
  | _ => none }
def FnJoinsWrongFalsely : Prop := fnJoinsRow.holds Try.pinned (OpenSpec.ofChange fnJoinsWrong)

/- THE SECOND FORM. 'bulk': how many values and letters a reading holds, each counted each time it is reached (what is shared counts as often as it is met; a slice's spare places count too). A statement '..UptoSaid' is the law's where the arguments, and the package variables that the reading takes, are together of bulk at most 1048576: NARROWER than '..Said'. Prove '..Said' where nothing that the law and all that it calls make is longer than what came in: it says more and counts as full. Else prove '..UptoSaid'. A law counts once. -/
mutual
def uptoBulk {H : Type} : DataW H → Nat
  | .lit (.string bytes) => bytes.length + 1
  | .lit _ => 1
  | .nil => 1
  | .ptr d => uptoBulk d + 1
  | .slice elems spare => uptoBulkAll elems + uptoBulkAll spare + 1
  | .agg parts => uptoBulkAll parts + 1
  | .iface _ d => uptoBulk d + 1
  | .map entries => uptoBulkEntries entries + 1
  | .held _ => 1
def uptoBulkAll {H : Type} : List (DataW H) → Nat
  | [] => 0
  | d :: r => uptoBulk d + uptoBulkAll r
def uptoBulkEntries {H : Type} : List (Lit × DataW H) → Nat
  | [] => 0
  | x :: r => uptoBulkEntry x + uptoBulkEntries r
def uptoBulkEntry {H : Type} : Lit × DataW H → Nat
  | (.string bytes, d) => bytes.length + uptoBulk d + 1
  | (_, d) => uptoBulk d + 1
 end
def uptoSmall : (H : Type) → List (DataW H) → Bool := fun _ ds => decide (uptoBulkAll ds ≤ 1048576)
def OpenSpec.upto (s : _root_.Go.ChangeSpec) : _root_.Go.OpenSpec := { _root_.Go.OpenSpec.ofChange s with cond := some uptoSmall }

/-- 'laws.FnExactApart', WHERE WHAT IT READS IS OF BULK AT MOST 1048576: true; the input reads as it did. -/
def fnExactApartUptoRow : OpenClaim := { program := "ytcjbjmbflonieaa", sum := "0e0f62f677def607edaa1e70bb8ea3d564b219887a0c989f84efcec12ea66939", func := "loop.example/g00492/laws.FnExactApart", spec := "fnExactApart", apart := false, narrowed := true }
def FnExactApartUptoSaid : Prop := fnExactApartUptoRow.holds Try.pinned (OpenSpec.upto fnExactApartSpec)

/-- 'laws.FnExactPad', WHERE WHAT IT READS IS OF BULK AT MOST 1048576: true; the input reads as it did. -/
def fnExactPadUptoRow : OpenClaim := { program := "ytcjbjmbflonieaa", sum := "0e0f62f677def607edaa1e70bb8ea3d564b219887a0c989f84efcec12ea66939", func := "loop.example/g00492/laws.FnExactPad", spec := "fnExactPad", apart := false, narrowed := true }
def FnExactPadUptoSaid : Prop := fnExactPadUptoRow.holds Try.pinned (OpenSpec.upto fnExactPadSpec)

/-- 'laws.FnExactEntryAt', WHERE WHAT IT READS IS OF BULK AT MOST 1048576: true; the input reads as it did. -/
def fnExactEntryAtUptoRow : OpenClaim := { program := "ytcjbjmbflonieaa", sum := "0e0f62f677def607edaa1e70bb8ea3d564b219887a0c989f84efcec12ea66939", func := "loop.example/g00492/laws.FnExactEntryAt", spec := "fnExactEntryAt", unfollowed := true, recurses := true, apart := false, narrowed := true }
def FnExactEntryAtUptoSaid : Prop := fnExactEntryAtUptoRow.holds Try.pinned (OpenSpec.upto fnExactEntryAtSpec)

/-- 'laws.FnExactItemAt', WHERE WHAT IT READS IS OF BULK AT MOST 1048576: true; the input reads as it did. -/
def fnExactItemAtUptoRow : OpenClaim := { program := "ytcjbjmbflonieaa", sum := "0e0f62f677def607edaa1e70bb8ea3d564b219887a0c989f84efcec12ea66939", func := "loop.example/g00492/laws.FnExactItemAt", spec := "fnExactItemAt", unfollowed := true, recurses := true, apart := false, narrowed := true }
def FnExactItemAtUptoSaid : Prop := fnExactItemAtUptoRow.holds Try.pinned (OpenSpec.upto fnExactItemAtSpec)

/-- 'laws.FnExactGetEntry', WHERE WHAT IT READS IS OF BULK AT MOST 1048576: true; the input reads as it did. -/
def fnExactGetEntryUptoRow : OpenClaim := { program := "ytcjbjmbflonieaa", sum := "0e0f62f677def607edaa1e70bb8ea3d564b219887a0c989f84efcec12ea66939", func := "loop.example/g00492/laws.FnExactGetEntry", spec := "fnExactGetEntry", apart := false, narrowed := true }
def FnExactGetEntryUptoSaid : Prop := fnExactGetEntryUptoRow.holds Try.pinned (OpenSpec.upto fnExactGetEntrySpec)

/-- 'laws.FnExactPutEntry', WHERE WHAT IT READS IS OF BULK AT MOST 1048576: true; the input reads as it did. -/
def fnExactPutEntryUptoRow : OpenClaim := { program := "ytcjbjmbflonieaa", sum := "0e0f62f677def607edaa1e70bb8ea3d564b219887a0c989f84efcec12ea66939", func := "loop.example/g00492/laws.FnExactPutEntry", spec := "fnExactPutEntry", apart := false, narrowed := true }
def FnExactPutEntryUptoSaid : Prop := fnExactPutEntryUptoRow.holds Try.pinned (OpenSpec.upto fnExactPutEntrySpec)

/-- 'laws.FnExactSameItems', WHERE WHAT IT READS IS OF BULK AT MOST 1048576: true; the input reads as it did. -/
def fnExactSameItemsUptoRow : OpenClaim := { program := "ytcjbjmbflonieaa", sum := "0e0f62f677def607edaa1e70bb8ea3d564b219887a0c989f84efcec12ea66939", func := "loop.example/g00492/laws.FnExactSameItems", spec := "fnExactSameItems", apart := false, narrowed := true }
def FnExactSameItemsUptoSaid : Prop := fnExactSameItemsUptoRow.holds Try.pinned (OpenSpec.upto fnExactSameItemsSpec)

/-- 'laws.FnExactJoinAll', WHERE WHAT IT READS IS OF BULK AT MOST 1048576: true; the input reads as it did. -/
def fnExactJoinAllUptoRow : OpenClaim := { program := "ytcjbjmbflonieaa", sum := "0e0f62f677def607edaa1e70bb8ea3d564b219887a0c989f84efcec12ea66939", func := "loop.example/g00492/laws.FnExactJoinAll", spec := "fnExactJoinAll", apart := false, narrowed := true }
def FnExactJoinAllUptoSaid : Prop := fnExactJoinAllUptoRow.holds Try.pinned (OpenSpec.upto fnExactJoinAllSpec)

/-- 'laws.FnExactAhead', WHERE WHAT IT READS IS OF BULK AT MOST 1048576: true; the input reads as it did. -/
def fnExactAheadUptoRow : OpenClaim := { program := "ytcjbjmbflonieaa", sum := "0e0f62f677def607edaa1e70bb8ea3d564b219887a0c989f84efcec12ea66939", func := "loop.example/g00492/laws.FnExactAhead", spec := "fnExactAhead", apart := false, narrowed := true }
def FnExactAheadUptoSaid : Prop := fnExactAheadUptoRow.holds Try.pinned (OpenSpec.upto fnExactAheadSpec)

/-- 'laws.FnExactSameNode', WHERE WHAT IT READS IS OF BULK AT MOST 1048576: true; the input reads as it did. -/
def fnExactSameNodeUptoRow : OpenClaim := { program := "ytcjbjmbflonieaa", sum := "0e0f62f677def607edaa1e70bb8ea3d564b219887a0c989f84efcec12ea66939", func := "loop.example/g00492/laws.FnExactSameNode", spec := "fnExactSameNode", apart := false, narrowed := true }
def FnExactSameNodeUptoSaid : Prop := fnExactSameNodeUptoRow.holds Try.pinned (OpenSpec.upto fnExactSameNodeSpec)

/-- 'laws.FnExactItemsOk', WHERE WHAT IT READS IS OF BULK AT MOST 1048576: true; the input reads as it did. -/
def fnExactItemsOkUptoRow : OpenClaim := { program := "ytcjbjmbflonieaa", sum := "0e0f62f677def607edaa1e70bb8ea3d564b219887a0c989f84efcec12ea66939", func := "loop.example/g00492/laws.FnExactItemsOk", spec := "fnExactItemsOk", unfollowed := true, recurses := true, apart := false, narrowed := true }
def FnExactItemsOkUptoSaid : Prop := fnExactItemsOkUptoRow.holds Try.pinned (OpenSpec.upto fnExactItemsOkSpec)

/-- 'laws.FnJoins', WHERE WHAT IT READS IS OF BULK AT MOST 1048576: true; the input reads as it did. -/
def fnJoinsUptoRow : OpenClaim := { program := "ytcjbjmbflonieaa", sum := "0e0f62f677def607edaa1e70bb8ea3d564b219887a0c989f84efcec12ea66939", func := "loop.example/g00492/laws.FnJoins", spec := "fnJoins", apart := false, narrowed := true }
def FnJoinsUptoSaid : Prop := fnJoinsUptoRow.holds Try.pinned (OpenSpec.upto fnJoinsSpec)

end Rows
end Go.Proofs.Ytcjbjmbflonieaa
