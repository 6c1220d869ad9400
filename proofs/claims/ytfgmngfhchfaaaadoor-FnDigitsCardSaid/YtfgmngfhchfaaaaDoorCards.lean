/-
  DERIVED. GIVEN WITH THE SEED: THE CARDS: each row of YtfgmngfhchfaaaaDoorRows.lean that lists a variable, with what it lists TIED to the program's text (the seventh form; the later family's looks); each row that meets fmt, with fmt's text TOLD by the authors' own Lean function (tested against real Go, not proved from fmt's source: count such statements apart). THE CARD IS WHAT COUNTS. Prove the row's statement (the work); the ties are given (YtfgmngfhchfaaaaDoorTie.lean); close each card by the builder's one call (the guide's Derived/Test/ToyasCard.lean, 'card_holds'). Laid BY PROGRAM, IN A SANDBOX (cutbox-door.mjs). By AI agents, Wed Nov 11 2026. No macro, syntax, notation, axiom, sorry.
-/
import Derived.Test.YtfgmngfhchfaaaaDoorRows
import GoSem.ClaimSeven
namespace Go.Proofs.YtfgmngfhchfaaaaDoor
namespace Rows

/-- THE TIED CARD OF 'laws.FnExactParseNum'. -/
def fnExactParseNumCard : Claim7 := { stood := { row := fnExactParseNumRow, standIns := [], harness := (true, "e6f498c16469bc0906cbebaf9b1e9f405e0d42571771fe6d069b38261b0e7837"), looks := true }, kinds := [], alts := [], laidByText := true, laidKinds := [.data, .data, .data, .sentinel, .sentinel], laidTests := true, laidLooks := .later }
def FnExactParseNumCardSaid : Prop := Claim7.holds Tryd.pinned (.plain (OpenSpec.ofChange fnExactParseNumSpec)) fnExactParseNumCard

/-- THE TIED CARD OF 'laws.FnExactNumText'. -/
def fnExactNumTextCard : Claim7 := { stood := { row := fnExactNumTextRow, standIns := [], harness := (true, "e6f498c16469bc0906cbebaf9b1e9f405e0d42571771fe6d069b38261b0e7837"), looks := true }, kinds := [], alts := [], laidByText := true, laidKinds := [.data, .data, .data], laidTests := true, laidLooks := .later }
def FnExactNumTextCardSaid : Prop := Claim7.holds Tryd.pinned (.plain (OpenSpec.ofChange fnExactNumTextSpec)) fnExactNumTextCard

/-- THE TIED CARD OF 'laws.FnExactItemText'. -/
def fnExactItemTextCard : Claim7 := { stood := { row := fnExactItemTextRow, standIns := [], harness := (true, "e6f498c16469bc0906cbebaf9b1e9f405e0d42571771fe6d069b38261b0e7837"), looks := true }, kinds := [], alts := [], laidByText := true, laidKinds := [.data, .data, .data], laidTests := true, laidLooks := .later }
def FnExactItemTextCardSaid : Prop := Claim7.holds Tryd.pinned (.plain (OpenSpec.ofChange fnExactItemTextSpec)) fnExactItemTextCard

/-- THE TIED CARD OF 'laws.FnDigits'. -/
def fnDigitsCard : Claim7 := { stood := { row := fnDigitsRow, standIns := [], harness := (true, "e6f498c16469bc0906cbebaf9b1e9f405e0d42571771fe6d069b38261b0e7837"), looks := true }, kinds := [], alts := [], laidByText := true, laidKinds := [.data, .data, .data, .sentinel, .sentinel], laidTests := true, laidLooks := .later }
def FnDigitsCardSaid : Prop := Claim7.holds Tryd.pinned (.plain (OpenSpec.ofChange fnDigitsSpec)) fnDigitsCard

/-- THE TIED CARD OF 'laws.FnItems'. -/
def fnItemsCard : Claim7 := { stood := { row := fnItemsRow, standIns := [], harness := (true, "e6f498c16469bc0906cbebaf9b1e9f405e0d42571771fe6d069b38261b0e7837"), looks := true }, kinds := [], alts := [], laidByText := true, laidKinds := [.data, .data, .data], laidTests := true, laidLooks := .later }
def FnItemsCardSaid : Prop := Claim7.holds Tryd.pinned (.plain (OpenSpec.ofChange fnItemsSpec)) fnItemsCard

/-- THE SECOND FORM's CARD OF 'laws.FnExactParseNum'. -/
def fnExactParseNumUptoCard : Claim7 := { stood := { row := fnExactParseNumUptoRow, standIns := [], harness := (true, "e6f498c16469bc0906cbebaf9b1e9f405e0d42571771fe6d069b38261b0e7837"), looks := true }, kinds := [], alts := [], laidByText := true, laidKinds := [.data, .data, .data, .sentinel, .sentinel], laidTests := true, laidLooks := .later }
def FnExactParseNumUptoCardSaid : Prop := Claim7.holds Tryd.pinned (.plain (OpenSpec.upto fnExactParseNumSpec)) fnExactParseNumUptoCard

/-- THE SECOND FORM's CARD OF 'laws.FnExactNumText'. -/
def fnExactNumTextUptoCard : Claim7 := { stood := { row := fnExactNumTextUptoRow, standIns := [], harness := (true, "e6f498c16469bc0906cbebaf9b1e9f405e0d42571771fe6d069b38261b0e7837"), looks := true }, kinds := [], alts := [], laidByText := true, laidKinds := [.data, .data, .data], laidTests := true, laidLooks := .later }
def FnExactNumTextUptoCardSaid : Prop := Claim7.holds Tryd.pinned (.plain (OpenSpec.upto fnExactNumTextSpec)) fnExactNumTextUptoCard

/-- THE SECOND FORM's CARD OF 'laws.FnExactItemText'. -/
def fnExactItemTextUptoCard : Claim7 := { stood := { row := fnExactItemTextUptoRow, standIns := [], harness := (true, "e6f498c16469bc0906cbebaf9b1e9f405e0d42571771fe6d069b38261b0e7837"), looks := true }, kinds := [], alts := [], laidByText := true, laidKinds := [.data, .data, .data], laidTests := true, laidLooks := .later }
def FnExactItemTextUptoCardSaid : Prop := Claim7.holds Tryd.pinned (.plain (OpenSpec.upto fnExactItemTextSpec)) fnExactItemTextUptoCard

/-- THE SECOND FORM's CARD OF 'laws.FnDigits'. -/
def fnDigitsUptoCard : Claim7 := { stood := { row := fnDigitsUptoRow, standIns := [], harness := (true, "e6f498c16469bc0906cbebaf9b1e9f405e0d42571771fe6d069b38261b0e7837"), looks := true }, kinds := [], alts := [], laidByText := true, laidKinds := [.data, .data, .data, .sentinel, .sentinel], laidTests := true, laidLooks := .later }
def FnDigitsUptoCardSaid : Prop := Claim7.holds Tryd.pinned (.plain (OpenSpec.upto fnDigitsSpec)) fnDigitsUptoCard

/-- THE SECOND FORM's CARD OF 'laws.FnItems'. -/
def fnItemsUptoCard : Claim7 := { stood := { row := fnItemsUptoRow, standIns := [], harness := (true, "e6f498c16469bc0906cbebaf9b1e9f405e0d42571771fe6d069b38261b0e7837"), looks := true }, kinds := [], alts := [], laidByText := true, laidKinds := [.data, .data, .data], laidTests := true, laidLooks := .later }
def FnItemsUptoCardSaid : Prop := Claim7.holds Tryd.pinned (.plain (OpenSpec.upto fnItemsSpec)) fnItemsUptoCard
end Rows
end Go.Proofs.YtfgmngfhchfaaaaDoor
