/-
  DERIVED. GIVEN WITH THE SEED: THE CARDS: each row of YteboefffkpcnaaaDoorRows.lean that lists a variable, with what it lists TIED to the program's text (the seventh form; the later family's looks); each row that meets fmt, with fmt's text TOLD by the authors' own Lean function (tested against real Go, not proved from fmt's source: count such statements apart). THE CARD IS WHAT COUNTS. Prove the row's statement (the work); the ties are given (YteboefffkpcnaaaDoorTie.lean); close each card by the builder's one call (the guide's Derived/Test/ToyasCard.lean, 'card_holds'). Laid BY PROGRAM, IN A SANDBOX (cutbox-door.mjs). By AI agents, Wed Nov 11 2026. No macro, syntax, notation, axiom, sorry.
-/
import Derived.Test.YteboefffkpcnaaaDoorRows
import GoSem.ClaimSeven
namespace Go.Proofs.YteboefffkpcnaaaDoor
namespace Rows

/-- THE TIED CARD OF 'laws.FnExactQuarterText'. -/
def fnExactQuarterTextCard : Claim7 := { stood := { row := fnExactQuarterTextRow, standIns := [], harness := (true, "cf50f11a9f544b43ed2e509f7d56dd6dbfa44f6da813f6a47d5f064c75633aa3"), looks := false }, kinds := [], alts := [], laidByText := true, laidKinds := [.data, .data, .data], laidTests := true, laidLooks := .later }
def FnExactQuarterTextCardSaid : Prop := Claim7.holds Tryd.pinned (.plain (OpenSpec.ofChange fnExactQuarterTextSpec)) fnExactQuarterTextCard

/-- THE TIED CARD OF 'laws.FnExactReadQuarter'. -/
def fnExactReadQuarterCard : Claim7 := { stood := { row := fnExactReadQuarterRow, standIns := [], harness := (true, "cf50f11a9f544b43ed2e509f7d56dd6dbfa44f6da813f6a47d5f064c75633aa3"), looks := false }, kinds := [], alts := [], laidByText := true, laidKinds := [.data, .data, .data], laidTests := true, laidLooks := .later }
def FnExactReadQuarterCardSaid : Prop := Claim7.holds Tryd.pinned (.plain (OpenSpec.ofChange fnExactReadQuarterSpec)) fnExactReadQuarterCard

/-- THE TIED CARD OF 'laws.FnExactChangesText'. -/
def fnExactChangesTextCard : Claim7 := { stood := { row := fnExactChangesTextRow, standIns := [], harness := (true, "cf50f11a9f544b43ed2e509f7d56dd6dbfa44f6da813f6a47d5f064c75633aa3"), looks := false }, kinds := [], alts := [], laidByText := true, laidKinds := [.data, .data, .data], laidTests := true, laidLooks := .later }
def FnExactChangesTextCardSaid : Prop := Claim7.holds Tryd.pinned (.plain (OpenSpec.ofChange fnExactChangesTextSpec)) fnExactChangesTextCard

/-- THE TIED CARD OF 'laws.FnExactProgrammeText'. -/
def fnExactProgrammeTextCard : Claim7 := { stood := { row := fnExactProgrammeTextRow, standIns := [], harness := (true, "cf50f11a9f544b43ed2e509f7d56dd6dbfa44f6da813f6a47d5f064c75633aa3"), looks := false }, kinds := [], alts := [], laidByText := true, laidKinds := [.data, .data, .data], laidTests := true, laidLooks := .later }
def FnExactProgrammeTextCardSaid : Prop := Claim7.holds Tryd.pinned (.plain (OpenSpec.ofChange fnExactProgrammeTextSpec)) fnExactProgrammeTextCard

/-- THE SECOND FORM's CARD OF 'laws.FnExactQuarterText'. -/
def fnExactQuarterTextUptoCard : Claim7 := { stood := { row := fnExactQuarterTextUptoRow, standIns := [], harness := (true, "cf50f11a9f544b43ed2e509f7d56dd6dbfa44f6da813f6a47d5f064c75633aa3"), looks := false }, kinds := [], alts := [], laidByText := true, laidKinds := [.data, .data, .data], laidTests := true, laidLooks := .later }
def FnExactQuarterTextUptoCardSaid : Prop := Claim7.holds Tryd.pinned (.plain (OpenSpec.upto fnExactQuarterTextSpec)) fnExactQuarterTextUptoCard

/-- THE SECOND FORM's CARD OF 'laws.FnExactReadQuarter'. -/
def fnExactReadQuarterUptoCard : Claim7 := { stood := { row := fnExactReadQuarterUptoRow, standIns := [], harness := (true, "cf50f11a9f544b43ed2e509f7d56dd6dbfa44f6da813f6a47d5f064c75633aa3"), looks := false }, kinds := [], alts := [], laidByText := true, laidKinds := [.data, .data, .data], laidTests := true, laidLooks := .later }
def FnExactReadQuarterUptoCardSaid : Prop := Claim7.holds Tryd.pinned (.plain (OpenSpec.upto fnExactReadQuarterSpec)) fnExactReadQuarterUptoCard

/-- THE SECOND FORM's CARD OF 'laws.FnExactChangesText'. -/
def fnExactChangesTextUptoCard : Claim7 := { stood := { row := fnExactChangesTextUptoRow, standIns := [], harness := (true, "cf50f11a9f544b43ed2e509f7d56dd6dbfa44f6da813f6a47d5f064c75633aa3"), looks := false }, kinds := [], alts := [], laidByText := true, laidKinds := [.data, .data, .data], laidTests := true, laidLooks := .later }
def FnExactChangesTextUptoCardSaid : Prop := Claim7.holds Tryd.pinned (.plain (OpenSpec.upto fnExactChangesTextSpec)) fnExactChangesTextUptoCard

/-- THE SECOND FORM's CARD OF 'laws.FnExactProgrammeText'. -/
def fnExactProgrammeTextUptoCard : Claim7 := { stood := { row := fnExactProgrammeTextUptoRow, standIns := [], harness := (true, "cf50f11a9f544b43ed2e509f7d56dd6dbfa44f6da813f6a47d5f064c75633aa3"), looks := false }, kinds := [], alts := [], laidByText := true, laidKinds := [.data, .data, .data], laidTests := true, laidLooks := .later }
def FnExactProgrammeTextUptoCardSaid : Prop := Claim7.holds Tryd.pinned (.plain (OpenSpec.upto fnExactProgrammeTextSpec)) fnExactProgrammeTextUptoCard
end Rows
end Go.Proofs.YteboefffkpcnaaaDoor
