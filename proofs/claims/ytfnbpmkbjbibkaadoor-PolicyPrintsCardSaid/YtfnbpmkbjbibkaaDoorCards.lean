/-
  DERIVED. GIVEN WITH THE SEED: THE CARDS: each row of YtfnbpmkbjbibkaaDoorRows.lean that lists a variable, with what it lists TIED to the program's text (the seventh form; the later family's looks); each row that meets fmt, with fmt's text TOLD by the authors' own Lean function (tested against real Go, not proved from fmt's source: count such statements apart). THE CARD IS WHAT COUNTS. Prove the row's statement (the work); the ties are given (YtfnbpmkbjbibkaaDoorTie.lean); close each card by the builder's one call (the guide's Derived/Test/ToyasCard.lean, 'card_holds'). Laid BY PROGRAM, IN A SANDBOX (cutbox-door.mjs). By AI agents, Wed Nov 11 2026. No macro, syntax, notation, axiom, sorry.
-/
import Derived.Test.YtfnbpmkbjbibkaaDoorRows
import GoSem.ClaimSeven
namespace Go.Proofs.YtfnbpmkbjbibkaaDoor
namespace Rows

/-- THE TIED CARD OF 'mimesislaw15.ImageParses'. -/
def imageParsesCard : Claim7 := { stood := { row := imageParsesRow, standIns := [], harness := (true, "c1ff958bc02c3f44ea5b62116ed77d5206f68126dc19f2a095c80df28bfdf8a7"), looks := false }, kinds := [], alts := [], laidByText := true, laidKinds := [.data, .pinned], laidTests := true, laidLooks := .later }
def ImageParsesCardSaid : Prop := Claim7.holds Tryd.pinned (.plain (OpenSpec.ofChange imageParsesSpec)) imageParsesCard

/-- THE TIED CARD OF 'mimesislaw15.ImagePrints'. -/
def imagePrintsCard : Claim7 := { stood := { row := imagePrintsRow, standIns := [], harness := (true, "c1ff958bc02c3f44ea5b62116ed77d5206f68126dc19f2a095c80df28bfdf8a7"), looks := false }, kinds := [], alts := [], laidByText := true, laidKinds := [.data, .pinned], laidTests := true, laidLooks := .later }
def ImagePrintsCardSaid : Prop := Claim7.holds Tryd.pinned (.plain (OpenSpec.ofChange imagePrintsSpec)) imagePrintsCard

/-- THE TIED CARD OF 'mimesislaw15.ImageWords'. -/
def imageWordsCard : Claim7 := { stood := { row := imageWordsRow, standIns := [], harness := (true, "c1ff958bc02c3f44ea5b62116ed77d5206f68126dc19f2a095c80df28bfdf8a7"), looks := false }, kinds := [], alts := [], laidByText := true, laidKinds := [.data, .pinned], laidTests := true, laidLooks := .later }
def ImageWordsCardSaid : Prop := Claim7.holds Tryd.pinned (.plain (OpenSpec.ofChange imageWordsSpec)) imageWordsCard

/-- THE TIED CARD OF 'mimesislaw15.ImageLays'. -/
def imageLaysCard : Claim7 := { stood := { row := imageLaysRow, standIns := [], harness := (true, "c1ff958bc02c3f44ea5b62116ed77d5206f68126dc19f2a095c80df28bfdf8a7"), looks := false }, kinds := [], alts := [], laidByText := true, laidKinds := [.data, .pinned], laidTests := true, laidLooks := .later }
def ImageLaysCardSaid : Prop := Claim7.holds Tryd.pinned (.plain (OpenSpec.ofChange imageLaysSpec)) imageLaysCard

/-- THE TIED CARD OF 'mimesislaw37.PolicyTurns'. -/
def policyTurnsCard : Claim7 := { stood := { row := policyTurnsRow, standIns := [], harness := (true, "c1ff958bc02c3f44ea5b62116ed77d5206f68126dc19f2a095c80df28bfdf8a7"), looks := false }, kinds := [], alts := [], laidByText := true, laidKinds := [.data, .data, .pinned], laidTests := true, laidLooks := .later }
def PolicyTurnsCardSaid : Prop := Claim7.holds Tryd.pinned (.plain (OpenSpec.ofChange policyTurnsSpec)) policyTurnsCard

/-- THE TIED CARD OF 'mimesislaw37.PolicyParses'. -/
def policyParsesCard : Claim7 := { stood := { row := policyParsesRow, standIns := [], harness := (true, "c1ff958bc02c3f44ea5b62116ed77d5206f68126dc19f2a095c80df28bfdf8a7"), looks := false }, kinds := [], alts := [], laidByText := true, laidKinds := [.data, .data, .pinned], laidTests := true, laidLooks := .later }
def PolicyParsesCardSaid : Prop := Claim7.holds Tryd.pinned (.plain (OpenSpec.ofChange policyParsesSpec)) policyParsesCard

/-- THE TIED CARD OF 'mimesislaw37.PolicySets'. -/
def policySetsCard : Claim7 := { stood := { row := policySetsRow, standIns := [], harness := (true, "c1ff958bc02c3f44ea5b62116ed77d5206f68126dc19f2a095c80df28bfdf8a7"), looks := false }, kinds := [], alts := [], laidByText := true, laidKinds := [.data, .data, .pinned], laidTests := true, laidLooks := .later }
def PolicySetsCardSaid : Prop := Claim7.holds Tryd.pinned (.plain (OpenSpec.ofChange policySetsSpec)) policySetsCard

/-- THE TIED CARD OF 'mimesislaw37.PolicyPrints'. -/
def policyPrintsCard : Claim7 := { stood := { row := policyPrintsRow, standIns := [], harness := (true, "c1ff958bc02c3f44ea5b62116ed77d5206f68126dc19f2a095c80df28bfdf8a7"), looks := false }, kinds := [], alts := [], laidByText := true, laidKinds := [.data, .data, .pinned], laidTests := true, laidLooks := .later }
def PolicyPrintsCardSaid : Prop := Claim7.holds Tryd.pinned (.plain (OpenSpec.ofChange policyPrintsSpec)) policyPrintsCard

/-- THE SECOND FORM's CARD OF 'mimesislaw15.ImageParses'. -/
def imageParsesUptoCard : Claim7 := { stood := { row := imageParsesUptoRow, standIns := [], harness := (true, "c1ff958bc02c3f44ea5b62116ed77d5206f68126dc19f2a095c80df28bfdf8a7"), looks := false }, kinds := [], alts := [], laidByText := true, laidKinds := [.data, .pinned], laidTests := true, laidLooks := .later }
def ImageParsesUptoCardSaid : Prop := Claim7.holds Tryd.pinned (.plain (OpenSpec.upto imageParsesSpec)) imageParsesUptoCard

/-- THE SECOND FORM's CARD OF 'mimesislaw15.ImagePrints'. -/
def imagePrintsUptoCard : Claim7 := { stood := { row := imagePrintsUptoRow, standIns := [], harness := (true, "c1ff958bc02c3f44ea5b62116ed77d5206f68126dc19f2a095c80df28bfdf8a7"), looks := false }, kinds := [], alts := [], laidByText := true, laidKinds := [.data, .pinned], laidTests := true, laidLooks := .later }
def ImagePrintsUptoCardSaid : Prop := Claim7.holds Tryd.pinned (.plain (OpenSpec.upto imagePrintsSpec)) imagePrintsUptoCard

/-- THE SECOND FORM's CARD OF 'mimesislaw15.ImageWords'. -/
def imageWordsUptoCard : Claim7 := { stood := { row := imageWordsUptoRow, standIns := [], harness := (true, "c1ff958bc02c3f44ea5b62116ed77d5206f68126dc19f2a095c80df28bfdf8a7"), looks := false }, kinds := [], alts := [], laidByText := true, laidKinds := [.data, .pinned], laidTests := true, laidLooks := .later }
def ImageWordsUptoCardSaid : Prop := Claim7.holds Tryd.pinned (.plain (OpenSpec.upto imageWordsSpec)) imageWordsUptoCard

/-- THE SECOND FORM's CARD OF 'mimesislaw15.ImageLays'. -/
def imageLaysUptoCard : Claim7 := { stood := { row := imageLaysUptoRow, standIns := [], harness := (true, "c1ff958bc02c3f44ea5b62116ed77d5206f68126dc19f2a095c80df28bfdf8a7"), looks := false }, kinds := [], alts := [], laidByText := true, laidKinds := [.data, .pinned], laidTests := true, laidLooks := .later }
def ImageLaysUptoCardSaid : Prop := Claim7.holds Tryd.pinned (.plain (OpenSpec.upto imageLaysSpec)) imageLaysUptoCard

/-- THE SECOND FORM's CARD OF 'mimesislaw37.PolicyTurns'. -/
def policyTurnsUptoCard : Claim7 := { stood := { row := policyTurnsUptoRow, standIns := [], harness := (true, "c1ff958bc02c3f44ea5b62116ed77d5206f68126dc19f2a095c80df28bfdf8a7"), looks := false }, kinds := [], alts := [], laidByText := true, laidKinds := [.data, .data, .pinned], laidTests := true, laidLooks := .later }
def PolicyTurnsUptoCardSaid : Prop := Claim7.holds Tryd.pinned (.plain (OpenSpec.upto policyTurnsSpec)) policyTurnsUptoCard

/-- THE SECOND FORM's CARD OF 'mimesislaw37.PolicyParses'. -/
def policyParsesUptoCard : Claim7 := { stood := { row := policyParsesUptoRow, standIns := [], harness := (true, "c1ff958bc02c3f44ea5b62116ed77d5206f68126dc19f2a095c80df28bfdf8a7"), looks := false }, kinds := [], alts := [], laidByText := true, laidKinds := [.data, .data, .pinned], laidTests := true, laidLooks := .later }
def PolicyParsesUptoCardSaid : Prop := Claim7.holds Tryd.pinned (.plain (OpenSpec.upto policyParsesSpec)) policyParsesUptoCard

/-- THE SECOND FORM's CARD OF 'mimesislaw37.PolicySets'. -/
def policySetsUptoCard : Claim7 := { stood := { row := policySetsUptoRow, standIns := [], harness := (true, "c1ff958bc02c3f44ea5b62116ed77d5206f68126dc19f2a095c80df28bfdf8a7"), looks := false }, kinds := [], alts := [], laidByText := true, laidKinds := [.data, .data, .pinned], laidTests := true, laidLooks := .later }
def PolicySetsUptoCardSaid : Prop := Claim7.holds Tryd.pinned (.plain (OpenSpec.upto policySetsSpec)) policySetsUptoCard

/-- THE SECOND FORM's CARD OF 'mimesislaw37.PolicyPrints'. -/
def policyPrintsUptoCard : Claim7 := { stood := { row := policyPrintsUptoRow, standIns := [], harness := (true, "c1ff958bc02c3f44ea5b62116ed77d5206f68126dc19f2a095c80df28bfdf8a7"), looks := false }, kinds := [], alts := [], laidByText := true, laidKinds := [.data, .data, .pinned], laidTests := true, laidLooks := .later }
def PolicyPrintsUptoCardSaid : Prop := Claim7.holds Tryd.pinned (.plain (OpenSpec.upto policyPrintsSpec)) policyPrintsUptoCard
end Rows
end Go.Proofs.YtfnbpmkbjbibkaaDoor
