/-
  DERIVED. GIVEN WITH THE SEED: THE CARDS: each row of YtdalboofhckobaaDoorRows.lean that lists a variable, with what it lists TIED to the program's text (the seventh form; the later family's looks); each row that meets fmt, with fmt's text TOLD by the authors' own Lean function (tested against real Go, not proved from fmt's source: count such statements apart). THE CARD IS WHAT COUNTS. Prove the row's statement (the work); the ties are given (YtdalboofhckobaaDoorTie.lean); close each card by the builder's one call (the guide's Derived/Test/ToyasCard.lean, 'card_holds'). Laid BY PROGRAM, IN A SANDBOX (cutbox-door.mjs). By AI agents, Wed Nov 11 2026. No macro, syntax, notation, axiom, sorry.
-/
import Derived.Test.YtdalboofhckobaaDoorRows
import GoSem.ClaimSeven
namespace Go.Proofs.YtdalboofhckobaaDoor
namespace Rows

/-- THE TIED CARD OF 'mimesislaw14.BusClasses'. -/
def busClassesCard : Claim7 := { stood := { row := busClassesRow, standIns := [], harness := (true, "2b20881b2a8946b3faa3ed7e929b9dee6536feefe6f503b165f01c4becbe4416"), looks := false }, kinds := [], alts := [], laidByText := true, laidKinds := [.data], laidTests := true, laidLooks := .later }
def BusClassesCardSaid : Prop := Claim7.holds Tryd.pinned (.plain (OpenSpec.ofChange busClassesSpec)) busClassesCard

/-- THE TIED CARD OF 'mimesislaw14.BusHits'. -/
def busHitsCard : Claim7 := { stood := { row := busHitsRow, standIns := [], harness := (true, "2b20881b2a8946b3faa3ed7e929b9dee6536feefe6f503b165f01c4becbe4416"), looks := false }, kinds := [], alts := [], laidByText := true, laidKinds := [.data], laidTests := true, laidLooks := .later }
def BusHitsCardSaid : Prop := Claim7.holds Tryd.pinned (.plain (OpenSpec.ofChange busHitsSpec)) busHitsCard

/-- THE TIED CARD OF 'mimesislaw14.BusNils'. -/
def busNilsCard : Claim7 := { stood := { row := busNilsRow, standIns := [], harness := (true, "2b20881b2a8946b3faa3ed7e929b9dee6536feefe6f503b165f01c4becbe4416"), looks := false }, kinds := [], alts := [], laidByText := true, laidKinds := [.data], laidTests := true, laidLooks := .later }
def BusNilsCardSaid : Prop := Claim7.holds Tryd.pinned (.plain (OpenSpec.ofChange busNilsSpec)) busNilsCard

/-- THE TIED CARD OF 'mimesislaw14.BusPlays'. -/
def busPlaysCard : Claim7 := { stood := { row := busPlaysRow, standIns := [], harness := (true, "2b20881b2a8946b3faa3ed7e929b9dee6536feefe6f503b165f01c4becbe4416"), looks := false }, kinds := [], alts := [], laidByText := true, laidKinds := [.data], laidTests := true, laidLooks := .later }
def BusPlaysCardSaid : Prop := Claim7.holds Tryd.pinned (.plain (OpenSpec.ofChange busPlaysSpec)) busPlaysCard

/-- THE SECOND FORM's CARD OF 'mimesislaw14.BusClasses'. -/
def busClassesUptoCard : Claim7 := { stood := { row := busClassesUptoRow, standIns := [], harness := (true, "2b20881b2a8946b3faa3ed7e929b9dee6536feefe6f503b165f01c4becbe4416"), looks := false }, kinds := [], alts := [], laidByText := true, laidKinds := [.data], laidTests := true, laidLooks := .later }
def BusClassesUptoCardSaid : Prop := Claim7.holds Tryd.pinned (.plain (OpenSpec.upto busClassesSpec)) busClassesUptoCard

/-- THE SECOND FORM's CARD OF 'mimesislaw14.BusHits'. -/
def busHitsUptoCard : Claim7 := { stood := { row := busHitsUptoRow, standIns := [], harness := (true, "2b20881b2a8946b3faa3ed7e929b9dee6536feefe6f503b165f01c4becbe4416"), looks := false }, kinds := [], alts := [], laidByText := true, laidKinds := [.data], laidTests := true, laidLooks := .later }
def BusHitsUptoCardSaid : Prop := Claim7.holds Tryd.pinned (.plain (OpenSpec.upto busHitsSpec)) busHitsUptoCard

/-- THE SECOND FORM's CARD OF 'mimesislaw14.BusNils'. -/
def busNilsUptoCard : Claim7 := { stood := { row := busNilsUptoRow, standIns := [], harness := (true, "2b20881b2a8946b3faa3ed7e929b9dee6536feefe6f503b165f01c4becbe4416"), looks := false }, kinds := [], alts := [], laidByText := true, laidKinds := [.data], laidTests := true, laidLooks := .later }
def BusNilsUptoCardSaid : Prop := Claim7.holds Tryd.pinned (.plain (OpenSpec.upto busNilsSpec)) busNilsUptoCard

/-- THE SECOND FORM's CARD OF 'mimesislaw14.BusPlays'. -/
def busPlaysUptoCard : Claim7 := { stood := { row := busPlaysUptoRow, standIns := [], harness := (true, "2b20881b2a8946b3faa3ed7e929b9dee6536feefe6f503b165f01c4becbe4416"), looks := false }, kinds := [], alts := [], laidByText := true, laidKinds := [.data], laidTests := true, laidLooks := .later }
def BusPlaysUptoCardSaid : Prop := Claim7.holds Tryd.pinned (.plain (OpenSpec.upto busPlaysSpec)) busPlaysUptoCard
end Rows
end Go.Proofs.YtdalboofhckobaaDoor
