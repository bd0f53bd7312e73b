/-
  NARROWER THAN 'FOR EVERY INPUT', by the rows' own cells (each row's printed sentence says how): BusClasses: laid · BusHits: laid · BusNils: laid · BusPlays: laid.
  DERIVED. THE GIVEN ROWS OF THIS SEAT. 4 by the template 'for every input the law returns true; each argument reads behind the call as it read before'; 0 by the template 'total and deterministic' (their statements: YtdalboofhckobaaDoorTotals.lean).
  GIVEN WITH THE SEED: the statements are not yours to turn. If you find one false, say at which input.
  Laid BY PROGRAM, IN A SANDBOX (cutbox-rows.mjs): the forced cells as the released guide's own fill.sh prints them over the translation ee505f2a257e7c50… (all of the seat's roots in one cut). By AI agents, Wed Nov 11 2026. No macro, syntax, notation, axiom, sorry.
-/
import Derived.Test.YtdalboofhckobaaDoorChecked
import GoSem.Claim
import GoSem.ClaimJoined
import GoSem.ClaimMapViews
import Derived.JoinedTies
import Derived.KernelRfl
namespace Go.Proofs.YtdalboofhckobaaDoor
/- THE CELL 'sum', in the pinned program and in every row, IS THE sha256 OF THE DUMP (.gsa) THAT YtdalboofhckobaaDoorProg.lean LOADS. Nothing in Lean hashes anything: it is a label: what it is worth is what the hold of that sum in a sandbox is worth. -/
noncomputable def Tryd.pinned : Pinned := { name := "ytdalboofhckobaadoor", sum := "ee505f2a257e7c50774f7d00c19a5ac954a440d5ee8e559759a0b174715054ce", checked := Tryd.checked }
namespace Rows
def none {H : Type} : Left H := { results := [], args := [] }

/- WHAT THE LISTED PACKAGE-LEVEL VARIABLES READ AS WHEN THE CALL BEGINS. Each datum BY PROGRAM (the guide's laid-datum.mjs) off the statement by which the dump's own 'gosem.cut.vars' lays the variable. In a bare row this is a premise. The card (YtdalboofhckobaaDoorCards.lean) ties it to the program's text. -/
def laid_mimesis_bus_ports {H : Type} : DataW H := .agg [.agg [.lit (.int .u32 1048576), .lit (.int .u32 4)], .agg [.lit (.int .u32 268435456), .lit (.int .u32 8)], .agg [.lit (.int .u32 33554432), .lit (.int .u32 4)], .agg [.lit (.int .u32 33570816), .lit (.int .u32 8)], .agg [.lit (.int .u32 33603576), .lit (.int .u32 8)]]

/-- 'mimesislaw14.BusClasses': WHATEVER THE INPUT: true; the input reads as it did. -/
def busClassesSpec : ChangeSpec := { name := "busClasses", fn := fun _ => fun
  | [d1, d2, d3] => { results := [.lit (.bool true)], args := [d1, d2, d3] }
  | _ => none }
def busClassesRow : OpenClaim := { program := "ytdalboofhckobaadoor", sum := "ee505f2a257e7c50774f7d00c19a5ac954a440d5ee8e559759a0b174715054ce", func := "mimesis/mimesislaw14.BusClasses", spec := "busClasses", unfollowed := true, recurses := true, named := ["mimesis/bus.ports"], apart := false, laid := [("mimesis/bus.ports", laid_mimesis_bus_ports)] }
def BusClassesSaid : Prop := busClassesRow.holds Tryd.pinned (OpenSpec.ofChange busClassesSpec)

/-- ITS FALSE NEIGHBOUR: 'it returns false'. Refute it at one input. -/
def busClassesWrong : ChangeSpec := { name := "busClasses", fn := fun _ => fun
  | [d1, d2, d3] => { results := [.lit (.bool false)], args := [d1, d2, d3] }
  | _ => none }
def BusClassesWrongFalsely : Prop := busClassesRow.holds Tryd.pinned (OpenSpec.ofChange busClassesWrong)

/-- 'mimesislaw14.BusHits': WHATEVER THE INPUT: true; the input reads as it did. -/
def busHitsSpec : ChangeSpec := { name := "busHits", fn := fun _ => fun
  | [d1, d2, d3] => { results := [.lit (.bool true)], args := [d1, d2, d3] }
  | _ => none }
def busHitsRow : OpenClaim := { program := "ytdalboofhckobaadoor", sum := "ee505f2a257e7c50774f7d00c19a5ac954a440d5ee8e559759a0b174715054ce", func := "mimesis/mimesislaw14.BusHits", spec := "busHits", unfollowed := true, recurses := true, named := ["mimesis/bus.ports"], apart := false, laid := [("mimesis/bus.ports", laid_mimesis_bus_ports)] }
def BusHitsSaid : Prop := busHitsRow.holds Tryd.pinned (OpenSpec.ofChange busHitsSpec)

/-- ITS FALSE NEIGHBOUR: 'it returns false'. Refute it at one input. -/
def busHitsWrong : ChangeSpec := { name := "busHits", fn := fun _ => fun
  | [d1, d2, d3] => { results := [.lit (.bool false)], args := [d1, d2, d3] }
  | _ => none }
def BusHitsWrongFalsely : Prop := busHitsRow.holds Tryd.pinned (OpenSpec.ofChange busHitsWrong)

/-- 'mimesislaw14.BusNils': WHATEVER THE INPUT: true; the input reads as it did. -/
def busNilsSpec : ChangeSpec := { name := "busNils", fn := fun _ => fun
  | [d1, d2, d3] => { results := [.lit (.bool true)], args := [d1, d2, d3] }
  | _ => none }
def busNilsRow : OpenClaim := { program := "ytdalboofhckobaadoor", sum := "ee505f2a257e7c50774f7d00c19a5ac954a440d5ee8e559759a0b174715054ce", func := "mimesis/mimesislaw14.BusNils", spec := "busNils", unfollowed := true, recurses := true, named := ["mimesis/bus.ports"], apart := false, laid := [("mimesis/bus.ports", laid_mimesis_bus_ports)] }
def BusNilsSaid : Prop := busNilsRow.holds Tryd.pinned (OpenSpec.ofChange busNilsSpec)

/-- ITS FALSE NEIGHBOUR: 'it returns false'. Refute it at one input. -/
def busNilsWrong : ChangeSpec := { name := "busNils", fn := fun _ => fun
  | [d1, d2, d3] => { results := [.lit (.bool false)], args := [d1, d2, d3] }
  | _ => none }
def BusNilsWrongFalsely : Prop := busNilsRow.holds Tryd.pinned (OpenSpec.ofChange busNilsWrong)

/-- 'mimesislaw14.BusPlays': WHATEVER THE INPUT: true; the input reads as it did. -/
def busPlaysSpec : ChangeSpec := { name := "busPlays", fn := fun _ => fun
  | [d1, d2, d3] => { results := [.lit (.bool true)], args := [d1, d2, d3] }
  | _ => none }
def busPlaysRow : OpenClaim := { program := "ytdalboofhckobaadoor", sum := "ee505f2a257e7c50774f7d00c19a5ac954a440d5ee8e559759a0b174715054ce", func := "mimesis/mimesislaw14.BusPlays", spec := "busPlays", unfollowed := true, recurses := true, named := ["mimesis/bus.ports"], apart := false, laid := [("mimesis/bus.ports", laid_mimesis_bus_ports)] }
def BusPlaysSaid : Prop := busPlaysRow.holds Tryd.pinned (OpenSpec.ofChange busPlaysSpec)

/-- ITS FALSE NEIGHBOUR: 'it returns false'. Refute it at one input. -/
def busPlaysWrong : ChangeSpec := { name := "busPlays", fn := fun _ => fun
  | [d1, d2, d3] => { results := [.lit (.bool false)], args := [d1, d2, d3] }
  | _ => none }
def BusPlaysWrongFalsely : Prop := busPlaysRow.holds Tryd.pinned (OpenSpec.ofChange busPlaysWrong)

/- THE SECOND FORM. 'bulk': how many values and letters a reading holds, each counted each time it is reached (what is shared counts as often as it is met; a slice's spare places count too). A statement '..UptoSaid' is the law's where the arguments, and the package variables that the reading takes, are together of bulk at most 1048576: NARROWER than '..Said'. Prove '..Said' where nothing that the law and all that it calls make is longer than what came in: it says more and counts as full. Else prove '..UptoSaid'. A law counts once. -/
mutual
def uptoBulk {H : Type} : DataW H → Nat
  | .lit (.string bytes) => bytes.length + 1
  | .lit _ => 1
  | .nil => 1
  | .ptr d => uptoBulk d + 1
  | .slice elems spare => uptoBulkAll elems + uptoBulkAll spare + 1
  | .agg parts => uptoBulkAll parts + 1
  | .iface _ d => uptoBulk d + 1
  | .map entries => uptoBulkEntries entries + 1
  | .held _ => 1
def uptoBulkAll {H : Type} : List (DataW H) → Nat
  | [] => 0
  | d :: r => uptoBulk d + uptoBulkAll r
def uptoBulkEntries {H : Type} : List (Lit × DataW H) → Nat
  | [] => 0
  | x :: r => uptoBulkEntry x + uptoBulkEntries r
def uptoBulkEntry {H : Type} : Lit × DataW H → Nat
  | (.string bytes, d) => bytes.length + uptoBulk d + 1
  | (_, d) => uptoBulk d + 1
 end
def uptoSmall : (H : Type) → List (DataW H) → Bool := fun _ ds => decide (uptoBulkAll ds ≤ 1048576)
def OpenSpec.upto (s : _root_.Go.ChangeSpec) : _root_.Go.OpenSpec := { _root_.Go.OpenSpec.ofChange s with cond := some uptoSmall }

/-- 'mimesislaw14.BusClasses', WHERE WHAT IT READS IS OF BULK AT MOST 1048576: true; the input reads as it did. -/
def busClassesUptoRow : OpenClaim := { program := "ytdalboofhckobaadoor", sum := "ee505f2a257e7c50774f7d00c19a5ac954a440d5ee8e559759a0b174715054ce", func := "mimesis/mimesislaw14.BusClasses", spec := "busClasses", unfollowed := true, recurses := true, named := ["mimesis/bus.ports"], apart := false, laid := [("mimesis/bus.ports", laid_mimesis_bus_ports)], narrowed := true }
def BusClassesUptoSaid : Prop := busClassesUptoRow.holds Tryd.pinned (OpenSpec.upto busClassesSpec)

/-- 'mimesislaw14.BusHits', WHERE WHAT IT READS IS OF BULK AT MOST 1048576: true; the input reads as it did. -/
def busHitsUptoRow : OpenClaim := { program := "ytdalboofhckobaadoor", sum := "ee505f2a257e7c50774f7d00c19a5ac954a440d5ee8e559759a0b174715054ce", func := "mimesis/mimesislaw14.BusHits", spec := "busHits", unfollowed := true, recurses := true, named := ["mimesis/bus.ports"], apart := false, laid := [("mimesis/bus.ports", laid_mimesis_bus_ports)], narrowed := true }
def BusHitsUptoSaid : Prop := busHitsUptoRow.holds Tryd.pinned (OpenSpec.upto busHitsSpec)

/-- 'mimesislaw14.BusNils', WHERE WHAT IT READS IS OF BULK AT MOST 1048576: true; the input reads as it did. -/
def busNilsUptoRow : OpenClaim := { program := "ytdalboofhckobaadoor", sum := "ee505f2a257e7c50774f7d00c19a5ac954a440d5ee8e559759a0b174715054ce", func := "mimesis/mimesislaw14.BusNils", spec := "busNils", unfollowed := true, recurses := true, named := ["mimesis/bus.ports"], apart := false, laid := [("mimesis/bus.ports", laid_mimesis_bus_ports)], narrowed := true }
def BusNilsUptoSaid : Prop := busNilsUptoRow.holds Tryd.pinned (OpenSpec.upto busNilsSpec)

/-- 'mimesislaw14.BusPlays', WHERE WHAT IT READS IS OF BULK AT MOST 1048576: true; the input reads as it did. -/
def busPlaysUptoRow : OpenClaim := { program := "ytdalboofhckobaadoor", sum := "ee505f2a257e7c50774f7d00c19a5ac954a440d5ee8e559759a0b174715054ce", func := "mimesis/mimesislaw14.BusPlays", spec := "busPlays", unfollowed := true, recurses := true, named := ["mimesis/bus.ports"], apart := false, laid := [("mimesis/bus.ports", laid_mimesis_bus_ports)], narrowed := true }
def BusPlaysUptoSaid : Prop := busPlaysUptoRow.holds Tryd.pinned (OpenSpec.upto busPlaysSpec)

end Rows
end Go.Proofs.YtdalboofhckobaaDoor
