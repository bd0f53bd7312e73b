/-
  No cell of these rows narrows 'for every input' (looked for: loops, veiled, ifaces, maps, wideKeys, modest, calm, conditions, laid).
  DERIVED. THE GIVEN ROWS OF THIS SEAT. 8 by the template 'for every input the law returns true; each argument reads behind the call as it read before'; 0 by the template 'total and deterministic' (their statements: YtdalboofhckobaaTotals.lean).
  GIVEN WITH THE SEED: the statements are not yours to turn. If you find one false, say at which input.
  Laid BY PROGRAM, IN A SANDBOX (cutbox-rows.mjs): the forced cells as the released guide's own fill.sh prints them over the translation 2f6bde6907c348da… (all of the seat's roots in one cut). By AI agents, Wed Nov 11 2026. No macro, syntax, notation, axiom, sorry.
-/
import Derived.Test.YtdalboofhckobaaChecked
import GoSem.Claim
import GoSem.ClaimJoined
import GoSem.ClaimMapViews
import Derived.JoinedTies
import Derived.KernelRfl
namespace Go.Proofs.Ytdalboofhckobaa
/- THE CELL 'sum', in the pinned program and in every row, IS THE sha256 OF THE DUMP (.gsa) THAT YtdalboofhckobaaProg.lean LOADS. Nothing in Lean hashes anything: it is a label: what it is worth is what the hold of that sum in a sandbox is worth. -/
noncomputable def Try.pinned : Pinned := { name := "ytdalboofhckobaa", sum := "2f6bde6907c348da222071e794a84d0e9e4d08e16caf5a086041746b98ad326f", checked := Try.checked }
namespace Rows
def none {H : Type} : Left H := { results := [], args := [] }

/-- 'mimesislaw10.RamAsks': WHATEVER THE INPUT: true; the input reads as it did. -/
def ramAsksSpec : ChangeSpec := { name := "ramAsks", fn := fun _ => fun
  | [d1, d2, d3] => { results := [.lit (.bool true)], args := [d1, d2, d3] }
  | _ => none }
def ramAsksRow : OpenClaim := { program := "ytdalboofhckobaa", sum := "2f6bde6907c348da222071e794a84d0e9e4d08e16caf5a086041746b98ad326f", func := "mimesis/mimesislaw10.RamAsks", spec := "ramAsks", apart := false }
def RamAsksSaid : Prop := ramAsksRow.holds Try.pinned (OpenSpec.ofChange ramAsksSpec)

/-- ITS FALSE NEIGHBOUR: 'it returns false'. Refute it at one input. -/
def ramAsksWrong : ChangeSpec := { name := "ramAsks", fn := fun _ => fun
  | [d1, d2, d3] => { results := [.lit (.bool false)], args := [d1, d2, d3] }
  | _ => none }
def RamAsksWrongFalsely : Prop := ramAsksRow.holds Try.pinned (OpenSpec.ofChange ramAsksWrong)

/-- 'mimesislaw10.RamNews': WHATEVER THE INPUT: true; the input reads as it did. -/
def ramNewsSpec : ChangeSpec := { name := "ramNews", fn := fun _ => fun
  | [d] => { results := [.lit (.bool true)], args := [d] }
  | _ => none }
def ramNewsRow : OpenClaim := { program := "ytdalboofhckobaa", sum := "2f6bde6907c348da222071e794a84d0e9e4d08e16caf5a086041746b98ad326f", func := "mimesis/mimesislaw10.RamNews", spec := "ramNews", apart := false }
def RamNewsSaid : Prop := ramNewsRow.holds Try.pinned (OpenSpec.ofChange ramNewsSpec)

/-- ITS FALSE NEIGHBOUR: 'it returns false'. Refute it at one input. -/
def ramNewsWrong : ChangeSpec := { name := "ramNews", fn := fun _ => fun
  | [d] => { results := [.lit (.bool false)], args := [d] }
  | _ => none }
def RamNewsWrongFalsely : Prop := ramNewsRow.holds Try.pinned (OpenSpec.ofChange ramNewsWrong)

/-- 'mimesislaw10.RamPlays': WHATEVER THE INPUT: true; the input reads as it did. -/
def ramPlaysSpec : ChangeSpec := { name := "ramPlays", fn := fun _ => fun
  | [d1, d2] => { results := [.lit (.bool true)], args := [d1, d2] }
  | _ => none }
def ramPlaysRow : OpenClaim := { program := "ytdalboofhckobaa", sum := "2f6bde6907c348da222071e794a84d0e9e4d08e16caf5a086041746b98ad326f", func := "mimesis/mimesislaw10.RamPlays", spec := "ramPlays", apart := false }
def RamPlaysSaid : Prop := ramPlaysRow.holds Try.pinned (OpenSpec.ofChange ramPlaysSpec)

/-- ITS FALSE NEIGHBOUR: 'it returns false'. Refute it at one input. -/
def ramPlaysWrong : ChangeSpec := { name := "ramPlays", fn := fun _ => fun
  | [d1, d2] => { results := [.lit (.bool false)], args := [d1, d2] }
  | _ => none }
def RamPlaysWrongFalsely : Prop := ramPlaysRow.holds Try.pinned (OpenSpec.ofChange ramPlaysWrong)

/-- 'mimesislaw10.RamNils': WHATEVER THE INPUT: true; the input reads as it did. -/
def ramNilsSpec : ChangeSpec := { name := "ramNils", fn := fun _ => fun
  | [d1, d2, d3] => { results := [.lit (.bool true)], args := [d1, d2, d3] }
  | _ => none }
def ramNilsRow : OpenClaim := { program := "ytdalboofhckobaa", sum := "2f6bde6907c348da222071e794a84d0e9e4d08e16caf5a086041746b98ad326f", func := "mimesis/mimesislaw10.RamNils", spec := "ramNils", apart := false }
def RamNilsSaid : Prop := ramNilsRow.holds Try.pinned (OpenSpec.ofChange ramNilsSpec)

/-- ITS FALSE NEIGHBOUR: 'it returns false'. Refute it at one input. -/
def ramNilsWrong : ChangeSpec := { name := "ramNils", fn := fun _ => fun
  | [d1, d2, d3] => { results := [.lit (.bool false)], args := [d1, d2, d3] }
  | _ => none }
def RamNilsWrongFalsely : Prop := ramNilsRow.holds Try.pinned (OpenSpec.ofChange ramNilsWrong)

/-- 'mimesislaw12.ConsoleReads': WHATEVER THE INPUT: true; the input reads as it did. -/
def consoleReadsSpec : ChangeSpec := { name := "consoleReads", fn := fun _ => fun
  | [d] => { results := [.lit (.bool true)], args := [d] }
  | _ => none }
def consoleReadsRow : OpenClaim := { program := "ytdalboofhckobaa", sum := "2f6bde6907c348da222071e794a84d0e9e4d08e16caf5a086041746b98ad326f", func := "mimesis/mimesislaw12.ConsoleReads", spec := "consoleReads", unfollowed := true, recurses := true, apart := false }
def ConsoleReadsSaid : Prop := consoleReadsRow.holds Try.pinned (OpenSpec.ofChange consoleReadsSpec)

/-- ITS FALSE NEIGHBOUR: 'it returns false'. Refute it at one input. -/
def consoleReadsWrong : ChangeSpec := { name := "consoleReads", fn := fun _ => fun
  | [d] => { results := [.lit (.bool false)], args := [d] }
  | _ => none }
def ConsoleReadsWrongFalsely : Prop := consoleReadsRow.holds Try.pinned (OpenSpec.ofChange consoleReadsWrong)

/-- 'mimesislaw12.ConsoleAtOnce': WHATEVER THE INPUT: true; the input reads as it did. -/
def consoleAtOnceSpec : ChangeSpec := { name := "consoleAtOnce", fn := fun _ => fun
  | [d1, d2, d3] => { results := [.lit (.bool true)], args := [d1, d2, d3] }
  | _ => none }
def consoleAtOnceRow : OpenClaim := { program := "ytdalboofhckobaa", sum := "2f6bde6907c348da222071e794a84d0e9e4d08e16caf5a086041746b98ad326f", func := "mimesis/mimesislaw12.ConsoleAtOnce", spec := "consoleAtOnce", unfollowed := true, recurses := true, apart := false }
def ConsoleAtOnceSaid : Prop := consoleAtOnceRow.holds Try.pinned (OpenSpec.ofChange consoleAtOnceSpec)

/-- ITS FALSE NEIGHBOUR: 'it returns false'. Refute it at one input. -/
def consoleAtOnceWrong : ChangeSpec := { name := "consoleAtOnce", fn := fun _ => fun
  | [d1, d2, d3] => { results := [.lit (.bool false)], args := [d1, d2, d3] }
  | _ => none }
def ConsoleAtOnceWrongFalsely : Prop := consoleAtOnceRow.holds Try.pinned (OpenSpec.ofChange consoleAtOnceWrong)

/-- 'mimesislaw12.ConsolePlays': WHATEVER THE INPUT: true; the input reads as it did. -/
def consolePlaysSpec : ChangeSpec := { name := "consolePlays", fn := fun _ => fun
  | [d1, d2] => { results := [.lit (.bool true)], args := [d1, d2] }
  | _ => none }
def consolePlaysRow : OpenClaim := { program := "ytdalboofhckobaa", sum := "2f6bde6907c348da222071e794a84d0e9e4d08e16caf5a086041746b98ad326f", func := "mimesis/mimesislaw12.ConsolePlays", spec := "consolePlays", unfollowed := true, recurses := true, apart := false }
def ConsolePlaysSaid : Prop := consolePlaysRow.holds Try.pinned (OpenSpec.ofChange consolePlaysSpec)

/-- ITS FALSE NEIGHBOUR: 'it returns false'. Refute it at one input. -/
def consolePlaysWrong : ChangeSpec := { name := "consolePlays", fn := fun _ => fun
  | [d1, d2] => { results := [.lit (.bool false)], args := [d1, d2] }
  | _ => none }
def ConsolePlaysWrongFalsely : Prop := consolePlaysRow.holds Try.pinned (OpenSpec.ofChange consolePlaysWrong)

/-- 'mimesislaw12.ConsoleNils': WHATEVER THE INPUT: true; the input reads as it did. -/
def consoleNilsSpec : ChangeSpec := { name := "consoleNils", fn := fun _ => fun
  | [d1, d2, d3] => { results := [.lit (.bool true)], args := [d1, d2, d3] }
  | _ => none }
def consoleNilsRow : OpenClaim := { program := "ytdalboofhckobaa", sum := "2f6bde6907c348da222071e794a84d0e9e4d08e16caf5a086041746b98ad326f", func := "mimesis/mimesislaw12.ConsoleNils", spec := "consoleNils", unfollowed := true, recurses := true, apart := false }
def ConsoleNilsSaid : Prop := consoleNilsRow.holds Try.pinned (OpenSpec.ofChange consoleNilsSpec)

/-- ITS FALSE NEIGHBOUR: 'it returns false'. Refute it at one input. -/
def consoleNilsWrong : ChangeSpec := { name := "consoleNils", fn := fun _ => fun
  | [d1, d2, d3] => { results := [.lit (.bool false)], args := [d1, d2, d3] }
  | _ => none }
def ConsoleNilsWrongFalsely : Prop := consoleNilsRow.holds Try.pinned (OpenSpec.ofChange consoleNilsWrong)

/- THE SECOND FORM. 'bulk': how many values and letters a reading holds, each counted each time it is reached (what is shared counts as often as it is met; a slice's spare places count too). A statement '..UptoSaid' is the law's where the arguments, and the package variables that the reading takes, are together of bulk at most 1048576: NARROWER than '..Said'. Prove '..Said' where nothing that the law and all that it calls make is longer than what came in: it says more and counts as full. Else prove '..UptoSaid'. A law counts once. -/
mutual
def uptoBulk {H : Type} : DataW H → Nat
  | .lit (.string bytes) => bytes.length + 1
  | .lit _ => 1
  | .nil => 1
  | .ptr d => uptoBulk d + 1
  | .slice elems spare => uptoBulkAll elems + uptoBulkAll spare + 1
  | .agg parts => uptoBulkAll parts + 1
  | .iface _ d => uptoBulk d + 1
  | .map entries => uptoBulkEntries entries + 1
  | .held _ => 1
def uptoBulkAll {H : Type} : List (DataW H) → Nat
  | [] => 0
  | d :: r => uptoBulk d + uptoBulkAll r
def uptoBulkEntries {H : Type} : List (Lit × DataW H) → Nat
  | [] => 0
  | x :: r => uptoBulkEntry x + uptoBulkEntries r
def uptoBulkEntry {H : Type} : Lit × DataW H → Nat
  | (.string bytes, d) => bytes.length + uptoBulk d + 1
  | (_, d) => uptoBulk d + 1
 end
def uptoSmall : (H : Type) → List (DataW H) → Bool := fun _ ds => decide (uptoBulkAll ds ≤ 1048576)
def OpenSpec.upto (s : _root_.Go.ChangeSpec) : _root_.Go.OpenSpec := { _root_.Go.OpenSpec.ofChange s with cond := some uptoSmall }

/-- 'mimesislaw10.RamAsks', WHERE WHAT IT READS IS OF BULK AT MOST 1048576: true; the input reads as it did. -/
def ramAsksUptoRow : OpenClaim := { program := "ytdalboofhckobaa", sum := "2f6bde6907c348da222071e794a84d0e9e4d08e16caf5a086041746b98ad326f", func := "mimesis/mimesislaw10.RamAsks", spec := "ramAsks", apart := false, narrowed := true }
def RamAsksUptoSaid : Prop := ramAsksUptoRow.holds Try.pinned (OpenSpec.upto ramAsksSpec)

/-- 'mimesislaw10.RamNews', WHERE WHAT IT READS IS OF BULK AT MOST 1048576: true; the input reads as it did. -/
def ramNewsUptoRow : OpenClaim := { program := "ytdalboofhckobaa", sum := "2f6bde6907c348da222071e794a84d0e9e4d08e16caf5a086041746b98ad326f", func := "mimesis/mimesislaw10.RamNews", spec := "ramNews", apart := false, narrowed := true }
def RamNewsUptoSaid : Prop := ramNewsUptoRow.holds Try.pinned (OpenSpec.upto ramNewsSpec)

/-- 'mimesislaw10.RamPlays', WHERE WHAT IT READS IS OF BULK AT MOST 1048576: true; the input reads as it did. -/
def ramPlaysUptoRow : OpenClaim := { program := "ytdalboofhckobaa", sum := "2f6bde6907c348da222071e794a84d0e9e4d08e16caf5a086041746b98ad326f", func := "mimesis/mimesislaw10.RamPlays", spec := "ramPlays", apart := false, narrowed := true }
def RamPlaysUptoSaid : Prop := ramPlaysUptoRow.holds Try.pinned (OpenSpec.upto ramPlaysSpec)

/-- 'mimesislaw10.RamNils', WHERE WHAT IT READS IS OF BULK AT MOST 1048576: true; the input reads as it did. -/
def ramNilsUptoRow : OpenClaim := { program := "ytdalboofhckobaa", sum := "2f6bde6907c348da222071e794a84d0e9e4d08e16caf5a086041746b98ad326f", func := "mimesis/mimesislaw10.RamNils", spec := "ramNils", apart := false, narrowed := true }
def RamNilsUptoSaid : Prop := ramNilsUptoRow.holds Try.pinned (OpenSpec.upto ramNilsSpec)

/-- 'mimesislaw12.ConsoleReads', WHERE WHAT IT READS IS OF BULK AT MOST 1048576: true; the input reads as it did. -/
def consoleReadsUptoRow : OpenClaim := { program := "ytdalboofhckobaa", sum := "2f6bde6907c348da222071e794a84d0e9e4d08e16caf5a086041746b98ad326f", func := "mimesis/mimesislaw12.ConsoleReads", spec := "consoleReads", unfollowed := true, recurses := true, apart := false, narrowed := true }
def ConsoleReadsUptoSaid : Prop := consoleReadsUptoRow.holds Try.pinned (OpenSpec.upto consoleReadsSpec)

/-- 'mimesislaw12.ConsoleAtOnce', WHERE WHAT IT READS IS OF BULK AT MOST 1048576: true; the input reads as it did. -/
def consoleAtOnceUptoRow : OpenClaim := { program := "ytdalboofhckobaa", sum := "2f6bde6907c348da222071e794a84d0e9e4d08e16caf5a086041746b98ad326f", func := "mimesis/mimesislaw12.ConsoleAtOnce", spec := "consoleAtOnce", unfollowed := true, recurses := true, apart := false, narrowed := true }
def ConsoleAtOnceUptoSaid : Prop := consoleAtOnceUptoRow.holds Try.pinned (OpenSpec.upto consoleAtOnceSpec)

/-- 'mimesislaw12.ConsolePlays', WHERE WHAT IT READS IS OF BULK AT MOST 1048576: true; the input reads as it did. -/
def consolePlaysUptoRow : OpenClaim := { program := "ytdalboofhckobaa", sum := "2f6bde6907c348da222071e794a84d0e9e4d08e16caf5a086041746b98ad326f", func := "mimesis/mimesislaw12.ConsolePlays", spec := "consolePlays", unfollowed := true, recurses := true, apart := false, narrowed := true }
def ConsolePlaysUptoSaid : Prop := consolePlaysUptoRow.holds Try.pinned (OpenSpec.upto consolePlaysSpec)

/-- 'mimesislaw12.ConsoleNils', WHERE WHAT IT READS IS OF BULK AT MOST 1048576: true; the input reads as it did. -/
def consoleNilsUptoRow : OpenClaim := { program := "ytdalboofhckobaa", sum := "2f6bde6907c348da222071e794a84d0e9e4d08e16caf5a086041746b98ad326f", func := "mimesis/mimesislaw12.ConsoleNils", spec := "consoleNils", unfollowed := true, recurses := true, apart := false, narrowed := true }
def ConsoleNilsUptoSaid : Prop := consoleNilsUptoRow.holds Try.pinned (OpenSpec.upto consoleNilsSpec)

end Rows
end Go.Proofs.Ytdalboofhckobaa
