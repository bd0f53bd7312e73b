/-
  No cell of these rows narrows 'for every input' (looked for: loops, veiled, ifaces, maps, wideKeys, modest, calm, conditions, laid).
  DERIVED. THE GIVEN ROWS OF THIS SEAT. 12 by the template 'for every input the law returns true; each argument reads behind the call as it read before'; 0 by the template 'total and deterministic' (their statements: YtcbgphopememgaaTotals.lean).
  GIVEN WITH THE SEED: the statements are not yours to turn. If you find one false, say at which input.
  Laid BY PROGRAM, IN A SANDBOX (cutbox-rows.mjs): the forced cells as the released guide's own fill.sh prints them over the translation 79df848f711f5c80… (all of the seat's roots in one cut). By AI agents, Wed Nov 11 2026. No macro, syntax, notation, axiom, sorry.
-/
import Derived.Test.YtcbgphopememgaaChecked
import GoSem.Claim
import GoSem.ClaimJoined
import GoSem.ClaimMapViews
import Derived.JoinedTies
import Derived.KernelRfl
namespace Go.Proofs.Ytcbgphopememgaa
/- THE CELL 'sum', in the pinned program and in every row, IS THE sha256 OF THE DUMP (.gsa) THAT YtcbgphopememgaaProg.lean LOADS. Nothing in Lean hashes anything: it is a label: what it is worth is what the hold of that sum in a sandbox is worth. -/
noncomputable def Try.pinned : Pinned := { name := "ytcbgphopememgaa", sum := "79df848f711f5c806d8d4ea5f723d80085dc086359d9bb242737dde9ec8fcc20", checked := Try.checked }
namespace Rows
def none {H : Type} : Left H := { results := [], args := [] }

/-- 'mimesislaw17.TrapEnters': WHATEVER THE INPUT: true; the input reads as it did. -/
def trapEntersSpec : ChangeSpec := { name := "trapEnters", fn := fun _ => fun
  | [d1, d2, d3] => { results := [.lit (.bool true)], args := [d1, d2, d3] }
  | _ => none }
def trapEntersRow : OpenClaim := { program := "ytcbgphopememgaa", sum := "79df848f711f5c806d8d4ea5f723d80085dc086359d9bb242737dde9ec8fcc20", func := "mimesis/mimesislaw17.TrapEnters", spec := "trapEnters", apart := false }
def TrapEntersSaid : Prop := trapEntersRow.holds Try.pinned (OpenSpec.ofChange trapEntersSpec)

/-- ITS FALSE NEIGHBOUR: 'it returns false'. Refute it at one input. -/
def trapEntersWrong : ChangeSpec := { name := "trapEnters", fn := fun _ => fun
  | [d1, d2, d3] => { results := [.lit (.bool false)], args := [d1, d2, d3] }
  | _ => none }
def TrapEntersWrongFalsely : Prop := trapEntersRow.holds Try.pinned (OpenSpec.ofChange trapEntersWrong)

/-- 'mimesislaw17.TrapReturns': WHATEVER THE INPUT: true; the input reads as it did. -/
def trapReturnsSpec : ChangeSpec := { name := "trapReturns", fn := fun _ => fun
  | [d] => { results := [.lit (.bool true)], args := [d] }
  | _ => none }
def trapReturnsRow : OpenClaim := { program := "ytcbgphopememgaa", sum := "79df848f711f5c806d8d4ea5f723d80085dc086359d9bb242737dde9ec8fcc20", func := "mimesis/mimesislaw17.TrapReturns", spec := "trapReturns", apart := false }
def TrapReturnsSaid : Prop := trapReturnsRow.holds Try.pinned (OpenSpec.ofChange trapReturnsSpec)

/-- ITS FALSE NEIGHBOUR: 'it returns false'. Refute it at one input. -/
def trapReturnsWrong : ChangeSpec := { name := "trapReturns", fn := fun _ => fun
  | [d] => { results := [.lit (.bool false)], args := [d] }
  | _ => none }
def TrapReturnsWrongFalsely : Prop := trapReturnsRow.holds Try.pinned (OpenSpec.ofChange trapReturnsWrong)

/-- 'mimesislaw17.TrapHears': WHATEVER THE INPUT: true; the input reads as it did. -/
def trapHearsSpec : ChangeSpec := { name := "trapHears", fn := fun _ => fun
  | [d1, d2] => { results := [.lit (.bool true)], args := [d1, d2] }
  | _ => none }
def trapHearsRow : OpenClaim := { program := "ytcbgphopememgaa", sum := "79df848f711f5c806d8d4ea5f723d80085dc086359d9bb242737dde9ec8fcc20", func := "mimesis/mimesislaw17.TrapHears", spec := "trapHears", apart := false }
def TrapHearsSaid : Prop := trapHearsRow.holds Try.pinned (OpenSpec.ofChange trapHearsSpec)

/-- ITS FALSE NEIGHBOUR: 'it returns false'. Refute it at one input. -/
def trapHearsWrong : ChangeSpec := { name := "trapHears", fn := fun _ => fun
  | [d1, d2] => { results := [.lit (.bool false)], args := [d1, d2] }
  | _ => none }
def TrapHearsWrongFalsely : Prop := trapHearsRow.holds Try.pinned (OpenSpec.ofChange trapHearsWrong)

/-- 'mimesislaw17.TrapBack': WHATEVER THE INPUT: true; the input reads as it did. -/
def trapBackSpec : ChangeSpec := { name := "trapBack", fn := fun _ => fun
  | [d1, d2, d3] => { results := [.lit (.bool true)], args := [d1, d2, d3] }
  | _ => none }
def trapBackRow : OpenClaim := { program := "ytcbgphopememgaa", sum := "79df848f711f5c806d8d4ea5f723d80085dc086359d9bb242737dde9ec8fcc20", func := "mimesis/mimesislaw17.TrapBack", spec := "trapBack", apart := false }
def TrapBackSaid : Prop := trapBackRow.holds Try.pinned (OpenSpec.ofChange trapBackSpec)

/-- ITS FALSE NEIGHBOUR: 'it returns false'. Refute it at one input. -/
def trapBackWrong : ChangeSpec := { name := "trapBack", fn := fun _ => fun
  | [d1, d2, d3] => { results := [.lit (.bool false)], args := [d1, d2, d3] }
  | _ => none }
def TrapBackWrongFalsely : Prop := trapBackRow.holds Try.pinned (OpenSpec.ofChange trapBackWrong)

/-- 'mimesislaw11.FifoOrder': WHATEVER THE INPUT: true; the input reads as it did. -/
def fifoOrderSpec : ChangeSpec := { name := "fifoOrder", fn := fun _ => fun
  | [d1, d2] => { results := [.lit (.bool true)], args := [d1, d2] }
  | _ => none }
def fifoOrderRow : OpenClaim := { program := "ytcbgphopememgaa", sum := "79df848f711f5c806d8d4ea5f723d80085dc086359d9bb242737dde9ec8fcc20", func := "mimesis/mimesislaw11.FifoOrder", spec := "fifoOrder", apart := false }
def FifoOrderSaid : Prop := fifoOrderRow.holds Try.pinned (OpenSpec.ofChange fifoOrderSpec)

/-- ITS FALSE NEIGHBOUR: 'it returns false'. Refute it at one input. -/
def fifoOrderWrong : ChangeSpec := { name := "fifoOrder", fn := fun _ => fun
  | [d1, d2] => { results := [.lit (.bool false)], args := [d1, d2] }
  | _ => none }
def FifoOrderWrongFalsely : Prop := fifoOrderRow.holds Try.pinned (OpenSpec.ofChange fifoOrderWrong)

/-- 'mimesislaw11.FifoPlays': WHATEVER THE INPUT: true; the input reads as it did. -/
def fifoPlaysSpec : ChangeSpec := { name := "fifoPlays", fn := fun _ => fun
  | [d] => { results := [.lit (.bool true)], args := [d] }
  | _ => none }
def fifoPlaysRow : OpenClaim := { program := "ytcbgphopememgaa", sum := "79df848f711f5c806d8d4ea5f723d80085dc086359d9bb242737dde9ec8fcc20", func := "mimesis/mimesislaw11.FifoPlays", spec := "fifoPlays", unfollowed := true, recurses := true, apart := false }
def FifoPlaysSaid : Prop := fifoPlaysRow.holds Try.pinned (OpenSpec.ofChange fifoPlaysSpec)

/-- ITS FALSE NEIGHBOUR: 'it returns false'. Refute it at one input. -/
def fifoPlaysWrong : ChangeSpec := { name := "fifoPlays", fn := fun _ => fun
  | [d] => { results := [.lit (.bool false)], args := [d] }
  | _ => none }
def FifoPlaysWrongFalsely : Prop := fifoPlaysRow.holds Try.pinned (OpenSpec.ofChange fifoPlaysWrong)

/-- 'mimesislaw11.FifoClones': WHATEVER THE INPUT: true; the input reads as it did. -/
def fifoClonesSpec : ChangeSpec := { name := "fifoClones", fn := fun _ => fun
  | [d1, d2] => { results := [.lit (.bool true)], args := [d1, d2] }
  | _ => none }
def fifoClonesRow : OpenClaim := { program := "ytcbgphopememgaa", sum := "79df848f711f5c806d8d4ea5f723d80085dc086359d9bb242737dde9ec8fcc20", func := "mimesis/mimesislaw11.FifoClones", spec := "fifoClones", unfollowed := true, recurses := true, apart := false }
def FifoClonesSaid : Prop := fifoClonesRow.holds Try.pinned (OpenSpec.ofChange fifoClonesSpec)

/-- ITS FALSE NEIGHBOUR: 'it returns false'. Refute it at one input. -/
def fifoClonesWrong : ChangeSpec := { name := "fifoClones", fn := fun _ => fun
  | [d1, d2] => { results := [.lit (.bool false)], args := [d1, d2] }
  | _ => none }
def FifoClonesWrongFalsely : Prop := fifoClonesRow.holds Try.pinned (OpenSpec.ofChange fifoClonesWrong)

/-- 'mimesislaw01.WordExtends': WHATEVER THE INPUT: true; the input reads as it did. -/
def wordExtendsSpec : ChangeSpec := { name := "wordExtends", fn := fun _ => fun
  | [d1, d2] => { results := [.lit (.bool true)], args := [d1, d2] }
  | _ => none }
def wordExtendsRow : OpenClaim := { program := "ytcbgphopememgaa", sum := "79df848f711f5c806d8d4ea5f723d80085dc086359d9bb242737dde9ec8fcc20", func := "mimesis/mimesislaw01.WordExtends", spec := "wordExtends", apart := false }
def WordExtendsSaid : Prop := wordExtendsRow.holds Try.pinned (OpenSpec.ofChange wordExtendsSpec)

/-- ITS FALSE NEIGHBOUR: 'it returns false'. Refute it at one input. -/
def wordExtendsWrong : ChangeSpec := { name := "wordExtends", fn := fun _ => fun
  | [d1, d2] => { results := [.lit (.bool false)], args := [d1, d2] }
  | _ => none }
def WordExtendsWrongFalsely : Prop := wordExtendsRow.holds Try.pinned (OpenSpec.ofChange wordExtendsWrong)

/-- 'mimesislaw01.WordBits': WHATEVER THE INPUT: true; the input reads as it did. -/
def wordBitsSpec : ChangeSpec := { name := "wordBits", fn := fun _ => fun
  | [d1, d2, d3] => { results := [.lit (.bool true)], args := [d1, d2, d3] }
  | _ => none }
def wordBitsRow : OpenClaim := { program := "ytcbgphopememgaa", sum := "79df848f711f5c806d8d4ea5f723d80085dc086359d9bb242737dde9ec8fcc20", func := "mimesis/mimesislaw01.WordBits", spec := "wordBits", apart := false }
def WordBitsSaid : Prop := wordBitsRow.holds Try.pinned (OpenSpec.ofChange wordBitsSpec)

/-- ITS FALSE NEIGHBOUR: 'it returns false'. Refute it at one input. -/
def wordBitsWrong : ChangeSpec := { name := "wordBits", fn := fun _ => fun
  | [d1, d2, d3] => { results := [.lit (.bool false)], args := [d1, d2, d3] }
  | _ => none }
def WordBitsWrongFalsely : Prop := wordBitsRow.holds Try.pinned (OpenSpec.ofChange wordBitsWrong)

/-- 'mimesislaw01.WordNumbers': WHATEVER THE INPUT: true; the input reads as it did. -/
def wordNumbersSpec : ChangeSpec := { name := "wordNumbers", fn := fun _ => fun
  | [d] => { results := [.lit (.bool true)], args := [d] }
  | _ => none }
def wordNumbersRow : OpenClaim := { program := "ytcbgphopememgaa", sum := "79df848f711f5c806d8d4ea5f723d80085dc086359d9bb242737dde9ec8fcc20", func := "mimesis/mimesislaw01.WordNumbers", spec := "wordNumbers", apart := false }
def WordNumbersSaid : Prop := wordNumbersRow.holds Try.pinned (OpenSpec.ofChange wordNumbersSpec)

/-- ITS FALSE NEIGHBOUR: 'it returns false'. Refute it at one input. -/
def wordNumbersWrong : ChangeSpec := { name := "wordNumbers", fn := fun _ => fun
  | [d] => { results := [.lit (.bool false)], args := [d] }
  | _ => none }
def WordNumbersWrongFalsely : Prop := wordNumbersRow.holds Try.pinned (OpenSpec.ofChange wordNumbersWrong)

/-- 'mimesislaw01.WordBytes': WHATEVER THE INPUT: true; the input reads as it did. -/
def wordBytesSpec : ChangeSpec := { name := "wordBytes", fn := fun _ => fun
  | [d1, d2] => { results := [.lit (.bool true)], args := [d1, d2] }
  | _ => none }
def wordBytesRow : OpenClaim := { program := "ytcbgphopememgaa", sum := "79df848f711f5c806d8d4ea5f723d80085dc086359d9bb242737dde9ec8fcc20", func := "mimesis/mimesislaw01.WordBytes", spec := "wordBytes", apart := false }
def WordBytesSaid : Prop := wordBytesRow.holds Try.pinned (OpenSpec.ofChange wordBytesSpec)

/-- ITS FALSE NEIGHBOUR: 'it returns false'. Refute it at one input. -/
def wordBytesWrong : ChangeSpec := { name := "wordBytes", fn := fun _ => fun
  | [d1, d2] => { results := [.lit (.bool false)], args := [d1, d2] }
  | _ => none }
def WordBytesWrongFalsely : Prop := wordBytesRow.holds Try.pinned (OpenSpec.ofChange wordBytesWrong)

/-- 'mimesislaw01.WordHexes': WHATEVER THE INPUT: true; the input reads as it did. -/
def wordHexesSpec : ChangeSpec := { name := "wordHexes", fn := fun _ => fun
  | [d1, d2] => { results := [.lit (.bool true)], args := [d1, d2] }
  | _ => none }
def wordHexesRow : OpenClaim := { program := "ytcbgphopememgaa", sum := "79df848f711f5c806d8d4ea5f723d80085dc086359d9bb242737dde9ec8fcc20", func := "mimesis/mimesislaw01.WordHexes", spec := "wordHexes", apart := false }
def WordHexesSaid : Prop := wordHexesRow.holds Try.pinned (OpenSpec.ofChange wordHexesSpec)

/-- ITS FALSE NEIGHBOUR: 'it returns false'. Refute it at one input. -/
def wordHexesWrong : ChangeSpec := { name := "wordHexes", fn := fun _ => fun
  | [d1, d2] => { results := [.lit (.bool false)], args := [d1, d2] }
  | _ => none }
def WordHexesWrongFalsely : Prop := wordHexesRow.holds Try.pinned (OpenSpec.ofChange wordHexesWrong)

/- THE SECOND FORM. 'bulk': how many values and letters a reading holds, each counted each time it is reached (what is shared counts as often as it is met; a slice's spare places count too). A statement '..UptoSaid' is the law's where the arguments, and the package variables that the reading takes, are together of bulk at most 1048576: NARROWER than '..Said'. Prove '..Said' where nothing that the law and all that it calls make is longer than what came in: it says more and counts as full. Else prove '..UptoSaid'. A law counts once. -/
mutual
def uptoBulk {H : Type} : DataW H → Nat
  | .lit (.string bytes) => bytes.length + 1
  | .lit _ => 1
  | .nil => 1
  | .ptr d => uptoBulk d + 1
  | .slice elems spare => uptoBulkAll elems + uptoBulkAll spare + 1
  | .agg parts => uptoBulkAll parts + 1
  | .iface _ d => uptoBulk d + 1
  | .map entries => uptoBulkEntries entries + 1
  | .held _ => 1
def uptoBulkAll {H : Type} : List (DataW H) → Nat
  | [] => 0
  | d :: r => uptoBulk d + uptoBulkAll r
def uptoBulkEntries {H : Type} : List (Lit × DataW H) → Nat
  | [] => 0
  | x :: r => uptoBulkEntry x + uptoBulkEntries r
def uptoBulkEntry {H : Type} : Lit × DataW H → Nat
  | (.string bytes, d) => bytes.length + uptoBulk d + 1
  | (_, d) => uptoBulk d + 1
 end
def uptoSmall : (H : Type) → List (DataW H) → Bool := fun _ ds => decide (uptoBulkAll ds ≤ 1048576)
def OpenSpec.upto (s : _root_.Go.ChangeSpec) : _root_.Go.OpenSpec := { _root_.Go.OpenSpec.ofChange s with cond := some uptoSmall }

/-- 'mimesislaw17.TrapEnters', WHERE WHAT IT READS IS OF BULK AT MOST 1048576: true; the input reads as it did. -/
def trapEntersUptoRow : OpenClaim := { program := "ytcbgphopememgaa", sum := "79df848f711f5c806d8d4ea5f723d80085dc086359d9bb242737dde9ec8fcc20", func := "mimesis/mimesislaw17.TrapEnters", spec := "trapEnters", apart := false, narrowed := true }
def TrapEntersUptoSaid : Prop := trapEntersUptoRow.holds Try.pinned (OpenSpec.upto trapEntersSpec)

/-- 'mimesislaw17.TrapReturns', WHERE WHAT IT READS IS OF BULK AT MOST 1048576: true; the input reads as it did. -/
def trapReturnsUptoRow : OpenClaim := { program := "ytcbgphopememgaa", sum := "79df848f711f5c806d8d4ea5f723d80085dc086359d9bb242737dde9ec8fcc20", func := "mimesis/mimesislaw17.TrapReturns", spec := "trapReturns", apart := false, narrowed := true }
def TrapReturnsUptoSaid : Prop := trapReturnsUptoRow.holds Try.pinned (OpenSpec.upto trapReturnsSpec)

/-- 'mimesislaw17.TrapHears', WHERE WHAT IT READS IS OF BULK AT MOST 1048576: true; the input reads as it did. -/
def trapHearsUptoRow : OpenClaim := { program := "ytcbgphopememgaa", sum := "79df848f711f5c806d8d4ea5f723d80085dc086359d9bb242737dde9ec8fcc20", func := "mimesis/mimesislaw17.TrapHears", spec := "trapHears", apart := false, narrowed := true }
def TrapHearsUptoSaid : Prop := trapHearsUptoRow.holds Try.pinned (OpenSpec.upto trapHearsSpec)

/-- 'mimesislaw17.TrapBack', WHERE WHAT IT READS IS OF BULK AT MOST 1048576: true; the input reads as it did. -/
def trapBackUptoRow : OpenClaim := { program := "ytcbgphopememgaa", sum := "79df848f711f5c806d8d4ea5f723d80085dc086359d9bb242737dde9ec8fcc20", func := "mimesis/mimesislaw17.TrapBack", spec := "trapBack", apart := false, narrowed := true }
def TrapBackUptoSaid : Prop := trapBackUptoRow.holds Try.pinned (OpenSpec.upto trapBackSpec)

/-- 'mimesislaw11.FifoOrder', WHERE WHAT IT READS IS OF BULK AT MOST 1048576: true; the input reads as it did. -/
def fifoOrderUptoRow : OpenClaim := { program := "ytcbgphopememgaa", sum := "79df848f711f5c806d8d4ea5f723d80085dc086359d9bb242737dde9ec8fcc20", func := "mimesis/mimesislaw11.FifoOrder", spec := "fifoOrder", apart := false, narrowed := true }
def FifoOrderUptoSaid : Prop := fifoOrderUptoRow.holds Try.pinned (OpenSpec.upto fifoOrderSpec)

/-- 'mimesislaw11.FifoPlays', WHERE WHAT IT READS IS OF BULK AT MOST 1048576: true; the input reads as it did. -/
def fifoPlaysUptoRow : OpenClaim := { program := "ytcbgphopememgaa", sum := "79df848f711f5c806d8d4ea5f723d80085dc086359d9bb242737dde9ec8fcc20", func := "mimesis/mimesislaw11.FifoPlays", spec := "fifoPlays", unfollowed := true, recurses := true, apart := false, narrowed := true }
def FifoPlaysUptoSaid : Prop := fifoPlaysUptoRow.holds Try.pinned (OpenSpec.upto fifoPlaysSpec)

/-- 'mimesislaw11.FifoClones', WHERE WHAT IT READS IS OF BULK AT MOST 1048576: true; the input reads as it did. -/
def fifoClonesUptoRow : OpenClaim := { program := "ytcbgphopememgaa", sum := "79df848f711f5c806d8d4ea5f723d80085dc086359d9bb242737dde9ec8fcc20", func := "mimesis/mimesislaw11.FifoClones", spec := "fifoClones", unfollowed := true, recurses := true, apart := false, narrowed := true }
def FifoClonesUptoSaid : Prop := fifoClonesUptoRow.holds Try.pinned (OpenSpec.upto fifoClonesSpec)

/-- 'mimesislaw01.WordExtends', WHERE WHAT IT READS IS OF BULK AT MOST 1048576: true; the input reads as it did. -/
def wordExtendsUptoRow : OpenClaim := { program := "ytcbgphopememgaa", sum := "79df848f711f5c806d8d4ea5f723d80085dc086359d9bb242737dde9ec8fcc20", func := "mimesis/mimesislaw01.WordExtends", spec := "wordExtends", apart := false, narrowed := true }
def WordExtendsUptoSaid : Prop := wordExtendsUptoRow.holds Try.pinned (OpenSpec.upto wordExtendsSpec)

/-- 'mimesislaw01.WordBits', WHERE WHAT IT READS IS OF BULK AT MOST 1048576: true; the input reads as it did. -/
def wordBitsUptoRow : OpenClaim := { program := "ytcbgphopememgaa", sum := "79df848f711f5c806d8d4ea5f723d80085dc086359d9bb242737dde9ec8fcc20", func := "mimesis/mimesislaw01.WordBits", spec := "wordBits", apart := false, narrowed := true }
def WordBitsUptoSaid : Prop := wordBitsUptoRow.holds Try.pinned (OpenSpec.upto wordBitsSpec)

/-- 'mimesislaw01.WordNumbers', WHERE WHAT IT READS IS OF BULK AT MOST 1048576: true; the input reads as it did. -/
def wordNumbersUptoRow : OpenClaim := { program := "ytcbgphopememgaa", sum := "79df848f711f5c806d8d4ea5f723d80085dc086359d9bb242737dde9ec8fcc20", func := "mimesis/mimesislaw01.WordNumbers", spec := "wordNumbers", apart := false, narrowed := true }
def WordNumbersUptoSaid : Prop := wordNumbersUptoRow.holds Try.pinned (OpenSpec.upto wordNumbersSpec)

/-- 'mimesislaw01.WordBytes', WHERE WHAT IT READS IS OF BULK AT MOST 1048576: true; the input reads as it did. -/
def wordBytesUptoRow : OpenClaim := { program := "ytcbgphopememgaa", sum := "79df848f711f5c806d8d4ea5f723d80085dc086359d9bb242737dde9ec8fcc20", func := "mimesis/mimesislaw01.WordBytes", spec := "wordBytes", apart := false, narrowed := true }
def WordBytesUptoSaid : Prop := wordBytesUptoRow.holds Try.pinned (OpenSpec.upto wordBytesSpec)

/-- 'mimesislaw01.WordHexes', WHERE WHAT IT READS IS OF BULK AT MOST 1048576: true; the input reads as it did. -/
def wordHexesUptoRow : OpenClaim := { program := "ytcbgphopememgaa", sum := "79df848f711f5c806d8d4ea5f723d80085dc086359d9bb242737dde9ec8fcc20", func := "mimesis/mimesislaw01.WordHexes", spec := "wordHexes", apart := false, narrowed := true }
def WordHexesUptoSaid : Prop := wordHexesUptoRow.holds Try.pinned (OpenSpec.upto wordHexesSpec)

end Rows
end Go.Proofs.Ytcbgphopememgaa
