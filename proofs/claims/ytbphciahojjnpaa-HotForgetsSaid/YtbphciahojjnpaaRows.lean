/-
  No cell of these rows narrows 'for every input' (looked for: loops, veiled, ifaces, maps, wideKeys, modest, calm, conditions, laid).
  DERIVED. THE GIVEN ROWS OF THIS SEAT. 11 by the template 'for every input the law returns true; each argument reads behind the call as it read before'; 0 by the template 'total and deterministic' (their statements: YtbphciahojjnpaaTotals.lean).
  GIVEN WITH THE SEED: the statements are not yours to turn. If you find one false, say at which input.
  Laid BY PROGRAM, IN A SANDBOX (cutbox-rows.mjs): the forced cells as the released guide's own fill.sh prints them over the translation 2018cd43e1872f1b… (all of the seat's roots in one cut). By AI agents, Wed Nov 11 2026. No macro, syntax, notation, axiom, sorry.
-/
import Derived.Test.YtbphciahojjnpaaChecked
import GoSem.Claim
import GoSem.ClaimJoined
import GoSem.ClaimMapViews
import Derived.JoinedTies
import Derived.KernelRfl
namespace Go.Proofs.Ytbphciahojjnpaa
/- THE CELL 'sum', in the pinned program and in every row, IS THE sha256 OF THE DUMP (.gsa) THAT YtbphciahojjnpaaProg.lean LOADS. Nothing in Lean hashes anything: it is a label: what it is worth is what the hold of that sum in a sandbox is worth. -/
noncomputable def Try.pinned : Pinned := { name := "ytbphciahojjnpaa", sum := "2018cd43e1872f1bf2e34eb673e17c5c7f45a30c4ebef128b8103c91bbb69f95", checked := Try.checked }
namespace Rows
def none {H : Type} : Left H := { results := [], args := [] }

/-- 'mimesislaw13.TimerSkips': WHATEVER THE INPUT: true; the input reads as it did. -/
def timerSkipsSpec : ChangeSpec := { name := "timerSkips", fn := fun _ => fun
  | [d1, d2] => { results := [.lit (.bool true)], args := [d1, d2] }
  | _ => none }
def timerSkipsRow : OpenClaim := { program := "ytbphciahojjnpaa", sum := "2018cd43e1872f1bf2e34eb673e17c5c7f45a30c4ebef128b8103c91bbb69f95", func := "mimesis/mimesislaw13.TimerSkips", spec := "timerSkips", apart := false }
def TimerSkipsSaid : Prop := timerSkipsRow.holds Try.pinned (OpenSpec.ofChange timerSkipsSpec)

/-- ITS FALSE NEIGHBOUR: 'it returns false'. Refute it at one input. -/
def timerSkipsWrong : ChangeSpec := { name := "timerSkips", fn := fun _ => fun
  | [d1, d2] => { results := [.lit (.bool false)], args := [d1, d2] }
  | _ => none }
def TimerSkipsWrongFalsely : Prop := timerSkipsRow.holds Try.pinned (OpenSpec.ofChange timerSkipsWrong)

/-- 'mimesislaw13.TimerReads': WHATEVER THE INPUT: true; the input reads as it did. -/
def timerReadsSpec : ChangeSpec := { name := "timerReads", fn := fun _ => fun
  | [d1, d2, d3] => { results := [.lit (.bool true)], args := [d1, d2, d3] }
  | _ => none }
def timerReadsRow : OpenClaim := { program := "ytbphciahojjnpaa", sum := "2018cd43e1872f1bf2e34eb673e17c5c7f45a30c4ebef128b8103c91bbb69f95", func := "mimesis/mimesislaw13.TimerReads", spec := "timerReads", apart := false }
def TimerReadsSaid : Prop := timerReadsRow.holds Try.pinned (OpenSpec.ofChange timerReadsSpec)

/-- ITS FALSE NEIGHBOUR: 'it returns false'. Refute it at one input. -/
def timerReadsWrong : ChangeSpec := { name := "timerReads", fn := fun _ => fun
  | [d1, d2, d3] => { results := [.lit (.bool false)], args := [d1, d2, d3] }
  | _ => none }
def TimerReadsWrongFalsely : Prop := timerReadsRow.holds Try.pinned (OpenSpec.ofChange timerReadsWrong)

/-- 'mimesislaw13.TimerWrites': WHATEVER THE INPUT: true; the input reads as it did. -/
def timerWritesSpec : ChangeSpec := { name := "timerWrites", fn := fun _ => fun
  | [d1, d2, d3] => { results := [.lit (.bool true)], args := [d1, d2, d3] }
  | _ => none }
def timerWritesRow : OpenClaim := { program := "ytbphciahojjnpaa", sum := "2018cd43e1872f1bf2e34eb673e17c5c7f45a30c4ebef128b8103c91bbb69f95", func := "mimesis/mimesislaw13.TimerWrites", spec := "timerWrites", unfollowed := true, recurses := true, apart := false }
def TimerWritesSaid : Prop := timerWritesRow.holds Try.pinned (OpenSpec.ofChange timerWritesSpec)

/-- ITS FALSE NEIGHBOUR: 'it returns false'. Refute it at one input. -/
def timerWritesWrong : ChangeSpec := { name := "timerWrites", fn := fun _ => fun
  | [d1, d2, d3] => { results := [.lit (.bool false)], args := [d1, d2, d3] }
  | _ => none }
def TimerWritesWrongFalsely : Prop := timerWritesRow.holds Try.pinned (OpenSpec.ofChange timerWritesWrong)

/-- 'mimesislaw13.TimerNils': WHATEVER THE INPUT: true; the input reads as it did. -/
def timerNilsSpec : ChangeSpec := { name := "timerNils", fn := fun _ => fun
  | [d1, d2, d3] => { results := [.lit (.bool true)], args := [d1, d2, d3] }
  | _ => none }
def timerNilsRow : OpenClaim := { program := "ytbphciahojjnpaa", sum := "2018cd43e1872f1bf2e34eb673e17c5c7f45a30c4ebef128b8103c91bbb69f95", func := "mimesis/mimesislaw13.TimerNils", spec := "timerNils", unfollowed := true, recurses := true, apart := false }
def TimerNilsSaid : Prop := timerNilsRow.holds Try.pinned (OpenSpec.ofChange timerNilsSpec)

/-- ITS FALSE NEIGHBOUR: 'it returns false'. Refute it at one input. -/
def timerNilsWrong : ChangeSpec := { name := "timerNils", fn := fun _ => fun
  | [d1, d2, d3] => { results := [.lit (.bool false)], args := [d1, d2, d3] }
  | _ => none }
def TimerNilsWrongFalsely : Prop := timerNilsRow.holds Try.pinned (OpenSpec.ofChange timerNilsWrong)

/-- 'mimesislaw41.FeedTypes': WHATEVER THE INPUT: true; the input reads as it did. -/
def feedTypesSpec : ChangeSpec := { name := "feedTypes", fn := fun _ => fun
  | [d1, d2, d3] => { results := [.lit (.bool true)], args := [d1, d2, d3] }
  | _ => none }
def feedTypesRow : OpenClaim := { program := "ytbphciahojjnpaa", sum := "2018cd43e1872f1bf2e34eb673e17c5c7f45a30c4ebef128b8103c91bbb69f95", func := "mimesis/mimesislaw41.FeedTypes", spec := "feedTypes", apart := false }
def FeedTypesSaid : Prop := feedTypesRow.holds Try.pinned (OpenSpec.ofChange feedTypesSpec)

/-- ITS FALSE NEIGHBOUR: 'it returns false'. Refute it at one input. -/
def feedTypesWrong : ChangeSpec := { name := "feedTypes", fn := fun _ => fun
  | [d1, d2, d3] => { results := [.lit (.bool false)], args := [d1, d2, d3] }
  | _ => none }
def FeedTypesWrongFalsely : Prop := feedTypesRow.holds Try.pinned (OpenSpec.ofChange feedTypesWrong)

/-- 'mimesislaw41.FeedAll': WHATEVER THE INPUT: true; the input reads as it did. -/
def feedAllSpec : ChangeSpec := { name := "feedAll", fn := fun _ => fun
  | [d] => { results := [.lit (.bool true)], args := [d] }
  | _ => none }
def feedAllRow : OpenClaim := { program := "ytbphciahojjnpaa", sum := "2018cd43e1872f1bf2e34eb673e17c5c7f45a30c4ebef128b8103c91bbb69f95", func := "mimesis/mimesislaw41.FeedAll", spec := "feedAll", apart := false }
def FeedAllSaid : Prop := feedAllRow.holds Try.pinned (OpenSpec.ofChange feedAllSpec)

/-- ITS FALSE NEIGHBOUR: 'it returns false'. Refute it at one input. -/
def feedAllWrong : ChangeSpec := { name := "feedAll", fn := fun _ => fun
  | [d] => { results := [.lit (.bool false)], args := [d] }
  | _ => none }
def FeedAllWrongFalsely : Prop := feedAllRow.holds Try.pinned (OpenSpec.ofChange feedAllWrong)

/-- 'mimesislaw41.FeedMerges': WHATEVER THE INPUT: true; the input reads as it did. -/
def feedMergesSpec : ChangeSpec := { name := "feedMerges", fn := fun _ => fun
  | [d1, d2] => { results := [.lit (.bool true)], args := [d1, d2] }
  | _ => none }
def feedMergesRow : OpenClaim := { program := "ytbphciahojjnpaa", sum := "2018cd43e1872f1bf2e34eb673e17c5c7f45a30c4ebef128b8103c91bbb69f95", func := "mimesis/mimesislaw41.FeedMerges", spec := "feedMerges", apart := false }
def FeedMergesSaid : Prop := feedMergesRow.holds Try.pinned (OpenSpec.ofChange feedMergesSpec)

/-- ITS FALSE NEIGHBOUR: 'it returns false'. Refute it at one input. -/
def feedMergesWrong : ChangeSpec := { name := "feedMerges", fn := fun _ => fun
  | [d1, d2] => { results := [.lit (.bool false)], args := [d1, d2] }
  | _ => none }
def FeedMergesWrongFalsely : Prop := feedMergesRow.holds Try.pinned (OpenSpec.ofChange feedMergesWrong)

/-- 'mimesislaw21.HotForgets': WHATEVER THE INPUT: true; the input reads as it did. -/
def hotForgetsSpec : ChangeSpec := { name := "hotForgets", fn := fun _ => fun
  | [d1, d2] => { results := [.lit (.bool true)], args := [d1, d2] }
  | _ => none }
def hotForgetsRow : OpenClaim := { program := "ytbphciahojjnpaa", sum := "2018cd43e1872f1bf2e34eb673e17c5c7f45a30c4ebef128b8103c91bbb69f95", func := "mimesis/mimesislaw21.HotForgets", spec := "hotForgets", apart := false }
def HotForgetsSaid : Prop := hotForgetsRow.holds Try.pinned (OpenSpec.ofChange hotForgetsSpec)

/-- ITS FALSE NEIGHBOUR: 'it returns false'. Refute it at one input. -/
def hotForgetsWrong : ChangeSpec := { name := "hotForgets", fn := fun _ => fun
  | [d1, d2] => { results := [.lit (.bool false)], args := [d1, d2] }
  | _ => none }
def HotForgetsWrongFalsely : Prop := hotForgetsRow.holds Try.pinned (OpenSpec.ofChange hotForgetsWrong)

/-- 'mimesislaw21.HotFull': WHATEVER THE INPUT: true; the input reads as it did. -/
def hotFullSpec : ChangeSpec := { name := "hotFull", fn := fun _ => fun
  | [d1, d2, d3] => { results := [.lit (.bool true)], args := [d1, d2, d3] }
  | _ => none }
def hotFullRow : OpenClaim := { program := "ytbphciahojjnpaa", sum := "2018cd43e1872f1bf2e34eb673e17c5c7f45a30c4ebef128b8103c91bbb69f95", func := "mimesis/mimesislaw21.HotFull", spec := "hotFull", apart := false }
def HotFullSaid : Prop := hotFullRow.holds Try.pinned (OpenSpec.ofChange hotFullSpec)

/-- ITS FALSE NEIGHBOUR: 'it returns false'. Refute it at one input. -/
def hotFullWrong : ChangeSpec := { name := "hotFull", fn := fun _ => fun
  | [d1, d2, d3] => { results := [.lit (.bool false)], args := [d1, d2, d3] }
  | _ => none }
def HotFullWrongFalsely : Prop := hotFullRow.holds Try.pinned (OpenSpec.ofChange hotFullWrong)

/-- 'mimesislaw21.HotPlays': WHATEVER THE INPUT: true; the input reads as it did. -/
def hotPlaysSpec : ChangeSpec := { name := "hotPlays", fn := fun _ => fun
  | [d] => { results := [.lit (.bool true)], args := [d] }
  | _ => none }
def hotPlaysRow : OpenClaim := { program := "ytbphciahojjnpaa", sum := "2018cd43e1872f1bf2e34eb673e17c5c7f45a30c4ebef128b8103c91bbb69f95", func := "mimesis/mimesislaw21.HotPlays", spec := "hotPlays", apart := false }
def HotPlaysSaid : Prop := hotPlaysRow.holds Try.pinned (OpenSpec.ofChange hotPlaysSpec)

/-- ITS FALSE NEIGHBOUR: 'it returns false'. Refute it at one input. -/
def hotPlaysWrong : ChangeSpec := { name := "hotPlays", fn := fun _ => fun
  | [d] => { results := [.lit (.bool false)], args := [d] }
  | _ => none }
def HotPlaysWrongFalsely : Prop := hotPlaysRow.holds Try.pinned (OpenSpec.ofChange hotPlaysWrong)

/-- 'mimesislaw21.HotNils': WHATEVER THE INPUT: true; the input reads as it did. -/
def hotNilsSpec : ChangeSpec := { name := "hotNils", fn := fun _ => fun
  | [d1, d2] => { results := [.lit (.bool true)], args := [d1, d2] }
  | _ => none }
def hotNilsRow : OpenClaim := { program := "ytbphciahojjnpaa", sum := "2018cd43e1872f1bf2e34eb673e17c5c7f45a30c4ebef128b8103c91bbb69f95", func := "mimesis/mimesislaw21.HotNils", spec := "hotNils", apart := false }
def HotNilsSaid : Prop := hotNilsRow.holds Try.pinned (OpenSpec.ofChange hotNilsSpec)

/-- ITS FALSE NEIGHBOUR: 'it returns false'. Refute it at one input. -/
def hotNilsWrong : ChangeSpec := { name := "hotNils", fn := fun _ => fun
  | [d1, d2] => { results := [.lit (.bool false)], args := [d1, d2] }
  | _ => none }
def HotNilsWrongFalsely : Prop := hotNilsRow.holds Try.pinned (OpenSpec.ofChange hotNilsWrong)

/- THE SECOND FORM. 'bulk': how many values and letters a reading holds, each counted each time it is reached (what is shared counts as often as it is met; a slice's spare places count too). A statement '..UptoSaid' is the law's where the arguments, and the package variables that the reading takes, are together of bulk at most 1048576: NARROWER than '..Said'. Prove '..Said' where nothing that the law and all that it calls make is longer than what came in: it says more and counts as full. Else prove '..UptoSaid'. A law counts once. -/
mutual
def uptoBulk {H : Type} : DataW H → Nat
  | .lit (.string bytes) => bytes.length + 1
  | .lit _ => 1
  | .nil => 1
  | .ptr d => uptoBulk d + 1
  | .slice elems spare => uptoBulkAll elems + uptoBulkAll spare + 1
  | .agg parts => uptoBulkAll parts + 1
  | .iface _ d => uptoBulk d + 1
  | .map entries => uptoBulkEntries entries + 1
  | .held _ => 1
def uptoBulkAll {H : Type} : List (DataW H) → Nat
  | [] => 0
  | d :: r => uptoBulk d + uptoBulkAll r
def uptoBulkEntries {H : Type} : List (Lit × DataW H) → Nat
  | [] => 0
  | x :: r => uptoBulkEntry x + uptoBulkEntries r
def uptoBulkEntry {H : Type} : Lit × DataW H → Nat
  | (.string bytes, d) => bytes.length + uptoBulk d + 1
  | (_, d) => uptoBulk d + 1
 end
def uptoSmall : (H : Type) → List (DataW H) → Bool := fun _ ds => decide (uptoBulkAll ds ≤ 1048576)
def OpenSpec.upto (s : _root_.Go.ChangeSpec) : _root_.Go.OpenSpec := { _root_.Go.OpenSpec.ofChange s with cond := some uptoSmall }

/-- 'mimesislaw13.TimerSkips', WHERE WHAT IT READS IS OF BULK AT MOST 1048576: true; the input reads as it did. -/
def timerSkipsUptoRow : OpenClaim := { program := "ytbphciahojjnpaa", sum := "2018cd43e1872f1bf2e34eb673e17c5c7f45a30c4ebef128b8103c91bbb69f95", func := "mimesis/mimesislaw13.TimerSkips", spec := "timerSkips", apart := false, narrowed := true }
def TimerSkipsUptoSaid : Prop := timerSkipsUptoRow.holds Try.pinned (OpenSpec.upto timerSkipsSpec)

/-- 'mimesislaw13.TimerReads', WHERE WHAT IT READS IS OF BULK AT MOST 1048576: true; the input reads as it did. -/
def timerReadsUptoRow : OpenClaim := { program := "ytbphciahojjnpaa", sum := "2018cd43e1872f1bf2e34eb673e17c5c7f45a30c4ebef128b8103c91bbb69f95", func := "mimesis/mimesislaw13.TimerReads", spec := "timerReads", apart := false, narrowed := true }
def TimerReadsUptoSaid : Prop := timerReadsUptoRow.holds Try.pinned (OpenSpec.upto timerReadsSpec)

/-- 'mimesislaw13.TimerWrites', WHERE WHAT IT READS IS OF BULK AT MOST 1048576: true; the input reads as it did. -/
def timerWritesUptoRow : OpenClaim := { program := "ytbphciahojjnpaa", sum := "2018cd43e1872f1bf2e34eb673e17c5c7f45a30c4ebef128b8103c91bbb69f95", func := "mimesis/mimesislaw13.TimerWrites", spec := "timerWrites", unfollowed := true, recurses := true, apart := false, narrowed := true }
def TimerWritesUptoSaid : Prop := timerWritesUptoRow.holds Try.pinned (OpenSpec.upto timerWritesSpec)

/-- 'mimesislaw13.TimerNils', WHERE WHAT IT READS IS OF BULK AT MOST 1048576: true; the input reads as it did. -/
def timerNilsUptoRow : OpenClaim := { program := "ytbphciahojjnpaa", sum := "2018cd43e1872f1bf2e34eb673e17c5c7f45a30c4ebef128b8103c91bbb69f95", func := "mimesis/mimesislaw13.TimerNils", spec := "timerNils", unfollowed := true, recurses := true, apart := false, narrowed := true }
def TimerNilsUptoSaid : Prop := timerNilsUptoRow.holds Try.pinned (OpenSpec.upto timerNilsSpec)

/-- 'mimesislaw41.FeedTypes', WHERE WHAT IT READS IS OF BULK AT MOST 1048576: true; the input reads as it did. -/
def feedTypesUptoRow : OpenClaim := { program := "ytbphciahojjnpaa", sum := "2018cd43e1872f1bf2e34eb673e17c5c7f45a30c4ebef128b8103c91bbb69f95", func := "mimesis/mimesislaw41.FeedTypes", spec := "feedTypes", apart := false, narrowed := true }
def FeedTypesUptoSaid : Prop := feedTypesUptoRow.holds Try.pinned (OpenSpec.upto feedTypesSpec)

/-- 'mimesislaw41.FeedAll', WHERE WHAT IT READS IS OF BULK AT MOST 1048576: true; the input reads as it did. -/
def feedAllUptoRow : OpenClaim := { program := "ytbphciahojjnpaa", sum := "2018cd43e1872f1bf2e34eb673e17c5c7f45a30c4ebef128b8103c91bbb69f95", func := "mimesis/mimesislaw41.FeedAll", spec := "feedAll", apart := false, narrowed := true }
def FeedAllUptoSaid : Prop := feedAllUptoRow.holds Try.pinned (OpenSpec.upto feedAllSpec)

/-- 'mimesislaw41.FeedMerges', WHERE WHAT IT READS IS OF BULK AT MOST 1048576: true; the input reads as it did. -/
def feedMergesUptoRow : OpenClaim := { program := "ytbphciahojjnpaa", sum := "2018cd43e1872f1bf2e34eb673e17c5c7f45a30c4ebef128b8103c91bbb69f95", func := "mimesis/mimesislaw41.FeedMerges", spec := "feedMerges", apart := false, narrowed := true }
def FeedMergesUptoSaid : Prop := feedMergesUptoRow.holds Try.pinned (OpenSpec.upto feedMergesSpec)

/-- 'mimesislaw21.HotForgets', WHERE WHAT IT READS IS OF BULK AT MOST 1048576: true; the input reads as it did. -/
def hotForgetsUptoRow : OpenClaim := { program := "ytbphciahojjnpaa", sum := "2018cd43e1872f1bf2e34eb673e17c5c7f45a30c4ebef128b8103c91bbb69f95", func := "mimesis/mimesislaw21.HotForgets", spec := "hotForgets", apart := false, narrowed := true }
def HotForgetsUptoSaid : Prop := hotForgetsUptoRow.holds Try.pinned (OpenSpec.upto hotForgetsSpec)

/-- 'mimesislaw21.HotFull', WHERE WHAT IT READS IS OF BULK AT MOST 1048576: true; the input reads as it did. -/
def hotFullUptoRow : OpenClaim := { program := "ytbphciahojjnpaa", sum := "2018cd43e1872f1bf2e34eb673e17c5c7f45a30c4ebef128b8103c91bbb69f95", func := "mimesis/mimesislaw21.HotFull", spec := "hotFull", apart := false, narrowed := true }
def HotFullUptoSaid : Prop := hotFullUptoRow.holds Try.pinned (OpenSpec.upto hotFullSpec)

/-- 'mimesislaw21.HotPlays', WHERE WHAT IT READS IS OF BULK AT MOST 1048576: true; the input reads as it did. -/
def hotPlaysUptoRow : OpenClaim := { program := "ytbphciahojjnpaa", sum := "2018cd43e1872f1bf2e34eb673e17c5c7f45a30c4ebef128b8103c91bbb69f95", func := "mimesis/mimesislaw21.HotPlays", spec := "hotPlays", apart := false, narrowed := true }
def HotPlaysUptoSaid : Prop := hotPlaysUptoRow.holds Try.pinned (OpenSpec.upto hotPlaysSpec)

/-- 'mimesislaw21.HotNils', WHERE WHAT IT READS IS OF BULK AT MOST 1048576: true; the input reads as it did. -/
def hotNilsUptoRow : OpenClaim := { program := "ytbphciahojjnpaa", sum := "2018cd43e1872f1bf2e34eb673e17c5c7f45a30c4ebef128b8103c91bbb69f95", func := "mimesis/mimesislaw21.HotNils", spec := "hotNils", apart := false, narrowed := true }
def HotNilsUptoSaid : Prop := hotNilsUptoRow.holds Try.pinned (OpenSpec.upto hotNilsSpec)

end Rows
end Go.Proofs.Ytbphciahojjnpaa
