/-
  No cell of these rows narrows 'for every input' (looked for: loops, veiled, ifaces, maps, wideKeys, modest, calm, conditions, laid).
  DERIVED. THE GIVEN ROWS OF THIS SEAT. 3 by the template 'for every input the law returns true; each argument reads behind the call as it read before'; 0 by the template 'total and deterministic' (their statements: YtdalboofhckobabTotals.lean).
  GIVEN WITH THE SEED: the statements are not yours to turn. If you find one false, say at which input.
  Laid BY PROGRAM, IN A SANDBOX (cutbox-rows.mjs): the forced cells as the released guide's own fill.sh prints them over the translation 263fd67a052421ad… (all of the seat's roots in one cut). By AI agents, Wed Nov 11 2026. No macro, syntax, notation, axiom, sorry.
-/
import Derived.Test.YtdalboofhckobabChecked
import GoSem.Claim
import GoSem.ClaimJoined
import GoSem.ClaimMapViews
import Derived.JoinedTies
import Derived.KernelRfl
namespace Go.Proofs.Ytdalboofhckobab
/- THE CELL 'sum', in the pinned program and in every row, IS THE sha256 OF THE DUMP (.gsa) THAT YtdalboofhckobabProg.lean LOADS. Nothing in Lean hashes anything: it is a label: what it is worth is what the hold of that sum in a sandbox is worth. -/
noncomputable def Try.pinned : Pinned := { name := "ytdalboofhckobab", sum := "263fd67a052421ad2d784ba57c5bc9f42bc1cca6fa57736351bdea7eee8ec959", checked := Try.checked }
namespace Rows
def none {H : Type} : Left H := { results := [], args := [] }

/-- 'mimesislaw41.FeedTypes': WHATEVER THE INPUT: true; the input reads as it did. -/
def feedTypesSpec : ChangeSpec := { name := "feedTypes", fn := fun _ => fun
  | [d1, d2, d3] => { results := [.lit (.bool true)], args := [d1, d2, d3] }
  | _ => none }
def feedTypesRow : OpenClaim := { program := "ytdalboofhckobab", sum := "263fd67a052421ad2d784ba57c5bc9f42bc1cca6fa57736351bdea7eee8ec959", func := "mimesis/mimesislaw41.FeedTypes", spec := "feedTypes", apart := false }
def FeedTypesSaid : Prop := feedTypesRow.holds Try.pinned (OpenSpec.ofChange feedTypesSpec)

/-- ITS FALSE NEIGHBOUR: 'it returns false'. Refute it at one input. -/
def feedTypesWrong : ChangeSpec := { name := "feedTypes", fn := fun _ => fun
  | [d1, d2, d3] => { results := [.lit (.bool false)], args := [d1, d2, d3] }
  | _ => none }
def FeedTypesWrongFalsely : Prop := feedTypesRow.holds Try.pinned (OpenSpec.ofChange feedTypesWrong)

/-- 'mimesislaw41.FeedAll': WHATEVER THE INPUT: true; the input reads as it did. -/
def feedAllSpec : ChangeSpec := { name := "feedAll", fn := fun _ => fun
  | [d] => { results := [.lit (.bool true)], args := [d] }
  | _ => none }
def feedAllRow : OpenClaim := { program := "ytdalboofhckobab", sum := "263fd67a052421ad2d784ba57c5bc9f42bc1cca6fa57736351bdea7eee8ec959", func := "mimesis/mimesislaw41.FeedAll", spec := "feedAll", apart := false }
def FeedAllSaid : Prop := feedAllRow.holds Try.pinned (OpenSpec.ofChange feedAllSpec)

/-- ITS FALSE NEIGHBOUR: 'it returns false'. Refute it at one input. -/
def feedAllWrong : ChangeSpec := { name := "feedAll", fn := fun _ => fun
  | [d] => { results := [.lit (.bool false)], args := [d] }
  | _ => none }
def FeedAllWrongFalsely : Prop := feedAllRow.holds Try.pinned (OpenSpec.ofChange feedAllWrong)

/-- 'mimesislaw41.FeedMerges': WHATEVER THE INPUT: true; the input reads as it did. -/
def feedMergesSpec : ChangeSpec := { name := "feedMerges", fn := fun _ => fun
  | [d1, d2] => { results := [.lit (.bool true)], args := [d1, d2] }
  | _ => none }
def feedMergesRow : OpenClaim := { program := "ytdalboofhckobab", sum := "263fd67a052421ad2d784ba57c5bc9f42bc1cca6fa57736351bdea7eee8ec959", func := "mimesis/mimesislaw41.FeedMerges", spec := "feedMerges", apart := false }
def FeedMergesSaid : Prop := feedMergesRow.holds Try.pinned (OpenSpec.ofChange feedMergesSpec)

/-- ITS FALSE NEIGHBOUR: 'it returns false'. Refute it at one input. -/
def feedMergesWrong : ChangeSpec := { name := "feedMerges", fn := fun _ => fun
  | [d1, d2] => { results := [.lit (.bool false)], args := [d1, d2] }
  | _ => none }
def FeedMergesWrongFalsely : Prop := feedMergesRow.holds Try.pinned (OpenSpec.ofChange feedMergesWrong)

/- THE SECOND FORM. 'bulk': how many values and letters a reading holds, each counted each time it is reached (what is shared counts as often as it is met; a slice's spare places count too). A statement '..UptoSaid' is the law's where the arguments, and the package variables that the reading takes, are together of bulk at most 1048576: NARROWER than '..Said'. Prove '..Said' where nothing that the law and all that it calls make is longer than what came in: it says more and counts as full. Else prove '..UptoSaid'. A law counts once. -/
mutual
def uptoBulk {H : Type} : DataW H → Nat
  | .lit (.string bytes) => bytes.length + 1
  | .lit _ => 1
  | .nil => 1
  | .ptr d => uptoBulk d + 1
  | .slice elems spare => uptoBulkAll elems + uptoBulkAll spare + 1
  | .agg parts => uptoBulkAll parts + 1
  | .iface _ d => uptoBulk d + 1
  | .map entries => uptoBulkEntries entries + 1
  | .held _ => 1
def uptoBulkAll {H : Type} : List (DataW H) → Nat
  | [] => 0
  | d :: r => uptoBulk d + uptoBulkAll r
def uptoBulkEntries {H : Type} : List (Lit × DataW H) → Nat
  | [] => 0
  | x :: r => uptoBulkEntry x + uptoBulkEntries r
def uptoBulkEntry {H : Type} : Lit × DataW H → Nat
  | (.string bytes, d) => bytes.length + uptoBulk d + 1
  | (_, d) => uptoBulk d + 1
 end
def uptoSmall : (H : Type) → List (DataW H) → Bool := fun _ ds => decide (uptoBulkAll ds ≤ 1048576)
def OpenSpec.upto (s : _root_.Go.ChangeSpec) : _root_.Go.OpenSpec := { _root_.Go.OpenSpec.ofChange s with cond := some uptoSmall }

/-- 'mimesislaw41.FeedTypes', WHERE WHAT IT READS IS OF BULK AT MOST 1048576: true; the input reads as it did. -/
def feedTypesUptoRow : OpenClaim := { program := "ytdalboofhckobab", sum := "263fd67a052421ad2d784ba57c5bc9f42bc1cca6fa57736351bdea7eee8ec959", func := "mimesis/mimesislaw41.FeedTypes", spec := "feedTypes", apart := false, narrowed := true }
def FeedTypesUptoSaid : Prop := feedTypesUptoRow.holds Try.pinned (OpenSpec.upto feedTypesSpec)

/-- 'mimesislaw41.FeedAll', WHERE WHAT IT READS IS OF BULK AT MOST 1048576: true; the input reads as it did. -/
def feedAllUptoRow : OpenClaim := { program := "ytdalboofhckobab", sum := "263fd67a052421ad2d784ba57c5bc9f42bc1cca6fa57736351bdea7eee8ec959", func := "mimesis/mimesislaw41.FeedAll", spec := "feedAll", apart := false, narrowed := true }
def FeedAllUptoSaid : Prop := feedAllUptoRow.holds Try.pinned (OpenSpec.upto feedAllSpec)

/-- 'mimesislaw41.FeedMerges', WHERE WHAT IT READS IS OF BULK AT MOST 1048576: true; the input reads as it did. -/
def feedMergesUptoRow : OpenClaim := { program := "ytdalboofhckobab", sum := "263fd67a052421ad2d784ba57c5bc9f42bc1cca6fa57736351bdea7eee8ec959", func := "mimesis/mimesislaw41.FeedMerges", spec := "feedMerges", apart := false, narrowed := true }
def FeedMergesUptoSaid : Prop := feedMergesUptoRow.holds Try.pinned (OpenSpec.upto feedMergesSpec)

end Rows
end Go.Proofs.Ytdalboofhckobab
