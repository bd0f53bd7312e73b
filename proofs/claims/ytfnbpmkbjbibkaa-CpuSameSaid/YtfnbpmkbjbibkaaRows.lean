/-
  No cell of these rows narrows 'for every input' (looked for: loops, veiled, ifaces, maps, wideKeys, modest, calm, conditions, laid).
  DERIVED. THE GIVEN ROWS OF THIS SEAT. 4 by the template 'for every input the law returns true; each argument reads behind the call as it read before'; 0 by the template 'total and deterministic' (their statements: YtfnbpmkbjbibkaaTotals.lean).
  GIVEN WITH THE SEED: the statements are not yours to turn. If you find one false, say at which input.
  Laid BY PROGRAM, IN A SANDBOX (cutbox-rows.mjs): the forced cells as the released guide's own fill.sh prints them over the translation 6284e620e90d1eeb… (all of the seat's roots in one cut). By AI agents, Wed Nov 11 2026. No macro, syntax, notation, axiom, sorry.
-/
import Derived.Test.YtfnbpmkbjbibkaaChecked
import GoSem.Claim
import GoSem.ClaimJoined
import GoSem.ClaimMapViews
import Derived.JoinedTies
import Derived.KernelRfl
namespace Go.Proofs.Ytfnbpmkbjbibkaa
/- THE CELL 'sum', in the pinned program and in every row, IS THE sha256 OF THE DUMP (.gsa) THAT YtfnbpmkbjbibkaaProg.lean LOADS. Nothing in Lean hashes anything: it is a label: what it is worth is what the hold of that sum in a sandbox is worth. -/
noncomputable def Try.pinned : Pinned := { name := "ytfnbpmkbjbibkaa", sum := "6284e620e90d1eeb594c47909ee0cdac96ce593948d0f6cf070fdef369559cba", checked := Try.checked }
namespace Rows
def none {H : Type} : Left H := { results := [], args := [] }

/-- 'mimesislaw18.CpuSame': WHATEVER THE INPUT: true; the input reads as it did. -/
def cpuSameSpec : ChangeSpec := { name := "cpuSame", fn := fun _ => fun
  | [d1, d2, d3] => { results := [.lit (.bool true)], args := [d1, d2, d3] }
  | _ => none }
def cpuSameRow : OpenClaim := { program := "ytfnbpmkbjbibkaa", sum := "6284e620e90d1eeb594c47909ee0cdac96ce593948d0f6cf070fdef369559cba", func := "mimesis/mimesislaw18.CpuSame", spec := "cpuSame", unfollowed := true, recurses := true, apart := false }
def CpuSameSaid : Prop := cpuSameRow.holds Try.pinned (OpenSpec.ofChange cpuSameSpec)

/-- ITS FALSE NEIGHBOUR: 'it returns false'. Refute it at one input. -/
def cpuSameWrong : ChangeSpec := { name := "cpuSame", fn := fun _ => fun
  | [d1, d2, d3] => { results := [.lit (.bool false)], args := [d1, d2, d3] }
  | _ => none }
def CpuSameWrongFalsely : Prop := cpuSameRow.holds Try.pinned (OpenSpec.ofChange cpuSameWrong)

/-- 'mimesislaw18.CpuNews': WHATEVER THE INPUT: true; the input reads as it did. -/
def cpuNewsSpec : ChangeSpec := { name := "cpuNews", fn := fun _ => fun
  | [d1, d2, d3] => { results := [.lit (.bool true)], args := [d1, d2, d3] }
  | _ => none }
def cpuNewsRow : OpenClaim := { program := "ytfnbpmkbjbibkaa", sum := "6284e620e90d1eeb594c47909ee0cdac96ce593948d0f6cf070fdef369559cba", func := "mimesis/mimesislaw18.CpuNews", spec := "cpuNews", unfollowed := true, recurses := true, apart := false }
def CpuNewsSaid : Prop := cpuNewsRow.holds Try.pinned (OpenSpec.ofChange cpuNewsSpec)

/-- ITS FALSE NEIGHBOUR: 'it returns false'. Refute it at one input. -/
def cpuNewsWrong : ChangeSpec := { name := "cpuNews", fn := fun _ => fun
  | [d1, d2, d3] => { results := [.lit (.bool false)], args := [d1, d2, d3] }
  | _ => none }
def CpuNewsWrongFalsely : Prop := cpuNewsRow.holds Try.pinned (OpenSpec.ofChange cpuNewsWrong)

/-- 'mimesislaw18.CpuPlays': WHATEVER THE INPUT: true; the input reads as it did. -/
def cpuPlaysSpec : ChangeSpec := { name := "cpuPlays", fn := fun _ => fun
  | [d1, d2] => { results := [.lit (.bool true)], args := [d1, d2] }
  | _ => none }
def cpuPlaysRow : OpenClaim := { program := "ytfnbpmkbjbibkaa", sum := "6284e620e90d1eeb594c47909ee0cdac96ce593948d0f6cf070fdef369559cba", func := "mimesis/mimesislaw18.CpuPlays", spec := "cpuPlays", unfollowed := true, recurses := true, apart := false }
def CpuPlaysSaid : Prop := cpuPlaysRow.holds Try.pinned (OpenSpec.ofChange cpuPlaysSpec)

/-- ITS FALSE NEIGHBOUR: 'it returns false'. Refute it at one input. -/
def cpuPlaysWrong : ChangeSpec := { name := "cpuPlays", fn := fun _ => fun
  | [d1, d2] => { results := [.lit (.bool false)], args := [d1, d2] }
  | _ => none }
def CpuPlaysWrongFalsely : Prop := cpuPlaysRow.holds Try.pinned (OpenSpec.ofChange cpuPlaysWrong)

/-- 'mimesislaw18.CpuNils': WHATEVER THE INPUT: true; the input reads as it did. -/
def cpuNilsSpec : ChangeSpec := { name := "cpuNils", fn := fun _ => fun
  | [d1, d2] => { results := [.lit (.bool true)], args := [d1, d2] }
  | _ => none }
def cpuNilsRow : OpenClaim := { program := "ytfnbpmkbjbibkaa", sum := "6284e620e90d1eeb594c47909ee0cdac96ce593948d0f6cf070fdef369559cba", func := "mimesis/mimesislaw18.CpuNils", spec := "cpuNils", unfollowed := true, recurses := true, apart := false }
def CpuNilsSaid : Prop := cpuNilsRow.holds Try.pinned (OpenSpec.ofChange cpuNilsSpec)

/-- ITS FALSE NEIGHBOUR: 'it returns false'. Refute it at one input. -/
def cpuNilsWrong : ChangeSpec := { name := "cpuNils", fn := fun _ => fun
  | [d1, d2] => { results := [.lit (.bool false)], args := [d1, d2] }
  | _ => none }
def CpuNilsWrongFalsely : Prop := cpuNilsRow.holds Try.pinned (OpenSpec.ofChange cpuNilsWrong)

/- THE SECOND FORM. 'bulk': how many values and letters a reading holds, each counted each time it is reached (what is shared counts as often as it is met; a slice's spare places count too). A statement '..UptoSaid' is the law's where the arguments, and the package variables that the reading takes, are together of bulk at most 1048576: NARROWER than '..Said'. Prove '..Said' where nothing that the law and all that it calls make is longer than what came in: it says more and counts as full. Else prove '..UptoSaid'. A law counts once. -/
mutual
def uptoBulk {H : Type} : DataW H → Nat
  | .lit (.string bytes) => bytes.length + 1
  | .lit _ => 1
  | .nil => 1
  | .ptr d => uptoBulk d + 1
  | .slice elems spare => uptoBulkAll elems + uptoBulkAll spare + 1
  | .agg parts => uptoBulkAll parts + 1
  | .iface _ d => uptoBulk d + 1
  | .map entries => uptoBulkEntries entries + 1
  | .held _ => 1
def uptoBulkAll {H : Type} : List (DataW H) → Nat
  | [] => 0
  | d :: r => uptoBulk d + uptoBulkAll r
def uptoBulkEntries {H : Type} : List (Lit × DataW H) → Nat
  | [] => 0
  | x :: r => uptoBulkEntry x + uptoBulkEntries r
def uptoBulkEntry {H : Type} : Lit × DataW H → Nat
  | (.string bytes, d) => bytes.length + uptoBulk d + 1
  | (_, d) => uptoBulk d + 1
 end
def uptoSmall : (H : Type) → List (DataW H) → Bool := fun _ ds => decide (uptoBulkAll ds ≤ 1048576)
def OpenSpec.upto (s : _root_.Go.ChangeSpec) : _root_.Go.OpenSpec := { _root_.Go.OpenSpec.ofChange s with cond := some uptoSmall }

/-- 'mimesislaw18.CpuSame', WHERE WHAT IT READS IS OF BULK AT MOST 1048576: true; the input reads as it did. -/
def cpuSameUptoRow : OpenClaim := { program := "ytfnbpmkbjbibkaa", sum := "6284e620e90d1eeb594c47909ee0cdac96ce593948d0f6cf070fdef369559cba", func := "mimesis/mimesislaw18.CpuSame", spec := "cpuSame", unfollowed := true, recurses := true, apart := false, narrowed := true }
def CpuSameUptoSaid : Prop := cpuSameUptoRow.holds Try.pinned (OpenSpec.upto cpuSameSpec)

/-- 'mimesislaw18.CpuNews', WHERE WHAT IT READS IS OF BULK AT MOST 1048576: true; the input reads as it did. -/
def cpuNewsUptoRow : OpenClaim := { program := "ytfnbpmkbjbibkaa", sum := "6284e620e90d1eeb594c47909ee0cdac96ce593948d0f6cf070fdef369559cba", func := "mimesis/mimesislaw18.CpuNews", spec := "cpuNews", unfollowed := true, recurses := true, apart := false, narrowed := true }
def CpuNewsUptoSaid : Prop := cpuNewsUptoRow.holds Try.pinned (OpenSpec.upto cpuNewsSpec)

/-- 'mimesislaw18.CpuPlays', WHERE WHAT IT READS IS OF BULK AT MOST 1048576: true; the input reads as it did. -/
def cpuPlaysUptoRow : OpenClaim := { program := "ytfnbpmkbjbibkaa", sum := "6284e620e90d1eeb594c47909ee0cdac96ce593948d0f6cf070fdef369559cba", func := "mimesis/mimesislaw18.CpuPlays", spec := "cpuPlays", unfollowed := true, recurses := true, apart := false, narrowed := true }
def CpuPlaysUptoSaid : Prop := cpuPlaysUptoRow.holds Try.pinned (OpenSpec.upto cpuPlaysSpec)

/-- 'mimesislaw18.CpuNils', WHERE WHAT IT READS IS OF BULK AT MOST 1048576: true; the input reads as it did. -/
def cpuNilsUptoRow : OpenClaim := { program := "ytfnbpmkbjbibkaa", sum := "6284e620e90d1eeb594c47909ee0cdac96ce593948d0f6cf070fdef369559cba", func := "mimesis/mimesislaw18.CpuNils", spec := "cpuNils", unfollowed := true, recurses := true, apart := false, narrowed := true }
def CpuNilsUptoSaid : Prop := cpuNilsUptoRow.holds Try.pinned (OpenSpec.upto cpuNilsSpec)

end Rows
end Go.Proofs.Ytfnbpmkbjbibkaa
