/-
  NARROWER THAN 'FOR EVERY INPUT', by the rows' own cells (each row's printed sentence says how): ImageParses: laid · ImagePrints: laid · ImageWords: laid · ImageLays: laid · PolicyTurns: laid · PolicyParses: laid · PolicySets: laid · PolicyPrints: laid.
  DERIVED. THE GIVEN ROWS OF THIS SEAT. 8 by the template 'for every input the law returns true; each argument reads behind the call as it read before'; 0 by the template 'total and deterministic' (their statements: YtfnbpmkbjbibkaaDoorTotals.lean).
  GIVEN WITH THE SEED: the statements are not yours to turn. If you find one false, say at which input.
  Laid BY PROGRAM, IN A SANDBOX (cutbox-rows.mjs): the forced cells as the released guide's own fill.sh prints them over the translation 5f2f58ef3ceb6561… (all of the seat's roots in one cut). By AI agents, Wed Nov 11 2026. No macro, syntax, notation, axiom, sorry.
-/
import Derived.Test.YtfnbpmkbjbibkaaDoorChecked
import GoSem.PinnedTables
import GoSem.Claim
import GoSem.ClaimJoined
import GoSem.ClaimMapViews
import Derived.JoinedTies
import Derived.KernelRfl
namespace Go.Proofs.YtfnbpmkbjbibkaaDoor
/- THE CELL 'sum', in the pinned program and in every row, IS THE sha256 OF THE DUMP (.gsa) THAT YtfnbpmkbjbibkaaDoorProg.lean LOADS. Nothing in Lean hashes anything: it is a label: what it is worth is what the hold of that sum in a sandbox is worth. -/
noncomputable def Tryd.pinned : Pinned := { name := "ytfnbpmkbjbibkaadoor", sum := "5f2f58ef3ceb6561440db7b853534c1c79c1f823b55a07b6c7b3cec8ed23c173", checked := Tryd.checked }
namespace Rows
def none {H : Type} : Left H := { results := [], args := [] }

/- WHAT THE LISTED PACKAGE-LEVEL VARIABLES READ AS WHEN THE CALL BEGINS. Each datum BY PROGRAM (the guide's laid-datum.mjs) off the statement by which the dump's own 'gosem.cut.vars' lays the variable. In a bare row this is a premise. The card (YtfnbpmkbjbibkaaDoorCards.lean) ties it to the program's text. -/
def laid_unicode_utf8_acceptRanges {H : Type} : DataW H := .agg [.agg [.lit (.int .u8 128), .lit (.int .u8 191)], .agg [.lit (.int .u8 160), .lit (.int .u8 191)], .agg [.lit (.int .u8 128), .lit (.int .u8 159)], .agg [.lit (.int .u8 144), .lit (.int .u8 191)], .agg [.lit (.int .u8 128), .lit (.int .u8 143)], .agg [.lit (.int .u8 0), .lit (.int .u8 0)], .agg [.lit (.int .u8 0), .lit (.int .u8 0)], .agg [.lit (.int .u8 0), .lit (.int .u8 0)], .agg [.lit (.int .u8 0), .lit (.int .u8 0)], .agg [.lit (.int .u8 0), .lit (.int .u8 0)], .agg [.lit (.int .u8 0), .lit (.int .u8 0)], .agg [.lit (.int .u8 0), .lit (.int .u8 0)], .agg [.lit (.int .u8 0), .lit (.int .u8 0)], .agg [.lit (.int .u8 0), .lit (.int .u8 0)], .agg [.lit (.int .u8 0), .lit (.int .u8 0)], .agg [.lit (.int .u8 0), .lit (.int .u8 0)]]
/-- One of Go's own tables, pinned by name: the form's constant. -/
def laid_unicode_utf8_first : DataW Unit := Go.Pinned.utf8First
def laid_mimesis_policy_words {H : Type} : DataW H := .agg [.lit (.string [45]), .lit (.string [116, 114, 97, 110, 115, 108, 97, 116, 101]), .lit (.string [102, 117, 115, 101]), .lit (.string [101, 118, 105, 99, 116]), .lit (.string [102, 108, 117, 115, 104]), .lit (.string [104, 111, 116]), .lit (.string [108, 101, 110, 103, 116, 104]), .lit (.string [112, 97, 115, 115, 101, 115]), .lit (.string [99, 104, 97, 105, 110]), .lit (.string [115, 116, 101, 112])]

/-- 'mimesislaw15.ImageParses': WHATEVER THE INPUT: true; the input reads as it did. -/
def imageParsesSpec : ChangeSpec := { name := "imageParses", fn := fun _ => fun
  | [d] => { results := [.lit (.bool true)], args := [d] }
  | _ => none }
def imageParsesRow : OpenClaim := { program := "ytfnbpmkbjbibkaadoor", sum := "5f2f58ef3ceb6561440db7b853534c1c79c1f823b55a07b6c7b3cec8ed23c173", func := "mimesis/mimesislaw15.ImageParses", spec := "imageParses", inPlace := ["internal/bytealg.IndexByteString", "internal/bytealg.IndexString"], unfollowed := true, recurses := true, named := ["unicode/utf8.first", "unicode/utf8.acceptRanges", "internal/bytealg.MaxLen"], apart := false, laid := [("unicode/utf8.acceptRanges", laid_unicode_utf8_acceptRanges), ("unicode/utf8.first", laid_unicode_utf8_first)] }
def ImageParsesSaid : Prop := imageParsesRow.holds Tryd.pinned (OpenSpec.ofChange imageParsesSpec)

/-- ITS FALSE NEIGHBOUR: 'it returns false'. Refute it at one input. -/
def imageParsesWrong : ChangeSpec := { name := "imageParses", fn := fun _ => fun
  | [d] => { results := [.lit (.bool false)], args := [d] }
  | _ => none }
def ImageParsesWrongFalsely : Prop := imageParsesRow.holds Tryd.pinned (OpenSpec.ofChange imageParsesWrong)

/-- 'mimesislaw15.ImagePrints': WHATEVER THE INPUT: true; the input reads as it did. -/
def imagePrintsSpec : ChangeSpec := { name := "imagePrints", fn := fun _ => fun
  | [d] => { results := [.lit (.bool true)], args := [d] }
  | _ => none }
def imagePrintsRow : OpenClaim := { program := "ytfnbpmkbjbibkaadoor", sum := "5f2f58ef3ceb6561440db7b853534c1c79c1f823b55a07b6c7b3cec8ed23c173", func := "mimesis/mimesislaw15.ImagePrints", spec := "imagePrints", inPlace := ["internal/bytealg.IndexByteString", "internal/bytealg.IndexString"], unfollowed := true, recurses := true, named := ["unicode/utf8.first", "unicode/utf8.acceptRanges", "internal/bytealg.MaxLen"], apart := false, laid := [("unicode/utf8.acceptRanges", laid_unicode_utf8_acceptRanges), ("unicode/utf8.first", laid_unicode_utf8_first)] }
def ImagePrintsSaid : Prop := imagePrintsRow.holds Tryd.pinned (OpenSpec.ofChange imagePrintsSpec)

/-- ITS FALSE NEIGHBOUR: 'it returns false'. Refute it at one input. -/
def imagePrintsWrong : ChangeSpec := { name := "imagePrints", fn := fun _ => fun
  | [d] => { results := [.lit (.bool false)], args := [d] }
  | _ => none }
def ImagePrintsWrongFalsely : Prop := imagePrintsRow.holds Tryd.pinned (OpenSpec.ofChange imagePrintsWrong)

/-- 'mimesislaw15.ImageWords': WHATEVER THE INPUT: true; the input reads as it did. -/
def imageWordsSpec : ChangeSpec := { name := "imageWords", fn := fun _ => fun
  | [d1, d2] => { results := [.lit (.bool true)], args := [d1, d2] }
  | _ => none }
def imageWordsRow : OpenClaim := { program := "ytfnbpmkbjbibkaadoor", sum := "5f2f58ef3ceb6561440db7b853534c1c79c1f823b55a07b6c7b3cec8ed23c173", func := "mimesis/mimesislaw15.ImageWords", spec := "imageWords", inPlace := ["internal/bytealg.IndexByteString", "internal/bytealg.IndexString"], unfollowed := true, recurses := true, named := ["unicode/utf8.first", "unicode/utf8.acceptRanges", "internal/bytealg.MaxLen"], apart := false, laid := [("unicode/utf8.acceptRanges", laid_unicode_utf8_acceptRanges), ("unicode/utf8.first", laid_unicode_utf8_first)] }
def ImageWordsSaid : Prop := imageWordsRow.holds Tryd.pinned (OpenSpec.ofChange imageWordsSpec)

/-- ITS FALSE NEIGHBOUR: 'it returns false'. Refute it at one input. -/
def imageWordsWrong : ChangeSpec := { name := "imageWords", fn := fun _ => fun
  | [d1, d2] => { results := [.lit (.bool false)], args := [d1, d2] }
  | _ => none }
def ImageWordsWrongFalsely : Prop := imageWordsRow.holds Tryd.pinned (OpenSpec.ofChange imageWordsWrong)

/-- 'mimesislaw15.ImageLays': WHATEVER THE INPUT: true; the input reads as it did. -/
def imageLaysSpec : ChangeSpec := { name := "imageLays", fn := fun _ => fun
  | [d1, d2] => { results := [.lit (.bool true)], args := [d1, d2] }
  | _ => none }
def imageLaysRow : OpenClaim := { program := "ytfnbpmkbjbibkaadoor", sum := "5f2f58ef3ceb6561440db7b853534c1c79c1f823b55a07b6c7b3cec8ed23c173", func := "mimesis/mimesislaw15.ImageLays", spec := "imageLays", inPlace := ["internal/bytealg.IndexByteString", "internal/bytealg.IndexString"], unfollowed := true, recurses := true, named := ["unicode/utf8.first", "unicode/utf8.acceptRanges", "internal/bytealg.MaxLen"], apart := false, laid := [("unicode/utf8.acceptRanges", laid_unicode_utf8_acceptRanges), ("unicode/utf8.first", laid_unicode_utf8_first)] }
def ImageLaysSaid : Prop := imageLaysRow.holds Tryd.pinned (OpenSpec.ofChange imageLaysSpec)

/-- ITS FALSE NEIGHBOUR: 'it returns false'. Refute it at one input. -/
def imageLaysWrong : ChangeSpec := { name := "imageLays", fn := fun _ => fun
  | [d1, d2] => { results := [.lit (.bool false)], args := [d1, d2] }
  | _ => none }
def ImageLaysWrongFalsely : Prop := imageLaysRow.holds Tryd.pinned (OpenSpec.ofChange imageLaysWrong)

/-- 'mimesislaw37.PolicyTurns': WHATEVER THE INPUT: true; the input reads as it did. -/
def policyTurnsSpec : ChangeSpec := { name := "policyTurns", fn := fun _ => fun
  | [d] => { results := [.lit (.bool true)], args := [d] }
  | _ => none }
def policyTurnsRow : OpenClaim := { program := "ytfnbpmkbjbibkaadoor", sum := "5f2f58ef3ceb6561440db7b853534c1c79c1f823b55a07b6c7b3cec8ed23c173", func := "mimesis/mimesislaw37.PolicyTurns", spec := "policyTurns", inPlace := ["internal/bytealg.CountString", "internal/bytealg.IndexByteString", "internal/bytealg.IndexString", "internal/abi.NoEscape", "internal/bytealg.MakeNoZero"], named := ["internal/bytealg.MaxLen", "unicode/utf8.first", "unicode/utf8.acceptRanges", "mimesis/policy.words"], apart := false, laid := [("unicode/utf8.acceptRanges", laid_unicode_utf8_acceptRanges), ("mimesis/policy.words", laid_mimesis_policy_words), ("unicode/utf8.first", laid_unicode_utf8_first)] }
def PolicyTurnsSaid : Prop := policyTurnsRow.holds Tryd.pinned (OpenSpec.ofChange policyTurnsSpec)

/-- ITS FALSE NEIGHBOUR: 'it returns false'. Refute it at one input. -/
def policyTurnsWrong : ChangeSpec := { name := "policyTurns", fn := fun _ => fun
  | [d] => { results := [.lit (.bool false)], args := [d] }
  | _ => none }
def PolicyTurnsWrongFalsely : Prop := policyTurnsRow.holds Tryd.pinned (OpenSpec.ofChange policyTurnsWrong)

/-- 'mimesislaw37.PolicyParses': WHATEVER THE INPUT: true; the input reads as it did. -/
def policyParsesSpec : ChangeSpec := { name := "policyParses", fn := fun _ => fun
  | [d] => { results := [.lit (.bool true)], args := [d] }
  | _ => none }
def policyParsesRow : OpenClaim := { program := "ytfnbpmkbjbibkaadoor", sum := "5f2f58ef3ceb6561440db7b853534c1c79c1f823b55a07b6c7b3cec8ed23c173", func := "mimesis/mimesislaw37.PolicyParses", spec := "policyParses", inPlace := ["internal/bytealg.CountString", "internal/bytealg.IndexByteString", "internal/bytealg.IndexString", "internal/abi.NoEscape", "internal/bytealg.MakeNoZero"], named := ["internal/bytealg.MaxLen", "unicode/utf8.first", "unicode/utf8.acceptRanges", "mimesis/policy.words"], apart := false, laid := [("unicode/utf8.acceptRanges", laid_unicode_utf8_acceptRanges), ("mimesis/policy.words", laid_mimesis_policy_words), ("unicode/utf8.first", laid_unicode_utf8_first)] }
def PolicyParsesSaid : Prop := policyParsesRow.holds Tryd.pinned (OpenSpec.ofChange policyParsesSpec)

/-- ITS FALSE NEIGHBOUR: 'it returns false'. Refute it at one input. -/
def policyParsesWrong : ChangeSpec := { name := "policyParses", fn := fun _ => fun
  | [d] => { results := [.lit (.bool false)], args := [d] }
  | _ => none }
def PolicyParsesWrongFalsely : Prop := policyParsesRow.holds Tryd.pinned (OpenSpec.ofChange policyParsesWrong)

/-- 'mimesislaw37.PolicySets': WHATEVER THE INPUT: true; the input reads as it did. -/
def policySetsSpec : ChangeSpec := { name := "policySets", fn := fun _ => fun
  | [d1, d2] => { results := [.lit (.bool true)], args := [d1, d2] }
  | _ => none }
def policySetsRow : OpenClaim := { program := "ytfnbpmkbjbibkaadoor", sum := "5f2f58ef3ceb6561440db7b853534c1c79c1f823b55a07b6c7b3cec8ed23c173", func := "mimesis/mimesislaw37.PolicySets", spec := "policySets", inPlace := ["internal/bytealg.CountString", "internal/bytealg.IndexByteString", "internal/bytealg.IndexString", "internal/abi.NoEscape", "internal/bytealg.MakeNoZero"], named := ["internal/bytealg.MaxLen", "unicode/utf8.first", "unicode/utf8.acceptRanges", "mimesis/policy.words"], apart := false, laid := [("unicode/utf8.acceptRanges", laid_unicode_utf8_acceptRanges), ("mimesis/policy.words", laid_mimesis_policy_words), ("unicode/utf8.first", laid_unicode_utf8_first)] }
def PolicySetsSaid : Prop := policySetsRow.holds Tryd.pinned (OpenSpec.ofChange policySetsSpec)

/-- ITS FALSE NEIGHBOUR: 'it returns false'. Refute it at one input. -/
def policySetsWrong : ChangeSpec := { name := "policySets", fn := fun _ => fun
  | [d1, d2] => { results := [.lit (.bool false)], args := [d1, d2] }
  | _ => none }
def PolicySetsWrongFalsely : Prop := policySetsRow.holds Tryd.pinned (OpenSpec.ofChange policySetsWrong)

/-- 'mimesislaw37.PolicyPrints': WHATEVER THE INPUT: true; the input reads as it did. -/
def policyPrintsSpec : ChangeSpec := { name := "policyPrints", fn := fun _ => fun
  | [d] => { results := [.lit (.bool true)], args := [d] }
  | _ => none }
def policyPrintsRow : OpenClaim := { program := "ytfnbpmkbjbibkaadoor", sum := "5f2f58ef3ceb6561440db7b853534c1c79c1f823b55a07b6c7b3cec8ed23c173", func := "mimesis/mimesislaw37.PolicyPrints", spec := "policyPrints", inPlace := ["internal/bytealg.CountString", "internal/bytealg.IndexByteString", "internal/bytealg.IndexString", "internal/abi.NoEscape", "internal/bytealg.MakeNoZero"], recurses := true, named := ["internal/bytealg.MaxLen", "unicode/utf8.first", "unicode/utf8.acceptRanges", "mimesis/policy.words"], apart := false, laid := [("unicode/utf8.acceptRanges", laid_unicode_utf8_acceptRanges), ("mimesis/policy.words", laid_mimesis_policy_words), ("unicode/utf8.first", laid_unicode_utf8_first)] }
def PolicyPrintsSaid : Prop := policyPrintsRow.holds Tryd.pinned (OpenSpec.ofChange policyPrintsSpec)

/-- ITS FALSE NEIGHBOUR: 'it returns false'. Refute it at one input. -/
def policyPrintsWrong : ChangeSpec := { name := "policyPrints", fn := fun _ => fun
  | [d] => { results := [.lit (.bool false)], args := [d] }
  | _ => none }
def PolicyPrintsWrongFalsely : Prop := policyPrintsRow.holds Tryd.pinned (OpenSpec.ofChange policyPrintsWrong)

/- THE SECOND FORM. 'bulk': how many values and letters a reading holds, each counted each time it is reached (what is shared counts as often as it is met; a slice's spare places count too). A statement '..UptoSaid' is the law's where the arguments, and the package variables that the reading takes, are together of bulk at most 1048576: NARROWER than '..Said'. Prove '..Said' where nothing that the law and all that it calls make is longer than what came in: it says more and counts as full. Else prove '..UptoSaid'. A law counts once. -/
mutual
def uptoBulk {H : Type} : DataW H → Nat
  | .lit (.string bytes) => bytes.length + 1
  | .lit _ => 1
  | .nil => 1
  | .ptr d => uptoBulk d + 1
  | .slice elems spare => uptoBulkAll elems + uptoBulkAll spare + 1
  | .agg parts => uptoBulkAll parts + 1
  | .iface _ d => uptoBulk d + 1
  | .map entries => uptoBulkEntries entries + 1
  | .held _ => 1
def uptoBulkAll {H : Type} : List (DataW H) → Nat
  | [] => 0
  | d :: r => uptoBulk d + uptoBulkAll r
def uptoBulkEntries {H : Type} : List (Lit × DataW H) → Nat
  | [] => 0
  | x :: r => uptoBulkEntry x + uptoBulkEntries r
def uptoBulkEntry {H : Type} : Lit × DataW H → Nat
  | (.string bytes, d) => bytes.length + uptoBulk d + 1
  | (_, d) => uptoBulk d + 1
 end
def uptoSmall : (H : Type) → List (DataW H) → Bool := fun _ ds => decide (uptoBulkAll ds ≤ 1048576)
def OpenSpec.upto (s : _root_.Go.ChangeSpec) : _root_.Go.OpenSpec := { _root_.Go.OpenSpec.ofChange s with cond := some uptoSmall }

/-- 'mimesislaw15.ImageParses', WHERE WHAT IT READS IS OF BULK AT MOST 1048576: true; the input reads as it did. -/
def imageParsesUptoRow : OpenClaim := { program := "ytfnbpmkbjbibkaadoor", sum := "5f2f58ef3ceb6561440db7b853534c1c79c1f823b55a07b6c7b3cec8ed23c173", func := "mimesis/mimesislaw15.ImageParses", spec := "imageParses", inPlace := ["internal/bytealg.IndexByteString", "internal/bytealg.IndexString"], unfollowed := true, recurses := true, named := ["unicode/utf8.first", "unicode/utf8.acceptRanges", "internal/bytealg.MaxLen"], apart := false, laid := [("unicode/utf8.acceptRanges", laid_unicode_utf8_acceptRanges), ("unicode/utf8.first", laid_unicode_utf8_first)], narrowed := true }
def ImageParsesUptoSaid : Prop := imageParsesUptoRow.holds Tryd.pinned (OpenSpec.upto imageParsesSpec)

/-- 'mimesislaw15.ImagePrints', WHERE WHAT IT READS IS OF BULK AT MOST 1048576: true; the input reads as it did. -/
def imagePrintsUptoRow : OpenClaim := { program := "ytfnbpmkbjbibkaadoor", sum := "5f2f58ef3ceb6561440db7b853534c1c79c1f823b55a07b6c7b3cec8ed23c173", func := "mimesis/mimesislaw15.ImagePrints", spec := "imagePrints", inPlace := ["internal/bytealg.IndexByteString", "internal/bytealg.IndexString"], unfollowed := true, recurses := true, named := ["unicode/utf8.first", "unicode/utf8.acceptRanges", "internal/bytealg.MaxLen"], apart := false, laid := [("unicode/utf8.acceptRanges", laid_unicode_utf8_acceptRanges), ("unicode/utf8.first", laid_unicode_utf8_first)], narrowed := true }
def ImagePrintsUptoSaid : Prop := imagePrintsUptoRow.holds Tryd.pinned (OpenSpec.upto imagePrintsSpec)

/-- 'mimesislaw15.ImageWords', WHERE WHAT IT READS IS OF BULK AT MOST 1048576: true; the input reads as it did. -/
def imageWordsUptoRow : OpenClaim := { program := "ytfnbpmkbjbibkaadoor", sum := "5f2f58ef3ceb6561440db7b853534c1c79c1f823b55a07b6c7b3cec8ed23c173", func := "mimesis/mimesislaw15.ImageWords", spec := "imageWords", inPlace := ["internal/bytealg.IndexByteString", "internal/bytealg.IndexString"], unfollowed := true, recurses := true, named := ["unicode/utf8.first", "unicode/utf8.acceptRanges", "internal/bytealg.MaxLen"], apart := false, laid := [("unicode/utf8.acceptRanges", laid_unicode_utf8_acceptRanges), ("unicode/utf8.first", laid_unicode_utf8_first)], narrowed := true }
def ImageWordsUptoSaid : Prop := imageWordsUptoRow.holds Tryd.pinned (OpenSpec.upto imageWordsSpec)

/-- 'mimesislaw15.ImageLays', WHERE WHAT IT READS IS OF BULK AT MOST 1048576: true; the input reads as it did. -/
def imageLaysUptoRow : OpenClaim := { program := "ytfnbpmkbjbibkaadoor", sum := "5f2f58ef3ceb6561440db7b853534c1c79c1f823b55a07b6c7b3cec8ed23c173", func := "mimesis/mimesislaw15.ImageLays", spec := "imageLays", inPlace := ["internal/bytealg.IndexByteString", "internal/bytealg.IndexString"], unfollowed := true, recurses := true, named := ["unicode/utf8.first", "unicode/utf8.acceptRanges", "internal/bytealg.MaxLen"], apart := false, laid := [("unicode/utf8.acceptRanges", laid_unicode_utf8_acceptRanges), ("unicode/utf8.first", laid_unicode_utf8_first)], narrowed := true }
def ImageLaysUptoSaid : Prop := imageLaysUptoRow.holds Tryd.pinned (OpenSpec.upto imageLaysSpec)

/-- 'mimesislaw37.PolicyTurns', WHERE WHAT IT READS IS OF BULK AT MOST 1048576: true; the input reads as it did. -/
def policyTurnsUptoRow : OpenClaim := { program := "ytfnbpmkbjbibkaadoor", sum := "5f2f58ef3ceb6561440db7b853534c1c79c1f823b55a07b6c7b3cec8ed23c173", func := "mimesis/mimesislaw37.PolicyTurns", spec := "policyTurns", inPlace := ["internal/bytealg.CountString", "internal/bytealg.IndexByteString", "internal/bytealg.IndexString", "internal/abi.NoEscape", "internal/bytealg.MakeNoZero"], named := ["internal/bytealg.MaxLen", "unicode/utf8.first", "unicode/utf8.acceptRanges", "mimesis/policy.words"], apart := false, laid := [("unicode/utf8.acceptRanges", laid_unicode_utf8_acceptRanges), ("mimesis/policy.words", laid_mimesis_policy_words), ("unicode/utf8.first", laid_unicode_utf8_first)], narrowed := true }
def PolicyTurnsUptoSaid : Prop := policyTurnsUptoRow.holds Tryd.pinned (OpenSpec.upto policyTurnsSpec)

/-- 'mimesislaw37.PolicyParses', WHERE WHAT IT READS IS OF BULK AT MOST 1048576: true; the input reads as it did. -/
def policyParsesUptoRow : OpenClaim := { program := "ytfnbpmkbjbibkaadoor", sum := "5f2f58ef3ceb6561440db7b853534c1c79c1f823b55a07b6c7b3cec8ed23c173", func := "mimesis/mimesislaw37.PolicyParses", spec := "policyParses", inPlace := ["internal/bytealg.CountString", "internal/bytealg.IndexByteString", "internal/bytealg.IndexString", "internal/abi.NoEscape", "internal/bytealg.MakeNoZero"], named := ["internal/bytealg.MaxLen", "unicode/utf8.first", "unicode/utf8.acceptRanges", "mimesis/policy.words"], apart := false, laid := [("unicode/utf8.acceptRanges", laid_unicode_utf8_acceptRanges), ("mimesis/policy.words", laid_mimesis_policy_words), ("unicode/utf8.first", laid_unicode_utf8_first)], narrowed := true }
def PolicyParsesUptoSaid : Prop := policyParsesUptoRow.holds Tryd.pinned (OpenSpec.upto policyParsesSpec)

/-- 'mimesislaw37.PolicySets', WHERE WHAT IT READS IS OF BULK AT MOST 1048576: true; the input reads as it did. -/
def policySetsUptoRow : OpenClaim := { program := "ytfnbpmkbjbibkaadoor", sum := "5f2f58ef3ceb6561440db7b853534c1c79c1f823b55a07b6c7b3cec8ed23c173", func := "mimesis/mimesislaw37.PolicySets", spec := "policySets", inPlace := ["internal/bytealg.CountString", "internal/bytealg.IndexByteString", "internal/bytealg.IndexString", "internal/abi.NoEscape", "internal/bytealg.MakeNoZero"], named := ["internal/bytealg.MaxLen", "unicode/utf8.first", "unicode/utf8.acceptRanges", "mimesis/policy.words"], apart := false, laid := [("unicode/utf8.acceptRanges", laid_unicode_utf8_acceptRanges), ("mimesis/policy.words", laid_mimesis_policy_words), ("unicode/utf8.first", laid_unicode_utf8_first)], narrowed := true }
def PolicySetsUptoSaid : Prop := policySetsUptoRow.holds Tryd.pinned (OpenSpec.upto policySetsSpec)

/-- 'mimesislaw37.PolicyPrints', WHERE WHAT IT READS IS OF BULK AT MOST 1048576: true; the input reads as it did. -/
def policyPrintsUptoRow : OpenClaim := { program := "ytfnbpmkbjbibkaadoor", sum := "5f2f58ef3ceb6561440db7b853534c1c79c1f823b55a07b6c7b3cec8ed23c173", func := "mimesis/mimesislaw37.PolicyPrints", spec := "policyPrints", inPlace := ["internal/bytealg.CountString", "internal/bytealg.IndexByteString", "internal/bytealg.IndexString", "internal/abi.NoEscape", "internal/bytealg.MakeNoZero"], recurses := true, named := ["internal/bytealg.MaxLen", "unicode/utf8.first", "unicode/utf8.acceptRanges", "mimesis/policy.words"], apart := false, laid := [("unicode/utf8.acceptRanges", laid_unicode_utf8_acceptRanges), ("mimesis/policy.words", laid_mimesis_policy_words), ("unicode/utf8.first", laid_unicode_utf8_first)], narrowed := true }
def PolicyPrintsUptoSaid : Prop := policyPrintsUptoRow.holds Tryd.pinned (OpenSpec.upto policyPrintsSpec)

end Rows
end Go.Proofs.YtfnbpmkbjbibkaaDoor
