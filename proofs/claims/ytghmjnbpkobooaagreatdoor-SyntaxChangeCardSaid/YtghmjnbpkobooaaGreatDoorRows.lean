/-
  NARROWER THAN 'FOR EVERY INPUT', by the rows' own cells (each row's printed sentence says how): TopPolicy: loops, laid · SyntaxPrintSpec: loops, laid · SyntaxBack: loops, laid · SyntaxSpaces: laid · SyntaxChange: laid · SyntaxCut: laid · SyntaxInside: loops, laid · PoliciesPrinted: loops, laid.
  DERIVED. THE GIVEN ROWS OF THIS SEAT. 8 by the template 'for every input the law returns true; each argument reads behind the call as it read before'; 0 by the template 'total and deterministic' (their statements: YtghmjnbpkobooaaGreatDoorTotals.lean).
  GIVEN WITH THE SEED: the statements are not yours to turn. If you find one false, say at which input.
  Laid BY PROGRAM, IN A SANDBOX (cutbox-rows.mjs): the forced cells as the released guide's own fill.sh prints them over the translation 57fc343edda30fa7… (all of the seat's roots in one cut). By AI agents, Wed Nov 11 2026. No macro, syntax, notation, axiom, sorry.
-/
import Derived.Test.YtghmjnbpkobooaaGreatDoorChecked
import GoSem.Claim
import GoSem.ClaimJoined
import GoSem.ClaimMapViews
import Derived.JoinedTies
import Derived.KernelRfl
namespace Go.Proofs.YtghmjnbpkobooaaGreatDoor
/- THE CELL 'sum', in the pinned program and in every row, IS THE sha256 OF THE DUMP (.gsa) THAT YtghmjnbpkobooaaGreatDoorProg.lean LOADS. Nothing in Lean hashes anything: it is a label: what it is worth is what the hold of that sum in a sandbox is worth. -/
noncomputable def Tryz.pinned : Pinned := { name := "ytghmjnbpkobooaagreatdoor", sum := "57fc343edda30fa7efe78166e2b76b17661f97de1bacd7ea2c1f1c35bdd8538d", checked := Tryz.checked }
namespace Rows
def none {H : Type} : Left H := { results := [], args := [] }

/- WHAT THE LISTED PACKAGE-LEVEL VARIABLES READ AS WHEN THE CALL BEGINS. Each datum BY PROGRAM (the guide's laid-datum.mjs) off the statement by which the dump's own 'gosem.cut.vars' lays the variable. In a bare row this is a premise. The card (YtghmjnbpkobooaaGreatDoorCards.lean) ties it to the program's text. -/
def laid_math_bits_deBruijn32tab {H : Type} : DataW H := .agg [.lit (.int .u8 0), .lit (.int .u8 1), .lit (.int .u8 28), .lit (.int .u8 2), .lit (.int .u8 29), .lit (.int .u8 14), .lit (.int .u8 24), .lit (.int .u8 3), .lit (.int .u8 30), .lit (.int .u8 22), .lit (.int .u8 20), .lit (.int .u8 15), .lit (.int .u8 25), .lit (.int .u8 17), .lit (.int .u8 4), .lit (.int .u8 8), .lit (.int .u8 31), .lit (.int .u8 27), .lit (.int .u8 13), .lit (.int .u8 23), .lit (.int .u8 21), .lit (.int .u8 19), .lit (.int .u8 16), .lit (.int .u8 7), .lit (.int .u8 26), .lit (.int .u8 12), .lit (.int .u8 18), .lit (.int .u8 6), .lit (.int .u8 11), .lit (.int .u8 5), .lit (.int .u8 10), .lit (.int .u8 9)]
def laid_math_bits_deBruijn64tab {H : Type} : DataW H := .agg [.lit (.int .u8 0), .lit (.int .u8 1), .lit (.int .u8 56), .lit (.int .u8 2), .lit (.int .u8 57), .lit (.int .u8 49), .lit (.int .u8 28), .lit (.int .u8 3), .lit (.int .u8 61), .lit (.int .u8 58), .lit (.int .u8 42), .lit (.int .u8 50), .lit (.int .u8 38), .lit (.int .u8 29), .lit (.int .u8 17), .lit (.int .u8 4), .lit (.int .u8 62), .lit (.int .u8 47), .lit (.int .u8 59), .lit (.int .u8 36), .lit (.int .u8 45), .lit (.int .u8 43), .lit (.int .u8 51), .lit (.int .u8 22), .lit (.int .u8 53), .lit (.int .u8 39), .lit (.int .u8 33), .lit (.int .u8 30), .lit (.int .u8 24), .lit (.int .u8 18), .lit (.int .u8 12), .lit (.int .u8 5), .lit (.int .u8 63), .lit (.int .u8 55), .lit (.int .u8 48), .lit (.int .u8 27), .lit (.int .u8 60), .lit (.int .u8 41), .lit (.int .u8 37), .lit (.int .u8 16), .lit (.int .u8 46), .lit (.int .u8 35), .lit (.int .u8 44), .lit (.int .u8 21), .lit (.int .u8 52), .lit (.int .u8 32), .lit (.int .u8 23), .lit (.int .u8 11), .lit (.int .u8 54), .lit (.int .u8 26), .lit (.int .u8 40), .lit (.int .u8 15), .lit (.int .u8 34), .lit (.int .u8 20), .lit (.int .u8 31), .lit (.int .u8 10), .lit (.int .u8 25), .lit (.int .u8 14), .lit (.int .u8 19), .lit (.int .u8 9), .lit (.int .u8 13), .lit (.int .u8 8), .lit (.int .u8 7), .lit (.int .u8 6)]
def laid_internal_strconv_uint64pow10 {H : Type} : DataW H := .agg [.lit (.int .u64 1), .lit (.int .u64 10), .lit (.int .u64 100), .lit (.int .u64 1000), .lit (.int .u64 10000), .lit (.int .u64 100000), .lit (.int .u64 1000000), .lit (.int .u64 10000000), .lit (.int .u64 100000000), .lit (.int .u64 1000000000), .lit (.int .u64 10000000000), .lit (.int .u64 100000000000), .lit (.int .u64 1000000000000), .lit (.int .u64 10000000000000), .lit (.int .u64 100000000000000), .lit (.int .u64 1000000000000000), .lit (.int .u64 10000000000000000), .lit (.int .u64 100000000000000000), .lit (.int .u64 1000000000000000000), .lit (.int .u64 10000000000000000000)]
def laid_strconv_ErrRange {H : Type} : DataW H := .iface "*errors.errorString" (.ptr (.agg [.lit (.string [118, 97, 108, 117, 101, 32, 111, 117, 116, 32, 111, 102, 32, 114, 97, 110, 103, 101])]))
def laid_strconv_ErrSyntax {H : Type} : DataW H := .iface "*errors.errorString" (.ptr (.agg [.lit (.string [105, 110, 118, 97, 108, 105, 100, 32, 115, 121, 110, 116, 97, 120])]))
def laid_signatory_policies_kinds {H : Type} : DataW H := .iface "func table" (.agg [.iface "func" (.lit (.string [115, 105, 103, 110, 97, 116, 111, 114, 121, 47, 112, 111, 108, 105, 99, 105, 101, 115, 46, 107, 105, 110, 100, 115, 36, 49])), .iface "func" (.lit (.string [115, 105, 103, 110, 97, 116, 111, 114, 121, 47, 112, 111, 108, 105, 99, 105, 101, 115, 46, 107, 105, 110, 100, 115, 36, 50])), .iface "func" (.lit (.string [115, 105, 103, 110, 97, 116, 111, 114, 121, 47, 112, 111, 108, 105, 99, 105, 101, 115, 46, 107, 105, 110, 100, 115, 36, 51])), .iface "func" (.lit (.string [115, 105, 103, 110, 97, 116, 111, 114, 121, 47, 112, 111, 108, 105, 99, 105, 101, 115, 46, 107, 105, 110, 100, 115, 36, 52])), .iface "func" (.lit (.string [115, 105, 103, 110, 97, 116, 111, 114, 121, 47, 112, 111, 108, 105, 99, 105, 101, 115, 46, 107, 105, 110, 100, 115, 36, 53]))])

/-- 'signatorytop.TopPolicy': WHATEVER THE INPUT: true; the input reads as it did. -/
def topPolicySpec : ChangeSpec := { name := "topPolicy", fn := fun _ => fun
  | [d1, d2, d3, d4, d5, d6] => { results := [.lit (.bool true)], args := [d1, d2, d3, d4, d5, d6] }
  | _ => none }
def topPolicyRow : OpenClaim := { program := "ytghmjnbpkobooaagreatdoor", sum := "57fc343edda30fa7efe78166e2b76b17661f97de1bacd7ea2c1f1c35bdd8538d", func := "signatory/signatorytop.TopPolicy", spec := "topPolicy", inPlace := ["internal/bytealg.IndexByteString", "internal/abi.NoEscape", "internal/bytealg.MakeNoZero"], unfollowed := true, recurses := true, named := ["signatory/policies.kinds", "internal/strconv.uint64pow10", "math/bits.deBruijn32tab", "math/bits.deBruijn64tab", "strconv.ErrSyntax", "strconv.ErrRange"], loops := true, apart := false, laid := [("math/bits.deBruijn32tab", laid_math_bits_deBruijn32tab), ("math/bits.deBruijn64tab", laid_math_bits_deBruijn64tab), ("internal/strconv.uint64pow10", laid_internal_strconv_uint64pow10), ("strconv.ErrRange", laid_strconv_ErrRange), ("strconv.ErrSyntax", laid_strconv_ErrSyntax), ("signatory/policies.kinds", laid_signatory_policies_kinds)] }
def TopPolicySaid : Prop := topPolicyRow.holds Tryz.pinned (OpenSpec.ofChange topPolicySpec)

/-- ITS FALSE NEIGHBOUR: 'it returns false'. Refute it at one input. -/
def topPolicyWrong : ChangeSpec := { name := "topPolicy", fn := fun _ => fun
  | [d1, d2, d3, d4, d5, d6] => { results := [.lit (.bool false)], args := [d1, d2, d3, d4, d5, d6] }
  | _ => none }
def TopPolicyWrongFalsely : Prop := topPolicyRow.holds Tryz.pinned (OpenSpec.ofChange topPolicyWrong)

/-- 'signatorylaw19.SyntaxPrintSpec': WHATEVER THE INPUT: true; the input reads as it did. -/
def syntaxPrintSpecSpec : ChangeSpec := { name := "syntaxPrintSpec", fn := fun _ => fun
  | [d] => { results := [.lit (.bool true)], args := [d] }
  | _ => none }
def syntaxPrintSpecRow : OpenClaim := { program := "ytghmjnbpkobooaagreatdoor", sum := "57fc343edda30fa7efe78166e2b76b17661f97de1bacd7ea2c1f1c35bdd8538d", func := "signatory/signatorylaw19.SyntaxPrintSpec", spec := "syntaxPrintSpec", inPlace := ["internal/bytealg.IndexByteString", "internal/abi.NoEscape", "internal/bytealg.MakeNoZero"], unfollowed := true, recurses := true, named := ["strconv.ErrSyntax", "strconv.ErrRange", "internal/strconv.uint64pow10", "math/bits.deBruijn32tab", "math/bits.deBruijn64tab"], loops := true, apart := false, laid := [("math/bits.deBruijn32tab", laid_math_bits_deBruijn32tab), ("math/bits.deBruijn64tab", laid_math_bits_deBruijn64tab), ("internal/strconv.uint64pow10", laid_internal_strconv_uint64pow10), ("strconv.ErrRange", laid_strconv_ErrRange), ("strconv.ErrSyntax", laid_strconv_ErrSyntax)] }
def SyntaxPrintSpecSaid : Prop := syntaxPrintSpecRow.holds Tryz.pinned (OpenSpec.ofChange syntaxPrintSpecSpec)

/-- ITS FALSE NEIGHBOUR: 'it returns false'. Refute it at one input. -/
def syntaxPrintSpecWrong : ChangeSpec := { name := "syntaxPrintSpec", fn := fun _ => fun
  | [d] => { results := [.lit (.bool false)], args := [d] }
  | _ => none }
def SyntaxPrintSpecWrongFalsely : Prop := syntaxPrintSpecRow.holds Tryz.pinned (OpenSpec.ofChange syntaxPrintSpecWrong)

/-- 'signatorylaw19.SyntaxBack': WHATEVER THE INPUT: true; the input reads as it did. -/
def syntaxBackSpec : ChangeSpec := { name := "syntaxBack", fn := fun _ => fun
  | [d1, d2] => { results := [.lit (.bool true)], args := [d1, d2] }
  | _ => none }
def syntaxBackRow : OpenClaim := { program := "ytghmjnbpkobooaagreatdoor", sum := "57fc343edda30fa7efe78166e2b76b17661f97de1bacd7ea2c1f1c35bdd8538d", func := "signatory/signatorylaw19.SyntaxBack", spec := "syntaxBack", inPlace := ["internal/bytealg.IndexByteString", "internal/abi.NoEscape", "internal/bytealg.MakeNoZero"], unfollowed := true, recurses := true, named := ["strconv.ErrSyntax", "strconv.ErrRange", "internal/strconv.uint64pow10", "math/bits.deBruijn32tab", "math/bits.deBruijn64tab"], loops := true, apart := false, laid := [("math/bits.deBruijn32tab", laid_math_bits_deBruijn32tab), ("math/bits.deBruijn64tab", laid_math_bits_deBruijn64tab), ("internal/strconv.uint64pow10", laid_internal_strconv_uint64pow10), ("strconv.ErrRange", laid_strconv_ErrRange), ("strconv.ErrSyntax", laid_strconv_ErrSyntax)] }
def SyntaxBackSaid : Prop := syntaxBackRow.holds Tryz.pinned (OpenSpec.ofChange syntaxBackSpec)

/-- ITS FALSE NEIGHBOUR: 'it returns false'. Refute it at one input. -/
def syntaxBackWrong : ChangeSpec := { name := "syntaxBack", fn := fun _ => fun
  | [d1, d2] => { results := [.lit (.bool false)], args := [d1, d2] }
  | _ => none }
def SyntaxBackWrongFalsely : Prop := syntaxBackRow.holds Tryz.pinned (OpenSpec.ofChange syntaxBackWrong)

/-- 'signatorylaw19.SyntaxSpaces': WHATEVER THE INPUT: true; the input reads as it did. -/
def syntaxSpacesSpec : ChangeSpec := { name := "syntaxSpaces", fn := fun _ => fun
  | [d1, d2] => { results := [.lit (.bool true)], args := [d1, d2] }
  | _ => none }
def syntaxSpacesRow : OpenClaim := { program := "ytghmjnbpkobooaagreatdoor", sum := "57fc343edda30fa7efe78166e2b76b17661f97de1bacd7ea2c1f1c35bdd8538d", func := "signatory/signatorylaw19.SyntaxSpaces", spec := "syntaxSpaces", inPlace := ["internal/bytealg.IndexByteString", "internal/abi.NoEscape", "internal/bytealg.MakeNoZero"], unfollowed := true, recurses := true, named := ["strconv.ErrSyntax", "strconv.ErrRange", "internal/strconv.uint64pow10", "math/bits.deBruijn32tab", "math/bits.deBruijn64tab"], apart := false, laid := [("math/bits.deBruijn32tab", laid_math_bits_deBruijn32tab), ("math/bits.deBruijn64tab", laid_math_bits_deBruijn64tab), ("internal/strconv.uint64pow10", laid_internal_strconv_uint64pow10), ("strconv.ErrRange", laid_strconv_ErrRange), ("strconv.ErrSyntax", laid_strconv_ErrSyntax)] }
def SyntaxSpacesSaid : Prop := syntaxSpacesRow.holds Tryz.pinned (OpenSpec.ofChange syntaxSpacesSpec)

/-- ITS FALSE NEIGHBOUR: 'it returns false'. Refute it at one input. -/
def syntaxSpacesWrong : ChangeSpec := { name := "syntaxSpaces", fn := fun _ => fun
  | [d1, d2] => { results := [.lit (.bool false)], args := [d1, d2] }
  | _ => none }
def SyntaxSpacesWrongFalsely : Prop := syntaxSpacesRow.holds Tryz.pinned (OpenSpec.ofChange syntaxSpacesWrong)

/-- 'signatorylaw19.SyntaxChange': WHATEVER THE INPUT: true; the input reads as it did. -/
def syntaxChangeSpec : ChangeSpec := { name := "syntaxChange", fn := fun _ => fun
  | [d1, d2, d3] => { results := [.lit (.bool true)], args := [d1, d2, d3] }
  | _ => none }
def syntaxChangeRow : OpenClaim := { program := "ytghmjnbpkobooaagreatdoor", sum := "57fc343edda30fa7efe78166e2b76b17661f97de1bacd7ea2c1f1c35bdd8538d", func := "signatory/signatorylaw19.SyntaxChange", spec := "syntaxChange", inPlace := ["internal/bytealg.IndexByteString", "internal/abi.NoEscape", "internal/bytealg.MakeNoZero"], unfollowed := true, recurses := true, named := ["strconv.ErrSyntax", "strconv.ErrRange", "internal/strconv.uint64pow10", "math/bits.deBruijn32tab", "math/bits.deBruijn64tab"], apart := false, laid := [("math/bits.deBruijn32tab", laid_math_bits_deBruijn32tab), ("math/bits.deBruijn64tab", laid_math_bits_deBruijn64tab), ("internal/strconv.uint64pow10", laid_internal_strconv_uint64pow10), ("strconv.ErrRange", laid_strconv_ErrRange), ("strconv.ErrSyntax", laid_strconv_ErrSyntax)] }
def SyntaxChangeSaid : Prop := syntaxChangeRow.holds Tryz.pinned (OpenSpec.ofChange syntaxChangeSpec)

/-- ITS FALSE NEIGHBOUR: 'it returns false'. Refute it at one input. -/
def syntaxChangeWrong : ChangeSpec := { name := "syntaxChange", fn := fun _ => fun
  | [d1, d2, d3] => { results := [.lit (.bool false)], args := [d1, d2, d3] }
  | _ => none }
def SyntaxChangeWrongFalsely : Prop := syntaxChangeRow.holds Tryz.pinned (OpenSpec.ofChange syntaxChangeWrong)

/-- 'signatorylaw19.SyntaxCut': WHATEVER THE INPUT: true; the input reads as it did. -/
def syntaxCutSpec : ChangeSpec := { name := "syntaxCut", fn := fun _ => fun
  | [d1, d2] => { results := [.lit (.bool true)], args := [d1, d2] }
  | _ => none }
def syntaxCutRow : OpenClaim := { program := "ytghmjnbpkobooaagreatdoor", sum := "57fc343edda30fa7efe78166e2b76b17661f97de1bacd7ea2c1f1c35bdd8538d", func := "signatory/signatorylaw19.SyntaxCut", spec := "syntaxCut", inPlace := ["internal/bytealg.IndexByteString", "internal/abi.NoEscape", "internal/bytealg.MakeNoZero"], unfollowed := true, recurses := true, named := ["strconv.ErrSyntax", "strconv.ErrRange", "internal/strconv.uint64pow10", "math/bits.deBruijn32tab", "math/bits.deBruijn64tab"], apart := false, laid := [("math/bits.deBruijn32tab", laid_math_bits_deBruijn32tab), ("math/bits.deBruijn64tab", laid_math_bits_deBruijn64tab), ("internal/strconv.uint64pow10", laid_internal_strconv_uint64pow10), ("strconv.ErrRange", laid_strconv_ErrRange), ("strconv.ErrSyntax", laid_strconv_ErrSyntax)] }
def SyntaxCutSaid : Prop := syntaxCutRow.holds Tryz.pinned (OpenSpec.ofChange syntaxCutSpec)

/-- ITS FALSE NEIGHBOUR: 'it returns false'. Refute it at one input. -/
def syntaxCutWrong : ChangeSpec := { name := "syntaxCut", fn := fun _ => fun
  | [d1, d2] => { results := [.lit (.bool false)], args := [d1, d2] }
  | _ => none }
def SyntaxCutWrongFalsely : Prop := syntaxCutRow.holds Tryz.pinned (OpenSpec.ofChange syntaxCutWrong)

/-- 'signatorylaw19.SyntaxInside': WHATEVER THE INPUT: true; the input reads as it did. -/
def syntaxInsideSpec : ChangeSpec := { name := "syntaxInside", fn := fun _ => fun
  | [d1, d2] => { results := [.lit (.bool true)], args := [d1, d2] }
  | _ => none }
def syntaxInsideRow : OpenClaim := { program := "ytghmjnbpkobooaagreatdoor", sum := "57fc343edda30fa7efe78166e2b76b17661f97de1bacd7ea2c1f1c35bdd8538d", func := "signatory/signatorylaw19.SyntaxInside", spec := "syntaxInside", inPlace := ["internal/bytealg.IndexByteString", "internal/abi.NoEscape", "internal/bytealg.MakeNoZero"], unfollowed := true, recurses := true, named := ["strconv.ErrSyntax", "strconv.ErrRange", "internal/strconv.uint64pow10", "math/bits.deBruijn32tab", "math/bits.deBruijn64tab"], loops := true, apart := false, laid := [("math/bits.deBruijn32tab", laid_math_bits_deBruijn32tab), ("math/bits.deBruijn64tab", laid_math_bits_deBruijn64tab), ("internal/strconv.uint64pow10", laid_internal_strconv_uint64pow10), ("strconv.ErrRange", laid_strconv_ErrRange), ("strconv.ErrSyntax", laid_strconv_ErrSyntax)] }
def SyntaxInsideSaid : Prop := syntaxInsideRow.holds Tryz.pinned (OpenSpec.ofChange syntaxInsideSpec)

/-- ITS FALSE NEIGHBOUR: 'it returns false'. Refute it at one input. -/
def syntaxInsideWrong : ChangeSpec := { name := "syntaxInside", fn := fun _ => fun
  | [d1, d2] => { results := [.lit (.bool false)], args := [d1, d2] }
  | _ => none }
def SyntaxInsideWrongFalsely : Prop := syntaxInsideRow.holds Tryz.pinned (OpenSpec.ofChange syntaxInsideWrong)

/-- 'signatorylaw20.PoliciesPrinted': WHATEVER THE INPUT: true; the input reads as it did. -/
def policiesPrintedSpec : ChangeSpec := { name := "policiesPrinted", fn := fun _ => fun
  | [d] => { results := [.lit (.bool true)], args := [d] }
  | _ => none }
def policiesPrintedRow : OpenClaim := { program := "ytghmjnbpkobooaagreatdoor", sum := "57fc343edda30fa7efe78166e2b76b17661f97de1bacd7ea2c1f1c35bdd8538d", func := "signatory/signatorylaw20.PoliciesPrinted", spec := "policiesPrinted", inPlace := ["internal/bytealg.IndexByteString", "internal/abi.NoEscape", "internal/bytealg.MakeNoZero"], unfollowed := true, recurses := true, named := ["signatory/policies.kinds", "internal/strconv.uint64pow10", "math/bits.deBruijn32tab", "math/bits.deBruijn64tab", "strconv.ErrSyntax", "strconv.ErrRange"], loops := true, apart := false, laid := [("math/bits.deBruijn32tab", laid_math_bits_deBruijn32tab), ("math/bits.deBruijn64tab", laid_math_bits_deBruijn64tab), ("internal/strconv.uint64pow10", laid_internal_strconv_uint64pow10), ("strconv.ErrRange", laid_strconv_ErrRange), ("strconv.ErrSyntax", laid_strconv_ErrSyntax), ("signatory/policies.kinds", laid_signatory_policies_kinds)] }
def PoliciesPrintedSaid : Prop := policiesPrintedRow.holds Tryz.pinned (OpenSpec.ofChange policiesPrintedSpec)

/-- ITS FALSE NEIGHBOUR: 'it returns false'. Refute it at one input. -/
def policiesPrintedWrong : ChangeSpec := { name := "policiesPrinted", fn := fun _ => fun
  | [d] => { results := [.lit (.bool false)], args := [d] }
  | _ => none }
def PoliciesPrintedWrongFalsely : Prop := policiesPrintedRow.holds Tryz.pinned (OpenSpec.ofChange policiesPrintedWrong)

/- THE SECOND FORM. 'bulk': how many values and letters a reading holds, each counted each time it is reached (what is shared counts as often as it is met; a slice's spare places count too). A statement '..UptoSaid' is the law's where the arguments, and the package variables that the reading takes, are together of bulk at most 1048576: NARROWER than '..Said'. Prove '..Said' where nothing that the law and all that it calls make is longer than what came in: it says more and counts as full. Else prove '..UptoSaid'. A law counts once. -/
mutual
def uptoBulk {H : Type} : DataW H → Nat
  | .lit (.string bytes) => bytes.length + 1
  | .lit _ => 1
  | .nil => 1
  | .ptr d => uptoBulk d + 1
  | .slice elems spare => uptoBulkAll elems + uptoBulkAll spare + 1
  | .agg parts => uptoBulkAll parts + 1
  | .iface _ d => uptoBulk d + 1
  | .map entries => uptoBulkEntries entries + 1
  | .held _ => 1
def uptoBulkAll {H : Type} : List (DataW H) → Nat
  | [] => 0
  | d :: r => uptoBulk d + uptoBulkAll r
def uptoBulkEntries {H : Type} : List (Lit × DataW H) → Nat
  | [] => 0
  | x :: r => uptoBulkEntry x + uptoBulkEntries r
def uptoBulkEntry {H : Type} : Lit × DataW H → Nat
  | (.string bytes, d) => bytes.length + uptoBulk d + 1
  | (_, d) => uptoBulk d + 1
 end
def uptoSmall : (H : Type) → List (DataW H) → Bool := fun _ ds => decide (uptoBulkAll ds ≤ 1048576)
def OpenSpec.upto (s : _root_.Go.ChangeSpec) : _root_.Go.OpenSpec := { _root_.Go.OpenSpec.ofChange s with cond := some uptoSmall }

/-- 'signatorytop.TopPolicy', WHERE WHAT IT READS IS OF BULK AT MOST 1048576: true; the input reads as it did. -/
def topPolicyUptoRow : OpenClaim := { program := "ytghmjnbpkobooaagreatdoor", sum := "57fc343edda30fa7efe78166e2b76b17661f97de1bacd7ea2c1f1c35bdd8538d", func := "signatory/signatorytop.TopPolicy", spec := "topPolicy", inPlace := ["internal/bytealg.IndexByteString", "internal/abi.NoEscape", "internal/bytealg.MakeNoZero"], unfollowed := true, recurses := true, named := ["signatory/policies.kinds", "internal/strconv.uint64pow10", "math/bits.deBruijn32tab", "math/bits.deBruijn64tab", "strconv.ErrSyntax", "strconv.ErrRange"], loops := true, apart := false, laid := [("math/bits.deBruijn32tab", laid_math_bits_deBruijn32tab), ("math/bits.deBruijn64tab", laid_math_bits_deBruijn64tab), ("internal/strconv.uint64pow10", laid_internal_strconv_uint64pow10), ("strconv.ErrRange", laid_strconv_ErrRange), ("strconv.ErrSyntax", laid_strconv_ErrSyntax), ("signatory/policies.kinds", laid_signatory_policies_kinds)], narrowed := true }
def TopPolicyUptoSaid : Prop := topPolicyUptoRow.holds Tryz.pinned (OpenSpec.upto topPolicySpec)

/-- 'signatorylaw19.SyntaxPrintSpec', WHERE WHAT IT READS IS OF BULK AT MOST 1048576: true; the input reads as it did. -/
def syntaxPrintSpecUptoRow : OpenClaim := { program := "ytghmjnbpkobooaagreatdoor", sum := "57fc343edda30fa7efe78166e2b76b17661f97de1bacd7ea2c1f1c35bdd8538d", func := "signatory/signatorylaw19.SyntaxPrintSpec", spec := "syntaxPrintSpec", inPlace := ["internal/bytealg.IndexByteString", "internal/abi.NoEscape", "internal/bytealg.MakeNoZero"], unfollowed := true, recurses := true, named := ["strconv.ErrSyntax", "strconv.ErrRange", "internal/strconv.uint64pow10", "math/bits.deBruijn32tab", "math/bits.deBruijn64tab"], loops := true, apart := false, laid := [("math/bits.deBruijn32tab", laid_math_bits_deBruijn32tab), ("math/bits.deBruijn64tab", laid_math_bits_deBruijn64tab), ("internal/strconv.uint64pow10", laid_internal_strconv_uint64pow10), ("strconv.ErrRange", laid_strconv_ErrRange), ("strconv.ErrSyntax", laid_strconv_ErrSyntax)], narrowed := true }
def SyntaxPrintSpecUptoSaid : Prop := syntaxPrintSpecUptoRow.holds Tryz.pinned (OpenSpec.upto syntaxPrintSpecSpec)

/-- 'signatorylaw19.SyntaxBack', WHERE WHAT IT READS IS OF BULK AT MOST 1048576: true; the input reads as it did. -/
def syntaxBackUptoRow : OpenClaim := { program := "ytghmjnbpkobooaagreatdoor", sum := "57fc343edda30fa7efe78166e2b76b17661f97de1bacd7ea2c1f1c35bdd8538d", func := "signatory/signatorylaw19.SyntaxBack", spec := "syntaxBack", inPlace := ["internal/bytealg.IndexByteString", "internal/abi.NoEscape", "internal/bytealg.MakeNoZero"], unfollowed := true, recurses := true, named := ["strconv.ErrSyntax", "strconv.ErrRange", "internal/strconv.uint64pow10", "math/bits.deBruijn32tab", "math/bits.deBruijn64tab"], loops := true, apart := false, laid := [("math/bits.deBruijn32tab", laid_math_bits_deBruijn32tab), ("math/bits.deBruijn64tab", laid_math_bits_deBruijn64tab), ("internal/strconv.uint64pow10", laid_internal_strconv_uint64pow10), ("strconv.ErrRange", laid_strconv_ErrRange), ("strconv.ErrSyntax", laid_strconv_ErrSyntax)], narrowed := true }
def SyntaxBackUptoSaid : Prop := syntaxBackUptoRow.holds Tryz.pinned (OpenSpec.upto syntaxBackSpec)

/-- 'signatorylaw19.SyntaxSpaces', WHERE WHAT IT READS IS OF BULK AT MOST 1048576: true; the input reads as it did. -/
def syntaxSpacesUptoRow : OpenClaim := { program := "ytghmjnbpkobooaagreatdoor", sum := "57fc343edda30fa7efe78166e2b76b17661f97de1bacd7ea2c1f1c35bdd8538d", func := "signatory/signatorylaw19.SyntaxSpaces", spec := "syntaxSpaces", inPlace := ["internal/bytealg.IndexByteString", "internal/abi.NoEscape", "internal/bytealg.MakeNoZero"], unfollowed := true, recurses := true, named := ["strconv.ErrSyntax", "strconv.ErrRange", "internal/strconv.uint64pow10", "math/bits.deBruijn32tab", "math/bits.deBruijn64tab"], apart := false, laid := [("math/bits.deBruijn32tab", laid_math_bits_deBruijn32tab), ("math/bits.deBruijn64tab", laid_math_bits_deBruijn64tab), ("internal/strconv.uint64pow10", laid_internal_strconv_uint64pow10), ("strconv.ErrRange", laid_strconv_ErrRange), ("strconv.ErrSyntax", laid_strconv_ErrSyntax)], narrowed := true }
def SyntaxSpacesUptoSaid : Prop := syntaxSpacesUptoRow.holds Tryz.pinned (OpenSpec.upto syntaxSpacesSpec)

/-- 'signatorylaw19.SyntaxChange', WHERE WHAT IT READS IS OF BULK AT MOST 1048576: true; the input reads as it did. -/
def syntaxChangeUptoRow : OpenClaim := { program := "ytghmjnbpkobooaagreatdoor", sum := "57fc343edda30fa7efe78166e2b76b17661f97de1bacd7ea2c1f1c35bdd8538d", func := "signatory/signatorylaw19.SyntaxChange", spec := "syntaxChange", inPlace := ["internal/bytealg.IndexByteString", "internal/abi.NoEscape", "internal/bytealg.MakeNoZero"], unfollowed := true, recurses := true, named := ["strconv.ErrSyntax", "strconv.ErrRange", "internal/strconv.uint64pow10", "math/bits.deBruijn32tab", "math/bits.deBruijn64tab"], apart := false, laid := [("math/bits.deBruijn32tab", laid_math_bits_deBruijn32tab), ("math/bits.deBruijn64tab", laid_math_bits_deBruijn64tab), ("internal/strconv.uint64pow10", laid_internal_strconv_uint64pow10), ("strconv.ErrRange", laid_strconv_ErrRange), ("strconv.ErrSyntax", laid_strconv_ErrSyntax)], narrowed := true }
def SyntaxChangeUptoSaid : Prop := syntaxChangeUptoRow.holds Tryz.pinned (OpenSpec.upto syntaxChangeSpec)

/-- 'signatorylaw19.SyntaxCut', WHERE WHAT IT READS IS OF BULK AT MOST 1048576: true; the input reads as it did. -/
def syntaxCutUptoRow : OpenClaim := { program := "ytghmjnbpkobooaagreatdoor", sum := "57fc343edda30fa7efe78166e2b76b17661f97de1bacd7ea2c1f1c35bdd8538d", func := "signatory/signatorylaw19.SyntaxCut", spec := "syntaxCut", inPlace := ["internal/bytealg.IndexByteString", "internal/abi.NoEscape", "internal/bytealg.MakeNoZero"], unfollowed := true, recurses := true, named := ["strconv.ErrSyntax", "strconv.ErrRange", "internal/strconv.uint64pow10", "math/bits.deBruijn32tab", "math/bits.deBruijn64tab"], apart := false, laid := [("math/bits.deBruijn32tab", laid_math_bits_deBruijn32tab), ("math/bits.deBruijn64tab", laid_math_bits_deBruijn64tab), ("internal/strconv.uint64pow10", laid_internal_strconv_uint64pow10), ("strconv.ErrRange", laid_strconv_ErrRange), ("strconv.ErrSyntax", laid_strconv_ErrSyntax)], narrowed := true }
def SyntaxCutUptoSaid : Prop := syntaxCutUptoRow.holds Tryz.pinned (OpenSpec.upto syntaxCutSpec)

/-- 'signatorylaw19.SyntaxInside', WHERE WHAT IT READS IS OF BULK AT MOST 1048576: true; the input reads as it did. -/
def syntaxInsideUptoRow : OpenClaim := { program := "ytghmjnbpkobooaagreatdoor", sum := "57fc343edda30fa7efe78166e2b76b17661f97de1bacd7ea2c1f1c35bdd8538d", func := "signatory/signatorylaw19.SyntaxInside", spec := "syntaxInside", inPlace := ["internal/bytealg.IndexByteString", "internal/abi.NoEscape", "internal/bytealg.MakeNoZero"], unfollowed := true, recurses := true, named := ["strconv.ErrSyntax", "strconv.ErrRange", "internal/strconv.uint64pow10", "math/bits.deBruijn32tab", "math/bits.deBruijn64tab"], loops := true, apart := false, laid := [("math/bits.deBruijn32tab", laid_math_bits_deBruijn32tab), ("math/bits.deBruijn64tab", laid_math_bits_deBruijn64tab), ("internal/strconv.uint64pow10", laid_internal_strconv_uint64pow10), ("strconv.ErrRange", laid_strconv_ErrRange), ("strconv.ErrSyntax", laid_strconv_ErrSyntax)], narrowed := true }
def SyntaxInsideUptoSaid : Prop := syntaxInsideUptoRow.holds Tryz.pinned (OpenSpec.upto syntaxInsideSpec)

/-- 'signatorylaw20.PoliciesPrinted', WHERE WHAT IT READS IS OF BULK AT MOST 1048576: true; the input reads as it did. -/
def policiesPrintedUptoRow : OpenClaim := { program := "ytghmjnbpkobooaagreatdoor", sum := "57fc343edda30fa7efe78166e2b76b17661f97de1bacd7ea2c1f1c35bdd8538d", func := "signatory/signatorylaw20.PoliciesPrinted", spec := "policiesPrinted", inPlace := ["internal/bytealg.IndexByteString", "internal/abi.NoEscape", "internal/bytealg.MakeNoZero"], unfollowed := true, recurses := true, named := ["signatory/policies.kinds", "internal/strconv.uint64pow10", "math/bits.deBruijn32tab", "math/bits.deBruijn64tab", "strconv.ErrSyntax", "strconv.ErrRange"], loops := true, apart := false, laid := [("math/bits.deBruijn32tab", laid_math_bits_deBruijn32tab), ("math/bits.deBruijn64tab", laid_math_bits_deBruijn64tab), ("internal/strconv.uint64pow10", laid_internal_strconv_uint64pow10), ("strconv.ErrRange", laid_strconv_ErrRange), ("strconv.ErrSyntax", laid_strconv_ErrSyntax), ("signatory/policies.kinds", laid_signatory_policies_kinds)], narrowed := true }
def PoliciesPrintedUptoSaid : Prop := policiesPrintedUptoRow.holds Tryz.pinned (OpenSpec.upto policiesPrintedSpec)

end Rows
end Go.Proofs.YtghmjnbpkobooaaGreatDoor
