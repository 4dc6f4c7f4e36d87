/-
  NARROWER THAN 'FOR EVERY INPUT', by the rows' own cells (each row's printed sentence says how): LabelTurned: laid · LabelQuoted: laid · LabelBlanks: laid · LabelEscapes: laid · LabelAlike: laid · LabelLimits: laid.
  DERIVED. THE GIVEN ROWS OF THIS SEAT. 6 by the template 'for every input the law returns true; each argument reads behind the call as it read before'; 0 by the template 'total and deterministic' (their statements: YtkanfffbdegfoaaDoorTotals.lean).
  GIVEN WITH THE SEED: the statements are not yours to turn. If you find one false, say at which input.
  Laid BY PROGRAM, IN A SANDBOX (cutbox-rows.mjs): the forced cells as the released guide's own fill.sh prints them over the translation 4c856065e7c8aa2c… (all of the seat's roots in one cut). By AI agents, Wed Nov 11 2026. No macro, syntax, notation, axiom, sorry.
-/
import Derived.Test.YtkanfffbdegfoaaDoorChecked
import GoSem.PinnedTables
import GoSem.Claim
import GoSem.ClaimJoined
import GoSem.ClaimMapViews
import Derived.JoinedTies
import Derived.KernelRfl
namespace Go.Proofs.YtkanfffbdegfoaaDoor
/- THE CELL 'sum', in the pinned program and in every row, IS THE sha256 OF THE DUMP (.gsa) THAT YtkanfffbdegfoaaDoorProg.lean LOADS. Nothing in Lean hashes anything: it is a label: what it is worth is what the hold of that sum in a sandbox is worth. -/
noncomputable def Tryd.pinned : Pinned := { name := "ytkanfffbdegfoaadoor", sum := "4c856065e7c8aa2c1f4b100eea02e314934902ac1e1ac004c49b375df982c7e4", checked := Tryd.checked }
namespace Rows
def none {H : Type} : Left H := { results := [], args := [] }

/- WHAT THE LISTED PACKAGE-LEVEL VARIABLES READ AS WHEN THE CALL BEGINS. Each datum BY PROGRAM (the guide's laid-datum.mjs) off the statement by which the dump's own 'gosem.cut.vars' lays the variable. In a bare row this is a premise. The card (YtkanfffbdegfoaaDoorCards.lean) ties it to the program's text. -/
def laid_unicode_utf8_acceptRanges {H : Type} : DataW H := .agg [.agg [.lit (.int .u8 128), .lit (.int .u8 191)], .agg [.lit (.int .u8 160), .lit (.int .u8 191)], .agg [.lit (.int .u8 128), .lit (.int .u8 159)], .agg [.lit (.int .u8 144), .lit (.int .u8 191)], .agg [.lit (.int .u8 128), .lit (.int .u8 143)], .agg [.lit (.int .u8 0), .lit (.int .u8 0)], .agg [.lit (.int .u8 0), .lit (.int .u8 0)], .agg [.lit (.int .u8 0), .lit (.int .u8 0)], .agg [.lit (.int .u8 0), .lit (.int .u8 0)], .agg [.lit (.int .u8 0), .lit (.int .u8 0)], .agg [.lit (.int .u8 0), .lit (.int .u8 0)], .agg [.lit (.int .u8 0), .lit (.int .u8 0)], .agg [.lit (.int .u8 0), .lit (.int .u8 0)], .agg [.lit (.int .u8 0), .lit (.int .u8 0)], .agg [.lit (.int .u8 0), .lit (.int .u8 0)], .agg [.lit (.int .u8 0), .lit (.int .u8 0)]]
/-- One of Go's own tables, pinned by name: the form's constant. -/
def laid_unicode_utf8_first : DataW Unit := Go.Pinned.utf8First

/-- 'fathomlaw13.LabelTurned': WHATEVER THE INPUT: true; the input reads as it did. -/
def labelTurnedSpec : ChangeSpec := { name := "labelTurned", fn := fun _ => fun
  | [d] => { results := [.lit (.bool true)], args := [d] }
  | _ => none }
def labelTurnedRow : OpenClaim := { program := "ytkanfffbdegfoaadoor", sum := "4c856065e7c8aa2c1f4b100eea02e314934902ac1e1ac004c49b375df982c7e4", func := "fathom/fathomlaw13.LabelTurned", spec := "labelTurned", inPlace := ["internal/bytealg.abigen_runtime_cmpstring", "internal/abi.NoEscape", "internal/bytealg.MakeNoZero", "internal/bytealg.CountString", "internal/bytealg.IndexByteString", "internal/bytealg.IndexString"], unfollowed := true, recurses := true, named := ["unicode/utf8.first", "unicode/utf8.acceptRanges", "internal/bytealg.MaxLen"], apart := false, laid := [("unicode/utf8.acceptRanges", laid_unicode_utf8_acceptRanges), ("unicode/utf8.first", laid_unicode_utf8_first)] }
def LabelTurnedSaid : Prop := labelTurnedRow.holds Tryd.pinned (OpenSpec.ofChange labelTurnedSpec)

/-- ITS FALSE NEIGHBOUR: 'it returns false'. Refute it at one input. -/
def labelTurnedWrong : ChangeSpec := { name := "labelTurned", fn := fun _ => fun
  | [d] => { results := [.lit (.bool false)], args := [d] }
  | _ => none }
def LabelTurnedWrongFalsely : Prop := labelTurnedRow.holds Tryd.pinned (OpenSpec.ofChange labelTurnedWrong)

/-- 'fathomlaw13.LabelQuoted': WHATEVER THE INPUT: true; the input reads as it did. -/
def labelQuotedSpec : ChangeSpec := { name := "labelQuoted", fn := fun _ => fun
  | [d] => { results := [.lit (.bool true)], args := [d] }
  | _ => none }
def labelQuotedRow : OpenClaim := { program := "ytkanfffbdegfoaadoor", sum := "4c856065e7c8aa2c1f4b100eea02e314934902ac1e1ac004c49b375df982c7e4", func := "fathom/fathomlaw13.LabelQuoted", spec := "labelQuoted", inPlace := ["internal/abi.NoEscape", "internal/bytealg.IndexByteString", "internal/bytealg.abigen_runtime_cmpstring", "internal/bytealg.MakeNoZero", "internal/bytealg.CountString", "internal/bytealg.IndexString"], unfollowed := true, recurses := true, named := ["unicode/utf8.first", "unicode/utf8.acceptRanges", "internal/bytealg.MaxLen"], apart := false, laid := [("unicode/utf8.acceptRanges", laid_unicode_utf8_acceptRanges), ("unicode/utf8.first", laid_unicode_utf8_first)] }
def LabelQuotedSaid : Prop := labelQuotedRow.holds Tryd.pinned (OpenSpec.ofChange labelQuotedSpec)

/-- ITS FALSE NEIGHBOUR: 'it returns false'. Refute it at one input. -/
def labelQuotedWrong : ChangeSpec := { name := "labelQuoted", fn := fun _ => fun
  | [d] => { results := [.lit (.bool false)], args := [d] }
  | _ => none }
def LabelQuotedWrongFalsely : Prop := labelQuotedRow.holds Tryd.pinned (OpenSpec.ofChange labelQuotedWrong)

/-- 'fathomlaw13.LabelBlanks': WHATEVER THE INPUT: true; the input reads as it did. -/
def labelBlanksSpec : ChangeSpec := { name := "labelBlanks", fn := fun _ => fun
  | [d] => { results := [.lit (.bool true)], args := [d] }
  | _ => none }
def labelBlanksRow : OpenClaim := { program := "ytkanfffbdegfoaadoor", sum := "4c856065e7c8aa2c1f4b100eea02e314934902ac1e1ac004c49b375df982c7e4", func := "fathom/fathomlaw13.LabelBlanks", spec := "labelBlanks", inPlace := ["internal/bytealg.abigen_runtime_cmpstring", "internal/abi.NoEscape", "internal/bytealg.MakeNoZero", "internal/bytealg.CountString", "internal/bytealg.IndexByteString", "internal/bytealg.IndexString"], unfollowed := true, recurses := true, named := ["unicode/utf8.first", "unicode/utf8.acceptRanges", "internal/bytealg.MaxLen"], apart := false, laid := [("unicode/utf8.acceptRanges", laid_unicode_utf8_acceptRanges), ("unicode/utf8.first", laid_unicode_utf8_first)] }
def LabelBlanksSaid : Prop := labelBlanksRow.holds Tryd.pinned (OpenSpec.ofChange labelBlanksSpec)

/-- ITS FALSE NEIGHBOUR: 'it returns false'. Refute it at one input. -/
def labelBlanksWrong : ChangeSpec := { name := "labelBlanks", fn := fun _ => fun
  | [d] => { results := [.lit (.bool false)], args := [d] }
  | _ => none }
def LabelBlanksWrongFalsely : Prop := labelBlanksRow.holds Tryd.pinned (OpenSpec.ofChange labelBlanksWrong)

/-- 'fathomlaw13.LabelEscapes': WHATEVER THE INPUT: true; the input reads as it did. -/
def labelEscapesSpec : ChangeSpec := { name := "labelEscapes", fn := fun _ => fun
  | [] => { results := [.lit (.bool true)], args := [] }
  | _ => none }
def labelEscapesRow : OpenClaim := { program := "ytkanfffbdegfoaadoor", sum := "4c856065e7c8aa2c1f4b100eea02e314934902ac1e1ac004c49b375df982c7e4", func := "fathom/fathomlaw13.LabelEscapes", spec := "labelEscapes", inPlace := ["internal/abi.NoEscape", "internal/bytealg.IndexByteString", "internal/bytealg.abigen_runtime_cmpstring", "internal/bytealg.MakeNoZero", "internal/bytealg.CountString", "internal/bytealg.IndexString"], unfollowed := true, recurses := true, named := ["unicode/utf8.first", "unicode/utf8.acceptRanges", "internal/bytealg.MaxLen"], apart := false, laid := [("unicode/utf8.acceptRanges", laid_unicode_utf8_acceptRanges), ("unicode/utf8.first", laid_unicode_utf8_first)] }
def LabelEscapesSaid : Prop := labelEscapesRow.holds Tryd.pinned (OpenSpec.ofChange labelEscapesSpec)

/-- ITS FALSE NEIGHBOUR: 'it returns false'. Refute it at one input. -/
def labelEscapesWrong : ChangeSpec := { name := "labelEscapes", fn := fun _ => fun
  | [] => { results := [.lit (.bool false)], args := [] }
  | _ => none }
def LabelEscapesWrongFalsely : Prop := labelEscapesRow.holds Tryd.pinned (OpenSpec.ofChange labelEscapesWrong)

/-- 'fathomlaw13.LabelAlike': WHATEVER THE INPUT: true; the input reads as it did. -/
def labelAlikeSpec : ChangeSpec := { name := "labelAlike", fn := fun _ => fun
  | [d] => { results := [.lit (.bool true)], args := [d] }
  | _ => none }
def labelAlikeRow : OpenClaim := { program := "ytkanfffbdegfoaadoor", sum := "4c856065e7c8aa2c1f4b100eea02e314934902ac1e1ac004c49b375df982c7e4", func := "fathom/fathomlaw13.LabelAlike", spec := "labelAlike", inPlace := ["internal/bytealg.abigen_runtime_cmpstring", "internal/abi.NoEscape", "internal/bytealg.MakeNoZero", "internal/bytealg.CountString", "internal/bytealg.IndexByteString", "internal/bytealg.IndexString"], unfollowed := true, recurses := true, named := ["unicode/utf8.first", "unicode/utf8.acceptRanges", "internal/bytealg.MaxLen"], apart := false, laid := [("unicode/utf8.acceptRanges", laid_unicode_utf8_acceptRanges), ("unicode/utf8.first", laid_unicode_utf8_first)] }
def LabelAlikeSaid : Prop := labelAlikeRow.holds Tryd.pinned (OpenSpec.ofChange labelAlikeSpec)

/-- ITS FALSE NEIGHBOUR: 'it returns false'. Refute it at one input. -/
def labelAlikeWrong : ChangeSpec := { name := "labelAlike", fn := fun _ => fun
  | [d] => { results := [.lit (.bool false)], args := [d] }
  | _ => none }
def LabelAlikeWrongFalsely : Prop := labelAlikeRow.holds Tryd.pinned (OpenSpec.ofChange labelAlikeWrong)

/-- 'fathomlaw13.LabelLimits': WHATEVER THE INPUT: true; the input reads as it did. -/
def labelLimitsSpec : ChangeSpec := { name := "labelLimits", fn := fun _ => fun
  | [] => { results := [.lit (.bool true)], args := [] }
  | _ => none }
def labelLimitsRow : OpenClaim := { program := "ytkanfffbdegfoaadoor", sum := "4c856065e7c8aa2c1f4b100eea02e314934902ac1e1ac004c49b375df982c7e4", func := "fathom/fathomlaw13.LabelLimits", spec := "labelLimits", inPlace := ["internal/bytealg.abigen_runtime_cmpstring", "internal/abi.NoEscape", "internal/bytealg.MakeNoZero", "internal/bytealg.CountString", "internal/bytealg.IndexByteString", "internal/bytealg.IndexString"], unfollowed := true, recurses := true, named := ["unicode/utf8.first", "unicode/utf8.acceptRanges", "internal/bytealg.MaxLen"], apart := false, laid := [("unicode/utf8.acceptRanges", laid_unicode_utf8_acceptRanges), ("unicode/utf8.first", laid_unicode_utf8_first)] }
def LabelLimitsSaid : Prop := labelLimitsRow.holds Tryd.pinned (OpenSpec.ofChange labelLimitsSpec)

/-- ITS FALSE NEIGHBOUR: 'it returns false'. Refute it at one input. -/
def labelLimitsWrong : ChangeSpec := { name := "labelLimits", fn := fun _ => fun
  | [] => { results := [.lit (.bool false)], args := [] }
  | _ => none }
def LabelLimitsWrongFalsely : Prop := labelLimitsRow.holds Tryd.pinned (OpenSpec.ofChange labelLimitsWrong)

/- THE SECOND FORM. 'bulk': how many values and letters a reading holds, each counted each time it is reached (what is shared counts as often as it is met; a slice's spare places count too). A statement '..UptoSaid' is the law's where the arguments, and the package variables that the reading takes, are together of bulk at most 1048576: NARROWER than '..Said'. Prove '..Said' where nothing that the law and all that it calls make is longer than what came in: it says more and counts as full. Else prove '..UptoSaid'. A law counts once. -/
mutual
def uptoBulk {H : Type} : DataW H → Nat
  | .lit (.string bytes) => bytes.length + 1
  | .lit _ => 1
  | .nil => 1
  | .ptr d => uptoBulk d + 1
  | .slice elems spare => uptoBulkAll elems + uptoBulkAll spare + 1
  | .agg parts => uptoBulkAll parts + 1
  | .iface _ d => uptoBulk d + 1
  | .map entries => uptoBulkEntries entries + 1
  | .held _ => 1
def uptoBulkAll {H : Type} : List (DataW H) → Nat
  | [] => 0
  | d :: r => uptoBulk d + uptoBulkAll r
def uptoBulkEntries {H : Type} : List (Lit × DataW H) → Nat
  | [] => 0
  | x :: r => uptoBulkEntry x + uptoBulkEntries r
def uptoBulkEntry {H : Type} : Lit × DataW H → Nat
  | (.string bytes, d) => bytes.length + uptoBulk d + 1
  | (_, d) => uptoBulk d + 1
 end
def uptoSmall : (H : Type) → List (DataW H) → Bool := fun _ ds => decide (uptoBulkAll ds ≤ 1048576)
def OpenSpec.upto (s : _root_.Go.ChangeSpec) : _root_.Go.OpenSpec := { _root_.Go.OpenSpec.ofChange s with cond := some uptoSmall }

/-- 'fathomlaw13.LabelTurned', WHERE WHAT IT READS IS OF BULK AT MOST 1048576: true; the input reads as it did. -/
def labelTurnedUptoRow : OpenClaim := { program := "ytkanfffbdegfoaadoor", sum := "4c856065e7c8aa2c1f4b100eea02e314934902ac1e1ac004c49b375df982c7e4", func := "fathom/fathomlaw13.LabelTurned", spec := "labelTurned", inPlace := ["internal/bytealg.abigen_runtime_cmpstring", "internal/abi.NoEscape", "internal/bytealg.MakeNoZero", "internal/bytealg.CountString", "internal/bytealg.IndexByteString", "internal/bytealg.IndexString"], unfollowed := true, recurses := true, named := ["unicode/utf8.first", "unicode/utf8.acceptRanges", "internal/bytealg.MaxLen"], apart := false, laid := [("unicode/utf8.acceptRanges", laid_unicode_utf8_acceptRanges), ("unicode/utf8.first", laid_unicode_utf8_first)], narrowed := true }
def LabelTurnedUptoSaid : Prop := labelTurnedUptoRow.holds Tryd.pinned (OpenSpec.upto labelTurnedSpec)

/-- 'fathomlaw13.LabelQuoted', WHERE WHAT IT READS IS OF BULK AT MOST 1048576: true; the input reads as it did. -/
def labelQuotedUptoRow : OpenClaim := { program := "ytkanfffbdegfoaadoor", sum := "4c856065e7c8aa2c1f4b100eea02e314934902ac1e1ac004c49b375df982c7e4", func := "fathom/fathomlaw13.LabelQuoted", spec := "labelQuoted", inPlace := ["internal/abi.NoEscape", "internal/bytealg.IndexByteString", "internal/bytealg.abigen_runtime_cmpstring", "internal/bytealg.MakeNoZero", "internal/bytealg.CountString", "internal/bytealg.IndexString"], unfollowed := true, recurses := true, named := ["unicode/utf8.first", "unicode/utf8.acceptRanges", "internal/bytealg.MaxLen"], apart := false, laid := [("unicode/utf8.acceptRanges", laid_unicode_utf8_acceptRanges), ("unicode/utf8.first", laid_unicode_utf8_first)], narrowed := true }
def LabelQuotedUptoSaid : Prop := labelQuotedUptoRow.holds Tryd.pinned (OpenSpec.upto labelQuotedSpec)

/-- 'fathomlaw13.LabelBlanks', WHERE WHAT IT READS IS OF BULK AT MOST 1048576: true; the input reads as it did. -/
def labelBlanksUptoRow : OpenClaim := { program := "ytkanfffbdegfoaadoor", sum := "4c856065e7c8aa2c1f4b100eea02e314934902ac1e1ac004c49b375df982c7e4", func := "fathom/fathomlaw13.LabelBlanks", spec := "labelBlanks", inPlace := ["internal/bytealg.abigen_runtime_cmpstring", "internal/abi.NoEscape", "internal/bytealg.MakeNoZero", "internal/bytealg.CountString", "internal/bytealg.IndexByteString", "internal/bytealg.IndexString"], unfollowed := true, recurses := true, named := ["unicode/utf8.first", "unicode/utf8.acceptRanges", "internal/bytealg.MaxLen"], apart := false, laid := [("unicode/utf8.acceptRanges", laid_unicode_utf8_acceptRanges), ("unicode/utf8.first", laid_unicode_utf8_first)], narrowed := true }
def LabelBlanksUptoSaid : Prop := labelBlanksUptoRow.holds Tryd.pinned (OpenSpec.upto labelBlanksSpec)

/-- 'fathomlaw13.LabelEscapes', WHERE WHAT IT READS IS OF BULK AT MOST 1048576: true; the input reads as it did. -/
def labelEscapesUptoRow : OpenClaim := { program := "ytkanfffbdegfoaadoor", sum := "4c856065e7c8aa2c1f4b100eea02e314934902ac1e1ac004c49b375df982c7e4", func := "fathom/fathomlaw13.LabelEscapes", spec := "labelEscapes", inPlace := ["internal/abi.NoEscape", "internal/bytealg.IndexByteString", "internal/bytealg.abigen_runtime_cmpstring", "internal/bytealg.MakeNoZero", "internal/bytealg.CountString", "internal/bytealg.IndexString"], unfollowed := true, recurses := true, named := ["unicode/utf8.first", "unicode/utf8.acceptRanges", "internal/bytealg.MaxLen"], apart := false, laid := [("unicode/utf8.acceptRanges", laid_unicode_utf8_acceptRanges), ("unicode/utf8.first", laid_unicode_utf8_first)], narrowed := true }
def LabelEscapesUptoSaid : Prop := labelEscapesUptoRow.holds Tryd.pinned (OpenSpec.upto labelEscapesSpec)

/-- 'fathomlaw13.LabelAlike', WHERE WHAT IT READS IS OF BULK AT MOST 1048576: true; the input reads as it did. -/
def labelAlikeUptoRow : OpenClaim := { program := "ytkanfffbdegfoaadoor", sum := "4c856065e7c8aa2c1f4b100eea02e314934902ac1e1ac004c49b375df982c7e4", func := "fathom/fathomlaw13.LabelAlike", spec := "labelAlike", inPlace := ["internal/bytealg.abigen_runtime_cmpstring", "internal/abi.NoEscape", "internal/bytealg.MakeNoZero", "internal/bytealg.CountString", "internal/bytealg.IndexByteString", "internal/bytealg.IndexString"], unfollowed := true, recurses := true, named := ["unicode/utf8.first", "unicode/utf8.acceptRanges", "internal/bytealg.MaxLen"], apart := false, laid := [("unicode/utf8.acceptRanges", laid_unicode_utf8_acceptRanges), ("unicode/utf8.first", laid_unicode_utf8_first)], narrowed := true }
def LabelAlikeUptoSaid : Prop := labelAlikeUptoRow.holds Tryd.pinned (OpenSpec.upto labelAlikeSpec)

/-- 'fathomlaw13.LabelLimits', WHERE WHAT IT READS IS OF BULK AT MOST 1048576: true; the input reads as it did. -/
def labelLimitsUptoRow : OpenClaim := { program := "ytkanfffbdegfoaadoor", sum := "4c856065e7c8aa2c1f4b100eea02e314934902ac1e1ac004c49b375df982c7e4", func := "fathom/fathomlaw13.LabelLimits", spec := "labelLimits", inPlace := ["internal/bytealg.abigen_runtime_cmpstring", "internal/abi.NoEscape", "internal/bytealg.MakeNoZero", "internal/bytealg.CountString", "internal/bytealg.IndexByteString", "internal/bytealg.IndexString"], unfollowed := true, recurses := true, named := ["unicode/utf8.first", "unicode/utf8.acceptRanges", "internal/bytealg.MaxLen"], apart := false, laid := [("unicode/utf8.acceptRanges", laid_unicode_utf8_acceptRanges), ("unicode/utf8.first", laid_unicode_utf8_first)], narrowed := true }
def LabelLimitsUptoSaid : Prop := labelLimitsUptoRow.holds Tryd.pinned (OpenSpec.upto labelLimitsSpec)

end Rows
end Go.Proofs.YtkanfffbdegfoaaDoor
