/-
  NARROWER THAN 'FOR EVERY INPUT', by the rows' own cells (each row's printed sentence says how): AttrsOnly: laid · CellsMay: laid · AttrsTell: laid · AttrsSame: laid · AttrsPut: laid · AttrsRows: laid.
  DERIVED. THE GIVEN ROWS OF THIS SEAT. 6 by the template 'for every input the law returns true; each argument reads behind the call as it read before'; 0 by the template 'total and deterministic' (their statements: YtlppeljofjomiaaDoorTotals.lean).
  GIVEN WITH THE SEED: the statements are not yours to turn. If you find one false, say at which input.
  Laid BY PROGRAM, IN A SANDBOX (cutbox-rows.mjs): the forced cells as the released guide's own fill.sh prints them over the translation 170850f85ddbf5db… (all of the seat's roots in one cut). By AI agents, Wed Nov 11 2026. No macro, syntax, notation, axiom, sorry.
-/
import Derived.Test.YtlppeljofjomiaaDoorChecked
import GoSem.PinnedTables
import GoSem.Claim
import GoSem.ClaimJoined
import GoSem.ClaimMapViews
import Derived.JoinedTies
import Derived.KernelRfl
namespace Go.Proofs.YtlppeljofjomiaaDoor
/- THE CELL 'sum', in the pinned program and in every row, IS THE sha256 OF THE DUMP (.gsa) THAT YtlppeljofjomiaaDoorProg.lean LOADS. Nothing in Lean hashes anything: it is a label: what it is worth is what the hold of that sum in a sandbox is worth. -/
noncomputable def Tryd.pinned : Pinned := { name := "ytlppeljofjomiaadoor", sum := "170850f85ddbf5db7bccffd5378730d14cdf3a6ccfe6c9ef52e4f429c7ccd072", checked := Tryd.checked }
namespace Rows
def none {H : Type} : Left H := { results := [], args := [] }

/- WHAT THE LISTED PACKAGE-LEVEL VARIABLES READ AS WHEN THE CALL BEGINS. Each datum BY PROGRAM (the guide's laid-datum.mjs) off the statement by which the dump's own 'gosem.cut.vars' lays the variable. In a bare row this is a premise. The card (YtlppeljofjomiaaDoorCards.lean) ties it to the program's text. -/
def laid_unicode_utf8_acceptRanges {H : Type} : DataW H := .agg [.agg [.lit (.int .u8 128), .lit (.int .u8 191)], .agg [.lit (.int .u8 160), .lit (.int .u8 191)], .agg [.lit (.int .u8 128), .lit (.int .u8 159)], .agg [.lit (.int .u8 144), .lit (.int .u8 191)], .agg [.lit (.int .u8 128), .lit (.int .u8 143)], .agg [.lit (.int .u8 0), .lit (.int .u8 0)], .agg [.lit (.int .u8 0), .lit (.int .u8 0)], .agg [.lit (.int .u8 0), .lit (.int .u8 0)], .agg [.lit (.int .u8 0), .lit (.int .u8 0)], .agg [.lit (.int .u8 0), .lit (.int .u8 0)], .agg [.lit (.int .u8 0), .lit (.int .u8 0)], .agg [.lit (.int .u8 0), .lit (.int .u8 0)], .agg [.lit (.int .u8 0), .lit (.int .u8 0)], .agg [.lit (.int .u8 0), .lit (.int .u8 0)], .agg [.lit (.int .u8 0), .lit (.int .u8 0)], .agg [.lit (.int .u8 0), .lit (.int .u8 0)]]
/-- One of Go's own tables, pinned by name: the form's constant. -/
def laid_unicode_utf8_first : DataW Unit := Go.Pinned.utf8First

/-- 'quillworklaw03.AttrsOnly': WHATEVER THE INPUT: true; the input reads as it did. -/
def attrsOnlySpec : ChangeSpec := { name := "attrsOnly", fn := fun _ => fun
  | [d1, d2, d3] => { results := [.lit (.bool true)], args := [d1, d2, d3] }
  | _ => none }
def attrsOnlyRow : OpenClaim := { program := "ytlppeljofjomiaadoor", sum := "170850f85ddbf5db7bccffd5378730d14cdf3a6ccfe6c9ef52e4f429c7ccd072", func := "quillwork/quillworklaw03.AttrsOnly", spec := "attrsOnly", inPlace := ["internal/bytealg.IndexByteString", "internal/bytealg.IndexString", "internal/abi.NoEscape", "internal/bytealg.MakeNoZero"], unfollowed := true, recurses := true, named := ["unicode/utf8.first", "unicode/utf8.acceptRanges", "internal/bytealg.MaxLen"], apart := false, laid := [("unicode/utf8.acceptRanges", laid_unicode_utf8_acceptRanges), ("unicode/utf8.first", laid_unicode_utf8_first)] }
def AttrsOnlySaid : Prop := attrsOnlyRow.holds Tryd.pinned (OpenSpec.ofChange attrsOnlySpec)

/-- ITS FALSE NEIGHBOUR: 'it returns false'. Refute it at one input. -/
def attrsOnlyWrong : ChangeSpec := { name := "attrsOnly", fn := fun _ => fun
  | [d1, d2, d3] => { results := [.lit (.bool false)], args := [d1, d2, d3] }
  | _ => none }
def AttrsOnlyWrongFalsely : Prop := attrsOnlyRow.holds Tryd.pinned (OpenSpec.ofChange attrsOnlyWrong)

/-- 'quillworklaw05.CellsMay': WHATEVER THE INPUT: true; the input reads as it did. -/
def cellsMaySpec : ChangeSpec := { name := "cellsMay", fn := fun _ => fun
  | [d1, d2] => { results := [.lit (.bool true)], args := [d1, d2] }
  | _ => none }
def cellsMayRow : OpenClaim := { program := "ytlppeljofjomiaadoor", sum := "170850f85ddbf5db7bccffd5378730d14cdf3a6ccfe6c9ef52e4f429c7ccd072", func := "quillwork/quillworklaw05.CellsMay", spec := "cellsMay", inPlace := ["internal/bytealg.IndexByteString", "internal/bytealg.IndexString", "internal/abi.NoEscape", "internal/bytealg.MakeNoZero"], unfollowed := true, recurses := true, named := ["internal/bytealg.MaxLen", "unicode/utf8.first", "unicode/utf8.acceptRanges"], apart := false, laid := [("unicode/utf8.acceptRanges", laid_unicode_utf8_acceptRanges), ("unicode/utf8.first", laid_unicode_utf8_first)] }
def CellsMaySaid : Prop := cellsMayRow.holds Tryd.pinned (OpenSpec.ofChange cellsMaySpec)

/-- ITS FALSE NEIGHBOUR: 'it returns false'. Refute it at one input. -/
def cellsMayWrong : ChangeSpec := { name := "cellsMay", fn := fun _ => fun
  | [d1, d2] => { results := [.lit (.bool false)], args := [d1, d2] }
  | _ => none }
def CellsMayWrongFalsely : Prop := cellsMayRow.holds Tryd.pinned (OpenSpec.ofChange cellsMayWrong)

/-- 'quillworklaw03.AttrsTell': WHATEVER THE INPUT: true; the input reads as it did. -/
def attrsTellSpec : ChangeSpec := { name := "attrsTell", fn := fun _ => fun
  | [d] => { results := [.lit (.bool true)], args := [d] }
  | _ => none }
def attrsTellRow : OpenClaim := { program := "ytlppeljofjomiaadoor", sum := "170850f85ddbf5db7bccffd5378730d14cdf3a6ccfe6c9ef52e4f429c7ccd072", func := "quillwork/quillworklaw03.AttrsTell", spec := "attrsTell", inPlace := ["internal/bytealg.IndexByteString", "internal/bytealg.IndexString", "internal/abi.NoEscape", "internal/bytealg.MakeNoZero"], unfollowed := true, recurses := true, named := ["unicode/utf8.first", "unicode/utf8.acceptRanges", "internal/bytealg.MaxLen"], apart := false, laid := [("unicode/utf8.acceptRanges", laid_unicode_utf8_acceptRanges), ("unicode/utf8.first", laid_unicode_utf8_first)] }
def AttrsTellSaid : Prop := attrsTellRow.holds Tryd.pinned (OpenSpec.ofChange attrsTellSpec)

/-- ITS FALSE NEIGHBOUR: 'it returns false'. Refute it at one input. -/
def attrsTellWrong : ChangeSpec := { name := "attrsTell", fn := fun _ => fun
  | [d] => { results := [.lit (.bool false)], args := [d] }
  | _ => none }
def AttrsTellWrongFalsely : Prop := attrsTellRow.holds Tryd.pinned (OpenSpec.ofChange attrsTellWrong)

/-- 'quillworklaw03.AttrsSame': WHATEVER THE INPUT: true; the input reads as it did. -/
def attrsSameSpec : ChangeSpec := { name := "attrsSame", fn := fun _ => fun
  | [d1, d2] => { results := [.lit (.bool true)], args := [d1, d2] }
  | _ => none }
def attrsSameRow : OpenClaim := { program := "ytlppeljofjomiaadoor", sum := "170850f85ddbf5db7bccffd5378730d14cdf3a6ccfe6c9ef52e4f429c7ccd072", func := "quillwork/quillworklaw03.AttrsSame", spec := "attrsSame", inPlace := ["internal/bytealg.IndexByteString", "internal/bytealg.IndexString", "internal/abi.NoEscape", "internal/bytealg.MakeNoZero"], unfollowed := true, recurses := true, named := ["unicode/utf8.first", "unicode/utf8.acceptRanges", "internal/bytealg.MaxLen"], apart := false, laid := [("unicode/utf8.acceptRanges", laid_unicode_utf8_acceptRanges), ("unicode/utf8.first", laid_unicode_utf8_first)] }
def AttrsSameSaid : Prop := attrsSameRow.holds Tryd.pinned (OpenSpec.ofChange attrsSameSpec)

/-- ITS FALSE NEIGHBOUR: 'it returns false'. Refute it at one input. -/
def attrsSameWrong : ChangeSpec := { name := "attrsSame", fn := fun _ => fun
  | [d1, d2] => { results := [.lit (.bool false)], args := [d1, d2] }
  | _ => none }
def AttrsSameWrongFalsely : Prop := attrsSameRow.holds Tryd.pinned (OpenSpec.ofChange attrsSameWrong)

/-- 'quillworklaw03.AttrsPut': WHATEVER THE INPUT: true; the input reads as it did. -/
def attrsPutSpec : ChangeSpec := { name := "attrsPut", fn := fun _ => fun
  | [d1, d2, d3, d4] => { results := [.lit (.bool true)], args := [d1, d2, d3, d4] }
  | _ => none }
def attrsPutRow : OpenClaim := { program := "ytlppeljofjomiaadoor", sum := "170850f85ddbf5db7bccffd5378730d14cdf3a6ccfe6c9ef52e4f429c7ccd072", func := "quillwork/quillworklaw03.AttrsPut", spec := "attrsPut", inPlace := ["internal/bytealg.IndexByteString", "internal/bytealg.IndexString", "internal/abi.NoEscape", "internal/bytealg.MakeNoZero"], unfollowed := true, recurses := true, named := ["unicode/utf8.first", "unicode/utf8.acceptRanges", "internal/bytealg.MaxLen"], apart := false, laid := [("unicode/utf8.acceptRanges", laid_unicode_utf8_acceptRanges), ("unicode/utf8.first", laid_unicode_utf8_first)] }
def AttrsPutSaid : Prop := attrsPutRow.holds Tryd.pinned (OpenSpec.ofChange attrsPutSpec)

/-- ITS FALSE NEIGHBOUR: 'it returns false'. Refute it at one input. -/
def attrsPutWrong : ChangeSpec := { name := "attrsPut", fn := fun _ => fun
  | [d1, d2, d3, d4] => { results := [.lit (.bool false)], args := [d1, d2, d3, d4] }
  | _ => none }
def AttrsPutWrongFalsely : Prop := attrsPutRow.holds Tryd.pinned (OpenSpec.ofChange attrsPutWrong)

/-- 'quillworklaw03.AttrsRows': WHATEVER THE INPUT: true; the input reads as it did. -/
def attrsRowsSpec : ChangeSpec := { name := "attrsRows", fn := fun _ => fun
  | [d1, d2, d3] => { results := [.lit (.bool true)], args := [d1, d2, d3] }
  | _ => none }
def attrsRowsRow : OpenClaim := { program := "ytlppeljofjomiaadoor", sum := "170850f85ddbf5db7bccffd5378730d14cdf3a6ccfe6c9ef52e4f429c7ccd072", func := "quillwork/quillworklaw03.AttrsRows", spec := "attrsRows", inPlace := ["internal/bytealg.IndexByteString", "internal/bytealg.IndexString", "internal/abi.NoEscape", "internal/bytealg.MakeNoZero"], unfollowed := true, recurses := true, named := ["unicode/utf8.first", "unicode/utf8.acceptRanges", "internal/bytealg.MaxLen"], apart := false, laid := [("unicode/utf8.acceptRanges", laid_unicode_utf8_acceptRanges), ("unicode/utf8.first", laid_unicode_utf8_first)] }
def AttrsRowsSaid : Prop := attrsRowsRow.holds Tryd.pinned (OpenSpec.ofChange attrsRowsSpec)

/-- ITS FALSE NEIGHBOUR: 'it returns false'. Refute it at one input. -/
def attrsRowsWrong : ChangeSpec := { name := "attrsRows", fn := fun _ => fun
  | [d1, d2, d3] => { results := [.lit (.bool false)], args := [d1, d2, d3] }
  | _ => none }
def AttrsRowsWrongFalsely : Prop := attrsRowsRow.holds Tryd.pinned (OpenSpec.ofChange attrsRowsWrong)

/- THE SECOND FORM. 'bulk': how many values and letters a reading holds, each counted each time it is reached (what is shared counts as often as it is met; a slice's spare places count too). A statement '..UptoSaid' is the law's where the arguments, and the package variables that the reading takes, are together of bulk at most 1048576: NARROWER than '..Said'. Prove '..Said' where nothing that the law and all that it calls make is longer than what came in: it says more and counts as full. Else prove '..UptoSaid'. A law counts once. -/
mutual
def uptoBulk {H : Type} : DataW H → Nat
  | .lit (.string bytes) => bytes.length + 1
  | .lit _ => 1
  | .nil => 1
  | .ptr d => uptoBulk d + 1
  | .slice elems spare => uptoBulkAll elems + uptoBulkAll spare + 1
  | .agg parts => uptoBulkAll parts + 1
  | .iface _ d => uptoBulk d + 1
  | .map entries => uptoBulkEntries entries + 1
  | .held _ => 1
def uptoBulkAll {H : Type} : List (DataW H) → Nat
  | [] => 0
  | d :: r => uptoBulk d + uptoBulkAll r
def uptoBulkEntries {H : Type} : List (Lit × DataW H) → Nat
  | [] => 0
  | x :: r => uptoBulkEntry x + uptoBulkEntries r
def uptoBulkEntry {H : Type} : Lit × DataW H → Nat
  | (.string bytes, d) => bytes.length + uptoBulk d + 1
  | (_, d) => uptoBulk d + 1
 end
def uptoSmall : (H : Type) → List (DataW H) → Bool := fun _ ds => decide (uptoBulkAll ds ≤ 1048576)
def OpenSpec.upto (s : _root_.Go.ChangeSpec) : _root_.Go.OpenSpec := { _root_.Go.OpenSpec.ofChange s with cond := some uptoSmall }

/-- 'quillworklaw03.AttrsOnly', WHERE WHAT IT READS IS OF BULK AT MOST 1048576: true; the input reads as it did. -/
def attrsOnlyUptoRow : OpenClaim := { program := "ytlppeljofjomiaadoor", sum := "170850f85ddbf5db7bccffd5378730d14cdf3a6ccfe6c9ef52e4f429c7ccd072", func := "quillwork/quillworklaw03.AttrsOnly", spec := "attrsOnly", inPlace := ["internal/bytealg.IndexByteString", "internal/bytealg.IndexString", "internal/abi.NoEscape", "internal/bytealg.MakeNoZero"], unfollowed := true, recurses := true, named := ["unicode/utf8.first", "unicode/utf8.acceptRanges", "internal/bytealg.MaxLen"], apart := false, laid := [("unicode/utf8.acceptRanges", laid_unicode_utf8_acceptRanges), ("unicode/utf8.first", laid_unicode_utf8_first)], narrowed := true }
def AttrsOnlyUptoSaid : Prop := attrsOnlyUptoRow.holds Tryd.pinned (OpenSpec.upto attrsOnlySpec)

/-- 'quillworklaw05.CellsMay', WHERE WHAT IT READS IS OF BULK AT MOST 1048576: true; the input reads as it did. -/
def cellsMayUptoRow : OpenClaim := { program := "ytlppeljofjomiaadoor", sum := "170850f85ddbf5db7bccffd5378730d14cdf3a6ccfe6c9ef52e4f429c7ccd072", func := "quillwork/quillworklaw05.CellsMay", spec := "cellsMay", inPlace := ["internal/bytealg.IndexByteString", "internal/bytealg.IndexString", "internal/abi.NoEscape", "internal/bytealg.MakeNoZero"], unfollowed := true, recurses := true, named := ["internal/bytealg.MaxLen", "unicode/utf8.first", "unicode/utf8.acceptRanges"], apart := false, laid := [("unicode/utf8.acceptRanges", laid_unicode_utf8_acceptRanges), ("unicode/utf8.first", laid_unicode_utf8_first)], narrowed := true }
def CellsMayUptoSaid : Prop := cellsMayUptoRow.holds Tryd.pinned (OpenSpec.upto cellsMaySpec)

/-- 'quillworklaw03.AttrsTell', WHERE WHAT IT READS IS OF BULK AT MOST 1048576: true; the input reads as it did. -/
def attrsTellUptoRow : OpenClaim := { program := "ytlppeljofjomiaadoor", sum := "170850f85ddbf5db7bccffd5378730d14cdf3a6ccfe6c9ef52e4f429c7ccd072", func := "quillwork/quillworklaw03.AttrsTell", spec := "attrsTell", inPlace := ["internal/bytealg.IndexByteString", "internal/bytealg.IndexString", "internal/abi.NoEscape", "internal/bytealg.MakeNoZero"], unfollowed := true, recurses := true, named := ["unicode/utf8.first", "unicode/utf8.acceptRanges", "internal/bytealg.MaxLen"], apart := false, laid := [("unicode/utf8.acceptRanges", laid_unicode_utf8_acceptRanges), ("unicode/utf8.first", laid_unicode_utf8_first)], narrowed := true }
def AttrsTellUptoSaid : Prop := attrsTellUptoRow.holds Tryd.pinned (OpenSpec.upto attrsTellSpec)

/-- 'quillworklaw03.AttrsSame', WHERE WHAT IT READS IS OF BULK AT MOST 1048576: true; the input reads as it did. -/
def attrsSameUptoRow : OpenClaim := { program := "ytlppeljofjomiaadoor", sum := "170850f85ddbf5db7bccffd5378730d14cdf3a6ccfe6c9ef52e4f429c7ccd072", func := "quillwork/quillworklaw03.AttrsSame", spec := "attrsSame", inPlace := ["internal/bytealg.IndexByteString", "internal/bytealg.IndexString", "internal/abi.NoEscape", "internal/bytealg.MakeNoZero"], unfollowed := true, recurses := true, named := ["unicode/utf8.first", "unicode/utf8.acceptRanges", "internal/bytealg.MaxLen"], apart := false, laid := [("unicode/utf8.acceptRanges", laid_unicode_utf8_acceptRanges), ("unicode/utf8.first", laid_unicode_utf8_first)], narrowed := true }
def AttrsSameUptoSaid : Prop := attrsSameUptoRow.holds Tryd.pinned (OpenSpec.upto attrsSameSpec)

/-- 'quillworklaw03.AttrsPut', WHERE WHAT IT READS IS OF BULK AT MOST 1048576: true; the input reads as it did. -/
def attrsPutUptoRow : OpenClaim := { program := "ytlppeljofjomiaadoor", sum := "170850f85ddbf5db7bccffd5378730d14cdf3a6ccfe6c9ef52e4f429c7ccd072", func := "quillwork/quillworklaw03.AttrsPut", spec := "attrsPut", inPlace := ["internal/bytealg.IndexByteString", "internal/bytealg.IndexString", "internal/abi.NoEscape", "internal/bytealg.MakeNoZero"], unfollowed := true, recurses := true, named := ["unicode/utf8.first", "unicode/utf8.acceptRanges", "internal/bytealg.MaxLen"], apart := false, laid := [("unicode/utf8.acceptRanges", laid_unicode_utf8_acceptRanges), ("unicode/utf8.first", laid_unicode_utf8_first)], narrowed := true }
def AttrsPutUptoSaid : Prop := attrsPutUptoRow.holds Tryd.pinned (OpenSpec.upto attrsPutSpec)

/-- 'quillworklaw03.AttrsRows', WHERE WHAT IT READS IS OF BULK AT MOST 1048576: true; the input reads as it did. -/
def attrsRowsUptoRow : OpenClaim := { program := "ytlppeljofjomiaadoor", sum := "170850f85ddbf5db7bccffd5378730d14cdf3a6ccfe6c9ef52e4f429c7ccd072", func := "quillwork/quillworklaw03.AttrsRows", spec := "attrsRows", inPlace := ["internal/bytealg.IndexByteString", "internal/bytealg.IndexString", "internal/abi.NoEscape", "internal/bytealg.MakeNoZero"], unfollowed := true, recurses := true, named := ["unicode/utf8.first", "unicode/utf8.acceptRanges", "internal/bytealg.MaxLen"], apart := false, laid := [("unicode/utf8.acceptRanges", laid_unicode_utf8_acceptRanges), ("unicode/utf8.first", laid_unicode_utf8_first)], narrowed := true }
def AttrsRowsUptoSaid : Prop := attrsRowsUptoRow.holds Tryd.pinned (OpenSpec.upto attrsRowsSpec)

end Rows
end Go.Proofs.YtlppeljofjomiaaDoor
