/-
  NARROWER THAN 'FOR EVERY INPUT', by the rows' own cells (each row's printed sentence says how): TreeLeast: laid · TreeWhole: laid · TreePairs: laid · TreeLists: laid · TreeStates: laid · ReportColumns: laid.
  DERIVED. THE GIVEN ROWS OF THIS SEAT. 6 by the template 'for every input the law returns true; each argument reads behind the call as it read before'; 0 by the template 'total and deterministic' (their statements: YtfidabngdmpbpaaDoorTotals.lean).
  GIVEN WITH THE SEED: the statements are not yours to turn. If you find one false, say at which input.
  Laid BY PROGRAM, IN A SANDBOX (cutbox-rows.mjs): the forced cells as the released guide's own fill.sh prints them over the translation 12a6c9dc1c99bccd… (all of the seat's roots in one cut). By AI agents, Wed Nov 11 2026. No macro, syntax, notation, axiom, sorry.
-/
import Derived.Test.YtfidabngdmpbpaaDoorChecked
import GoSem.PinnedTables
import GoSem.Claim
import GoSem.ClaimJoined
import GoSem.ClaimMapViews
import Derived.JoinedTies
import Derived.KernelRfl
namespace Go.Proofs.YtfidabngdmpbpaaDoor
/- THE CELL 'sum', in the pinned program and in every row, IS THE sha256 OF THE DUMP (.gsa) THAT YtfidabngdmpbpaaDoorProg.lean LOADS. Nothing in Lean hashes anything: it is a label: what it is worth is what the hold of that sum in a sandbox is worth. -/
noncomputable def Tryd.pinned : Pinned := { name := "ytfidabngdmpbpaadoor", sum := "12a6c9dc1c99bccde5b289ca657b58bf26b6e04b15e08d35521c14eba50c1d30", checked := Tryd.checked }
namespace Rows
def none {H : Type} : Left H := { results := [], args := [] }

/- WHAT THE LISTED PACKAGE-LEVEL VARIABLES READ AS WHEN THE CALL BEGINS. Each datum BY PROGRAM (the guide's laid-datum.mjs) off the statement by which the dump's own 'gosem.cut.vars' lays the variable. In a bare row this is a premise. The card (YtfidabngdmpbpaaDoorCards.lean) ties it to the program's text. -/
def laid_math_bits_deBruijn32tab {H : Type} : DataW H := .agg [.lit (.int .u8 0), .lit (.int .u8 1), .lit (.int .u8 28), .lit (.int .u8 2), .lit (.int .u8 29), .lit (.int .u8 14), .lit (.int .u8 24), .lit (.int .u8 3), .lit (.int .u8 30), .lit (.int .u8 22), .lit (.int .u8 20), .lit (.int .u8 15), .lit (.int .u8 25), .lit (.int .u8 17), .lit (.int .u8 4), .lit (.int .u8 8), .lit (.int .u8 31), .lit (.int .u8 27), .lit (.int .u8 13), .lit (.int .u8 23), .lit (.int .u8 21), .lit (.int .u8 19), .lit (.int .u8 16), .lit (.int .u8 7), .lit (.int .u8 26), .lit (.int .u8 12), .lit (.int .u8 18), .lit (.int .u8 6), .lit (.int .u8 11), .lit (.int .u8 5), .lit (.int .u8 10), .lit (.int .u8 9)]
def laid_scrinium_api_ErrForm {H : Type} : DataW H := .iface "*errors.errorString" (.ptr (.agg [.lit (.string [102, 111, 114, 109])]))
def laid_scrinium_api_ErrLong {H : Type} : DataW H := .iface "*errors.errorString" (.ptr (.agg [.lit (.string [108, 111, 110, 103])]))
def laid_unicode_utf8_acceptRanges {H : Type} : DataW H := .agg [.agg [.lit (.int .u8 128), .lit (.int .u8 191)], .agg [.lit (.int .u8 160), .lit (.int .u8 191)], .agg [.lit (.int .u8 128), .lit (.int .u8 159)], .agg [.lit (.int .u8 144), .lit (.int .u8 191)], .agg [.lit (.int .u8 128), .lit (.int .u8 143)], .agg [.lit (.int .u8 0), .lit (.int .u8 0)], .agg [.lit (.int .u8 0), .lit (.int .u8 0)], .agg [.lit (.int .u8 0), .lit (.int .u8 0)], .agg [.lit (.int .u8 0), .lit (.int .u8 0)], .agg [.lit (.int .u8 0), .lit (.int .u8 0)], .agg [.lit (.int .u8 0), .lit (.int .u8 0)], .agg [.lit (.int .u8 0), .lit (.int .u8 0)], .agg [.lit (.int .u8 0), .lit (.int .u8 0)], .agg [.lit (.int .u8 0), .lit (.int .u8 0)], .agg [.lit (.int .u8 0), .lit (.int .u8 0)], .agg [.lit (.int .u8 0), .lit (.int .u8 0)]]
/-- One of Go's own tables, pinned by name: the form's constant. -/
def laid_unicode_utf8_first : DataW Unit := Go.Pinned.utf8First

/-- 'scriniumlaw27.TreeLeast': WHATEVER THE INPUT: true; the input reads as it did. -/
def treeLeastSpec : ChangeSpec := { name := "treeLeast", fn := fun _ => fun
  | [d1, d2, d3] => { results := [.lit (.bool true)], args := [d1, d2, d3] }
  | _ => none }
def treeLeastRow : OpenClaim := { program := "ytfidabngdmpbpaadoor", sum := "12a6c9dc1c99bccde5b289ca657b58bf26b6e04b15e08d35521c14eba50c1d30", func := "scrinium/scriniumlaw27.TreeLeast", spec := "treeLeast", unfollowed := true, recurses := true, named := ["scrinium/api.ErrLong", "scrinium/api.ErrForm", "math/bits.deBruijn32tab"], apart := false, laid := [("math/bits.deBruijn32tab", laid_math_bits_deBruijn32tab), ("scrinium/api.ErrForm", laid_scrinium_api_ErrForm), ("scrinium/api.ErrLong", laid_scrinium_api_ErrLong)] }
def TreeLeastSaid : Prop := treeLeastRow.holds Tryd.pinned (OpenSpec.ofChange treeLeastSpec)

/-- ITS FALSE NEIGHBOUR: 'it returns false'. Refute it at one input. -/
def treeLeastWrong : ChangeSpec := { name := "treeLeast", fn := fun _ => fun
  | [d1, d2, d3] => { results := [.lit (.bool false)], args := [d1, d2, d3] }
  | _ => none }
def TreeLeastWrongFalsely : Prop := treeLeastRow.holds Tryd.pinned (OpenSpec.ofChange treeLeastWrong)

/-- 'scriniumlaw27.TreeWhole': WHATEVER THE INPUT: true; the input reads as it did. -/
def treeWholeSpec : ChangeSpec := { name := "treeWhole", fn := fun _ => fun
  | [d] => { results := [.lit (.bool true)], args := [d] }
  | _ => none }
def treeWholeRow : OpenClaim := { program := "ytfidabngdmpbpaadoor", sum := "12a6c9dc1c99bccde5b289ca657b58bf26b6e04b15e08d35521c14eba50c1d30", func := "scrinium/scriniumlaw27.TreeWhole", spec := "treeWhole", unfollowed := true, recurses := true, named := ["scrinium/api.ErrLong", "scrinium/api.ErrForm", "math/bits.deBruijn32tab"], apart := false, laid := [("math/bits.deBruijn32tab", laid_math_bits_deBruijn32tab), ("scrinium/api.ErrForm", laid_scrinium_api_ErrForm), ("scrinium/api.ErrLong", laid_scrinium_api_ErrLong)] }
def TreeWholeSaid : Prop := treeWholeRow.holds Tryd.pinned (OpenSpec.ofChange treeWholeSpec)

/-- ITS FALSE NEIGHBOUR: 'it returns false'. Refute it at one input. -/
def treeWholeWrong : ChangeSpec := { name := "treeWhole", fn := fun _ => fun
  | [d] => { results := [.lit (.bool false)], args := [d] }
  | _ => none }
def TreeWholeWrongFalsely : Prop := treeWholeRow.holds Tryd.pinned (OpenSpec.ofChange treeWholeWrong)

/-- 'scriniumlaw27.TreePairs': WHATEVER THE INPUT: true; the input reads as it did. -/
def treePairsSpec : ChangeSpec := { name := "treePairs", fn := fun _ => fun
  | [d1, d2, d3] => { results := [.lit (.bool true)], args := [d1, d2, d3] }
  | _ => none }
def treePairsRow : OpenClaim := { program := "ytfidabngdmpbpaadoor", sum := "12a6c9dc1c99bccde5b289ca657b58bf26b6e04b15e08d35521c14eba50c1d30", func := "scrinium/scriniumlaw27.TreePairs", spec := "treePairs", unfollowed := true, recurses := true, named := ["scrinium/api.ErrLong", "scrinium/api.ErrForm", "math/bits.deBruijn32tab"], apart := false, laid := [("math/bits.deBruijn32tab", laid_math_bits_deBruijn32tab), ("scrinium/api.ErrForm", laid_scrinium_api_ErrForm), ("scrinium/api.ErrLong", laid_scrinium_api_ErrLong)] }
def TreePairsSaid : Prop := treePairsRow.holds Tryd.pinned (OpenSpec.ofChange treePairsSpec)

/-- ITS FALSE NEIGHBOUR: 'it returns false'. Refute it at one input. -/
def treePairsWrong : ChangeSpec := { name := "treePairs", fn := fun _ => fun
  | [d1, d2, d3] => { results := [.lit (.bool false)], args := [d1, d2, d3] }
  | _ => none }
def TreePairsWrongFalsely : Prop := treePairsRow.holds Tryd.pinned (OpenSpec.ofChange treePairsWrong)

/-- 'scriniumlaw27.TreeLists': WHATEVER THE INPUT: true; the input reads as it did. -/
def treeListsSpec : ChangeSpec := { name := "treeLists", fn := fun _ => fun
  | [d1, d2] => { results := [.lit (.bool true)], args := [d1, d2] }
  | _ => none }
def treeListsRow : OpenClaim := { program := "ytfidabngdmpbpaadoor", sum := "12a6c9dc1c99bccde5b289ca657b58bf26b6e04b15e08d35521c14eba50c1d30", func := "scrinium/scriniumlaw27.TreeLists", spec := "treeLists", unfollowed := true, recurses := true, named := ["scrinium/api.ErrLong", "scrinium/api.ErrForm", "math/bits.deBruijn32tab"], apart := false, laid := [("math/bits.deBruijn32tab", laid_math_bits_deBruijn32tab), ("scrinium/api.ErrForm", laid_scrinium_api_ErrForm), ("scrinium/api.ErrLong", laid_scrinium_api_ErrLong)] }
def TreeListsSaid : Prop := treeListsRow.holds Tryd.pinned (OpenSpec.ofChange treeListsSpec)

/-- ITS FALSE NEIGHBOUR: 'it returns false'. Refute it at one input. -/
def treeListsWrong : ChangeSpec := { name := "treeLists", fn := fun _ => fun
  | [d1, d2] => { results := [.lit (.bool false)], args := [d1, d2] }
  | _ => none }
def TreeListsWrongFalsely : Prop := treeListsRow.holds Tryd.pinned (OpenSpec.ofChange treeListsWrong)

/-- 'scriniumlaw27.TreeStates': WHATEVER THE INPUT: true; the input reads as it did. -/
def treeStatesSpec : ChangeSpec := { name := "treeStates", fn := fun _ => fun
  | [d1, d2] => { results := [.lit (.bool true)], args := [d1, d2] }
  | _ => none }
def treeStatesRow : OpenClaim := { program := "ytfidabngdmpbpaadoor", sum := "12a6c9dc1c99bccde5b289ca657b58bf26b6e04b15e08d35521c14eba50c1d30", func := "scrinium/scriniumlaw27.TreeStates", spec := "treeStates", unfollowed := true, recurses := true, named := ["scrinium/api.ErrLong", "scrinium/api.ErrForm", "math/bits.deBruijn32tab"], apart := false, laid := [("math/bits.deBruijn32tab", laid_math_bits_deBruijn32tab), ("scrinium/api.ErrForm", laid_scrinium_api_ErrForm), ("scrinium/api.ErrLong", laid_scrinium_api_ErrLong)] }
def TreeStatesSaid : Prop := treeStatesRow.holds Tryd.pinned (OpenSpec.ofChange treeStatesSpec)

/-- ITS FALSE NEIGHBOUR: 'it returns false'. Refute it at one input. -/
def treeStatesWrong : ChangeSpec := { name := "treeStates", fn := fun _ => fun
  | [d1, d2] => { results := [.lit (.bool false)], args := [d1, d2] }
  | _ => none }
def TreeStatesWrongFalsely : Prop := treeStatesRow.holds Tryd.pinned (OpenSpec.ofChange treeStatesWrong)

/-- 'scriniumlaw40.ReportColumns': WHATEVER THE INPUT: true; the input reads as it did. -/
def reportColumnsSpec : ChangeSpec := { name := "reportColumns", fn := fun _ => fun
  | [d] => { results := [.lit (.bool true)], args := [d] }
  | _ => none }
def reportColumnsRow : OpenClaim := { program := "ytfidabngdmpbpaadoor", sum := "12a6c9dc1c99bccde5b289ca657b58bf26b6e04b15e08d35521c14eba50c1d30", func := "scrinium/scriniumlaw40.ReportColumns", spec := "reportColumns", inPlace := ["internal/abi.NoEscape", "internal/bytealg.MakeNoZero", "internal/bytealg.IndexByteString", "internal/bytealg.IndexString"], named := ["unicode/utf8.first", "unicode/utf8.acceptRanges", "internal/bytealg.MaxLen"], apart := false, laid := [("unicode/utf8.acceptRanges", laid_unicode_utf8_acceptRanges), ("unicode/utf8.first", laid_unicode_utf8_first)] }
def ReportColumnsSaid : Prop := reportColumnsRow.holds Tryd.pinned (OpenSpec.ofChange reportColumnsSpec)

/-- ITS FALSE NEIGHBOUR: 'it returns false'. Refute it at one input. -/
def reportColumnsWrong : ChangeSpec := { name := "reportColumns", fn := fun _ => fun
  | [d] => { results := [.lit (.bool false)], args := [d] }
  | _ => none }
def ReportColumnsWrongFalsely : Prop := reportColumnsRow.holds Tryd.pinned (OpenSpec.ofChange reportColumnsWrong)

/- THE SECOND FORM. 'bulk': how many values and letters a reading holds, each counted each time it is reached (what is shared counts as often as it is met; a slice's spare places count too). A statement '..UptoSaid' is the law's where the arguments, and the package variables that the reading takes, are together of bulk at most 1048576: NARROWER than '..Said'. Prove '..Said' where nothing that the law and all that it calls make is longer than what came in: it says more and counts as full. Else prove '..UptoSaid'. A law counts once. -/
mutual
def uptoBulk {H : Type} : DataW H → Nat
  | .lit (.string bytes) => bytes.length + 1
  | .lit _ => 1
  | .nil => 1
  | .ptr d => uptoBulk d + 1
  | .slice elems spare => uptoBulkAll elems + uptoBulkAll spare + 1
  | .agg parts => uptoBulkAll parts + 1
  | .iface _ d => uptoBulk d + 1
  | .map entries => uptoBulkEntries entries + 1
  | .held _ => 1
def uptoBulkAll {H : Type} : List (DataW H) → Nat
  | [] => 0
  | d :: r => uptoBulk d + uptoBulkAll r
def uptoBulkEntries {H : Type} : List (Lit × DataW H) → Nat
  | [] => 0
  | x :: r => uptoBulkEntry x + uptoBulkEntries r
def uptoBulkEntry {H : Type} : Lit × DataW H → Nat
  | (.string bytes, d) => bytes.length + uptoBulk d + 1
  | (_, d) => uptoBulk d + 1
 end
def uptoSmall : (H : Type) → List (DataW H) → Bool := fun _ ds => decide (uptoBulkAll ds ≤ 1048576)
def OpenSpec.upto (s : _root_.Go.ChangeSpec) : _root_.Go.OpenSpec := { _root_.Go.OpenSpec.ofChange s with cond := some uptoSmall }

/-- 'scriniumlaw27.TreeLeast', WHERE WHAT IT READS IS OF BULK AT MOST 1048576: true; the input reads as it did. -/
def treeLeastUptoRow : OpenClaim := { program := "ytfidabngdmpbpaadoor", sum := "12a6c9dc1c99bccde5b289ca657b58bf26b6e04b15e08d35521c14eba50c1d30", func := "scrinium/scriniumlaw27.TreeLeast", spec := "treeLeast", unfollowed := true, recurses := true, named := ["scrinium/api.ErrLong", "scrinium/api.ErrForm", "math/bits.deBruijn32tab"], apart := false, laid := [("math/bits.deBruijn32tab", laid_math_bits_deBruijn32tab), ("scrinium/api.ErrForm", laid_scrinium_api_ErrForm), ("scrinium/api.ErrLong", laid_scrinium_api_ErrLong)], narrowed := true }
def TreeLeastUptoSaid : Prop := treeLeastUptoRow.holds Tryd.pinned (OpenSpec.upto treeLeastSpec)

/-- 'scriniumlaw27.TreeWhole', WHERE WHAT IT READS IS OF BULK AT MOST 1048576: true; the input reads as it did. -/
def treeWholeUptoRow : OpenClaim := { program := "ytfidabngdmpbpaadoor", sum := "12a6c9dc1c99bccde5b289ca657b58bf26b6e04b15e08d35521c14eba50c1d30", func := "scrinium/scriniumlaw27.TreeWhole", spec := "treeWhole", unfollowed := true, recurses := true, named := ["scrinium/api.ErrLong", "scrinium/api.ErrForm", "math/bits.deBruijn32tab"], apart := false, laid := [("math/bits.deBruijn32tab", laid_math_bits_deBruijn32tab), ("scrinium/api.ErrForm", laid_scrinium_api_ErrForm), ("scrinium/api.ErrLong", laid_scrinium_api_ErrLong)], narrowed := true }
def TreeWholeUptoSaid : Prop := treeWholeUptoRow.holds Tryd.pinned (OpenSpec.upto treeWholeSpec)

/-- 'scriniumlaw27.TreePairs', WHERE WHAT IT READS IS OF BULK AT MOST 1048576: true; the input reads as it did. -/
def treePairsUptoRow : OpenClaim := { program := "ytfidabngdmpbpaadoor", sum := "12a6c9dc1c99bccde5b289ca657b58bf26b6e04b15e08d35521c14eba50c1d30", func := "scrinium/scriniumlaw27.TreePairs", spec := "treePairs", unfollowed := true, recurses := true, named := ["scrinium/api.ErrLong", "scrinium/api.ErrForm", "math/bits.deBruijn32tab"], apart := false, laid := [("math/bits.deBruijn32tab", laid_math_bits_deBruijn32tab), ("scrinium/api.ErrForm", laid_scrinium_api_ErrForm), ("scrinium/api.ErrLong", laid_scrinium_api_ErrLong)], narrowed := true }
def TreePairsUptoSaid : Prop := treePairsUptoRow.holds Tryd.pinned (OpenSpec.upto treePairsSpec)

/-- 'scriniumlaw27.TreeLists', WHERE WHAT IT READS IS OF BULK AT MOST 1048576: true; the input reads as it did. -/
def treeListsUptoRow : OpenClaim := { program := "ytfidabngdmpbpaadoor", sum := "12a6c9dc1c99bccde5b289ca657b58bf26b6e04b15e08d35521c14eba50c1d30", func := "scrinium/scriniumlaw27.TreeLists", spec := "treeLists", unfollowed := true, recurses := true, named := ["scrinium/api.ErrLong", "scrinium/api.ErrForm", "math/bits.deBruijn32tab"], apart := false, laid := [("math/bits.deBruijn32tab", laid_math_bits_deBruijn32tab), ("scrinium/api.ErrForm", laid_scrinium_api_ErrForm), ("scrinium/api.ErrLong", laid_scrinium_api_ErrLong)], narrowed := true }
def TreeListsUptoSaid : Prop := treeListsUptoRow.holds Tryd.pinned (OpenSpec.upto treeListsSpec)

/-- 'scriniumlaw27.TreeStates', WHERE WHAT IT READS IS OF BULK AT MOST 1048576: true; the input reads as it did. -/
def treeStatesUptoRow : OpenClaim := { program := "ytfidabngdmpbpaadoor", sum := "12a6c9dc1c99bccde5b289ca657b58bf26b6e04b15e08d35521c14eba50c1d30", func := "scrinium/scriniumlaw27.TreeStates", spec := "treeStates", unfollowed := true, recurses := true, named := ["scrinium/api.ErrLong", "scrinium/api.ErrForm", "math/bits.deBruijn32tab"], apart := false, laid := [("math/bits.deBruijn32tab", laid_math_bits_deBruijn32tab), ("scrinium/api.ErrForm", laid_scrinium_api_ErrForm), ("scrinium/api.ErrLong", laid_scrinium_api_ErrLong)], narrowed := true }
def TreeStatesUptoSaid : Prop := treeStatesUptoRow.holds Tryd.pinned (OpenSpec.upto treeStatesSpec)

/-- 'scriniumlaw40.ReportColumns', WHERE WHAT IT READS IS OF BULK AT MOST 1048576: true; the input reads as it did. -/
def reportColumnsUptoRow : OpenClaim := { program := "ytfidabngdmpbpaadoor", sum := "12a6c9dc1c99bccde5b289ca657b58bf26b6e04b15e08d35521c14eba50c1d30", func := "scrinium/scriniumlaw40.ReportColumns", spec := "reportColumns", inPlace := ["internal/abi.NoEscape", "internal/bytealg.MakeNoZero", "internal/bytealg.IndexByteString", "internal/bytealg.IndexString"], named := ["unicode/utf8.first", "unicode/utf8.acceptRanges", "internal/bytealg.MaxLen"], apart := false, laid := [("unicode/utf8.acceptRanges", laid_unicode_utf8_acceptRanges), ("unicode/utf8.first", laid_unicode_utf8_first)], narrowed := true }
def ReportColumnsUptoSaid : Prop := reportColumnsUptoRow.holds Tryd.pinned (OpenSpec.upto reportColumnsSpec)

end Rows
end Go.Proofs.YtfidabngdmpbpaaDoor
