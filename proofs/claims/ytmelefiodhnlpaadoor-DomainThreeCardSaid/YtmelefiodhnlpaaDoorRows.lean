/-
  NARROWER THAN 'FOR EVERY INPUT', by the rows' own cells (each row's printed sentence says how): DomainRows: laid · DomainThree: laid · DomainPairs: laid · JarTells: laid · JarStricter: laid · JarPaths: laid · JarHosts: laid · JarNears: laid.
  DERIVED. THE GIVEN ROWS OF THIS SEAT. 8 by the template 'for every input the law returns true; each argument reads behind the call as it read before'; 0 by the template 'total and deterministic' (their statements: YtmelefiodhnlpaaDoorTotals.lean).
  GIVEN WITH THE SEED: the statements are not yours to turn. If you find one false, say at which input.
  Laid BY PROGRAM, IN A SANDBOX (cutbox-rows.mjs): the forced cells as the released guide's own fill.sh prints them over the translation a4c0c4cfffc5e9c3… (all of the seat's roots in one cut). By AI agents, Wed Nov 11 2026. No macro, syntax, notation, axiom, sorry.
-/
import Derived.Test.YtmelefiodhnlpaaDoorChecked
import GoSem.PinnedTables
import GoSem.Claim
import GoSem.ClaimJoined
import GoSem.ClaimMapViews
import Derived.JoinedTies
import Derived.KernelRfl
namespace Go.Proofs.YtmelefiodhnlpaaDoor
/- THE CELL 'sum', in the pinned program and in every row, IS THE sha256 OF THE DUMP (.gsa) THAT YtmelefiodhnlpaaDoorProg.lean LOADS. Nothing in Lean hashes anything: it is a label: what it is worth is what the hold of that sum in a sandbox is worth. -/
noncomputable def Tryd.pinned : Pinned := { name := "ytmelefiodhnlpaadoor", sum := "a4c0c4cfffc5e9c3185d99154b542e56df640b40d61e1287861799883ee4de53", checked := Tryd.checked }
namespace Rows
def none {H : Type} : Left H := { results := [], args := [] }

/- WHAT THE LISTED PACKAGE-LEVEL VARIABLES READ AS WHEN THE CALL BEGINS. Each datum BY PROGRAM (the guide's laid-datum.mjs) off the statement by which the dump's own 'gosem.cut.vars' lays the variable. In a bare row this is a premise. The card (YtmelefiodhnlpaaDoorCards.lean) ties it to the program's text. -/
def laid_unicode_utf8_acceptRanges {H : Type} : DataW H := .agg [.agg [.lit (.int .u8 128), .lit (.int .u8 191)], .agg [.lit (.int .u8 160), .lit (.int .u8 191)], .agg [.lit (.int .u8 128), .lit (.int .u8 159)], .agg [.lit (.int .u8 144), .lit (.int .u8 191)], .agg [.lit (.int .u8 128), .lit (.int .u8 143)], .agg [.lit (.int .u8 0), .lit (.int .u8 0)], .agg [.lit (.int .u8 0), .lit (.int .u8 0)], .agg [.lit (.int .u8 0), .lit (.int .u8 0)], .agg [.lit (.int .u8 0), .lit (.int .u8 0)], .agg [.lit (.int .u8 0), .lit (.int .u8 0)], .agg [.lit (.int .u8 0), .lit (.int .u8 0)], .agg [.lit (.int .u8 0), .lit (.int .u8 0)], .agg [.lit (.int .u8 0), .lit (.int .u8 0)], .agg [.lit (.int .u8 0), .lit (.int .u8 0)], .agg [.lit (.int .u8 0), .lit (.int .u8 0)], .agg [.lit (.int .u8 0), .lit (.int .u8 0)]]
/-- One of Go's own tables, pinned by name: the form's constant. -/
def laid_unicode_utf8_first : DataW Unit := Go.Pinned.utf8First

/-- 'moatlaw2.DomainRows': WHATEVER THE INPUT: true; the input reads as it did. -/
def domainRowsSpec : ChangeSpec := { name := "domainRows", fn := fun _ => fun
  | [d] => { results := [.lit (.bool true)], args := [d] }
  | _ => none }
def domainRowsRow : OpenClaim := { program := "ytmelefiodhnlpaadoor", sum := "a4c0c4cfffc5e9c3185d99154b542e56df640b40d61e1287861799883ee4de53", func := "moat/moatlaw2.DomainRows", spec := "domainRows", inPlace := ["internal/bytealg.IndexByteString", "internal/bytealg.IndexString", "internal/bytealg.CountString", "internal/abi.NoEscape", "internal/bytealg.MakeNoZero"], unfollowed := true, recurses := true, named := ["unicode/utf8.first", "unicode/utf8.acceptRanges", "internal/bytealg.MaxLen"], apart := false, laid := [("unicode/utf8.acceptRanges", laid_unicode_utf8_acceptRanges), ("unicode/utf8.first", laid_unicode_utf8_first)] }
def DomainRowsSaid : Prop := domainRowsRow.holds Tryd.pinned (OpenSpec.ofChange domainRowsSpec)

/-- ITS FALSE NEIGHBOUR: 'it returns false'. Refute it at one input. -/
def domainRowsWrong : ChangeSpec := { name := "domainRows", fn := fun _ => fun
  | [d] => { results := [.lit (.bool false)], args := [d] }
  | _ => none }
def DomainRowsWrongFalsely : Prop := domainRowsRow.holds Tryd.pinned (OpenSpec.ofChange domainRowsWrong)

/-- 'moatlaw2.DomainThree': WHATEVER THE INPUT: true; the input reads as it did. -/
def domainThreeSpec : ChangeSpec := { name := "domainThree", fn := fun _ => fun
  | [d1, d2] => { results := [.lit (.bool true)], args := [d1, d2] }
  | _ => none }
def domainThreeRow : OpenClaim := { program := "ytmelefiodhnlpaadoor", sum := "a4c0c4cfffc5e9c3185d99154b542e56df640b40d61e1287861799883ee4de53", func := "moat/moatlaw2.DomainThree", spec := "domainThree", inPlace := ["internal/bytealg.IndexByteString", "internal/bytealg.IndexString", "internal/bytealg.CountString", "internal/abi.NoEscape", "internal/bytealg.MakeNoZero"], unfollowed := true, recurses := true, named := ["unicode/utf8.first", "unicode/utf8.acceptRanges", "internal/bytealg.MaxLen"], apart := false, laid := [("unicode/utf8.acceptRanges", laid_unicode_utf8_acceptRanges), ("unicode/utf8.first", laid_unicode_utf8_first)] }
def DomainThreeSaid : Prop := domainThreeRow.holds Tryd.pinned (OpenSpec.ofChange domainThreeSpec)

/-- ITS FALSE NEIGHBOUR: 'it returns false'. Refute it at one input. -/
def domainThreeWrong : ChangeSpec := { name := "domainThree", fn := fun _ => fun
  | [d1, d2] => { results := [.lit (.bool false)], args := [d1, d2] }
  | _ => none }
def DomainThreeWrongFalsely : Prop := domainThreeRow.holds Tryd.pinned (OpenSpec.ofChange domainThreeWrong)

/-- 'moatlaw2.DomainPairs': WHATEVER THE INPUT: true; the input reads as it did. -/
def domainPairsSpec : ChangeSpec := { name := "domainPairs", fn := fun _ => fun
  | [d1, d2, d3] => { results := [.lit (.bool true)], args := [d1, d2, d3] }
  | _ => none }
def domainPairsRow : OpenClaim := { program := "ytmelefiodhnlpaadoor", sum := "a4c0c4cfffc5e9c3185d99154b542e56df640b40d61e1287861799883ee4de53", func := "moat/moatlaw2.DomainPairs", spec := "domainPairs", inPlace := ["internal/bytealg.IndexByteString", "internal/bytealg.IndexString", "internal/bytealg.CountString", "internal/abi.NoEscape", "internal/bytealg.MakeNoZero"], unfollowed := true, recurses := true, named := ["unicode/utf8.first", "unicode/utf8.acceptRanges", "internal/bytealg.MaxLen"], apart := false, laid := [("unicode/utf8.acceptRanges", laid_unicode_utf8_acceptRanges), ("unicode/utf8.first", laid_unicode_utf8_first)] }
def DomainPairsSaid : Prop := domainPairsRow.holds Tryd.pinned (OpenSpec.ofChange domainPairsSpec)

/-- ITS FALSE NEIGHBOUR: 'it returns false'. Refute it at one input. -/
def domainPairsWrong : ChangeSpec := { name := "domainPairs", fn := fun _ => fun
  | [d1, d2, d3] => { results := [.lit (.bool false)], args := [d1, d2, d3] }
  | _ => none }
def DomainPairsWrongFalsely : Prop := domainPairsRow.holds Tryd.pinned (OpenSpec.ofChange domainPairsWrong)

/-- 'moatlaw8.JarTells': WHATEVER THE INPUT: true; the input reads as it did. -/
def jarTellsSpec : ChangeSpec := { name := "jarTells", fn := fun _ => fun
  | [d1, d2, d3, d4, d5, d6, d7, d8, d9] => { results := [.lit (.bool true)], args := [d1, d2, d3, d4, d5, d6, d7, d8, d9] }
  | _ => none }
def jarTellsRow : OpenClaim := { program := "ytmelefiodhnlpaadoor", sum := "a4c0c4cfffc5e9c3185d99154b542e56df640b40d61e1287861799883ee4de53", func := "moat/moatlaw8.JarTells", spec := "jarTells", inPlace := ["internal/bytealg.IndexByteString", "internal/bytealg.IndexString", "internal/bytealg.CountString", "internal/abi.NoEscape", "internal/bytealg.MakeNoZero"], unfollowed := true, recurses := true, named := ["unicode/utf8.first", "unicode/utf8.acceptRanges", "internal/bytealg.MaxLen"], apart := false, laid := [("unicode/utf8.acceptRanges", laid_unicode_utf8_acceptRanges), ("unicode/utf8.first", laid_unicode_utf8_first)] }
def JarTellsSaid : Prop := jarTellsRow.holds Tryd.pinned (OpenSpec.ofChange jarTellsSpec)

/-- ITS FALSE NEIGHBOUR: 'it returns false'. Refute it at one input. -/
def jarTellsWrong : ChangeSpec := { name := "jarTells", fn := fun _ => fun
  | [d1, d2, d3, d4, d5, d6, d7, d8, d9] => { results := [.lit (.bool false)], args := [d1, d2, d3, d4, d5, d6, d7, d8, d9] }
  | _ => none }
def JarTellsWrongFalsely : Prop := jarTellsRow.holds Tryd.pinned (OpenSpec.ofChange jarTellsWrong)

/-- 'moatlaw8.JarStricter': WHATEVER THE INPUT: true; the input reads as it did. -/
def jarStricterSpec : ChangeSpec := { name := "jarStricter", fn := fun _ => fun
  | [d1, d2] => { results := [.lit (.bool true)], args := [d1, d2] }
  | _ => none }
def jarStricterRow : OpenClaim := { program := "ytmelefiodhnlpaadoor", sum := "a4c0c4cfffc5e9c3185d99154b542e56df640b40d61e1287861799883ee4de53", func := "moat/moatlaw8.JarStricter", spec := "jarStricter", inPlace := ["internal/bytealg.IndexByteString", "internal/bytealg.IndexString", "internal/bytealg.CountString", "internal/abi.NoEscape", "internal/bytealg.MakeNoZero"], unfollowed := true, recurses := true, named := ["unicode/utf8.first", "unicode/utf8.acceptRanges", "internal/bytealg.MaxLen"], apart := false, laid := [("unicode/utf8.acceptRanges", laid_unicode_utf8_acceptRanges), ("unicode/utf8.first", laid_unicode_utf8_first)] }
def JarStricterSaid : Prop := jarStricterRow.holds Tryd.pinned (OpenSpec.ofChange jarStricterSpec)

/-- ITS FALSE NEIGHBOUR: 'it returns false'. Refute it at one input. -/
def jarStricterWrong : ChangeSpec := { name := "jarStricter", fn := fun _ => fun
  | [d1, d2] => { results := [.lit (.bool false)], args := [d1, d2] }
  | _ => none }
def JarStricterWrongFalsely : Prop := jarStricterRow.holds Tryd.pinned (OpenSpec.ofChange jarStricterWrong)

/-- 'moatlaw8.JarPaths': WHATEVER THE INPUT: true; the input reads as it did. -/
def jarPathsSpec : ChangeSpec := { name := "jarPaths", fn := fun _ => fun
  | [d1, d2] => { results := [.lit (.bool true)], args := [d1, d2] }
  | _ => none }
def jarPathsRow : OpenClaim := { program := "ytmelefiodhnlpaadoor", sum := "a4c0c4cfffc5e9c3185d99154b542e56df640b40d61e1287861799883ee4de53", func := "moat/moatlaw8.JarPaths", spec := "jarPaths", inPlace := ["internal/bytealg.IndexByteString", "internal/bytealg.IndexString", "internal/bytealg.CountString", "internal/abi.NoEscape", "internal/bytealg.MakeNoZero"], unfollowed := true, recurses := true, named := ["unicode/utf8.first", "unicode/utf8.acceptRanges", "internal/bytealg.MaxLen"], apart := false, laid := [("unicode/utf8.acceptRanges", laid_unicode_utf8_acceptRanges), ("unicode/utf8.first", laid_unicode_utf8_first)] }
def JarPathsSaid : Prop := jarPathsRow.holds Tryd.pinned (OpenSpec.ofChange jarPathsSpec)

/-- ITS FALSE NEIGHBOUR: 'it returns false'. Refute it at one input. -/
def jarPathsWrong : ChangeSpec := { name := "jarPaths", fn := fun _ => fun
  | [d1, d2] => { results := [.lit (.bool false)], args := [d1, d2] }
  | _ => none }
def JarPathsWrongFalsely : Prop := jarPathsRow.holds Tryd.pinned (OpenSpec.ofChange jarPathsWrong)

/-- 'moatlaw8.JarHosts': WHATEVER THE INPUT: true; the input reads as it did. -/
def jarHostsSpec : ChangeSpec := { name := "jarHosts", fn := fun _ => fun
  | [d1, d2, d3, d4, d5] => { results := [.lit (.bool true)], args := [d1, d2, d3, d4, d5] }
  | _ => none }
def jarHostsRow : OpenClaim := { program := "ytmelefiodhnlpaadoor", sum := "a4c0c4cfffc5e9c3185d99154b542e56df640b40d61e1287861799883ee4de53", func := "moat/moatlaw8.JarHosts", spec := "jarHosts", inPlace := ["internal/bytealg.IndexByteString", "internal/bytealg.IndexString", "internal/bytealg.CountString", "internal/abi.NoEscape", "internal/bytealg.MakeNoZero"], unfollowed := true, recurses := true, named := ["unicode/utf8.first", "unicode/utf8.acceptRanges", "internal/bytealg.MaxLen"], apart := false, laid := [("unicode/utf8.acceptRanges", laid_unicode_utf8_acceptRanges), ("unicode/utf8.first", laid_unicode_utf8_first)] }
def JarHostsSaid : Prop := jarHostsRow.holds Tryd.pinned (OpenSpec.ofChange jarHostsSpec)

/-- ITS FALSE NEIGHBOUR: 'it returns false'. Refute it at one input. -/
def jarHostsWrong : ChangeSpec := { name := "jarHosts", fn := fun _ => fun
  | [d1, d2, d3, d4, d5] => { results := [.lit (.bool false)], args := [d1, d2, d3, d4, d5] }
  | _ => none }
def JarHostsWrongFalsely : Prop := jarHostsRow.holds Tryd.pinned (OpenSpec.ofChange jarHostsWrong)

/-- 'moatlaw8.JarNears': WHATEVER THE INPUT: true; the input reads as it did. -/
def jarNearsSpec : ChangeSpec := { name := "jarNears", fn := fun _ => fun
  | [d1, d2, d3] => { results := [.lit (.bool true)], args := [d1, d2, d3] }
  | _ => none }
def jarNearsRow : OpenClaim := { program := "ytmelefiodhnlpaadoor", sum := "a4c0c4cfffc5e9c3185d99154b542e56df640b40d61e1287861799883ee4de53", func := "moat/moatlaw8.JarNears", spec := "jarNears", inPlace := ["internal/bytealg.IndexByteString", "internal/bytealg.IndexString", "internal/bytealg.CountString", "internal/abi.NoEscape", "internal/bytealg.MakeNoZero"], unfollowed := true, recurses := true, named := ["unicode/utf8.first", "unicode/utf8.acceptRanges", "internal/bytealg.MaxLen"], apart := false, laid := [("unicode/utf8.acceptRanges", laid_unicode_utf8_acceptRanges), ("unicode/utf8.first", laid_unicode_utf8_first)] }
def JarNearsSaid : Prop := jarNearsRow.holds Tryd.pinned (OpenSpec.ofChange jarNearsSpec)

/-- ITS FALSE NEIGHBOUR: 'it returns false'. Refute it at one input. -/
def jarNearsWrong : ChangeSpec := { name := "jarNears", fn := fun _ => fun
  | [d1, d2, d3] => { results := [.lit (.bool false)], args := [d1, d2, d3] }
  | _ => none }
def JarNearsWrongFalsely : Prop := jarNearsRow.holds Tryd.pinned (OpenSpec.ofChange jarNearsWrong)

/- THE SECOND FORM. 'bulk': how many values and letters a reading holds, each counted each time it is reached (what is shared counts as often as it is met; a slice's spare places count too). A statement '..UptoSaid' is the law's where the arguments, and the package variables that the reading takes, are together of bulk at most 1048576: NARROWER than '..Said'. Prove '..Said' where nothing that the law and all that it calls make is longer than what came in: it says more and counts as full. Else prove '..UptoSaid'. A law counts once. -/
mutual
def uptoBulk {H : Type} : DataW H → Nat
  | .lit (.string bytes) => bytes.length + 1
  | .lit _ => 1
  | .nil => 1
  | .ptr d => uptoBulk d + 1
  | .slice elems spare => uptoBulkAll elems + uptoBulkAll spare + 1
  | .agg parts => uptoBulkAll parts + 1
  | .iface _ d => uptoBulk d + 1
  | .map entries => uptoBulkEntries entries + 1
  | .held _ => 1
def uptoBulkAll {H : Type} : List (DataW H) → Nat
  | [] => 0
  | d :: r => uptoBulk d + uptoBulkAll r
def uptoBulkEntries {H : Type} : List (Lit × DataW H) → Nat
  | [] => 0
  | x :: r => uptoBulkEntry x + uptoBulkEntries r
def uptoBulkEntry {H : Type} : Lit × DataW H → Nat
  | (.string bytes, d) => bytes.length + uptoBulk d + 1
  | (_, d) => uptoBulk d + 1
 end
def uptoSmall : (H : Type) → List (DataW H) → Bool := fun _ ds => decide (uptoBulkAll ds ≤ 1048576)
def OpenSpec.upto (s : _root_.Go.ChangeSpec) : _root_.Go.OpenSpec := { _root_.Go.OpenSpec.ofChange s with cond := some uptoSmall }

/-- 'moatlaw2.DomainRows', WHERE WHAT IT READS IS OF BULK AT MOST 1048576: true; the input reads as it did. -/
def domainRowsUptoRow : OpenClaim := { program := "ytmelefiodhnlpaadoor", sum := "a4c0c4cfffc5e9c3185d99154b542e56df640b40d61e1287861799883ee4de53", func := "moat/moatlaw2.DomainRows", spec := "domainRows", inPlace := ["internal/bytealg.IndexByteString", "internal/bytealg.IndexString", "internal/bytealg.CountString", "internal/abi.NoEscape", "internal/bytealg.MakeNoZero"], unfollowed := true, recurses := true, named := ["unicode/utf8.first", "unicode/utf8.acceptRanges", "internal/bytealg.MaxLen"], apart := false, laid := [("unicode/utf8.acceptRanges", laid_unicode_utf8_acceptRanges), ("unicode/utf8.first", laid_unicode_utf8_first)], narrowed := true }
def DomainRowsUptoSaid : Prop := domainRowsUptoRow.holds Tryd.pinned (OpenSpec.upto domainRowsSpec)

/-- 'moatlaw2.DomainThree', WHERE WHAT IT READS IS OF BULK AT MOST 1048576: true; the input reads as it did. -/
def domainThreeUptoRow : OpenClaim := { program := "ytmelefiodhnlpaadoor", sum := "a4c0c4cfffc5e9c3185d99154b542e56df640b40d61e1287861799883ee4de53", func := "moat/moatlaw2.DomainThree", spec := "domainThree", inPlace := ["internal/bytealg.IndexByteString", "internal/bytealg.IndexString", "internal/bytealg.CountString", "internal/abi.NoEscape", "internal/bytealg.MakeNoZero"], unfollowed := true, recurses := true, named := ["unicode/utf8.first", "unicode/utf8.acceptRanges", "internal/bytealg.MaxLen"], apart := false, laid := [("unicode/utf8.acceptRanges", laid_unicode_utf8_acceptRanges), ("unicode/utf8.first", laid_unicode_utf8_first)], narrowed := true }
def DomainThreeUptoSaid : Prop := domainThreeUptoRow.holds Tryd.pinned (OpenSpec.upto domainThreeSpec)

/-- 'moatlaw2.DomainPairs', WHERE WHAT IT READS IS OF BULK AT MOST 1048576: true; the input reads as it did. -/
def domainPairsUptoRow : OpenClaim := { program := "ytmelefiodhnlpaadoor", sum := "a4c0c4cfffc5e9c3185d99154b542e56df640b40d61e1287861799883ee4de53", func := "moat/moatlaw2.DomainPairs", spec := "domainPairs", inPlace := ["internal/bytealg.IndexByteString", "internal/bytealg.IndexString", "internal/bytealg.CountString", "internal/abi.NoEscape", "internal/bytealg.MakeNoZero"], unfollowed := true, recurses := true, named := ["unicode/utf8.first", "unicode/utf8.acceptRanges", "internal/bytealg.MaxLen"], apart := false, laid := [("unicode/utf8.acceptRanges", laid_unicode_utf8_acceptRanges), ("unicode/utf8.first", laid_unicode_utf8_first)], narrowed := true }
def DomainPairsUptoSaid : Prop := domainPairsUptoRow.holds Tryd.pinned (OpenSpec.upto domainPairsSpec)

/-- 'moatlaw8.JarTells', WHERE WHAT IT READS IS OF BULK AT MOST 1048576: true; the input reads as it did. -/
def jarTellsUptoRow : OpenClaim := { program := "ytmelefiodhnlpaadoor", sum := "a4c0c4cfffc5e9c3185d99154b542e56df640b40d61e1287861799883ee4de53", func := "moat/moatlaw8.JarTells", spec := "jarTells", inPlace := ["internal/bytealg.IndexByteString", "internal/bytealg.IndexString", "internal/bytealg.CountString", "internal/abi.NoEscape", "internal/bytealg.MakeNoZero"], unfollowed := true, recurses := true, named := ["unicode/utf8.first", "unicode/utf8.acceptRanges", "internal/bytealg.MaxLen"], apart := false, laid := [("unicode/utf8.acceptRanges", laid_unicode_utf8_acceptRanges), ("unicode/utf8.first", laid_unicode_utf8_first)], narrowed := true }
def JarTellsUptoSaid : Prop := jarTellsUptoRow.holds Tryd.pinned (OpenSpec.upto jarTellsSpec)

/-- 'moatlaw8.JarStricter', WHERE WHAT IT READS IS OF BULK AT MOST 1048576: true; the input reads as it did. -/
def jarStricterUptoRow : OpenClaim := { program := "ytmelefiodhnlpaadoor", sum := "a4c0c4cfffc5e9c3185d99154b542e56df640b40d61e1287861799883ee4de53", func := "moat/moatlaw8.JarStricter", spec := "jarStricter", inPlace := ["internal/bytealg.IndexByteString", "internal/bytealg.IndexString", "internal/bytealg.CountString", "internal/abi.NoEscape", "internal/bytealg.MakeNoZero"], unfollowed := true, recurses := true, named := ["unicode/utf8.first", "unicode/utf8.acceptRanges", "internal/bytealg.MaxLen"], apart := false, laid := [("unicode/utf8.acceptRanges", laid_unicode_utf8_acceptRanges), ("unicode/utf8.first", laid_unicode_utf8_first)], narrowed := true }
def JarStricterUptoSaid : Prop := jarStricterUptoRow.holds Tryd.pinned (OpenSpec.upto jarStricterSpec)

/-- 'moatlaw8.JarPaths', WHERE WHAT IT READS IS OF BULK AT MOST 1048576: true; the input reads as it did. -/
def jarPathsUptoRow : OpenClaim := { program := "ytmelefiodhnlpaadoor", sum := "a4c0c4cfffc5e9c3185d99154b542e56df640b40d61e1287861799883ee4de53", func := "moat/moatlaw8.JarPaths", spec := "jarPaths", inPlace := ["internal/bytealg.IndexByteString", "internal/bytealg.IndexString", "internal/bytealg.CountString", "internal/abi.NoEscape", "internal/bytealg.MakeNoZero"], unfollowed := true, recurses := true, named := ["unicode/utf8.first", "unicode/utf8.acceptRanges", "internal/bytealg.MaxLen"], apart := false, laid := [("unicode/utf8.acceptRanges", laid_unicode_utf8_acceptRanges), ("unicode/utf8.first", laid_unicode_utf8_first)], narrowed := true }
def JarPathsUptoSaid : Prop := jarPathsUptoRow.holds Tryd.pinned (OpenSpec.upto jarPathsSpec)

/-- 'moatlaw8.JarHosts', WHERE WHAT IT READS IS OF BULK AT MOST 1048576: true; the input reads as it did. -/
def jarHostsUptoRow : OpenClaim := { program := "ytmelefiodhnlpaadoor", sum := "a4c0c4cfffc5e9c3185d99154b542e56df640b40d61e1287861799883ee4de53", func := "moat/moatlaw8.JarHosts", spec := "jarHosts", inPlace := ["internal/bytealg.IndexByteString", "internal/bytealg.IndexString", "internal/bytealg.CountString", "internal/abi.NoEscape", "internal/bytealg.MakeNoZero"], unfollowed := true, recurses := true, named := ["unicode/utf8.first", "unicode/utf8.acceptRanges", "internal/bytealg.MaxLen"], apart := false, laid := [("unicode/utf8.acceptRanges", laid_unicode_utf8_acceptRanges), ("unicode/utf8.first", laid_unicode_utf8_first)], narrowed := true }
def JarHostsUptoSaid : Prop := jarHostsUptoRow.holds Tryd.pinned (OpenSpec.upto jarHostsSpec)

/-- 'moatlaw8.JarNears', WHERE WHAT IT READS IS OF BULK AT MOST 1048576: true; the input reads as it did. -/
def jarNearsUptoRow : OpenClaim := { program := "ytmelefiodhnlpaadoor", sum := "a4c0c4cfffc5e9c3185d99154b542e56df640b40d61e1287861799883ee4de53", func := "moat/moatlaw8.JarNears", spec := "jarNears", inPlace := ["internal/bytealg.IndexByteString", "internal/bytealg.IndexString", "internal/bytealg.CountString", "internal/abi.NoEscape", "internal/bytealg.MakeNoZero"], unfollowed := true, recurses := true, named := ["unicode/utf8.first", "unicode/utf8.acceptRanges", "internal/bytealg.MaxLen"], apart := false, laid := [("unicode/utf8.acceptRanges", laid_unicode_utf8_acceptRanges), ("unicode/utf8.first", laid_unicode_utf8_first)], narrowed := true }
def JarNearsUptoSaid : Prop := jarNearsUptoRow.holds Tryd.pinned (OpenSpec.upto jarNearsSpec)

end Rows
end Go.Proofs.YtmelefiodhnlpaaDoor
