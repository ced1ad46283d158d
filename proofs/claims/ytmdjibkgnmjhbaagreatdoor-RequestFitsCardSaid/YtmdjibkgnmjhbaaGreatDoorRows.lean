/-
  NARROWER THAN 'FOR EVERY INPUT', by the rows' own cells (each row's printed sentence says how): WfKinds: laid · RequestFits: laid · ServePages: laid · BuildOrder: laid.
  DERIVED. THE GIVEN ROWS OF THIS SEAT. 4 by the template 'for every input the law returns true; each argument reads behind the call as it read before'; 0 by the template 'total and deterministic' (their statements: YtmdjibkgnmjhbaaGreatDoorTotals.lean).
  GIVEN WITH THE SEED: the statements are not yours to turn. If you find one false, say at which input.
  Laid BY PROGRAM, IN A SANDBOX (cutbox-rows.mjs): the forced cells as the released guide's own fill.sh prints them over the translation 9073da60bceb2c3e… (all of the seat's roots in one cut). By AI agents, Wed Nov 11 2026. No macro, syntax, notation, axiom, sorry.
-/
import Derived.Test.YtmdjibkgnmjhbaaGreatDoorChecked
import GoSem.PinnedTables
import GoSem.Claim
import GoSem.ClaimJoined
import GoSem.ClaimMapViews
import Derived.JoinedTies
import Derived.KernelRfl
namespace Go.Proofs.YtmdjibkgnmjhbaaGreatDoor
/- THE CELL 'sum', in the pinned program and in every row, IS THE sha256 OF THE DUMP (.gsa) THAT YtmdjibkgnmjhbaaGreatDoorProg.lean LOADS. Nothing in Lean hashes anything: it is a label: what it is worth is what the hold of that sum in a sandbox is worth. -/
noncomputable def Tryz.pinned : Pinned := { name := "ytmdjibkgnmjhbaagreatdoor", sum := "9073da60bceb2c3e68935a7313cc132211bdcdbce961bf6e99cd8ab11e6fde4e", checked := Tryz.checked }
namespace Rows
def none {H : Type} : Left H := { results := [], args := [] }

/- WHAT THE LISTED PACKAGE-LEVEL VARIABLES READ AS WHEN THE CALL BEGINS. Each datum BY PROGRAM (the guide's laid-datum.mjs) off the statement by which the dump's own 'gosem.cut.vars' lays the variable. In a bare row this is a premise. The card (YtmdjibkgnmjhbaaGreatDoorCards.lean) ties it to the program's text. -/
def laid_math_bits_deBruijn32tab {H : Type} : DataW H := .agg [.lit (.int .u8 0), .lit (.int .u8 1), .lit (.int .u8 28), .lit (.int .u8 2), .lit (.int .u8 29), .lit (.int .u8 14), .lit (.int .u8 24), .lit (.int .u8 3), .lit (.int .u8 30), .lit (.int .u8 22), .lit (.int .u8 20), .lit (.int .u8 15), .lit (.int .u8 25), .lit (.int .u8 17), .lit (.int .u8 4), .lit (.int .u8 8), .lit (.int .u8 31), .lit (.int .u8 27), .lit (.int .u8 13), .lit (.int .u8 23), .lit (.int .u8 21), .lit (.int .u8 19), .lit (.int .u8 16), .lit (.int .u8 7), .lit (.int .u8 26), .lit (.int .u8 12), .lit (.int .u8 18), .lit (.int .u8 6), .lit (.int .u8 11), .lit (.int .u8 5), .lit (.int .u8 10), .lit (.int .u8 9)]
def laid_math_bits_deBruijn64tab {H : Type} : DataW H := .agg [.lit (.int .u8 0), .lit (.int .u8 1), .lit (.int .u8 56), .lit (.int .u8 2), .lit (.int .u8 57), .lit (.int .u8 49), .lit (.int .u8 28), .lit (.int .u8 3), .lit (.int .u8 61), .lit (.int .u8 58), .lit (.int .u8 42), .lit (.int .u8 50), .lit (.int .u8 38), .lit (.int .u8 29), .lit (.int .u8 17), .lit (.int .u8 4), .lit (.int .u8 62), .lit (.int .u8 47), .lit (.int .u8 59), .lit (.int .u8 36), .lit (.int .u8 45), .lit (.int .u8 43), .lit (.int .u8 51), .lit (.int .u8 22), .lit (.int .u8 53), .lit (.int .u8 39), .lit (.int .u8 33), .lit (.int .u8 30), .lit (.int .u8 24), .lit (.int .u8 18), .lit (.int .u8 12), .lit (.int .u8 5), .lit (.int .u8 63), .lit (.int .u8 55), .lit (.int .u8 48), .lit (.int .u8 27), .lit (.int .u8 60), .lit (.int .u8 41), .lit (.int .u8 37), .lit (.int .u8 16), .lit (.int .u8 46), .lit (.int .u8 35), .lit (.int .u8 44), .lit (.int .u8 21), .lit (.int .u8 52), .lit (.int .u8 32), .lit (.int .u8 23), .lit (.int .u8 11), .lit (.int .u8 54), .lit (.int .u8 26), .lit (.int .u8 40), .lit (.int .u8 15), .lit (.int .u8 34), .lit (.int .u8 20), .lit (.int .u8 31), .lit (.int .u8 10), .lit (.int .u8 25), .lit (.int .u8 14), .lit (.int .u8 19), .lit (.int .u8 9), .lit (.int .u8 13), .lit (.int .u8 8), .lit (.int .u8 7), .lit (.int .u8 6)]
def laid_internal_strconv_uint64pow10 {H : Type} : DataW H := .agg [.lit (.int .u64 1), .lit (.int .u64 10), .lit (.int .u64 100), .lit (.int .u64 1000), .lit (.int .u64 10000), .lit (.int .u64 100000), .lit (.int .u64 1000000), .lit (.int .u64 10000000), .lit (.int .u64 100000000), .lit (.int .u64 1000000000), .lit (.int .u64 10000000000), .lit (.int .u64 100000000000), .lit (.int .u64 1000000000000), .lit (.int .u64 10000000000000), .lit (.int .u64 100000000000000), .lit (.int .u64 1000000000000000), .lit (.int .u64 10000000000000000), .lit (.int .u64 100000000000000000), .lit (.int .u64 1000000000000000000), .lit (.int .u64 10000000000000000000)]
def laid_unicode_utf8_acceptRanges {H : Type} : DataW H := .agg [.agg [.lit (.int .u8 128), .lit (.int .u8 191)], .agg [.lit (.int .u8 160), .lit (.int .u8 191)], .agg [.lit (.int .u8 128), .lit (.int .u8 159)], .agg [.lit (.int .u8 144), .lit (.int .u8 191)], .agg [.lit (.int .u8 128), .lit (.int .u8 143)], .agg [.lit (.int .u8 0), .lit (.int .u8 0)], .agg [.lit (.int .u8 0), .lit (.int .u8 0)], .agg [.lit (.int .u8 0), .lit (.int .u8 0)], .agg [.lit (.int .u8 0), .lit (.int .u8 0)], .agg [.lit (.int .u8 0), .lit (.int .u8 0)], .agg [.lit (.int .u8 0), .lit (.int .u8 0)], .agg [.lit (.int .u8 0), .lit (.int .u8 0)], .agg [.lit (.int .u8 0), .lit (.int .u8 0)], .agg [.lit (.int .u8 0), .lit (.int .u8 0)], .agg [.lit (.int .u8 0), .lit (.int .u8 0)], .agg [.lit (.int .u8 0), .lit (.int .u8 0)]]
def laid_strconv_ErrRange {H : Type} : DataW H := .iface "*errors.errorString" (.ptr (.agg [.lit (.string [118, 97, 108, 117, 101, 32, 111, 117, 116, 32, 111, 102, 32, 114, 97, 110, 103, 101])]))
def laid_strconv_ErrSyntax {H : Type} : DataW H := .iface "*errors.errorString" (.ptr (.agg [.lit (.string [105, 110, 118, 97, 108, 105, 100, 32, 115, 121, 110, 116, 97, 120])]))
def laid_moat_url_schemes {H : Type} : DataW H := .map [(.string [104, 116, 116, 112], .lit (.int .i64 80)), (.string [104, 116, 116, 112, 115], .lit (.int .i64 443))]
def laid_moat_cookie_sames {H : Type} : DataW H := .agg [.lit (.string []), .lit (.string [78, 111, 110, 101]), .lit (.string [76, 97, 120]), .lit (.string [83, 116, 114, 105, 99, 116])]
def laid_moat_wf_most {H : Type} : DataW H := .map [(.string [99, 111, 111, 107, 105, 101], .lit (.int .i64 6)), (.string [101, 110, 100, 112, 111, 105, 110, 116], .lit (.int .i64 10)), (.string [111, 114, 105, 103, 105, 110], .lit (.int .i64 6)), (.string [112, 114, 111, 112, 101, 114, 116, 121], .lit (.int .i64 6)), (.string [115, 101, 99, 114, 101, 116], .lit (.int .i64 6))]
def laid_moat_wf_asked {H : Type} : DataW H := .map [(.string [97, 116], .lit (.string [111, 114, 105, 103, 105, 110])), (.string [99, 104, 97, 110, 103, 101, 100], .lit (.string [101, 110, 100, 112, 111, 105, 110, 116])), (.string [99, 111, 114, 115], .lit (.string [111, 114, 105, 103, 105, 110])), (.string [102, 111, 114, 103, 101, 100], .lit (.string [101, 110, 100, 112, 111, 105, 110, 116])), (.string [103, 105, 118, 101, 115], .lit (.string [115, 101, 99, 114, 101, 116])), (.string [107, 110, 111, 119, 115], .lit (.string [115, 101, 99, 114, 101, 116])), (.string [110, 101, 101, 100, 115], .lit (.string [99, 111, 111, 107, 105, 101])), (.string [114, 97, 110], .lit (.string [111, 114, 105, 103, 105, 110])), (.string [114, 101, 100, 105, 114, 101, 99, 116], .lit (.string [101, 110, 100, 112, 111, 105, 110, 116])), (.string [115, 99, 114, 105, 112, 116], .lit (.string [111, 114, 105, 103, 105, 110])), (.string [115, 101, 116, 115], .lit (.string [99, 111, 111, 107, 105, 101])), (.string [115, 116, 111, 108, 101, 110], .lit (.string [99, 111, 111, 107, 105, 101]))]
/-- One of Go's own tables, pinned by name: the form's constant. -/
def laid_unicode_utf8_first : DataW Unit := Go.Pinned.utf8First
def laid_moat_build_leaves {H : Type} : DataW H := .map [(.string [99, 104, 97, 110, 103, 101, 100], .lit (.int .i64 1)), (.string [102, 111, 114, 103, 101, 100], .lit (.int .i64 2)), (.string [107, 110, 111, 119, 115], .lit (.int .i64 3)), (.string [114, 97, 110], .lit (.int .i64 5)), (.string [115, 116, 111, 108, 101, 110], .lit (.int .i64 4))]
def laid_moat_build_joints {H : Type} : DataW H := .map [(.string [97, 110, 100], .lit (.int .i64 7)), (.string [110, 111, 116], .lit (.int .i64 6)), (.string [111, 114], .lit (.int .i64 8))]
def laid_moat_csp_ports {H : Type} : DataW H := .map [(.string [104, 116, 116, 112], .lit (.int .i64 80)), (.string [104, 116, 116, 112, 115], .lit (.int .i64 443))]

/-- 'moatlaw12.WfKinds': WHATEVER THE INPUT: true; the input reads as it did. -/
def wfKindsSpec : ChangeSpec := { name := "wfKinds", fn := fun _ => fun
  | [d1, d2] => { results := [.lit (.bool true)], args := [d1, d2] }
  | _ => none }
def wfKindsRow : OpenClaim := { program := "ytmdjibkgnmjhbaagreatdoor", sum := "9073da60bceb2c3e68935a7313cc132211bdcdbce961bf6e99cd8ab11e6fde4e", func := "moat/moatlaw12.WfKinds", spec := "wfKinds", inPlace := ["internal/bytealg.IndexByteString", "internal/bytealg.IndexString", "internal/bytealg.CountString", "internal/abi.NoEscape", "internal/bytealg.MakeNoZero"], unfollowed := true, recurses := true, named := ["internal/bytealg.MaxLen", "moat/url.schemes", "strconv.ErrSyntax", "strconv.ErrRange", "internal/strconv.uint64pow10", "math/bits.deBruijn32tab", "math/bits.deBruijn64tab", "unicode/utf8.first", "unicode/utf8.acceptRanges", "moat/cookie.sames", "moat/wf.most", "moat/wf.asked"], plainKeys := false, apart := false, laid := [("math/bits.deBruijn32tab", laid_math_bits_deBruijn32tab), ("math/bits.deBruijn64tab", laid_math_bits_deBruijn64tab), ("internal/strconv.uint64pow10", laid_internal_strconv_uint64pow10), ("unicode/utf8.acceptRanges", laid_unicode_utf8_acceptRanges), ("strconv.ErrRange", laid_strconv_ErrRange), ("strconv.ErrSyntax", laid_strconv_ErrSyntax), ("moat/url.schemes", laid_moat_url_schemes), ("moat/cookie.sames", laid_moat_cookie_sames), ("moat/wf.most", laid_moat_wf_most), ("moat/wf.asked", laid_moat_wf_asked), ("unicode/utf8.first", laid_unicode_utf8_first)] }
def WfKindsSaid : Prop := wfKindsRow.holds Tryz.pinned (OpenSpec.ofChange wfKindsSpec)

/-- ITS FALSE NEIGHBOUR: 'it returns false'. Refute it at one input. -/
def wfKindsWrong : ChangeSpec := { name := "wfKinds", fn := fun _ => fun
  | [d1, d2] => { results := [.lit (.bool false)], args := [d1, d2] }
  | _ => none }
def WfKindsWrongFalsely : Prop := wfKindsRow.holds Tryz.pinned (OpenSpec.ofChange wfKindsWrong)

/-- 'moatlaw17.RequestFits': WHATEVER THE INPUT: true; the input reads as it did. -/
def requestFitsSpec : ChangeSpec := { name := "requestFits", fn := fun _ => fun
  | [d1, d2, d3, d4, d5, d6] => { results := [.lit (.bool true)], args := [d1, d2, d3, d4, d5, d6] }
  | _ => none }
def requestFitsRow : OpenClaim := { program := "ytmdjibkgnmjhbaagreatdoor", sum := "9073da60bceb2c3e68935a7313cc132211bdcdbce961bf6e99cd8ab11e6fde4e", func := "moat/moatlaw17.RequestFits", spec := "requestFits", inPlace := ["internal/bytealg.IndexByteString", "internal/bytealg.IndexString", "internal/bytealg.CountString", "internal/abi.NoEscape", "internal/bytealg.MakeNoZero"], unfollowed := true, recurses := true, named := ["moat/url.schemes", "internal/bytealg.MaxLen", "strconv.ErrSyntax", "strconv.ErrRange", "internal/strconv.uint64pow10", "math/bits.deBruijn32tab", "math/bits.deBruijn64tab", "unicode/utf8.first", "unicode/utf8.acceptRanges", "moat/cookie.sames", "moat/wf.most", "moat/wf.asked", "moat/build.leaves", "moat/build.joints"], plainKeys := false, apart := false, laid := [("math/bits.deBruijn32tab", laid_math_bits_deBruijn32tab), ("math/bits.deBruijn64tab", laid_math_bits_deBruijn64tab), ("internal/strconv.uint64pow10", laid_internal_strconv_uint64pow10), ("unicode/utf8.acceptRanges", laid_unicode_utf8_acceptRanges), ("strconv.ErrRange", laid_strconv_ErrRange), ("strconv.ErrSyntax", laid_strconv_ErrSyntax), ("moat/url.schemes", laid_moat_url_schemes), ("moat/cookie.sames", laid_moat_cookie_sames), ("moat/wf.most", laid_moat_wf_most), ("moat/wf.asked", laid_moat_wf_asked), ("moat/build.leaves", laid_moat_build_leaves), ("moat/build.joints", laid_moat_build_joints), ("unicode/utf8.first", laid_unicode_utf8_first)] }
def RequestFitsSaid : Prop := requestFitsRow.holds Tryz.pinned (OpenSpec.ofChange requestFitsSpec)

/-- ITS FALSE NEIGHBOUR: 'it returns false'. Refute it at one input. -/
def requestFitsWrong : ChangeSpec := { name := "requestFits", fn := fun _ => fun
  | [d1, d2, d3, d4, d5, d6] => { results := [.lit (.bool false)], args := [d1, d2, d3, d4, d5, d6] }
  | _ => none }
def RequestFitsWrongFalsely : Prop := requestFitsRow.holds Tryz.pinned (OpenSpec.ofChange requestFitsWrong)

/-- 'moatlaw18.ServePages': WHATEVER THE INPUT: true; the input reads as it did. -/
def servePagesSpec : ChangeSpec := { name := "servePages", fn := fun _ => fun
  | [d1, d2, d3, d4, d5, d6] => { results := [.lit (.bool true)], args := [d1, d2, d3, d4, d5, d6] }
  | _ => none }
def servePagesRow : OpenClaim := { program := "ytmdjibkgnmjhbaagreatdoor", sum := "9073da60bceb2c3e68935a7313cc132211bdcdbce961bf6e99cd8ab11e6fde4e", func := "moat/moatlaw18.ServePages", spec := "servePages", inPlace := ["internal/bytealg.IndexByteString", "internal/bytealg.IndexString", "internal/bytealg.CountString", "internal/abi.NoEscape", "internal/bytealg.MakeNoZero"], unfollowed := true, recurses := true, named := ["internal/bytealg.MaxLen", "moat/url.schemes", "strconv.ErrSyntax", "strconv.ErrRange", "internal/strconv.uint64pow10", "math/bits.deBruijn32tab", "math/bits.deBruijn64tab", "unicode/utf8.first", "unicode/utf8.acceptRanges", "moat/cookie.sames", "moat/wf.most", "moat/wf.asked", "moat/build.leaves", "moat/build.joints", "moat/csp.ports"], plainKeys := false, apart := false, laid := [("math/bits.deBruijn32tab", laid_math_bits_deBruijn32tab), ("math/bits.deBruijn64tab", laid_math_bits_deBruijn64tab), ("internal/strconv.uint64pow10", laid_internal_strconv_uint64pow10), ("unicode/utf8.acceptRanges", laid_unicode_utf8_acceptRanges), ("strconv.ErrRange", laid_strconv_ErrRange), ("strconv.ErrSyntax", laid_strconv_ErrSyntax), ("moat/url.schemes", laid_moat_url_schemes), ("moat/cookie.sames", laid_moat_cookie_sames), ("moat/csp.ports", laid_moat_csp_ports), ("moat/wf.most", laid_moat_wf_most), ("moat/wf.asked", laid_moat_wf_asked), ("moat/build.leaves", laid_moat_build_leaves), ("moat/build.joints", laid_moat_build_joints), ("unicode/utf8.first", laid_unicode_utf8_first)] }
def ServePagesSaid : Prop := servePagesRow.holds Tryz.pinned (OpenSpec.ofChange servePagesSpec)

/-- ITS FALSE NEIGHBOUR: 'it returns false'. Refute it at one input. -/
def servePagesWrong : ChangeSpec := { name := "servePages", fn := fun _ => fun
  | [d1, d2, d3, d4, d5, d6] => { results := [.lit (.bool false)], args := [d1, d2, d3, d4, d5, d6] }
  | _ => none }
def ServePagesWrongFalsely : Prop := servePagesRow.holds Tryz.pinned (OpenSpec.ofChange servePagesWrong)

/-- 'moatlaw13.BuildOrder': WHATEVER THE INPUT: true; the input reads as it did. -/
def buildOrderSpec : ChangeSpec := { name := "buildOrder", fn := fun _ => fun
  | [d1, d2] => { results := [.lit (.bool true)], args := [d1, d2] }
  | _ => none }
def buildOrderRow : OpenClaim := { program := "ytmdjibkgnmjhbaagreatdoor", sum := "9073da60bceb2c3e68935a7313cc132211bdcdbce961bf6e99cd8ab11e6fde4e", func := "moat/moatlaw13.BuildOrder", spec := "buildOrder", inPlace := ["internal/bytealg.IndexByteString", "internal/bytealg.IndexString", "internal/bytealg.CountString", "internal/abi.NoEscape", "internal/bytealg.MakeNoZero"], unfollowed := true, recurses := true, named := ["internal/bytealg.MaxLen", "moat/url.schemes", "strconv.ErrSyntax", "strconv.ErrRange", "internal/strconv.uint64pow10", "math/bits.deBruijn32tab", "math/bits.deBruijn64tab", "unicode/utf8.first", "unicode/utf8.acceptRanges", "moat/cookie.sames", "moat/wf.most", "moat/wf.asked", "moat/build.leaves", "moat/build.joints"], plainKeys := false, apart := false, laid := [("math/bits.deBruijn32tab", laid_math_bits_deBruijn32tab), ("math/bits.deBruijn64tab", laid_math_bits_deBruijn64tab), ("internal/strconv.uint64pow10", laid_internal_strconv_uint64pow10), ("unicode/utf8.acceptRanges", laid_unicode_utf8_acceptRanges), ("strconv.ErrRange", laid_strconv_ErrRange), ("strconv.ErrSyntax", laid_strconv_ErrSyntax), ("moat/url.schemes", laid_moat_url_schemes), ("moat/cookie.sames", laid_moat_cookie_sames), ("moat/wf.most", laid_moat_wf_most), ("moat/wf.asked", laid_moat_wf_asked), ("moat/build.leaves", laid_moat_build_leaves), ("moat/build.joints", laid_moat_build_joints), ("unicode/utf8.first", laid_unicode_utf8_first)] }
def BuildOrderSaid : Prop := buildOrderRow.holds Tryz.pinned (OpenSpec.ofChange buildOrderSpec)

/-- ITS FALSE NEIGHBOUR: 'it returns false'. Refute it at one input. -/
def buildOrderWrong : ChangeSpec := { name := "buildOrder", fn := fun _ => fun
  | [d1, d2] => { results := [.lit (.bool false)], args := [d1, d2] }
  | _ => none }
def BuildOrderWrongFalsely : Prop := buildOrderRow.holds Tryz.pinned (OpenSpec.ofChange buildOrderWrong)

/- THE SECOND FORM. 'bulk': how many values and letters a reading holds, each counted each time it is reached (what is shared counts as often as it is met; a slice's spare places count too). A statement '..UptoSaid' is the law's where the arguments, and the package variables that the reading takes, are together of bulk at most 1048576: NARROWER than '..Said'. Prove '..Said' where nothing that the law and all that it calls make is longer than what came in: it says more and counts as full. Else prove '..UptoSaid'. A law counts once. -/
mutual
def uptoBulk {H : Type} : DataW H → Nat
  | .lit (.string bytes) => bytes.length + 1
  | .lit _ => 1
  | .nil => 1
  | .ptr d => uptoBulk d + 1
  | .slice elems spare => uptoBulkAll elems + uptoBulkAll spare + 1
  | .agg parts => uptoBulkAll parts + 1
  | .iface _ d => uptoBulk d + 1
  | .map entries => uptoBulkEntries entries + 1
  | .held _ => 1
def uptoBulkAll {H : Type} : List (DataW H) → Nat
  | [] => 0
  | d :: r => uptoBulk d + uptoBulkAll r
def uptoBulkEntries {H : Type} : List (Lit × DataW H) → Nat
  | [] => 0
  | x :: r => uptoBulkEntry x + uptoBulkEntries r
def uptoBulkEntry {H : Type} : Lit × DataW H → Nat
  | (.string bytes, d) => bytes.length + uptoBulk d + 1
  | (_, d) => uptoBulk d + 1
 end
def uptoSmall : (H : Type) → List (DataW H) → Bool := fun _ ds => decide (uptoBulkAll ds ≤ 1048576)
def OpenSpec.upto (s : _root_.Go.ChangeSpec) : _root_.Go.OpenSpec := { _root_.Go.OpenSpec.ofChange s with cond := some uptoSmall }

/-- 'moatlaw12.WfKinds', WHERE WHAT IT READS IS OF BULK AT MOST 1048576: true; the input reads as it did. -/
def wfKindsUptoRow : OpenClaim := { program := "ytmdjibkgnmjhbaagreatdoor", sum := "9073da60bceb2c3e68935a7313cc132211bdcdbce961bf6e99cd8ab11e6fde4e", func := "moat/moatlaw12.WfKinds", spec := "wfKinds", inPlace := ["internal/bytealg.IndexByteString", "internal/bytealg.IndexString", "internal/bytealg.CountString", "internal/abi.NoEscape", "internal/bytealg.MakeNoZero"], unfollowed := true, recurses := true, named := ["internal/bytealg.MaxLen", "moat/url.schemes", "strconv.ErrSyntax", "strconv.ErrRange", "internal/strconv.uint64pow10", "math/bits.deBruijn32tab", "math/bits.deBruijn64tab", "unicode/utf8.first", "unicode/utf8.acceptRanges", "moat/cookie.sames", "moat/wf.most", "moat/wf.asked"], plainKeys := false, apart := false, laid := [("math/bits.deBruijn32tab", laid_math_bits_deBruijn32tab), ("math/bits.deBruijn64tab", laid_math_bits_deBruijn64tab), ("internal/strconv.uint64pow10", laid_internal_strconv_uint64pow10), ("unicode/utf8.acceptRanges", laid_unicode_utf8_acceptRanges), ("strconv.ErrRange", laid_strconv_ErrRange), ("strconv.ErrSyntax", laid_strconv_ErrSyntax), ("moat/url.schemes", laid_moat_url_schemes), ("moat/cookie.sames", laid_moat_cookie_sames), ("moat/wf.most", laid_moat_wf_most), ("moat/wf.asked", laid_moat_wf_asked), ("unicode/utf8.first", laid_unicode_utf8_first)], narrowed := true }
def WfKindsUptoSaid : Prop := wfKindsUptoRow.holds Tryz.pinned (OpenSpec.upto wfKindsSpec)

/-- 'moatlaw17.RequestFits', WHERE WHAT IT READS IS OF BULK AT MOST 1048576: true; the input reads as it did. -/
def requestFitsUptoRow : OpenClaim := { program := "ytmdjibkgnmjhbaagreatdoor", sum := "9073da60bceb2c3e68935a7313cc132211bdcdbce961bf6e99cd8ab11e6fde4e", func := "moat/moatlaw17.RequestFits", spec := "requestFits", inPlace := ["internal/bytealg.IndexByteString", "internal/bytealg.IndexString", "internal/bytealg.CountString", "internal/abi.NoEscape", "internal/bytealg.MakeNoZero"], unfollowed := true, recurses := true, named := ["moat/url.schemes", "internal/bytealg.MaxLen", "strconv.ErrSyntax", "strconv.ErrRange", "internal/strconv.uint64pow10", "math/bits.deBruijn32tab", "math/bits.deBruijn64tab", "unicode/utf8.first", "unicode/utf8.acceptRanges", "moat/cookie.sames", "moat/wf.most", "moat/wf.asked", "moat/build.leaves", "moat/build.joints"], plainKeys := false, apart := false, laid := [("math/bits.deBruijn32tab", laid_math_bits_deBruijn32tab), ("math/bits.deBruijn64tab", laid_math_bits_deBruijn64tab), ("internal/strconv.uint64pow10", laid_internal_strconv_uint64pow10), ("unicode/utf8.acceptRanges", laid_unicode_utf8_acceptRanges), ("strconv.ErrRange", laid_strconv_ErrRange), ("strconv.ErrSyntax", laid_strconv_ErrSyntax), ("moat/url.schemes", laid_moat_url_schemes), ("moat/cookie.sames", laid_moat_cookie_sames), ("moat/wf.most", laid_moat_wf_most), ("moat/wf.asked", laid_moat_wf_asked), ("moat/build.leaves", laid_moat_build_leaves), ("moat/build.joints", laid_moat_build_joints), ("unicode/utf8.first", laid_unicode_utf8_first)], narrowed := true }
def RequestFitsUptoSaid : Prop := requestFitsUptoRow.holds Tryz.pinned (OpenSpec.upto requestFitsSpec)

/-- 'moatlaw18.ServePages', WHERE WHAT IT READS IS OF BULK AT MOST 1048576: true; the input reads as it did. -/
def servePagesUptoRow : OpenClaim := { program := "ytmdjibkgnmjhbaagreatdoor", sum := "9073da60bceb2c3e68935a7313cc132211bdcdbce961bf6e99cd8ab11e6fde4e", func := "moat/moatlaw18.ServePages", spec := "servePages", inPlace := ["internal/bytealg.IndexByteString", "internal/bytealg.IndexString", "internal/bytealg.CountString", "internal/abi.NoEscape", "internal/bytealg.MakeNoZero"], unfollowed := true, recurses := true, named := ["internal/bytealg.MaxLen", "moat/url.schemes", "strconv.ErrSyntax", "strconv.ErrRange", "internal/strconv.uint64pow10", "math/bits.deBruijn32tab", "math/bits.deBruijn64tab", "unicode/utf8.first", "unicode/utf8.acceptRanges", "moat/cookie.sames", "moat/wf.most", "moat/wf.asked", "moat/build.leaves", "moat/build.joints", "moat/csp.ports"], plainKeys := false, apart := false, laid := [("math/bits.deBruijn32tab", laid_math_bits_deBruijn32tab), ("math/bits.deBruijn64tab", laid_math_bits_deBruijn64tab), ("internal/strconv.uint64pow10", laid_internal_strconv_uint64pow10), ("unicode/utf8.acceptRanges", laid_unicode_utf8_acceptRanges), ("strconv.ErrRange", laid_strconv_ErrRange), ("strconv.ErrSyntax", laid_strconv_ErrSyntax), ("moat/url.schemes", laid_moat_url_schemes), ("moat/cookie.sames", laid_moat_cookie_sames), ("moat/csp.ports", laid_moat_csp_ports), ("moat/wf.most", laid_moat_wf_most), ("moat/wf.asked", laid_moat_wf_asked), ("moat/build.leaves", laid_moat_build_leaves), ("moat/build.joints", laid_moat_build_joints), ("unicode/utf8.first", laid_unicode_utf8_first)], narrowed := true }
def ServePagesUptoSaid : Prop := servePagesUptoRow.holds Tryz.pinned (OpenSpec.upto servePagesSpec)

/-- 'moatlaw13.BuildOrder', WHERE WHAT IT READS IS OF BULK AT MOST 1048576: true; the input reads as it did. -/
def buildOrderUptoRow : OpenClaim := { program := "ytmdjibkgnmjhbaagreatdoor", sum := "9073da60bceb2c3e68935a7313cc132211bdcdbce961bf6e99cd8ab11e6fde4e", func := "moat/moatlaw13.BuildOrder", spec := "buildOrder", inPlace := ["internal/bytealg.IndexByteString", "internal/bytealg.IndexString", "internal/bytealg.CountString", "internal/abi.NoEscape", "internal/bytealg.MakeNoZero"], unfollowed := true, recurses := true, named := ["internal/bytealg.MaxLen", "moat/url.schemes", "strconv.ErrSyntax", "strconv.ErrRange", "internal/strconv.uint64pow10", "math/bits.deBruijn32tab", "math/bits.deBruijn64tab", "unicode/utf8.first", "unicode/utf8.acceptRanges", "moat/cookie.sames", "moat/wf.most", "moat/wf.asked", "moat/build.leaves", "moat/build.joints"], plainKeys := false, apart := false, laid := [("math/bits.deBruijn32tab", laid_math_bits_deBruijn32tab), ("math/bits.deBruijn64tab", laid_math_bits_deBruijn64tab), ("internal/strconv.uint64pow10", laid_internal_strconv_uint64pow10), ("unicode/utf8.acceptRanges", laid_unicode_utf8_acceptRanges), ("strconv.ErrRange", laid_strconv_ErrRange), ("strconv.ErrSyntax", laid_strconv_ErrSyntax), ("moat/url.schemes", laid_moat_url_schemes), ("moat/cookie.sames", laid_moat_cookie_sames), ("moat/wf.most", laid_moat_wf_most), ("moat/wf.asked", laid_moat_wf_asked), ("moat/build.leaves", laid_moat_build_leaves), ("moat/build.joints", laid_moat_build_joints), ("unicode/utf8.first", laid_unicode_utf8_first)], narrowed := true }
def BuildOrderUptoSaid : Prop := buildOrderUptoRow.holds Tryz.pinned (OpenSpec.upto buildOrderSpec)

end Rows
end Go.Proofs.YtmdjibkgnmjhbaaGreatDoor
