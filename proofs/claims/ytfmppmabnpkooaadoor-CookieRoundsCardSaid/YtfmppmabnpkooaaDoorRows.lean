/-
  NARROWER THAN 'FOR EVERY INPUT', by the rows' own cells (each row's printed sentence says how): FieldTells: laid · FieldLists: laid · FieldPairs: laid · FieldTrims: laid · CookieTells: laid · CookieRounds: laid · CookieBad: laid · UrlTells: laid · UrlTexts: laid · UrlPorts: laid · UrlHosts: laid · UrlPaths: laid · CspSources: laid · CspHosts: laid.
  DERIVED. THE GIVEN ROWS OF THIS SEAT. 14 by the template 'for every input the law returns true; each argument reads behind the call as it read before'; 0 by the template 'total and deterministic' (their statements: YtfmppmabnpkooaaDoorTotals.lean).
  GIVEN WITH THE SEED: the statements are not yours to turn. If you find one false, say at which input.
  Laid BY PROGRAM, IN A SANDBOX (cutbox-rows.mjs): the forced cells as the released guide's own fill.sh prints them over the translation c4668c0f9ea95052… (all of the seat's roots in one cut). By AI agents, Wed Nov 11 2026. No macro, syntax, notation, axiom, sorry.
-/
import Derived.Test.YtfmppmabnpkooaaDoorChecked
import GoSem.PinnedTables
import GoSem.Claim
import GoSem.ClaimJoined
import GoSem.ClaimMapViews
import Derived.JoinedTies
import Derived.KernelRfl
namespace Go.Proofs.YtfmppmabnpkooaaDoor
/- THE CELL 'sum', in the pinned program and in every row, IS THE sha256 OF THE DUMP (.gsa) THAT YtfmppmabnpkooaaDoorProg.lean LOADS. Nothing in Lean hashes anything: it is a label: what it is worth is what the hold of that sum in a sandbox is worth. -/
noncomputable def Tryd.pinned : Pinned := { name := "ytfmppmabnpkooaadoor", sum := "c4668c0f9ea95052e5390bccb2133a2ae180491b63077f4f6e8c9351df07fd2c", checked := Tryd.checked }
namespace Rows
def none {H : Type} : Left H := { results := [], args := [] }

/- WHAT THE LISTED PACKAGE-LEVEL VARIABLES READ AS WHEN THE CALL BEGINS. Each datum BY PROGRAM (the guide's laid-datum.mjs) off the statement by which the dump's own 'gosem.cut.vars' lays the variable. In a bare row this is a premise. The card (YtfmppmabnpkooaaDoorCards.lean) ties it to the program's text. -/
def laid_unicode_utf8_acceptRanges {H : Type} : DataW H := .agg [.agg [.lit (.int .u8 128), .lit (.int .u8 191)], .agg [.lit (.int .u8 160), .lit (.int .u8 191)], .agg [.lit (.int .u8 128), .lit (.int .u8 159)], .agg [.lit (.int .u8 144), .lit (.int .u8 191)], .agg [.lit (.int .u8 128), .lit (.int .u8 143)], .agg [.lit (.int .u8 0), .lit (.int .u8 0)], .agg [.lit (.int .u8 0), .lit (.int .u8 0)], .agg [.lit (.int .u8 0), .lit (.int .u8 0)], .agg [.lit (.int .u8 0), .lit (.int .u8 0)], .agg [.lit (.int .u8 0), .lit (.int .u8 0)], .agg [.lit (.int .u8 0), .lit (.int .u8 0)], .agg [.lit (.int .u8 0), .lit (.int .u8 0)], .agg [.lit (.int .u8 0), .lit (.int .u8 0)], .agg [.lit (.int .u8 0), .lit (.int .u8 0)], .agg [.lit (.int .u8 0), .lit (.int .u8 0)], .agg [.lit (.int .u8 0), .lit (.int .u8 0)]]
/-- One of Go's own tables, pinned by name: the form's constant. -/
def laid_unicode_utf8_first : DataW Unit := Go.Pinned.utf8First
def laid_moat_cookie_sames {H : Type} : DataW H := .agg [.lit (.string []), .lit (.string [78, 111, 110, 101]), .lit (.string [76, 97, 120]), .lit (.string [83, 116, 114, 105, 99, 116])]
def laid_math_bits_deBruijn32tab {H : Type} : DataW H := .agg [.lit (.int .u8 0), .lit (.int .u8 1), .lit (.int .u8 28), .lit (.int .u8 2), .lit (.int .u8 29), .lit (.int .u8 14), .lit (.int .u8 24), .lit (.int .u8 3), .lit (.int .u8 30), .lit (.int .u8 22), .lit (.int .u8 20), .lit (.int .u8 15), .lit (.int .u8 25), .lit (.int .u8 17), .lit (.int .u8 4), .lit (.int .u8 8), .lit (.int .u8 31), .lit (.int .u8 27), .lit (.int .u8 13), .lit (.int .u8 23), .lit (.int .u8 21), .lit (.int .u8 19), .lit (.int .u8 16), .lit (.int .u8 7), .lit (.int .u8 26), .lit (.int .u8 12), .lit (.int .u8 18), .lit (.int .u8 6), .lit (.int .u8 11), .lit (.int .u8 5), .lit (.int .u8 10), .lit (.int .u8 9)]
def laid_math_bits_deBruijn64tab {H : Type} : DataW H := .agg [.lit (.int .u8 0), .lit (.int .u8 1), .lit (.int .u8 56), .lit (.int .u8 2), .lit (.int .u8 57), .lit (.int .u8 49), .lit (.int .u8 28), .lit (.int .u8 3), .lit (.int .u8 61), .lit (.int .u8 58), .lit (.int .u8 42), .lit (.int .u8 50), .lit (.int .u8 38), .lit (.int .u8 29), .lit (.int .u8 17), .lit (.int .u8 4), .lit (.int .u8 62), .lit (.int .u8 47), .lit (.int .u8 59), .lit (.int .u8 36), .lit (.int .u8 45), .lit (.int .u8 43), .lit (.int .u8 51), .lit (.int .u8 22), .lit (.int .u8 53), .lit (.int .u8 39), .lit (.int .u8 33), .lit (.int .u8 30), .lit (.int .u8 24), .lit (.int .u8 18), .lit (.int .u8 12), .lit (.int .u8 5), .lit (.int .u8 63), .lit (.int .u8 55), .lit (.int .u8 48), .lit (.int .u8 27), .lit (.int .u8 60), .lit (.int .u8 41), .lit (.int .u8 37), .lit (.int .u8 16), .lit (.int .u8 46), .lit (.int .u8 35), .lit (.int .u8 44), .lit (.int .u8 21), .lit (.int .u8 52), .lit (.int .u8 32), .lit (.int .u8 23), .lit (.int .u8 11), .lit (.int .u8 54), .lit (.int .u8 26), .lit (.int .u8 40), .lit (.int .u8 15), .lit (.int .u8 34), .lit (.int .u8 20), .lit (.int .u8 31), .lit (.int .u8 10), .lit (.int .u8 25), .lit (.int .u8 14), .lit (.int .u8 19), .lit (.int .u8 9), .lit (.int .u8 13), .lit (.int .u8 8), .lit (.int .u8 7), .lit (.int .u8 6)]
def laid_internal_strconv_uint64pow10 {H : Type} : DataW H := .agg [.lit (.int .u64 1), .lit (.int .u64 10), .lit (.int .u64 100), .lit (.int .u64 1000), .lit (.int .u64 10000), .lit (.int .u64 100000), .lit (.int .u64 1000000), .lit (.int .u64 10000000), .lit (.int .u64 100000000), .lit (.int .u64 1000000000), .lit (.int .u64 10000000000), .lit (.int .u64 100000000000), .lit (.int .u64 1000000000000), .lit (.int .u64 10000000000000), .lit (.int .u64 100000000000000), .lit (.int .u64 1000000000000000), .lit (.int .u64 10000000000000000), .lit (.int .u64 100000000000000000), .lit (.int .u64 1000000000000000000), .lit (.int .u64 10000000000000000000)]
def laid_strconv_ErrRange {H : Type} : DataW H := .iface "*errors.errorString" (.ptr (.agg [.lit (.string [118, 97, 108, 117, 101, 32, 111, 117, 116, 32, 111, 102, 32, 114, 97, 110, 103, 101])]))
def laid_strconv_ErrSyntax {H : Type} : DataW H := .iface "*errors.errorString" (.ptr (.agg [.lit (.string [105, 110, 118, 97, 108, 105, 100, 32, 115, 121, 110, 116, 97, 120])]))
def laid_moat_url_schemes {H : Type} : DataW H := .map [(.string [104, 116, 116, 112], .lit (.int .i64 80)), (.string [104, 116, 116, 112, 115], .lit (.int .i64 443))]
def laid_moat_csp_ports {H : Type} : DataW H := .map [(.string [104, 116, 116, 112], .lit (.int .i64 80)), (.string [104, 116, 116, 112, 115], .lit (.int .i64 443))]

/-- 'moatlaw3.FieldTells': WHATEVER THE INPUT: true; the input reads as it did. -/
def fieldTellsSpec : ChangeSpec := { name := "fieldTells", fn := fun _ => fun
  | [d] => { results := [.lit (.bool true)], args := [d] }
  | _ => none }
def fieldTellsRow : OpenClaim := { program := "ytfmppmabnpkooaadoor", sum := "c4668c0f9ea95052e5390bccb2133a2ae180491b63077f4f6e8c9351df07fd2c", func := "moat/moatlaw3.FieldTells", spec := "fieldTells", inPlace := ["internal/bytealg.IndexByteString", "internal/bytealg.IndexString"], unfollowed := true, recurses := true, named := ["unicode/utf8.first", "unicode/utf8.acceptRanges", "internal/bytealg.MaxLen"], apart := false, laid := [("unicode/utf8.acceptRanges", laid_unicode_utf8_acceptRanges), ("unicode/utf8.first", laid_unicode_utf8_first)] }
def FieldTellsSaid : Prop := fieldTellsRow.holds Tryd.pinned (OpenSpec.ofChange fieldTellsSpec)

/-- ITS FALSE NEIGHBOUR: 'it returns false'. Refute it at one input. -/
def fieldTellsWrong : ChangeSpec := { name := "fieldTells", fn := fun _ => fun
  | [d] => { results := [.lit (.bool false)], args := [d] }
  | _ => none }
def FieldTellsWrongFalsely : Prop := fieldTellsRow.holds Tryd.pinned (OpenSpec.ofChange fieldTellsWrong)

/-- 'moatlaw3.FieldLists': WHATEVER THE INPUT: true; the input reads as it did. -/
def fieldListsSpec : ChangeSpec := { name := "fieldLists", fn := fun _ => fun
  | [d1, d2, d3] => { results := [.lit (.bool true)], args := [d1, d2, d3] }
  | _ => none }
def fieldListsRow : OpenClaim := { program := "ytfmppmabnpkooaadoor", sum := "c4668c0f9ea95052e5390bccb2133a2ae180491b63077f4f6e8c9351df07fd2c", func := "moat/moatlaw3.FieldLists", spec := "fieldLists", inPlace := ["internal/bytealg.IndexByteString", "internal/bytealg.IndexString"], unfollowed := true, recurses := true, named := ["unicode/utf8.first", "unicode/utf8.acceptRanges", "internal/bytealg.MaxLen"], apart := false, laid := [("unicode/utf8.acceptRanges", laid_unicode_utf8_acceptRanges), ("unicode/utf8.first", laid_unicode_utf8_first)] }
def FieldListsSaid : Prop := fieldListsRow.holds Tryd.pinned (OpenSpec.ofChange fieldListsSpec)

/-- ITS FALSE NEIGHBOUR: 'it returns false'. Refute it at one input. -/
def fieldListsWrong : ChangeSpec := { name := "fieldLists", fn := fun _ => fun
  | [d1, d2, d3] => { results := [.lit (.bool false)], args := [d1, d2, d3] }
  | _ => none }
def FieldListsWrongFalsely : Prop := fieldListsRow.holds Tryd.pinned (OpenSpec.ofChange fieldListsWrong)

/-- 'moatlaw3.FieldPairs': WHATEVER THE INPUT: true; the input reads as it did. -/
def fieldPairsSpec : ChangeSpec := { name := "fieldPairs", fn := fun _ => fun
  | [d1, d2] => { results := [.lit (.bool true)], args := [d1, d2] }
  | _ => none }
def fieldPairsRow : OpenClaim := { program := "ytfmppmabnpkooaadoor", sum := "c4668c0f9ea95052e5390bccb2133a2ae180491b63077f4f6e8c9351df07fd2c", func := "moat/moatlaw3.FieldPairs", spec := "fieldPairs", inPlace := ["internal/bytealg.IndexByteString", "internal/bytealg.IndexString"], unfollowed := true, recurses := true, named := ["unicode/utf8.first", "unicode/utf8.acceptRanges", "internal/bytealg.MaxLen"], apart := false, laid := [("unicode/utf8.acceptRanges", laid_unicode_utf8_acceptRanges), ("unicode/utf8.first", laid_unicode_utf8_first)] }
def FieldPairsSaid : Prop := fieldPairsRow.holds Tryd.pinned (OpenSpec.ofChange fieldPairsSpec)

/-- ITS FALSE NEIGHBOUR: 'it returns false'. Refute it at one input. -/
def fieldPairsWrong : ChangeSpec := { name := "fieldPairs", fn := fun _ => fun
  | [d1, d2] => { results := [.lit (.bool false)], args := [d1, d2] }
  | _ => none }
def FieldPairsWrongFalsely : Prop := fieldPairsRow.holds Tryd.pinned (OpenSpec.ofChange fieldPairsWrong)

/-- 'moatlaw3.FieldTrims': WHATEVER THE INPUT: true; the input reads as it did. -/
def fieldTrimsSpec : ChangeSpec := { name := "fieldTrims", fn := fun _ => fun
  | [d1, d2] => { results := [.lit (.bool true)], args := [d1, d2] }
  | _ => none }
def fieldTrimsRow : OpenClaim := { program := "ytfmppmabnpkooaadoor", sum := "c4668c0f9ea95052e5390bccb2133a2ae180491b63077f4f6e8c9351df07fd2c", func := "moat/moatlaw3.FieldTrims", spec := "fieldTrims", inPlace := ["internal/bytealg.IndexByteString", "internal/bytealg.IndexString"], unfollowed := true, recurses := true, named := ["unicode/utf8.first", "unicode/utf8.acceptRanges", "internal/bytealg.MaxLen"], apart := false, laid := [("unicode/utf8.acceptRanges", laid_unicode_utf8_acceptRanges), ("unicode/utf8.first", laid_unicode_utf8_first)] }
def FieldTrimsSaid : Prop := fieldTrimsRow.holds Tryd.pinned (OpenSpec.ofChange fieldTrimsSpec)

/-- ITS FALSE NEIGHBOUR: 'it returns false'. Refute it at one input. -/
def fieldTrimsWrong : ChangeSpec := { name := "fieldTrims", fn := fun _ => fun
  | [d1, d2] => { results := [.lit (.bool false)], args := [d1, d2] }
  | _ => none }
def FieldTrimsWrongFalsely : Prop := fieldTrimsRow.holds Tryd.pinned (OpenSpec.ofChange fieldTrimsWrong)

/-- 'moatlaw7.CookieTells': WHATEVER THE INPUT: true; the input reads as it did. -/
def cookieTellsSpec : ChangeSpec := { name := "cookieTells", fn := fun _ => fun
  | [d1, d2, d3] => { results := [.lit (.bool true)], args := [d1, d2, d3] }
  | _ => none }
def cookieTellsRow : OpenClaim := { program := "ytfmppmabnpkooaadoor", sum := "c4668c0f9ea95052e5390bccb2133a2ae180491b63077f4f6e8c9351df07fd2c", func := "moat/moatlaw7.CookieTells", spec := "cookieTells", inPlace := ["internal/bytealg.IndexByteString", "internal/bytealg.IndexString", "internal/bytealg.CountString", "internal/abi.NoEscape", "internal/bytealg.MakeNoZero"], unfollowed := true, recurses := true, named := ["unicode/utf8.first", "unicode/utf8.acceptRanges", "internal/bytealg.MaxLen", "moat/cookie.sames"], apart := false, laid := [("unicode/utf8.acceptRanges", laid_unicode_utf8_acceptRanges), ("moat/cookie.sames", laid_moat_cookie_sames), ("unicode/utf8.first", laid_unicode_utf8_first)] }
def CookieTellsSaid : Prop := cookieTellsRow.holds Tryd.pinned (OpenSpec.ofChange cookieTellsSpec)

/-- ITS FALSE NEIGHBOUR: 'it returns false'. Refute it at one input. -/
def cookieTellsWrong : ChangeSpec := { name := "cookieTells", fn := fun _ => fun
  | [d1, d2, d3] => { results := [.lit (.bool false)], args := [d1, d2, d3] }
  | _ => none }
def CookieTellsWrongFalsely : Prop := cookieTellsRow.holds Tryd.pinned (OpenSpec.ofChange cookieTellsWrong)

/-- 'moatlaw7.CookieRounds': WHATEVER THE INPUT: true; the input reads as it did. -/
def cookieRoundsSpec : ChangeSpec := { name := "cookieRounds", fn := fun _ => fun
  | [d1, d2, d3, d4, d5] => { results := [.lit (.bool true)], args := [d1, d2, d3, d4, d5] }
  | _ => none }
def cookieRoundsRow : OpenClaim := { program := "ytfmppmabnpkooaadoor", sum := "c4668c0f9ea95052e5390bccb2133a2ae180491b63077f4f6e8c9351df07fd2c", func := "moat/moatlaw7.CookieRounds", spec := "cookieRounds", inPlace := ["internal/abi.NoEscape", "internal/bytealg.MakeNoZero", "internal/bytealg.IndexByteString", "internal/bytealg.IndexString", "internal/bytealg.CountString"], unfollowed := true, recurses := true, named := ["moat/cookie.sames", "unicode/utf8.first", "unicode/utf8.acceptRanges", "internal/bytealg.MaxLen"], apart := false, laid := [("unicode/utf8.acceptRanges", laid_unicode_utf8_acceptRanges), ("moat/cookie.sames", laid_moat_cookie_sames), ("unicode/utf8.first", laid_unicode_utf8_first)] }
def CookieRoundsSaid : Prop := cookieRoundsRow.holds Tryd.pinned (OpenSpec.ofChange cookieRoundsSpec)

/-- ITS FALSE NEIGHBOUR: 'it returns false'. Refute it at one input. -/
def cookieRoundsWrong : ChangeSpec := { name := "cookieRounds", fn := fun _ => fun
  | [d1, d2, d3, d4, d5] => { results := [.lit (.bool false)], args := [d1, d2, d3, d4, d5] }
  | _ => none }
def CookieRoundsWrongFalsely : Prop := cookieRoundsRow.holds Tryd.pinned (OpenSpec.ofChange cookieRoundsWrong)

/-- 'moatlaw7.CookieBad': WHATEVER THE INPUT: true; the input reads as it did. -/
def cookieBadSpec : ChangeSpec := { name := "cookieBad", fn := fun _ => fun
  | [d1, d2] => { results := [.lit (.bool true)], args := [d1, d2] }
  | _ => none }
def cookieBadRow : OpenClaim := { program := "ytfmppmabnpkooaadoor", sum := "c4668c0f9ea95052e5390bccb2133a2ae180491b63077f4f6e8c9351df07fd2c", func := "moat/moatlaw7.CookieBad", spec := "cookieBad", inPlace := ["internal/bytealg.IndexByteString", "internal/bytealg.IndexString", "internal/bytealg.CountString", "internal/abi.NoEscape", "internal/bytealg.MakeNoZero"], unfollowed := true, recurses := true, named := ["unicode/utf8.first", "unicode/utf8.acceptRanges", "internal/bytealg.MaxLen", "moat/cookie.sames"], apart := false, laid := [("unicode/utf8.acceptRanges", laid_unicode_utf8_acceptRanges), ("moat/cookie.sames", laid_moat_cookie_sames), ("unicode/utf8.first", laid_unicode_utf8_first)] }
def CookieBadSaid : Prop := cookieBadRow.holds Tryd.pinned (OpenSpec.ofChange cookieBadSpec)

/-- ITS FALSE NEIGHBOUR: 'it returns false'. Refute it at one input. -/
def cookieBadWrong : ChangeSpec := { name := "cookieBad", fn := fun _ => fun
  | [d1, d2] => { results := [.lit (.bool false)], args := [d1, d2] }
  | _ => none }
def CookieBadWrongFalsely : Prop := cookieBadRow.holds Tryd.pinned (OpenSpec.ofChange cookieBadWrong)

/-- 'moatlaw1.UrlTells': WHATEVER THE INPUT: true; the input reads as it did. -/
def urlTellsSpec : ChangeSpec := { name := "urlTells", fn := fun _ => fun
  | [d] => { results := [.lit (.bool true)], args := [d] }
  | _ => none }
def urlTellsRow : OpenClaim := { program := "ytfmppmabnpkooaadoor", sum := "c4668c0f9ea95052e5390bccb2133a2ae180491b63077f4f6e8c9351df07fd2c", func := "moat/moatlaw1.UrlTells", spec := "urlTells", inPlace := ["internal/bytealg.IndexByteString", "internal/bytealg.IndexString"], unfollowed := true, recurses := true, named := ["moat/url.schemes", "internal/bytealg.MaxLen", "strconv.ErrSyntax", "strconv.ErrRange", "internal/strconv.uint64pow10", "math/bits.deBruijn32tab", "math/bits.deBruijn64tab", "unicode/utf8.first", "unicode/utf8.acceptRanges"], apart := false, laid := [("math/bits.deBruijn32tab", laid_math_bits_deBruijn32tab), ("math/bits.deBruijn64tab", laid_math_bits_deBruijn64tab), ("internal/strconv.uint64pow10", laid_internal_strconv_uint64pow10), ("unicode/utf8.acceptRanges", laid_unicode_utf8_acceptRanges), ("strconv.ErrRange", laid_strconv_ErrRange), ("strconv.ErrSyntax", laid_strconv_ErrSyntax), ("moat/url.schemes", laid_moat_url_schemes), ("unicode/utf8.first", laid_unicode_utf8_first)] }
def UrlTellsSaid : Prop := urlTellsRow.holds Tryd.pinned (OpenSpec.ofChange urlTellsSpec)

/-- ITS FALSE NEIGHBOUR: 'it returns false'. Refute it at one input. -/
def urlTellsWrong : ChangeSpec := { name := "urlTells", fn := fun _ => fun
  | [d] => { results := [.lit (.bool false)], args := [d] }
  | _ => none }
def UrlTellsWrongFalsely : Prop := urlTellsRow.holds Tryd.pinned (OpenSpec.ofChange urlTellsWrong)

/-- 'moatlaw1.UrlTexts': WHATEVER THE INPUT: true; the input reads as it did. -/
def urlTextsSpec : ChangeSpec := { name := "urlTexts", fn := fun _ => fun
  | [d1, d2] => { results := [.lit (.bool true)], args := [d1, d2] }
  | _ => none }
def urlTextsRow : OpenClaim := { program := "ytfmppmabnpkooaadoor", sum := "c4668c0f9ea95052e5390bccb2133a2ae180491b63077f4f6e8c9351df07fd2c", func := "moat/moatlaw1.UrlTexts", spec := "urlTexts", inPlace := ["internal/bytealg.IndexByteString", "internal/bytealg.IndexString"], unfollowed := true, recurses := true, named := ["moat/url.schemes", "internal/bytealg.MaxLen", "strconv.ErrSyntax", "strconv.ErrRange", "internal/strconv.uint64pow10", "math/bits.deBruijn32tab", "math/bits.deBruijn64tab", "unicode/utf8.first", "unicode/utf8.acceptRanges"], apart := false, laid := [("math/bits.deBruijn32tab", laid_math_bits_deBruijn32tab), ("math/bits.deBruijn64tab", laid_math_bits_deBruijn64tab), ("internal/strconv.uint64pow10", laid_internal_strconv_uint64pow10), ("unicode/utf8.acceptRanges", laid_unicode_utf8_acceptRanges), ("strconv.ErrRange", laid_strconv_ErrRange), ("strconv.ErrSyntax", laid_strconv_ErrSyntax), ("moat/url.schemes", laid_moat_url_schemes), ("unicode/utf8.first", laid_unicode_utf8_first)] }
def UrlTextsSaid : Prop := urlTextsRow.holds Tryd.pinned (OpenSpec.ofChange urlTextsSpec)

/-- ITS FALSE NEIGHBOUR: 'it returns false'. Refute it at one input. -/
def urlTextsWrong : ChangeSpec := { name := "urlTexts", fn := fun _ => fun
  | [d1, d2] => { results := [.lit (.bool false)], args := [d1, d2] }
  | _ => none }
def UrlTextsWrongFalsely : Prop := urlTextsRow.holds Tryd.pinned (OpenSpec.ofChange urlTextsWrong)

/-- 'moatlaw1.UrlPorts': WHATEVER THE INPUT: true; the input reads as it did. -/
def urlPortsSpec : ChangeSpec := { name := "urlPorts", fn := fun _ => fun
  | [d1, d2] => { results := [.lit (.bool true)], args := [d1, d2] }
  | _ => none }
def urlPortsRow : OpenClaim := { program := "ytfmppmabnpkooaadoor", sum := "c4668c0f9ea95052e5390bccb2133a2ae180491b63077f4f6e8c9351df07fd2c", func := "moat/moatlaw1.UrlPorts", spec := "urlPorts", inPlace := ["internal/bytealg.IndexByteString", "internal/bytealg.IndexString"], unfollowed := true, recurses := true, named := ["moat/url.schemes", "internal/bytealg.MaxLen", "strconv.ErrSyntax", "strconv.ErrRange", "internal/strconv.uint64pow10", "math/bits.deBruijn32tab", "math/bits.deBruijn64tab", "unicode/utf8.first", "unicode/utf8.acceptRanges"], apart := false, laid := [("math/bits.deBruijn32tab", laid_math_bits_deBruijn32tab), ("math/bits.deBruijn64tab", laid_math_bits_deBruijn64tab), ("internal/strconv.uint64pow10", laid_internal_strconv_uint64pow10), ("unicode/utf8.acceptRanges", laid_unicode_utf8_acceptRanges), ("strconv.ErrRange", laid_strconv_ErrRange), ("strconv.ErrSyntax", laid_strconv_ErrSyntax), ("moat/url.schemes", laid_moat_url_schemes), ("unicode/utf8.first", laid_unicode_utf8_first)] }
def UrlPortsSaid : Prop := urlPortsRow.holds Tryd.pinned (OpenSpec.ofChange urlPortsSpec)

/-- ITS FALSE NEIGHBOUR: 'it returns false'. Refute it at one input. -/
def urlPortsWrong : ChangeSpec := { name := "urlPorts", fn := fun _ => fun
  | [d1, d2] => { results := [.lit (.bool false)], args := [d1, d2] }
  | _ => none }
def UrlPortsWrongFalsely : Prop := urlPortsRow.holds Tryd.pinned (OpenSpec.ofChange urlPortsWrong)

/-- 'moatlaw1.UrlHosts': WHATEVER THE INPUT: true; the input reads as it did. -/
def urlHostsSpec : ChangeSpec := { name := "urlHosts", fn := fun _ => fun
  | [d1, d2, d3] => { results := [.lit (.bool true)], args := [d1, d2, d3] }
  | _ => none }
def urlHostsRow : OpenClaim := { program := "ytfmppmabnpkooaadoor", sum := "c4668c0f9ea95052e5390bccb2133a2ae180491b63077f4f6e8c9351df07fd2c", func := "moat/moatlaw1.UrlHosts", spec := "urlHosts", inPlace := ["internal/bytealg.IndexByteString", "internal/bytealg.IndexString"], unfollowed := true, recurses := true, named := ["moat/url.schemes", "internal/bytealg.MaxLen", "strconv.ErrSyntax", "strconv.ErrRange", "internal/strconv.uint64pow10", "math/bits.deBruijn32tab", "math/bits.deBruijn64tab", "unicode/utf8.first", "unicode/utf8.acceptRanges"], apart := false, laid := [("math/bits.deBruijn32tab", laid_math_bits_deBruijn32tab), ("math/bits.deBruijn64tab", laid_math_bits_deBruijn64tab), ("internal/strconv.uint64pow10", laid_internal_strconv_uint64pow10), ("unicode/utf8.acceptRanges", laid_unicode_utf8_acceptRanges), ("strconv.ErrRange", laid_strconv_ErrRange), ("strconv.ErrSyntax", laid_strconv_ErrSyntax), ("moat/url.schemes", laid_moat_url_schemes), ("unicode/utf8.first", laid_unicode_utf8_first)] }
def UrlHostsSaid : Prop := urlHostsRow.holds Tryd.pinned (OpenSpec.ofChange urlHostsSpec)

/-- ITS FALSE NEIGHBOUR: 'it returns false'. Refute it at one input. -/
def urlHostsWrong : ChangeSpec := { name := "urlHosts", fn := fun _ => fun
  | [d1, d2, d3] => { results := [.lit (.bool false)], args := [d1, d2, d3] }
  | _ => none }
def UrlHostsWrongFalsely : Prop := urlHostsRow.holds Tryd.pinned (OpenSpec.ofChange urlHostsWrong)

/-- 'moatlaw1.UrlPaths': WHATEVER THE INPUT: true; the input reads as it did. -/
def urlPathsSpec : ChangeSpec := { name := "urlPaths", fn := fun _ => fun
  | [d1, d2, d3] => { results := [.lit (.bool true)], args := [d1, d2, d3] }
  | _ => none }
def urlPathsRow : OpenClaim := { program := "ytfmppmabnpkooaadoor", sum := "c4668c0f9ea95052e5390bccb2133a2ae180491b63077f4f6e8c9351df07fd2c", func := "moat/moatlaw1.UrlPaths", spec := "urlPaths", inPlace := ["internal/bytealg.IndexByteString", "internal/bytealg.IndexString"], unfollowed := true, recurses := true, named := ["moat/url.schemes", "internal/bytealg.MaxLen", "strconv.ErrSyntax", "strconv.ErrRange", "internal/strconv.uint64pow10", "math/bits.deBruijn32tab", "math/bits.deBruijn64tab", "unicode/utf8.first", "unicode/utf8.acceptRanges"], apart := false, laid := [("math/bits.deBruijn32tab", laid_math_bits_deBruijn32tab), ("math/bits.deBruijn64tab", laid_math_bits_deBruijn64tab), ("internal/strconv.uint64pow10", laid_internal_strconv_uint64pow10), ("unicode/utf8.acceptRanges", laid_unicode_utf8_acceptRanges), ("strconv.ErrRange", laid_strconv_ErrRange), ("strconv.ErrSyntax", laid_strconv_ErrSyntax), ("moat/url.schemes", laid_moat_url_schemes), ("unicode/utf8.first", laid_unicode_utf8_first)] }
def UrlPathsSaid : Prop := urlPathsRow.holds Tryd.pinned (OpenSpec.ofChange urlPathsSpec)

/-- ITS FALSE NEIGHBOUR: 'it returns false'. Refute it at one input. -/
def urlPathsWrong : ChangeSpec := { name := "urlPaths", fn := fun _ => fun
  | [d1, d2, d3] => { results := [.lit (.bool false)], args := [d1, d2, d3] }
  | _ => none }
def UrlPathsWrongFalsely : Prop := urlPathsRow.holds Tryd.pinned (OpenSpec.ofChange urlPathsWrong)

/-- 'moatlaw6.CspSources': WHATEVER THE INPUT: true; the input reads as it did. -/
def cspSourcesSpec : ChangeSpec := { name := "cspSources", fn := fun _ => fun
  | [d1, d2, d3, d4] => { results := [.lit (.bool true)], args := [d1, d2, d3, d4] }
  | _ => none }
def cspSourcesRow : OpenClaim := { program := "ytfmppmabnpkooaadoor", sum := "c4668c0f9ea95052e5390bccb2133a2ae180491b63077f4f6e8c9351df07fd2c", func := "moat/moatlaw6.CspSources", spec := "cspSources", inPlace := ["internal/bytealg.IndexByteString", "internal/bytealg.IndexString"], unfollowed := true, recurses := true, named := ["unicode/utf8.first", "unicode/utf8.acceptRanges", "internal/bytealg.MaxLen", "moat/csp.ports", "strconv.ErrSyntax", "strconv.ErrRange", "internal/strconv.uint64pow10", "math/bits.deBruijn32tab", "math/bits.deBruijn64tab"], apart := false, laid := [("math/bits.deBruijn32tab", laid_math_bits_deBruijn32tab), ("math/bits.deBruijn64tab", laid_math_bits_deBruijn64tab), ("internal/strconv.uint64pow10", laid_internal_strconv_uint64pow10), ("unicode/utf8.acceptRanges", laid_unicode_utf8_acceptRanges), ("strconv.ErrRange", laid_strconv_ErrRange), ("strconv.ErrSyntax", laid_strconv_ErrSyntax), ("moat/csp.ports", laid_moat_csp_ports), ("unicode/utf8.first", laid_unicode_utf8_first)] }
def CspSourcesSaid : Prop := cspSourcesRow.holds Tryd.pinned (OpenSpec.ofChange cspSourcesSpec)

/-- ITS FALSE NEIGHBOUR: 'it returns false'. Refute it at one input. -/
def cspSourcesWrong : ChangeSpec := { name := "cspSources", fn := fun _ => fun
  | [d1, d2, d3, d4] => { results := [.lit (.bool false)], args := [d1, d2, d3, d4] }
  | _ => none }
def CspSourcesWrongFalsely : Prop := cspSourcesRow.holds Tryd.pinned (OpenSpec.ofChange cspSourcesWrong)

/-- 'moatlaw6.CspHosts': WHATEVER THE INPUT: true; the input reads as it did. -/
def cspHostsSpec : ChangeSpec := { name := "cspHosts", fn := fun _ => fun
  | [d1, d2, d3, d4, d5, d6, d7] => { results := [.lit (.bool true)], args := [d1, d2, d3, d4, d5, d6, d7] }
  | _ => none }
def cspHostsRow : OpenClaim := { program := "ytfmppmabnpkooaadoor", sum := "c4668c0f9ea95052e5390bccb2133a2ae180491b63077f4f6e8c9351df07fd2c", func := "moat/moatlaw6.CspHosts", spec := "cspHosts", inPlace := ["internal/bytealg.IndexByteString", "internal/bytealg.IndexString"], unfollowed := true, recurses := true, named := ["internal/bytealg.MaxLen", "unicode/utf8.first", "unicode/utf8.acceptRanges", "moat/csp.ports", "strconv.ErrSyntax", "strconv.ErrRange", "internal/strconv.uint64pow10", "math/bits.deBruijn32tab", "math/bits.deBruijn64tab"], apart := false, laid := [("math/bits.deBruijn32tab", laid_math_bits_deBruijn32tab), ("math/bits.deBruijn64tab", laid_math_bits_deBruijn64tab), ("internal/strconv.uint64pow10", laid_internal_strconv_uint64pow10), ("unicode/utf8.acceptRanges", laid_unicode_utf8_acceptRanges), ("strconv.ErrRange", laid_strconv_ErrRange), ("strconv.ErrSyntax", laid_strconv_ErrSyntax), ("moat/csp.ports", laid_moat_csp_ports), ("unicode/utf8.first", laid_unicode_utf8_first)] }
def CspHostsSaid : Prop := cspHostsRow.holds Tryd.pinned (OpenSpec.ofChange cspHostsSpec)

/-- ITS FALSE NEIGHBOUR: 'it returns false'. Refute it at one input. -/
def cspHostsWrong : ChangeSpec := { name := "cspHosts", fn := fun _ => fun
  | [d1, d2, d3, d4, d5, d6, d7] => { results := [.lit (.bool false)], args := [d1, d2, d3, d4, d5, d6, d7] }
  | _ => none }
def CspHostsWrongFalsely : Prop := cspHostsRow.holds Tryd.pinned (OpenSpec.ofChange cspHostsWrong)

/- THE SECOND FORM. 'bulk': how many values and letters a reading holds, each counted each time it is reached (what is shared counts as often as it is met; a slice's spare places count too). A statement '..UptoSaid' is the law's where the arguments, and the package variables that the reading takes, are together of bulk at most 1048576: NARROWER than '..Said'. Prove '..Said' where nothing that the law and all that it calls make is longer than what came in: it says more and counts as full. Else prove '..UptoSaid'. A law counts once. -/
mutual
def uptoBulk {H : Type} : DataW H → Nat
  | .lit (.string bytes) => bytes.length + 1
  | .lit _ => 1
  | .nil => 1
  | .ptr d => uptoBulk d + 1
  | .slice elems spare => uptoBulkAll elems + uptoBulkAll spare + 1
  | .agg parts => uptoBulkAll parts + 1
  | .iface _ d => uptoBulk d + 1
  | .map entries => uptoBulkEntries entries + 1
  | .held _ => 1
def uptoBulkAll {H : Type} : List (DataW H) → Nat
  | [] => 0
  | d :: r => uptoBulk d + uptoBulkAll r
def uptoBulkEntries {H : Type} : List (Lit × DataW H) → Nat
  | [] => 0
  | x :: r => uptoBulkEntry x + uptoBulkEntries r
def uptoBulkEntry {H : Type} : Lit × DataW H → Nat
  | (.string bytes, d) => bytes.length + uptoBulk d + 1
  | (_, d) => uptoBulk d + 1
 end
def uptoSmall : (H : Type) → List (DataW H) → Bool := fun _ ds => decide (uptoBulkAll ds ≤ 1048576)
def OpenSpec.upto (s : _root_.Go.ChangeSpec) : _root_.Go.OpenSpec := { _root_.Go.OpenSpec.ofChange s with cond := some uptoSmall }

/-- 'moatlaw3.FieldTells', WHERE WHAT IT READS IS OF BULK AT MOST 1048576: true; the input reads as it did. -/
def fieldTellsUptoRow : OpenClaim := { program := "ytfmppmabnpkooaadoor", sum := "c4668c0f9ea95052e5390bccb2133a2ae180491b63077f4f6e8c9351df07fd2c", func := "moat/moatlaw3.FieldTells", spec := "fieldTells", inPlace := ["internal/bytealg.IndexByteString", "internal/bytealg.IndexString"], unfollowed := true, recurses := true, named := ["unicode/utf8.first", "unicode/utf8.acceptRanges", "internal/bytealg.MaxLen"], apart := false, laid := [("unicode/utf8.acceptRanges", laid_unicode_utf8_acceptRanges), ("unicode/utf8.first", laid_unicode_utf8_first)], narrowed := true }
def FieldTellsUptoSaid : Prop := fieldTellsUptoRow.holds Tryd.pinned (OpenSpec.upto fieldTellsSpec)

/-- 'moatlaw3.FieldLists', WHERE WHAT IT READS IS OF BULK AT MOST 1048576: true; the input reads as it did. -/
def fieldListsUptoRow : OpenClaim := { program := "ytfmppmabnpkooaadoor", sum := "c4668c0f9ea95052e5390bccb2133a2ae180491b63077f4f6e8c9351df07fd2c", func := "moat/moatlaw3.FieldLists", spec := "fieldLists", inPlace := ["internal/bytealg.IndexByteString", "internal/bytealg.IndexString"], unfollowed := true, recurses := true, named := ["unicode/utf8.first", "unicode/utf8.acceptRanges", "internal/bytealg.MaxLen"], apart := false, laid := [("unicode/utf8.acceptRanges", laid_unicode_utf8_acceptRanges), ("unicode/utf8.first", laid_unicode_utf8_first)], narrowed := true }
def FieldListsUptoSaid : Prop := fieldListsUptoRow.holds Tryd.pinned (OpenSpec.upto fieldListsSpec)

/-- 'moatlaw3.FieldPairs', WHERE WHAT IT READS IS OF BULK AT MOST 1048576: true; the input reads as it did. -/
def fieldPairsUptoRow : OpenClaim := { program := "ytfmppmabnpkooaadoor", sum := "c4668c0f9ea95052e5390bccb2133a2ae180491b63077f4f6e8c9351df07fd2c", func := "moat/moatlaw3.FieldPairs", spec := "fieldPairs", inPlace := ["internal/bytealg.IndexByteString", "internal/bytealg.IndexString"], unfollowed := true, recurses := true, named := ["unicode/utf8.first", "unicode/utf8.acceptRanges", "internal/bytealg.MaxLen"], apart := false, laid := [("unicode/utf8.acceptRanges", laid_unicode_utf8_acceptRanges), ("unicode/utf8.first", laid_unicode_utf8_first)], narrowed := true }
def FieldPairsUptoSaid : Prop := fieldPairsUptoRow.holds Tryd.pinned (OpenSpec.upto fieldPairsSpec)

/-- 'moatlaw3.FieldTrims', WHERE WHAT IT READS IS OF BULK AT MOST 1048576: true; the input reads as it did. -/
def fieldTrimsUptoRow : OpenClaim := { program := "ytfmppmabnpkooaadoor", sum := "c4668c0f9ea95052e5390bccb2133a2ae180491b63077f4f6e8c9351df07fd2c", func := "moat/moatlaw3.FieldTrims", spec := "fieldTrims", inPlace := ["internal/bytealg.IndexByteString", "internal/bytealg.IndexString"], unfollowed := true, recurses := true, named := ["unicode/utf8.first", "unicode/utf8.acceptRanges", "internal/bytealg.MaxLen"], apart := false, laid := [("unicode/utf8.acceptRanges", laid_unicode_utf8_acceptRanges), ("unicode/utf8.first", laid_unicode_utf8_first)], narrowed := true }
def FieldTrimsUptoSaid : Prop := fieldTrimsUptoRow.holds Tryd.pinned (OpenSpec.upto fieldTrimsSpec)

/-- 'moatlaw7.CookieTells', WHERE WHAT IT READS IS OF BULK AT MOST 1048576: true; the input reads as it did. -/
def cookieTellsUptoRow : OpenClaim := { program := "ytfmppmabnpkooaadoor", sum := "c4668c0f9ea95052e5390bccb2133a2ae180491b63077f4f6e8c9351df07fd2c", func := "moat/moatlaw7.CookieTells", spec := "cookieTells", inPlace := ["internal/bytealg.IndexByteString", "internal/bytealg.IndexString", "internal/bytealg.CountString", "internal/abi.NoEscape", "internal/bytealg.MakeNoZero"], unfollowed := true, recurses := true, named := ["unicode/utf8.first", "unicode/utf8.acceptRanges", "internal/bytealg.MaxLen", "moat/cookie.sames"], apart := false, laid := [("unicode/utf8.acceptRanges", laid_unicode_utf8_acceptRanges), ("moat/cookie.sames", laid_moat_cookie_sames), ("unicode/utf8.first", laid_unicode_utf8_first)], narrowed := true }
def CookieTellsUptoSaid : Prop := cookieTellsUptoRow.holds Tryd.pinned (OpenSpec.upto cookieTellsSpec)

/-- 'moatlaw7.CookieRounds', WHERE WHAT IT READS IS OF BULK AT MOST 1048576: true; the input reads as it did. -/
def cookieRoundsUptoRow : OpenClaim := { program := "ytfmppmabnpkooaadoor", sum := "c4668c0f9ea95052e5390bccb2133a2ae180491b63077f4f6e8c9351df07fd2c", func := "moat/moatlaw7.CookieRounds", spec := "cookieRounds", inPlace := ["internal/abi.NoEscape", "internal/bytealg.MakeNoZero", "internal/bytealg.IndexByteString", "internal/bytealg.IndexString", "internal/bytealg.CountString"], unfollowed := true, recurses := true, named := ["moat/cookie.sames", "unicode/utf8.first", "unicode/utf8.acceptRanges", "internal/bytealg.MaxLen"], apart := false, laid := [("unicode/utf8.acceptRanges", laid_unicode_utf8_acceptRanges), ("moat/cookie.sames", laid_moat_cookie_sames), ("unicode/utf8.first", laid_unicode_utf8_first)], narrowed := true }
def CookieRoundsUptoSaid : Prop := cookieRoundsUptoRow.holds Tryd.pinned (OpenSpec.upto cookieRoundsSpec)

/-- 'moatlaw7.CookieBad', WHERE WHAT IT READS IS OF BULK AT MOST 1048576: true; the input reads as it did. -/
def cookieBadUptoRow : OpenClaim := { program := "ytfmppmabnpkooaadoor", sum := "c4668c0f9ea95052e5390bccb2133a2ae180491b63077f4f6e8c9351df07fd2c", func := "moat/moatlaw7.CookieBad", spec := "cookieBad", inPlace := ["internal/bytealg.IndexByteString", "internal/bytealg.IndexString", "internal/bytealg.CountString", "internal/abi.NoEscape", "internal/bytealg.MakeNoZero"], unfollowed := true, recurses := true, named := ["unicode/utf8.first", "unicode/utf8.acceptRanges", "internal/bytealg.MaxLen", "moat/cookie.sames"], apart := false, laid := [("unicode/utf8.acceptRanges", laid_unicode_utf8_acceptRanges), ("moat/cookie.sames", laid_moat_cookie_sames), ("unicode/utf8.first", laid_unicode_utf8_first)], narrowed := true }
def CookieBadUptoSaid : Prop := cookieBadUptoRow.holds Tryd.pinned (OpenSpec.upto cookieBadSpec)

/-- 'moatlaw1.UrlTells', WHERE WHAT IT READS IS OF BULK AT MOST 1048576: true; the input reads as it did. -/
def urlTellsUptoRow : OpenClaim := { program := "ytfmppmabnpkooaadoor", sum := "c4668c0f9ea95052e5390bccb2133a2ae180491b63077f4f6e8c9351df07fd2c", func := "moat/moatlaw1.UrlTells", spec := "urlTells", inPlace := ["internal/bytealg.IndexByteString", "internal/bytealg.IndexString"], unfollowed := true, recurses := true, named := ["moat/url.schemes", "internal/bytealg.MaxLen", "strconv.ErrSyntax", "strconv.ErrRange", "internal/strconv.uint64pow10", "math/bits.deBruijn32tab", "math/bits.deBruijn64tab", "unicode/utf8.first", "unicode/utf8.acceptRanges"], apart := false, laid := [("math/bits.deBruijn32tab", laid_math_bits_deBruijn32tab), ("math/bits.deBruijn64tab", laid_math_bits_deBruijn64tab), ("internal/strconv.uint64pow10", laid_internal_strconv_uint64pow10), ("unicode/utf8.acceptRanges", laid_unicode_utf8_acceptRanges), ("strconv.ErrRange", laid_strconv_ErrRange), ("strconv.ErrSyntax", laid_strconv_ErrSyntax), ("moat/url.schemes", laid_moat_url_schemes), ("unicode/utf8.first", laid_unicode_utf8_first)], narrowed := true }
def UrlTellsUptoSaid : Prop := urlTellsUptoRow.holds Tryd.pinned (OpenSpec.upto urlTellsSpec)

/-- 'moatlaw1.UrlTexts', WHERE WHAT IT READS IS OF BULK AT MOST 1048576: true; the input reads as it did. -/
def urlTextsUptoRow : OpenClaim := { program := "ytfmppmabnpkooaadoor", sum := "c4668c0f9ea95052e5390bccb2133a2ae180491b63077f4f6e8c9351df07fd2c", func := "moat/moatlaw1.UrlTexts", spec := "urlTexts", inPlace := ["internal/bytealg.IndexByteString", "internal/bytealg.IndexString"], unfollowed := true, recurses := true, named := ["moat/url.schemes", "internal/bytealg.MaxLen", "strconv.ErrSyntax", "strconv.ErrRange", "internal/strconv.uint64pow10", "math/bits.deBruijn32tab", "math/bits.deBruijn64tab", "unicode/utf8.first", "unicode/utf8.acceptRanges"], apart := false, laid := [("math/bits.deBruijn32tab", laid_math_bits_deBruijn32tab), ("math/bits.deBruijn64tab", laid_math_bits_deBruijn64tab), ("internal/strconv.uint64pow10", laid_internal_strconv_uint64pow10), ("unicode/utf8.acceptRanges", laid_unicode_utf8_acceptRanges), ("strconv.ErrRange", laid_strconv_ErrRange), ("strconv.ErrSyntax", laid_strconv_ErrSyntax), ("moat/url.schemes", laid_moat_url_schemes), ("unicode/utf8.first", laid_unicode_utf8_first)], narrowed := true }
def UrlTextsUptoSaid : Prop := urlTextsUptoRow.holds Tryd.pinned (OpenSpec.upto urlTextsSpec)

/-- 'moatlaw1.UrlPorts', WHERE WHAT IT READS IS OF BULK AT MOST 1048576: true; the input reads as it did. -/
def urlPortsUptoRow : OpenClaim := { program := "ytfmppmabnpkooaadoor", sum := "c4668c0f9ea95052e5390bccb2133a2ae180491b63077f4f6e8c9351df07fd2c", func := "moat/moatlaw1.UrlPorts", spec := "urlPorts", inPlace := ["internal/bytealg.IndexByteString", "internal/bytealg.IndexString"], unfollowed := true, recurses := true, named := ["moat/url.schemes", "internal/bytealg.MaxLen", "strconv.ErrSyntax", "strconv.ErrRange", "internal/strconv.uint64pow10", "math/bits.deBruijn32tab", "math/bits.deBruijn64tab", "unicode/utf8.first", "unicode/utf8.acceptRanges"], apart := false, laid := [("math/bits.deBruijn32tab", laid_math_bits_deBruijn32tab), ("math/bits.deBruijn64tab", laid_math_bits_deBruijn64tab), ("internal/strconv.uint64pow10", laid_internal_strconv_uint64pow10), ("unicode/utf8.acceptRanges", laid_unicode_utf8_acceptRanges), ("strconv.ErrRange", laid_strconv_ErrRange), ("strconv.ErrSyntax", laid_strconv_ErrSyntax), ("moat/url.schemes", laid_moat_url_schemes), ("unicode/utf8.first", laid_unicode_utf8_first)], narrowed := true }
def UrlPortsUptoSaid : Prop := urlPortsUptoRow.holds Tryd.pinned (OpenSpec.upto urlPortsSpec)

/-- 'moatlaw1.UrlHosts', WHERE WHAT IT READS IS OF BULK AT MOST 1048576: true; the input reads as it did. -/
def urlHostsUptoRow : OpenClaim := { program := "ytfmppmabnpkooaadoor", sum := "c4668c0f9ea95052e5390bccb2133a2ae180491b63077f4f6e8c9351df07fd2c", func := "moat/moatlaw1.UrlHosts", spec := "urlHosts", inPlace := ["internal/bytealg.IndexByteString", "internal/bytealg.IndexString"], unfollowed := true, recurses := true, named := ["moat/url.schemes", "internal/bytealg.MaxLen", "strconv.ErrSyntax", "strconv.ErrRange", "internal/strconv.uint64pow10", "math/bits.deBruijn32tab", "math/bits.deBruijn64tab", "unicode/utf8.first", "unicode/utf8.acceptRanges"], apart := false, laid := [("math/bits.deBruijn32tab", laid_math_bits_deBruijn32tab), ("math/bits.deBruijn64tab", laid_math_bits_deBruijn64tab), ("internal/strconv.uint64pow10", laid_internal_strconv_uint64pow10), ("unicode/utf8.acceptRanges", laid_unicode_utf8_acceptRanges), ("strconv.ErrRange", laid_strconv_ErrRange), ("strconv.ErrSyntax", laid_strconv_ErrSyntax), ("moat/url.schemes", laid_moat_url_schemes), ("unicode/utf8.first", laid_unicode_utf8_first)], narrowed := true }
def UrlHostsUptoSaid : Prop := urlHostsUptoRow.holds Tryd.pinned (OpenSpec.upto urlHostsSpec)

/-- 'moatlaw1.UrlPaths', WHERE WHAT IT READS IS OF BULK AT MOST 1048576: true; the input reads as it did. -/
def urlPathsUptoRow : OpenClaim := { program := "ytfmppmabnpkooaadoor", sum := "c4668c0f9ea95052e5390bccb2133a2ae180491b63077f4f6e8c9351df07fd2c", func := "moat/moatlaw1.UrlPaths", spec := "urlPaths", inPlace := ["internal/bytealg.IndexByteString", "internal/bytealg.IndexString"], unfollowed := true, recurses := true, named := ["moat/url.schemes", "internal/bytealg.MaxLen", "strconv.ErrSyntax", "strconv.ErrRange", "internal/strconv.uint64pow10", "math/bits.deBruijn32tab", "math/bits.deBruijn64tab", "unicode/utf8.first", "unicode/utf8.acceptRanges"], apart := false, laid := [("math/bits.deBruijn32tab", laid_math_bits_deBruijn32tab), ("math/bits.deBruijn64tab", laid_math_bits_deBruijn64tab), ("internal/strconv.uint64pow10", laid_internal_strconv_uint64pow10), ("unicode/utf8.acceptRanges", laid_unicode_utf8_acceptRanges), ("strconv.ErrRange", laid_strconv_ErrRange), ("strconv.ErrSyntax", laid_strconv_ErrSyntax), ("moat/url.schemes", laid_moat_url_schemes), ("unicode/utf8.first", laid_unicode_utf8_first)], narrowed := true }
def UrlPathsUptoSaid : Prop := urlPathsUptoRow.holds Tryd.pinned (OpenSpec.upto urlPathsSpec)

/-- 'moatlaw6.CspSources', WHERE WHAT IT READS IS OF BULK AT MOST 1048576: true; the input reads as it did. -/
def cspSourcesUptoRow : OpenClaim := { program := "ytfmppmabnpkooaadoor", sum := "c4668c0f9ea95052e5390bccb2133a2ae180491b63077f4f6e8c9351df07fd2c", func := "moat/moatlaw6.CspSources", spec := "cspSources", inPlace := ["internal/bytealg.IndexByteString", "internal/bytealg.IndexString"], unfollowed := true, recurses := true, named := ["unicode/utf8.first", "unicode/utf8.acceptRanges", "internal/bytealg.MaxLen", "moat/csp.ports", "strconv.ErrSyntax", "strconv.ErrRange", "internal/strconv.uint64pow10", "math/bits.deBruijn32tab", "math/bits.deBruijn64tab"], apart := false, laid := [("math/bits.deBruijn32tab", laid_math_bits_deBruijn32tab), ("math/bits.deBruijn64tab", laid_math_bits_deBruijn64tab), ("internal/strconv.uint64pow10", laid_internal_strconv_uint64pow10), ("unicode/utf8.acceptRanges", laid_unicode_utf8_acceptRanges), ("strconv.ErrRange", laid_strconv_ErrRange), ("strconv.ErrSyntax", laid_strconv_ErrSyntax), ("moat/csp.ports", laid_moat_csp_ports), ("unicode/utf8.first", laid_unicode_utf8_first)], narrowed := true }
def CspSourcesUptoSaid : Prop := cspSourcesUptoRow.holds Tryd.pinned (OpenSpec.upto cspSourcesSpec)

/-- 'moatlaw6.CspHosts', WHERE WHAT IT READS IS OF BULK AT MOST 1048576: true; the input reads as it did. -/
def cspHostsUptoRow : OpenClaim := { program := "ytfmppmabnpkooaadoor", sum := "c4668c0f9ea95052e5390bccb2133a2ae180491b63077f4f6e8c9351df07fd2c", func := "moat/moatlaw6.CspHosts", spec := "cspHosts", inPlace := ["internal/bytealg.IndexByteString", "internal/bytealg.IndexString"], unfollowed := true, recurses := true, named := ["internal/bytealg.MaxLen", "unicode/utf8.first", "unicode/utf8.acceptRanges", "moat/csp.ports", "strconv.ErrSyntax", "strconv.ErrRange", "internal/strconv.uint64pow10", "math/bits.deBruijn32tab", "math/bits.deBruijn64tab"], apart := false, laid := [("math/bits.deBruijn32tab", laid_math_bits_deBruijn32tab), ("math/bits.deBruijn64tab", laid_math_bits_deBruijn64tab), ("internal/strconv.uint64pow10", laid_internal_strconv_uint64pow10), ("unicode/utf8.acceptRanges", laid_unicode_utf8_acceptRanges), ("strconv.ErrRange", laid_strconv_ErrRange), ("strconv.ErrSyntax", laid_strconv_ErrSyntax), ("moat/csp.ports", laid_moat_csp_ports), ("unicode/utf8.first", laid_unicode_utf8_first)], narrowed := true }
def CspHostsUptoSaid : Prop := cspHostsUptoRow.holds Tryd.pinned (OpenSpec.upto cspHostsSpec)

end Rows
end Go.Proofs.YtfmppmabnpkooaaDoor
