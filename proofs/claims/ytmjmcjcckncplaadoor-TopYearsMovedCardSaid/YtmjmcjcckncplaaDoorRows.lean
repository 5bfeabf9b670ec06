/-
  NARROWER THAN 'FOR EVERY INPUT', by the rows' own cells (each row's printed sentence says how): TopRulesNegated: loops, laid · TopRestsWritten: loops, laid · TopComparesWritten: loops, laid · TopLogicDenied: loops, laid · TopLogicCounted: loops, laid · TopTruthsAsked: loops, laid · TopLogicAbsorbed: loops, laid · TopNumbersParted: loops, laid · TopYearsMoved: loops, laid · TopYearsWritten: loops, laid · TopRulesTurned: loops, laid · TopRulesDistributed: loops, laid.
  DERIVED. THE GIVEN ROWS OF THIS SEAT. 12 by the template 'for every input the law returns true; each argument reads behind the call as it read before'; 0 by the template 'total and deterministic' (their statements: YtmjmcjcckncplaaDoorTotals.lean).
  GIVEN WITH THE SEED: the statements are not yours to turn. If you find one false, say at which input.
  Laid BY PROGRAM, IN A SANDBOX (cutbox-rows.mjs): the forced cells as the released guide's own fill.sh prints them over the translation 30cd231447e3092d… (all of the seat's roots in one cut). By AI agents, Wed Nov 11 2026. No macro, syntax, notation, axiom, sorry.
-/
import Derived.Test.YtmjmcjcckncplaaDoorChecked
import GoSem.Claim
import GoSem.ClaimJoined
import GoSem.ClaimMapViews
import Derived.JoinedTies
import Derived.KernelRfl
namespace Go.Proofs.YtmjmcjcckncplaaDoor
/- THE CELL 'sum', in the pinned program and in every row, IS THE sha256 OF THE DUMP (.gsa) THAT YtmjmcjcckncplaaDoorProg.lean LOADS. Nothing in Lean hashes anything: it is a label: what it is worth is what the hold of that sum in a sandbox is worth. -/
noncomputable def Tryd.pinned : Pinned := { name := "ytmjmcjcckncplaadoor", sum := "30cd231447e3092df61c1eb26895b249fcb571b3657af2ca0de561f7d61eb2f8", checked := Tryd.checked }
namespace Rows
def none {H : Type} : Left H := { results := [], args := [] }

/- WHAT THE LISTED PACKAGE-LEVEL VARIABLES READ AS WHEN THE CALL BEGINS. Each datum BY PROGRAM (the guide's laid-datum.mjs) off the statement by which the dump's own 'gosem.cut.vars' lays the variable. In a bare row this is a premise. The card (YtmjmcjcckncplaaDoorCards.lean) ties it to the program's text. -/
def laid_math_bits_deBruijn32tab {H : Type} : DataW H := .agg [.lit (.int .u8 0), .lit (.int .u8 1), .lit (.int .u8 28), .lit (.int .u8 2), .lit (.int .u8 29), .lit (.int .u8 14), .lit (.int .u8 24), .lit (.int .u8 3), .lit (.int .u8 30), .lit (.int .u8 22), .lit (.int .u8 20), .lit (.int .u8 15), .lit (.int .u8 25), .lit (.int .u8 17), .lit (.int .u8 4), .lit (.int .u8 8), .lit (.int .u8 31), .lit (.int .u8 27), .lit (.int .u8 13), .lit (.int .u8 23), .lit (.int .u8 21), .lit (.int .u8 19), .lit (.int .u8 16), .lit (.int .u8 7), .lit (.int .u8 26), .lit (.int .u8 12), .lit (.int .u8 18), .lit (.int .u8 6), .lit (.int .u8 11), .lit (.int .u8 5), .lit (.int .u8 10), .lit (.int .u8 9)]
def laid_math_bits_deBruijn64tab {H : Type} : DataW H := .agg [.lit (.int .u8 0), .lit (.int .u8 1), .lit (.int .u8 56), .lit (.int .u8 2), .lit (.int .u8 57), .lit (.int .u8 49), .lit (.int .u8 28), .lit (.int .u8 3), .lit (.int .u8 61), .lit (.int .u8 58), .lit (.int .u8 42), .lit (.int .u8 50), .lit (.int .u8 38), .lit (.int .u8 29), .lit (.int .u8 17), .lit (.int .u8 4), .lit (.int .u8 62), .lit (.int .u8 47), .lit (.int .u8 59), .lit (.int .u8 36), .lit (.int .u8 45), .lit (.int .u8 43), .lit (.int .u8 51), .lit (.int .u8 22), .lit (.int .u8 53), .lit (.int .u8 39), .lit (.int .u8 33), .lit (.int .u8 30), .lit (.int .u8 24), .lit (.int .u8 18), .lit (.int .u8 12), .lit (.int .u8 5), .lit (.int .u8 63), .lit (.int .u8 55), .lit (.int .u8 48), .lit (.int .u8 27), .lit (.int .u8 60), .lit (.int .u8 41), .lit (.int .u8 37), .lit (.int .u8 16), .lit (.int .u8 46), .lit (.int .u8 35), .lit (.int .u8 44), .lit (.int .u8 21), .lit (.int .u8 52), .lit (.int .u8 32), .lit (.int .u8 23), .lit (.int .u8 11), .lit (.int .u8 54), .lit (.int .u8 26), .lit (.int .u8 40), .lit (.int .u8 15), .lit (.int .u8 34), .lit (.int .u8 20), .lit (.int .u8 31), .lit (.int .u8 10), .lit (.int .u8 25), .lit (.int .u8 14), .lit (.int .u8 19), .lit (.int .u8 9), .lit (.int .u8 13), .lit (.int .u8 8), .lit (.int .u8 7), .lit (.int .u8 6)]
def laid_internal_strconv_uint64pow10 {H : Type} : DataW H := .agg [.lit (.int .u64 1), .lit (.int .u64 10), .lit (.int .u64 100), .lit (.int .u64 1000), .lit (.int .u64 10000), .lit (.int .u64 100000), .lit (.int .u64 1000000), .lit (.int .u64 10000000), .lit (.int .u64 100000000), .lit (.int .u64 1000000000), .lit (.int .u64 10000000000), .lit (.int .u64 100000000000), .lit (.int .u64 1000000000000), .lit (.int .u64 10000000000000), .lit (.int .u64 100000000000000), .lit (.int .u64 1000000000000000), .lit (.int .u64 10000000000000000), .lit (.int .u64 100000000000000000), .lit (.int .u64 1000000000000000000), .lit (.int .u64 10000000000000000000)]
def laid_strconv_ErrRange {H : Type} : DataW H := .iface "*errors.errorString" (.ptr (.agg [.lit (.string [118, 97, 108, 117, 101, 32, 111, 117, 116, 32, 111, 102, 32, 114, 97, 110, 103, 101])]))
def laid_strconv_ErrSyntax {H : Type} : DataW H := .iface "*errors.errorString" (.ptr (.agg [.lit (.string [105, 110, 118, 97, 108, 105, 100, 32, 115, 121, 110, 116, 97, 120])]))
def laid_ephemeris_rule_kids {H : Type} : DataW H := .agg [.lit (.int .i64 0), .lit (.int .i64 0), .lit (.int .i64 0), .lit (.int .i64 1), .lit (.int .i64 2), .lit (.int .i64 2), .lit (.int .i64 2), .lit (.int .i64 2), .lit (.int .i64 2), .lit (.int .i64 2), .lit (.int .i64 2), .lit (.int .i64 1), .lit (.int .i64 2), .lit (.int .i64 2)]
def laid_ephemeris_rule_levels {H : Type} : DataW H := .agg [.lit (.int .i64 0), .lit (.int .i64 8), .lit (.int .i64 8), .lit (.int .i64 7), .lit (.int .i64 5), .lit (.int .i64 5), .lit (.int .i64 6), .lit (.int .i64 6), .lit (.int .i64 6), .lit (.int .i64 4), .lit (.int .i64 4), .lit (.int .i64 3), .lit (.int .i64 2), .lit (.int .i64 1)]
def laid_ephemeris_rule_signs {H : Type} : DataW H := .agg [.lit (.string []), .lit (.string []), .lit (.string []), .lit (.string []), .lit (.string [32, 43, 32]), .lit (.string [32, 45, 32]), .lit (.string [32, 42, 32]), .lit (.string [32, 47, 32]), .lit (.string [32, 37, 32]), .lit (.string [32, 60, 32]), .lit (.string [32, 61, 32]), .lit (.string []), .lit (.string [32, 97, 110, 100, 32]), .lit (.string [32, 111, 114, 32])]
def laid_ephemeris_rule_symbols {H : Type} : DataW H := .agg [.nil, .slice [.lit (.string [111, 114])] [], .slice [.lit (.string [97, 110, 100])] [], .nil, .slice [.lit (.string [60]), .lit (.string [61])] [], .slice [.lit (.string [43]), .lit (.string [45])] [], .slice [.lit (.string [42]), .lit (.string [47]), .lit (.string [37])] [], .nil]
def laid_ephemeris_rule_found {H : Type} : DataW H := .agg [.nil, .slice [.lit (.int .i64 13)] [], .slice [.lit (.int .i64 12)] [], .nil, .slice [.lit (.int .i64 9), .lit (.int .i64 10)] [], .slice [.lit (.int .i64 4), .lit (.int .i64 5)] [], .slice [.lit (.int .i64 6), .lit (.int .i64 7), .lit (.int .i64 8)] [], .nil]

/-- 'ephemeristop.TopRulesNegated': WHATEVER THE INPUT: true; the input reads as it did. -/
def topRulesNegatedSpec : ChangeSpec := { name := "topRulesNegated", fn := fun _ => fun
  | [d1, d2, d3, d4] => { results := [.lit (.bool true)], args := [d1, d2, d3, d4] }
  | _ => none }
def topRulesNegatedRow : OpenClaim := { program := "ytmjmcjcckncplaadoor", sum := "30cd231447e3092df61c1eb26895b249fcb571b3657af2ca0de561f7d61eb2f8", func := "ephemeris/ephemeristop.TopRulesNegated", spec := "topRulesNegated", inPlace := ["internal/abi.NoEscape", "internal/bytealg.IndexByteString", "internal/bytealg.IndexString"], unfollowed := true, recurses := true, named := ["ephemeris/rule.kids", "internal/strconv.uint64pow10", "math/bits.deBruijn32tab", "math/bits.deBruijn64tab", "ephemeris/rule.levels", "ephemeris/rule.signs", "internal/bytealg.MaxLen", "strconv.ErrSyntax", "strconv.ErrRange", "ephemeris/rule.symbols", "ephemeris/rule.found"], loops := true, apart := false, laid := [("math/bits.deBruijn32tab", laid_math_bits_deBruijn32tab), ("math/bits.deBruijn64tab", laid_math_bits_deBruijn64tab), ("internal/strconv.uint64pow10", laid_internal_strconv_uint64pow10), ("strconv.ErrRange", laid_strconv_ErrRange), ("strconv.ErrSyntax", laid_strconv_ErrSyntax), ("ephemeris/rule.kids", laid_ephemeris_rule_kids), ("ephemeris/rule.levels", laid_ephemeris_rule_levels), ("ephemeris/rule.signs", laid_ephemeris_rule_signs), ("ephemeris/rule.symbols", laid_ephemeris_rule_symbols), ("ephemeris/rule.found", laid_ephemeris_rule_found)] }
def TopRulesNegatedSaid : Prop := topRulesNegatedRow.holds Tryd.pinned (OpenSpec.ofChange topRulesNegatedSpec)

/-- ITS FALSE NEIGHBOUR: 'it returns false'. Refute it at one input. -/
def topRulesNegatedWrong : ChangeSpec := { name := "topRulesNegated", fn := fun _ => fun
  | [d1, d2, d3, d4] => { results := [.lit (.bool false)], args := [d1, d2, d3, d4] }
  | _ => none }
def TopRulesNegatedWrongFalsely : Prop := topRulesNegatedRow.holds Tryd.pinned (OpenSpec.ofChange topRulesNegatedWrong)

/-- 'ephemeristop.TopRestsWritten': WHATEVER THE INPUT: true; the input reads as it did. -/
def topRestsWrittenSpec : ChangeSpec := { name := "topRestsWritten", fn := fun _ => fun
  | [d1, d2, d3] => { results := [.lit (.bool true)], args := [d1, d2, d3] }
  | _ => none }
def topRestsWrittenRow : OpenClaim := { program := "ytmjmcjcckncplaadoor", sum := "30cd231447e3092df61c1eb26895b249fcb571b3657af2ca0de561f7d61eb2f8", func := "ephemeris/ephemeristop.TopRestsWritten", spec := "topRestsWritten", inPlace := ["internal/abi.NoEscape", "internal/bytealg.IndexByteString", "internal/bytealg.IndexString"], unfollowed := true, recurses := true, named := ["ephemeris/rule.kids", "internal/strconv.uint64pow10", "math/bits.deBruijn32tab", "math/bits.deBruijn64tab", "ephemeris/rule.levels", "ephemeris/rule.signs", "internal/bytealg.MaxLen", "strconv.ErrSyntax", "strconv.ErrRange", "ephemeris/rule.symbols", "ephemeris/rule.found"], loops := true, apart := false, laid := [("math/bits.deBruijn32tab", laid_math_bits_deBruijn32tab), ("math/bits.deBruijn64tab", laid_math_bits_deBruijn64tab), ("internal/strconv.uint64pow10", laid_internal_strconv_uint64pow10), ("strconv.ErrRange", laid_strconv_ErrRange), ("strconv.ErrSyntax", laid_strconv_ErrSyntax), ("ephemeris/rule.kids", laid_ephemeris_rule_kids), ("ephemeris/rule.levels", laid_ephemeris_rule_levels), ("ephemeris/rule.signs", laid_ephemeris_rule_signs), ("ephemeris/rule.symbols", laid_ephemeris_rule_symbols), ("ephemeris/rule.found", laid_ephemeris_rule_found)] }
def TopRestsWrittenSaid : Prop := topRestsWrittenRow.holds Tryd.pinned (OpenSpec.ofChange topRestsWrittenSpec)

/-- ITS FALSE NEIGHBOUR: 'it returns false'. Refute it at one input. -/
def topRestsWrittenWrong : ChangeSpec := { name := "topRestsWritten", fn := fun _ => fun
  | [d1, d2, d3] => { results := [.lit (.bool false)], args := [d1, d2, d3] }
  | _ => none }
def TopRestsWrittenWrongFalsely : Prop := topRestsWrittenRow.holds Tryd.pinned (OpenSpec.ofChange topRestsWrittenWrong)

/-- 'ephemeristop.TopComparesWritten': WHATEVER THE INPUT: true; the input reads as it did. -/
def topComparesWrittenSpec : ChangeSpec := { name := "topComparesWritten", fn := fun _ => fun
  | [d1, d2, d3, d4] => { results := [.lit (.bool true)], args := [d1, d2, d3, d4] }
  | _ => none }
def topComparesWrittenRow : OpenClaim := { program := "ytmjmcjcckncplaadoor", sum := "30cd231447e3092df61c1eb26895b249fcb571b3657af2ca0de561f7d61eb2f8", func := "ephemeris/ephemeristop.TopComparesWritten", spec := "topComparesWritten", inPlace := ["internal/abi.NoEscape", "internal/bytealg.IndexByteString", "internal/bytealg.IndexString"], unfollowed := true, recurses := true, named := ["ephemeris/rule.kids", "internal/strconv.uint64pow10", "math/bits.deBruijn32tab", "math/bits.deBruijn64tab", "ephemeris/rule.levels", "ephemeris/rule.signs", "internal/bytealg.MaxLen", "strconv.ErrSyntax", "strconv.ErrRange", "ephemeris/rule.symbols", "ephemeris/rule.found"], loops := true, apart := false, laid := [("math/bits.deBruijn32tab", laid_math_bits_deBruijn32tab), ("math/bits.deBruijn64tab", laid_math_bits_deBruijn64tab), ("internal/strconv.uint64pow10", laid_internal_strconv_uint64pow10), ("strconv.ErrRange", laid_strconv_ErrRange), ("strconv.ErrSyntax", laid_strconv_ErrSyntax), ("ephemeris/rule.kids", laid_ephemeris_rule_kids), ("ephemeris/rule.levels", laid_ephemeris_rule_levels), ("ephemeris/rule.signs", laid_ephemeris_rule_signs), ("ephemeris/rule.symbols", laid_ephemeris_rule_symbols), ("ephemeris/rule.found", laid_ephemeris_rule_found)] }
def TopComparesWrittenSaid : Prop := topComparesWrittenRow.holds Tryd.pinned (OpenSpec.ofChange topComparesWrittenSpec)

/-- ITS FALSE NEIGHBOUR: 'it returns false'. Refute it at one input. -/
def topComparesWrittenWrong : ChangeSpec := { name := "topComparesWritten", fn := fun _ => fun
  | [d1, d2, d3, d4] => { results := [.lit (.bool false)], args := [d1, d2, d3, d4] }
  | _ => none }
def TopComparesWrittenWrongFalsely : Prop := topComparesWrittenRow.holds Tryd.pinned (OpenSpec.ofChange topComparesWrittenWrong)

/-- 'ephemeristop.TopLogicDenied': WHATEVER THE INPUT: true; the input reads as it did. -/
def topLogicDeniedSpec : ChangeSpec := { name := "topLogicDenied", fn := fun _ => fun
  | [d1, d2, d3] => { results := [.lit (.bool true)], args := [d1, d2, d3] }
  | _ => none }
def topLogicDeniedRow : OpenClaim := { program := "ytmjmcjcckncplaadoor", sum := "30cd231447e3092df61c1eb26895b249fcb571b3657af2ca0de561f7d61eb2f8", func := "ephemeris/ephemeristop.TopLogicDenied", spec := "topLogicDenied", inPlace := ["internal/abi.NoEscape", "internal/bytealg.IndexByteString", "internal/bytealg.IndexString"], unfollowed := true, recurses := true, named := ["ephemeris/rule.kids", "internal/strconv.uint64pow10", "math/bits.deBruijn32tab", "math/bits.deBruijn64tab", "ephemeris/rule.levels", "ephemeris/rule.signs", "internal/bytealg.MaxLen", "strconv.ErrSyntax", "strconv.ErrRange", "ephemeris/rule.symbols", "ephemeris/rule.found"], loops := true, apart := false, laid := [("math/bits.deBruijn32tab", laid_math_bits_deBruijn32tab), ("math/bits.deBruijn64tab", laid_math_bits_deBruijn64tab), ("internal/strconv.uint64pow10", laid_internal_strconv_uint64pow10), ("strconv.ErrRange", laid_strconv_ErrRange), ("strconv.ErrSyntax", laid_strconv_ErrSyntax), ("ephemeris/rule.kids", laid_ephemeris_rule_kids), ("ephemeris/rule.levels", laid_ephemeris_rule_levels), ("ephemeris/rule.signs", laid_ephemeris_rule_signs), ("ephemeris/rule.symbols", laid_ephemeris_rule_symbols), ("ephemeris/rule.found", laid_ephemeris_rule_found)] }
def TopLogicDeniedSaid : Prop := topLogicDeniedRow.holds Tryd.pinned (OpenSpec.ofChange topLogicDeniedSpec)

/-- ITS FALSE NEIGHBOUR: 'it returns false'. Refute it at one input. -/
def topLogicDeniedWrong : ChangeSpec := { name := "topLogicDenied", fn := fun _ => fun
  | [d1, d2, d3] => { results := [.lit (.bool false)], args := [d1, d2, d3] }
  | _ => none }
def TopLogicDeniedWrongFalsely : Prop := topLogicDeniedRow.holds Tryd.pinned (OpenSpec.ofChange topLogicDeniedWrong)

/-- 'ephemeristop.TopLogicCounted': WHATEVER THE INPUT: true; the input reads as it did. -/
def topLogicCountedSpec : ChangeSpec := { name := "topLogicCounted", fn := fun _ => fun
  | [d1, d2, d3] => { results := [.lit (.bool true)], args := [d1, d2, d3] }
  | _ => none }
def topLogicCountedRow : OpenClaim := { program := "ytmjmcjcckncplaadoor", sum := "30cd231447e3092df61c1eb26895b249fcb571b3657af2ca0de561f7d61eb2f8", func := "ephemeris/ephemeristop.TopLogicCounted", spec := "topLogicCounted", inPlace := ["internal/abi.NoEscape", "internal/bytealg.IndexByteString", "internal/bytealg.IndexString"], unfollowed := true, recurses := true, named := ["ephemeris/rule.kids", "internal/strconv.uint64pow10", "math/bits.deBruijn32tab", "math/bits.deBruijn64tab", "ephemeris/rule.levels", "ephemeris/rule.signs", "internal/bytealg.MaxLen", "strconv.ErrSyntax", "strconv.ErrRange", "ephemeris/rule.symbols", "ephemeris/rule.found"], loops := true, apart := false, laid := [("math/bits.deBruijn32tab", laid_math_bits_deBruijn32tab), ("math/bits.deBruijn64tab", laid_math_bits_deBruijn64tab), ("internal/strconv.uint64pow10", laid_internal_strconv_uint64pow10), ("strconv.ErrRange", laid_strconv_ErrRange), ("strconv.ErrSyntax", laid_strconv_ErrSyntax), ("ephemeris/rule.kids", laid_ephemeris_rule_kids), ("ephemeris/rule.levels", laid_ephemeris_rule_levels), ("ephemeris/rule.signs", laid_ephemeris_rule_signs), ("ephemeris/rule.symbols", laid_ephemeris_rule_symbols), ("ephemeris/rule.found", laid_ephemeris_rule_found)] }
def TopLogicCountedSaid : Prop := topLogicCountedRow.holds Tryd.pinned (OpenSpec.ofChange topLogicCountedSpec)

/-- ITS FALSE NEIGHBOUR: 'it returns false'. Refute it at one input. -/
def topLogicCountedWrong : ChangeSpec := { name := "topLogicCounted", fn := fun _ => fun
  | [d1, d2, d3] => { results := [.lit (.bool false)], args := [d1, d2, d3] }
  | _ => none }
def TopLogicCountedWrongFalsely : Prop := topLogicCountedRow.holds Tryd.pinned (OpenSpec.ofChange topLogicCountedWrong)

/-- 'ephemeristop.TopTruthsAsked': WHATEVER THE INPUT: true; the input reads as it did. -/
def topTruthsAskedSpec : ChangeSpec := { name := "topTruthsAsked", fn := fun _ => fun
  | [d1, d2, d3, d4] => { results := [.lit (.bool true)], args := [d1, d2, d3, d4] }
  | _ => none }
def topTruthsAskedRow : OpenClaim := { program := "ytmjmcjcckncplaadoor", sum := "30cd231447e3092df61c1eb26895b249fcb571b3657af2ca0de561f7d61eb2f8", func := "ephemeris/ephemeristop.TopTruthsAsked", spec := "topTruthsAsked", inPlace := ["internal/abi.NoEscape", "internal/bytealg.IndexByteString", "internal/bytealg.IndexString"], unfollowed := true, recurses := true, named := ["ephemeris/rule.kids", "internal/strconv.uint64pow10", "math/bits.deBruijn32tab", "math/bits.deBruijn64tab", "ephemeris/rule.levels", "ephemeris/rule.signs", "internal/bytealg.MaxLen", "strconv.ErrSyntax", "strconv.ErrRange", "ephemeris/rule.symbols", "ephemeris/rule.found"], loops := true, apart := false, laid := [("math/bits.deBruijn32tab", laid_math_bits_deBruijn32tab), ("math/bits.deBruijn64tab", laid_math_bits_deBruijn64tab), ("internal/strconv.uint64pow10", laid_internal_strconv_uint64pow10), ("strconv.ErrRange", laid_strconv_ErrRange), ("strconv.ErrSyntax", laid_strconv_ErrSyntax), ("ephemeris/rule.kids", laid_ephemeris_rule_kids), ("ephemeris/rule.levels", laid_ephemeris_rule_levels), ("ephemeris/rule.signs", laid_ephemeris_rule_signs), ("ephemeris/rule.symbols", laid_ephemeris_rule_symbols), ("ephemeris/rule.found", laid_ephemeris_rule_found)] }
def TopTruthsAskedSaid : Prop := topTruthsAskedRow.holds Tryd.pinned (OpenSpec.ofChange topTruthsAskedSpec)

/-- ITS FALSE NEIGHBOUR: 'it returns false'. Refute it at one input. -/
def topTruthsAskedWrong : ChangeSpec := { name := "topTruthsAsked", fn := fun _ => fun
  | [d1, d2, d3, d4] => { results := [.lit (.bool false)], args := [d1, d2, d3, d4] }
  | _ => none }
def TopTruthsAskedWrongFalsely : Prop := topTruthsAskedRow.holds Tryd.pinned (OpenSpec.ofChange topTruthsAskedWrong)

/-- 'ephemeristop.TopLogicAbsorbed': WHATEVER THE INPUT: true; the input reads as it did. -/
def topLogicAbsorbedSpec : ChangeSpec := { name := "topLogicAbsorbed", fn := fun _ => fun
  | [d1, d2, d3, d4, d5] => { results := [.lit (.bool true)], args := [d1, d2, d3, d4, d5] }
  | _ => none }
def topLogicAbsorbedRow : OpenClaim := { program := "ytmjmcjcckncplaadoor", sum := "30cd231447e3092df61c1eb26895b249fcb571b3657af2ca0de561f7d61eb2f8", func := "ephemeris/ephemeristop.TopLogicAbsorbed", spec := "topLogicAbsorbed", inPlace := ["internal/abi.NoEscape", "internal/bytealg.IndexByteString", "internal/bytealg.IndexString"], unfollowed := true, recurses := true, named := ["ephemeris/rule.kids", "internal/strconv.uint64pow10", "math/bits.deBruijn32tab", "math/bits.deBruijn64tab", "ephemeris/rule.levels", "ephemeris/rule.signs", "internal/bytealg.MaxLen", "strconv.ErrSyntax", "strconv.ErrRange", "ephemeris/rule.symbols", "ephemeris/rule.found"], loops := true, apart := false, laid := [("math/bits.deBruijn32tab", laid_math_bits_deBruijn32tab), ("math/bits.deBruijn64tab", laid_math_bits_deBruijn64tab), ("internal/strconv.uint64pow10", laid_internal_strconv_uint64pow10), ("strconv.ErrRange", laid_strconv_ErrRange), ("strconv.ErrSyntax", laid_strconv_ErrSyntax), ("ephemeris/rule.kids", laid_ephemeris_rule_kids), ("ephemeris/rule.levels", laid_ephemeris_rule_levels), ("ephemeris/rule.signs", laid_ephemeris_rule_signs), ("ephemeris/rule.symbols", laid_ephemeris_rule_symbols), ("ephemeris/rule.found", laid_ephemeris_rule_found)] }
def TopLogicAbsorbedSaid : Prop := topLogicAbsorbedRow.holds Tryd.pinned (OpenSpec.ofChange topLogicAbsorbedSpec)

/-- ITS FALSE NEIGHBOUR: 'it returns false'. Refute it at one input. -/
def topLogicAbsorbedWrong : ChangeSpec := { name := "topLogicAbsorbed", fn := fun _ => fun
  | [d1, d2, d3, d4, d5] => { results := [.lit (.bool false)], args := [d1, d2, d3, d4, d5] }
  | _ => none }
def TopLogicAbsorbedWrongFalsely : Prop := topLogicAbsorbedRow.holds Tryd.pinned (OpenSpec.ofChange topLogicAbsorbedWrong)

/-- 'ephemeristop.TopNumbersParted': WHATEVER THE INPUT: true; the input reads as it did. -/
def topNumbersPartedSpec : ChangeSpec := { name := "topNumbersParted", fn := fun _ => fun
  | [d1, d2, d3, d4, d5] => { results := [.lit (.bool true)], args := [d1, d2, d3, d4, d5] }
  | _ => none }
def topNumbersPartedRow : OpenClaim := { program := "ytmjmcjcckncplaadoor", sum := "30cd231447e3092df61c1eb26895b249fcb571b3657af2ca0de561f7d61eb2f8", func := "ephemeris/ephemeristop.TopNumbersParted", spec := "topNumbersParted", inPlace := ["internal/abi.NoEscape", "internal/bytealg.IndexByteString", "internal/bytealg.IndexString"], unfollowed := true, recurses := true, named := ["ephemeris/rule.kids", "internal/strconv.uint64pow10", "math/bits.deBruijn32tab", "math/bits.deBruijn64tab", "ephemeris/rule.levels", "ephemeris/rule.signs", "internal/bytealg.MaxLen", "strconv.ErrSyntax", "strconv.ErrRange", "ephemeris/rule.symbols", "ephemeris/rule.found"], loops := true, apart := false, laid := [("math/bits.deBruijn32tab", laid_math_bits_deBruijn32tab), ("math/bits.deBruijn64tab", laid_math_bits_deBruijn64tab), ("internal/strconv.uint64pow10", laid_internal_strconv_uint64pow10), ("strconv.ErrRange", laid_strconv_ErrRange), ("strconv.ErrSyntax", laid_strconv_ErrSyntax), ("ephemeris/rule.kids", laid_ephemeris_rule_kids), ("ephemeris/rule.levels", laid_ephemeris_rule_levels), ("ephemeris/rule.signs", laid_ephemeris_rule_signs), ("ephemeris/rule.symbols", laid_ephemeris_rule_symbols), ("ephemeris/rule.found", laid_ephemeris_rule_found)] }
def TopNumbersPartedSaid : Prop := topNumbersPartedRow.holds Tryd.pinned (OpenSpec.ofChange topNumbersPartedSpec)

/-- ITS FALSE NEIGHBOUR: 'it returns false'. Refute it at one input. -/
def topNumbersPartedWrong : ChangeSpec := { name := "topNumbersParted", fn := fun _ => fun
  | [d1, d2, d3, d4, d5] => { results := [.lit (.bool false)], args := [d1, d2, d3, d4, d5] }
  | _ => none }
def TopNumbersPartedWrongFalsely : Prop := topNumbersPartedRow.holds Tryd.pinned (OpenSpec.ofChange topNumbersPartedWrong)

/-- 'ephemeristop.TopYearsMoved': WHATEVER THE INPUT: true; the input reads as it did. -/
def topYearsMovedSpec : ChangeSpec := { name := "topYearsMoved", fn := fun _ => fun
  | [d1, d2, d3, d4] => { results := [.lit (.bool true)], args := [d1, d2, d3, d4] }
  | _ => none }
def topYearsMovedRow : OpenClaim := { program := "ytmjmcjcckncplaadoor", sum := "30cd231447e3092df61c1eb26895b249fcb571b3657af2ca0de561f7d61eb2f8", func := "ephemeris/ephemeristop.TopYearsMoved", spec := "topYearsMoved", inPlace := ["internal/abi.NoEscape", "internal/bytealg.IndexByteString", "internal/bytealg.IndexString"], unfollowed := true, recurses := true, named := ["ephemeris/rule.kids", "internal/strconv.uint64pow10", "math/bits.deBruijn32tab", "math/bits.deBruijn64tab", "ephemeris/rule.levels", "ephemeris/rule.signs", "internal/bytealg.MaxLen", "strconv.ErrSyntax", "strconv.ErrRange", "ephemeris/rule.symbols", "ephemeris/rule.found"], loops := true, apart := false, laid := [("math/bits.deBruijn32tab", laid_math_bits_deBruijn32tab), ("math/bits.deBruijn64tab", laid_math_bits_deBruijn64tab), ("internal/strconv.uint64pow10", laid_internal_strconv_uint64pow10), ("strconv.ErrRange", laid_strconv_ErrRange), ("strconv.ErrSyntax", laid_strconv_ErrSyntax), ("ephemeris/rule.kids", laid_ephemeris_rule_kids), ("ephemeris/rule.levels", laid_ephemeris_rule_levels), ("ephemeris/rule.signs", laid_ephemeris_rule_signs), ("ephemeris/rule.symbols", laid_ephemeris_rule_symbols), ("ephemeris/rule.found", laid_ephemeris_rule_found)] }
def TopYearsMovedSaid : Prop := topYearsMovedRow.holds Tryd.pinned (OpenSpec.ofChange topYearsMovedSpec)

/-- ITS FALSE NEIGHBOUR: 'it returns false'. Refute it at one input. -/
def topYearsMovedWrong : ChangeSpec := { name := "topYearsMoved", fn := fun _ => fun
  | [d1, d2, d3, d4] => { results := [.lit (.bool false)], args := [d1, d2, d3, d4] }
  | _ => none }
def TopYearsMovedWrongFalsely : Prop := topYearsMovedRow.holds Tryd.pinned (OpenSpec.ofChange topYearsMovedWrong)

/-- 'ephemeristop.TopYearsWritten': WHATEVER THE INPUT: true; the input reads as it did. -/
def topYearsWrittenSpec : ChangeSpec := { name := "topYearsWritten", fn := fun _ => fun
  | [d1, d2, d3] => { results := [.lit (.bool true)], args := [d1, d2, d3] }
  | _ => none }
def topYearsWrittenRow : OpenClaim := { program := "ytmjmcjcckncplaadoor", sum := "30cd231447e3092df61c1eb26895b249fcb571b3657af2ca0de561f7d61eb2f8", func := "ephemeris/ephemeristop.TopYearsWritten", spec := "topYearsWritten", inPlace := ["internal/abi.NoEscape", "internal/bytealg.IndexByteString", "internal/bytealg.IndexString"], unfollowed := true, recurses := true, named := ["ephemeris/rule.kids", "internal/strconv.uint64pow10", "math/bits.deBruijn32tab", "math/bits.deBruijn64tab", "ephemeris/rule.levels", "ephemeris/rule.signs", "internal/bytealg.MaxLen", "strconv.ErrSyntax", "strconv.ErrRange", "ephemeris/rule.symbols", "ephemeris/rule.found"], loops := true, apart := false, laid := [("math/bits.deBruijn32tab", laid_math_bits_deBruijn32tab), ("math/bits.deBruijn64tab", laid_math_bits_deBruijn64tab), ("internal/strconv.uint64pow10", laid_internal_strconv_uint64pow10), ("strconv.ErrRange", laid_strconv_ErrRange), ("strconv.ErrSyntax", laid_strconv_ErrSyntax), ("ephemeris/rule.kids", laid_ephemeris_rule_kids), ("ephemeris/rule.levels", laid_ephemeris_rule_levels), ("ephemeris/rule.signs", laid_ephemeris_rule_signs), ("ephemeris/rule.symbols", laid_ephemeris_rule_symbols), ("ephemeris/rule.found", laid_ephemeris_rule_found)] }
def TopYearsWrittenSaid : Prop := topYearsWrittenRow.holds Tryd.pinned (OpenSpec.ofChange topYearsWrittenSpec)

/-- ITS FALSE NEIGHBOUR: 'it returns false'. Refute it at one input. -/
def topYearsWrittenWrong : ChangeSpec := { name := "topYearsWritten", fn := fun _ => fun
  | [d1, d2, d3] => { results := [.lit (.bool false)], args := [d1, d2, d3] }
  | _ => none }
def TopYearsWrittenWrongFalsely : Prop := topYearsWrittenRow.holds Tryd.pinned (OpenSpec.ofChange topYearsWrittenWrong)

/-- 'ephemeristop.TopRulesTurned': WHATEVER THE INPUT: true; the input reads as it did. -/
def topRulesTurnedSpec : ChangeSpec := { name := "topRulesTurned", fn := fun _ => fun
  | [d1, d2, d3, d4] => { results := [.lit (.bool true)], args := [d1, d2, d3, d4] }
  | _ => none }
def topRulesTurnedRow : OpenClaim := { program := "ytmjmcjcckncplaadoor", sum := "30cd231447e3092df61c1eb26895b249fcb571b3657af2ca0de561f7d61eb2f8", func := "ephemeris/ephemeristop.TopRulesTurned", spec := "topRulesTurned", inPlace := ["internal/abi.NoEscape", "internal/bytealg.IndexByteString", "internal/bytealg.IndexString"], unfollowed := true, recurses := true, named := ["ephemeris/rule.kids", "internal/strconv.uint64pow10", "math/bits.deBruijn32tab", "math/bits.deBruijn64tab", "ephemeris/rule.levels", "ephemeris/rule.signs", "internal/bytealg.MaxLen", "strconv.ErrSyntax", "strconv.ErrRange", "ephemeris/rule.symbols", "ephemeris/rule.found"], loops := true, apart := false, laid := [("math/bits.deBruijn32tab", laid_math_bits_deBruijn32tab), ("math/bits.deBruijn64tab", laid_math_bits_deBruijn64tab), ("internal/strconv.uint64pow10", laid_internal_strconv_uint64pow10), ("strconv.ErrRange", laid_strconv_ErrRange), ("strconv.ErrSyntax", laid_strconv_ErrSyntax), ("ephemeris/rule.kids", laid_ephemeris_rule_kids), ("ephemeris/rule.levels", laid_ephemeris_rule_levels), ("ephemeris/rule.signs", laid_ephemeris_rule_signs), ("ephemeris/rule.symbols", laid_ephemeris_rule_symbols), ("ephemeris/rule.found", laid_ephemeris_rule_found)] }
def TopRulesTurnedSaid : Prop := topRulesTurnedRow.holds Tryd.pinned (OpenSpec.ofChange topRulesTurnedSpec)

/-- ITS FALSE NEIGHBOUR: 'it returns false'. Refute it at one input. -/
def topRulesTurnedWrong : ChangeSpec := { name := "topRulesTurned", fn := fun _ => fun
  | [d1, d2, d3, d4] => { results := [.lit (.bool false)], args := [d1, d2, d3, d4] }
  | _ => none }
def TopRulesTurnedWrongFalsely : Prop := topRulesTurnedRow.holds Tryd.pinned (OpenSpec.ofChange topRulesTurnedWrong)

/-- 'ephemeristop.TopRulesDistributed': WHATEVER THE INPUT: true; the input reads as it did. -/
def topRulesDistributedSpec : ChangeSpec := { name := "topRulesDistributed", fn := fun _ => fun
  | [d1, d2, d3] => { results := [.lit (.bool true)], args := [d1, d2, d3] }
  | _ => none }
def topRulesDistributedRow : OpenClaim := { program := "ytmjmcjcckncplaadoor", sum := "30cd231447e3092df61c1eb26895b249fcb571b3657af2ca0de561f7d61eb2f8", func := "ephemeris/ephemeristop.TopRulesDistributed", spec := "topRulesDistributed", inPlace := ["internal/abi.NoEscape", "internal/bytealg.IndexByteString", "internal/bytealg.IndexString"], unfollowed := true, recurses := true, named := ["ephemeris/rule.kids", "internal/strconv.uint64pow10", "math/bits.deBruijn32tab", "math/bits.deBruijn64tab", "ephemeris/rule.levels", "ephemeris/rule.signs", "internal/bytealg.MaxLen", "strconv.ErrSyntax", "strconv.ErrRange", "ephemeris/rule.symbols", "ephemeris/rule.found"], loops := true, apart := false, laid := [("math/bits.deBruijn32tab", laid_math_bits_deBruijn32tab), ("math/bits.deBruijn64tab", laid_math_bits_deBruijn64tab), ("internal/strconv.uint64pow10", laid_internal_strconv_uint64pow10), ("strconv.ErrRange", laid_strconv_ErrRange), ("strconv.ErrSyntax", laid_strconv_ErrSyntax), ("ephemeris/rule.kids", laid_ephemeris_rule_kids), ("ephemeris/rule.levels", laid_ephemeris_rule_levels), ("ephemeris/rule.signs", laid_ephemeris_rule_signs), ("ephemeris/rule.symbols", laid_ephemeris_rule_symbols), ("ephemeris/rule.found", laid_ephemeris_rule_found)] }
def TopRulesDistributedSaid : Prop := topRulesDistributedRow.holds Tryd.pinned (OpenSpec.ofChange topRulesDistributedSpec)

/-- ITS FALSE NEIGHBOUR: 'it returns false'. Refute it at one input. -/
def topRulesDistributedWrong : ChangeSpec := { name := "topRulesDistributed", fn := fun _ => fun
  | [d1, d2, d3] => { results := [.lit (.bool false)], args := [d1, d2, d3] }
  | _ => none }
def TopRulesDistributedWrongFalsely : Prop := topRulesDistributedRow.holds Tryd.pinned (OpenSpec.ofChange topRulesDistributedWrong)

/- THE SECOND FORM. 'bulk': how many values and letters a reading holds, each counted each time it is reached (what is shared counts as often as it is met; a slice's spare places count too). A statement '..UptoSaid' is the law's where the arguments, and the package variables that the reading takes, are together of bulk at most 1048576: NARROWER than '..Said'. Prove '..Said' where nothing that the law and all that it calls make is longer than what came in: it says more and counts as full. Else prove '..UptoSaid'. A law counts once. -/
mutual
def uptoBulk {H : Type} : DataW H → Nat
  | .lit (.string bytes) => bytes.length + 1
  | .lit _ => 1
  | .nil => 1
  | .ptr d => uptoBulk d + 1
  | .slice elems spare => uptoBulkAll elems + uptoBulkAll spare + 1
  | .agg parts => uptoBulkAll parts + 1
  | .iface _ d => uptoBulk d + 1
  | .map entries => uptoBulkEntries entries + 1
  | .held _ => 1
def uptoBulkAll {H : Type} : List (DataW H) → Nat
  | [] => 0
  | d :: r => uptoBulk d + uptoBulkAll r
def uptoBulkEntries {H : Type} : List (Lit × DataW H) → Nat
  | [] => 0
  | x :: r => uptoBulkEntry x + uptoBulkEntries r
def uptoBulkEntry {H : Type} : Lit × DataW H → Nat
  | (.string bytes, d) => bytes.length + uptoBulk d + 1
  | (_, d) => uptoBulk d + 1
 end
def uptoSmall : (H : Type) → List (DataW H) → Bool := fun _ ds => decide (uptoBulkAll ds ≤ 1048576)
def OpenSpec.upto (s : _root_.Go.ChangeSpec) : _root_.Go.OpenSpec := { _root_.Go.OpenSpec.ofChange s with cond := some uptoSmall }

/-- 'ephemeristop.TopRulesNegated', WHERE WHAT IT READS IS OF BULK AT MOST 1048576: true; the input reads as it did. -/
def topRulesNegatedUptoRow : OpenClaim := { program := "ytmjmcjcckncplaadoor", sum := "30cd231447e3092df61c1eb26895b249fcb571b3657af2ca0de561f7d61eb2f8", func := "ephemeris/ephemeristop.TopRulesNegated", spec := "topRulesNegated", inPlace := ["internal/abi.NoEscape", "internal/bytealg.IndexByteString", "internal/bytealg.IndexString"], unfollowed := true, recurses := true, named := ["ephemeris/rule.kids", "internal/strconv.uint64pow10", "math/bits.deBruijn32tab", "math/bits.deBruijn64tab", "ephemeris/rule.levels", "ephemeris/rule.signs", "internal/bytealg.MaxLen", "strconv.ErrSyntax", "strconv.ErrRange", "ephemeris/rule.symbols", "ephemeris/rule.found"], loops := true, apart := false, laid := [("math/bits.deBruijn32tab", laid_math_bits_deBruijn32tab), ("math/bits.deBruijn64tab", laid_math_bits_deBruijn64tab), ("internal/strconv.uint64pow10", laid_internal_strconv_uint64pow10), ("strconv.ErrRange", laid_strconv_ErrRange), ("strconv.ErrSyntax", laid_strconv_ErrSyntax), ("ephemeris/rule.kids", laid_ephemeris_rule_kids), ("ephemeris/rule.levels", laid_ephemeris_rule_levels), ("ephemeris/rule.signs", laid_ephemeris_rule_signs), ("ephemeris/rule.symbols", laid_ephemeris_rule_symbols), ("ephemeris/rule.found", laid_ephemeris_rule_found)], narrowed := true }
def TopRulesNegatedUptoSaid : Prop := topRulesNegatedUptoRow.holds Tryd.pinned (OpenSpec.upto topRulesNegatedSpec)

/-- 'ephemeristop.TopRestsWritten', WHERE WHAT IT READS IS OF BULK AT MOST 1048576: true; the input reads as it did. -/
def topRestsWrittenUptoRow : OpenClaim := { program := "ytmjmcjcckncplaadoor", sum := "30cd231447e3092df61c1eb26895b249fcb571b3657af2ca0de561f7d61eb2f8", func := "ephemeris/ephemeristop.TopRestsWritten", spec := "topRestsWritten", inPlace := ["internal/abi.NoEscape", "internal/bytealg.IndexByteString", "internal/bytealg.IndexString"], unfollowed := true, recurses := true, named := ["ephemeris/rule.kids", "internal/strconv.uint64pow10", "math/bits.deBruijn32tab", "math/bits.deBruijn64tab", "ephemeris/rule.levels", "ephemeris/rule.signs", "internal/bytealg.MaxLen", "strconv.ErrSyntax", "strconv.ErrRange", "ephemeris/rule.symbols", "ephemeris/rule.found"], loops := true, apart := false, laid := [("math/bits.deBruijn32tab", laid_math_bits_deBruijn32tab), ("math/bits.deBruijn64tab", laid_math_bits_deBruijn64tab), ("internal/strconv.uint64pow10", laid_internal_strconv_uint64pow10), ("strconv.ErrRange", laid_strconv_ErrRange), ("strconv.ErrSyntax", laid_strconv_ErrSyntax), ("ephemeris/rule.kids", laid_ephemeris_rule_kids), ("ephemeris/rule.levels", laid_ephemeris_rule_levels), ("ephemeris/rule.signs", laid_ephemeris_rule_signs), ("ephemeris/rule.symbols", laid_ephemeris_rule_symbols), ("ephemeris/rule.found", laid_ephemeris_rule_found)], narrowed := true }
def TopRestsWrittenUptoSaid : Prop := topRestsWrittenUptoRow.holds Tryd.pinned (OpenSpec.upto topRestsWrittenSpec)

/-- 'ephemeristop.TopComparesWritten', WHERE WHAT IT READS IS OF BULK AT MOST 1048576: true; the input reads as it did. -/
def topComparesWrittenUptoRow : OpenClaim := { program := "ytmjmcjcckncplaadoor", sum := "30cd231447e3092df61c1eb26895b249fcb571b3657af2ca0de561f7d61eb2f8", func := "ephemeris/ephemeristop.TopComparesWritten", spec := "topComparesWritten", inPlace := ["internal/abi.NoEscape", "internal/bytealg.IndexByteString", "internal/bytealg.IndexString"], unfollowed := true, recurses := true, named := ["ephemeris/rule.kids", "internal/strconv.uint64pow10", "math/bits.deBruijn32tab", "math/bits.deBruijn64tab", "ephemeris/rule.levels", "ephemeris/rule.signs", "internal/bytealg.MaxLen", "strconv.ErrSyntax", "strconv.ErrRange", "ephemeris/rule.symbols", "ephemeris/rule.found"], loops := true, apart := false, laid := [("math/bits.deBruijn32tab", laid_math_bits_deBruijn32tab), ("math/bits.deBruijn64tab", laid_math_bits_deBruijn64tab), ("internal/strconv.uint64pow10", laid_internal_strconv_uint64pow10), ("strconv.ErrRange", laid_strconv_ErrRange), ("strconv.ErrSyntax", laid_strconv_ErrSyntax), ("ephemeris/rule.kids", laid_ephemeris_rule_kids), ("ephemeris/rule.levels", laid_ephemeris_rule_levels), ("ephemeris/rule.signs", laid_ephemeris_rule_signs), ("ephemeris/rule.symbols", laid_ephemeris_rule_symbols), ("ephemeris/rule.found", laid_ephemeris_rule_found)], narrowed := true }
def TopComparesWrittenUptoSaid : Prop := topComparesWrittenUptoRow.holds Tryd.pinned (OpenSpec.upto topComparesWrittenSpec)

/-- 'ephemeristop.TopLogicDenied', WHERE WHAT IT READS IS OF BULK AT MOST 1048576: true; the input reads as it did. -/
def topLogicDeniedUptoRow : OpenClaim := { program := "ytmjmcjcckncplaadoor", sum := "30cd231447e3092df61c1eb26895b249fcb571b3657af2ca0de561f7d61eb2f8", func := "ephemeris/ephemeristop.TopLogicDenied", spec := "topLogicDenied", inPlace := ["internal/abi.NoEscape", "internal/bytealg.IndexByteString", "internal/bytealg.IndexString"], unfollowed := true, recurses := true, named := ["ephemeris/rule.kids", "internal/strconv.uint64pow10", "math/bits.deBruijn32tab", "math/bits.deBruijn64tab", "ephemeris/rule.levels", "ephemeris/rule.signs", "internal/bytealg.MaxLen", "strconv.ErrSyntax", "strconv.ErrRange", "ephemeris/rule.symbols", "ephemeris/rule.found"], loops := true, apart := false, laid := [("math/bits.deBruijn32tab", laid_math_bits_deBruijn32tab), ("math/bits.deBruijn64tab", laid_math_bits_deBruijn64tab), ("internal/strconv.uint64pow10", laid_internal_strconv_uint64pow10), ("strconv.ErrRange", laid_strconv_ErrRange), ("strconv.ErrSyntax", laid_strconv_ErrSyntax), ("ephemeris/rule.kids", laid_ephemeris_rule_kids), ("ephemeris/rule.levels", laid_ephemeris_rule_levels), ("ephemeris/rule.signs", laid_ephemeris_rule_signs), ("ephemeris/rule.symbols", laid_ephemeris_rule_symbols), ("ephemeris/rule.found", laid_ephemeris_rule_found)], narrowed := true }
def TopLogicDeniedUptoSaid : Prop := topLogicDeniedUptoRow.holds Tryd.pinned (OpenSpec.upto topLogicDeniedSpec)

/-- 'ephemeristop.TopLogicCounted', WHERE WHAT IT READS IS OF BULK AT MOST 1048576: true; the input reads as it did. -/
def topLogicCountedUptoRow : OpenClaim := { program := "ytmjmcjcckncplaadoor", sum := "30cd231447e3092df61c1eb26895b249fcb571b3657af2ca0de561f7d61eb2f8", func := "ephemeris/ephemeristop.TopLogicCounted", spec := "topLogicCounted", inPlace := ["internal/abi.NoEscape", "internal/bytealg.IndexByteString", "internal/bytealg.IndexString"], unfollowed := true, recurses := true, named := ["ephemeris/rule.kids", "internal/strconv.uint64pow10", "math/bits.deBruijn32tab", "math/bits.deBruijn64tab", "ephemeris/rule.levels", "ephemeris/rule.signs", "internal/bytealg.MaxLen", "strconv.ErrSyntax", "strconv.ErrRange", "ephemeris/rule.symbols", "ephemeris/rule.found"], loops := true, apart := false, laid := [("math/bits.deBruijn32tab", laid_math_bits_deBruijn32tab), ("math/bits.deBruijn64tab", laid_math_bits_deBruijn64tab), ("internal/strconv.uint64pow10", laid_internal_strconv_uint64pow10), ("strconv.ErrRange", laid_strconv_ErrRange), ("strconv.ErrSyntax", laid_strconv_ErrSyntax), ("ephemeris/rule.kids", laid_ephemeris_rule_kids), ("ephemeris/rule.levels", laid_ephemeris_rule_levels), ("ephemeris/rule.signs", laid_ephemeris_rule_signs), ("ephemeris/rule.symbols", laid_ephemeris_rule_symbols), ("ephemeris/rule.found", laid_ephemeris_rule_found)], narrowed := true }
def TopLogicCountedUptoSaid : Prop := topLogicCountedUptoRow.holds Tryd.pinned (OpenSpec.upto topLogicCountedSpec)

/-- 'ephemeristop.TopTruthsAsked', WHERE WHAT IT READS IS OF BULK AT MOST 1048576: true; the input reads as it did. -/
def topTruthsAskedUptoRow : OpenClaim := { program := "ytmjmcjcckncplaadoor", sum := "30cd231447e3092df61c1eb26895b249fcb571b3657af2ca0de561f7d61eb2f8", func := "ephemeris/ephemeristop.TopTruthsAsked", spec := "topTruthsAsked", inPlace := ["internal/abi.NoEscape", "internal/bytealg.IndexByteString", "internal/bytealg.IndexString"], unfollowed := true, recurses := true, named := ["ephemeris/rule.kids", "internal/strconv.uint64pow10", "math/bits.deBruijn32tab", "math/bits.deBruijn64tab", "ephemeris/rule.levels", "ephemeris/rule.signs", "internal/bytealg.MaxLen", "strconv.ErrSyntax", "strconv.ErrRange", "ephemeris/rule.symbols", "ephemeris/rule.found"], loops := true, apart := false, laid := [("math/bits.deBruijn32tab", laid_math_bits_deBruijn32tab), ("math/bits.deBruijn64tab", laid_math_bits_deBruijn64tab), ("internal/strconv.uint64pow10", laid_internal_strconv_uint64pow10), ("strconv.ErrRange", laid_strconv_ErrRange), ("strconv.ErrSyntax", laid_strconv_ErrSyntax), ("ephemeris/rule.kids", laid_ephemeris_rule_kids), ("ephemeris/rule.levels", laid_ephemeris_rule_levels), ("ephemeris/rule.signs", laid_ephemeris_rule_signs), ("ephemeris/rule.symbols", laid_ephemeris_rule_symbols), ("ephemeris/rule.found", laid_ephemeris_rule_found)], narrowed := true }
def TopTruthsAskedUptoSaid : Prop := topTruthsAskedUptoRow.holds Tryd.pinned (OpenSpec.upto topTruthsAskedSpec)

/-- 'ephemeristop.TopLogicAbsorbed', WHERE WHAT IT READS IS OF BULK AT MOST 1048576: true; the input reads as it did. -/
def topLogicAbsorbedUptoRow : OpenClaim := { program := "ytmjmcjcckncplaadoor", sum := "30cd231447e3092df61c1eb26895b249fcb571b3657af2ca0de561f7d61eb2f8", func := "ephemeris/ephemeristop.TopLogicAbsorbed", spec := "topLogicAbsorbed", inPlace := ["internal/abi.NoEscape", "internal/bytealg.IndexByteString", "internal/bytealg.IndexString"], unfollowed := true, recurses := true, named := ["ephemeris/rule.kids", "internal/strconv.uint64pow10", "math/bits.deBruijn32tab", "math/bits.deBruijn64tab", "ephemeris/rule.levels", "ephemeris/rule.signs", "internal/bytealg.MaxLen", "strconv.ErrSyntax", "strconv.ErrRange", "ephemeris/rule.symbols", "ephemeris/rule.found"], loops := true, apart := false, laid := [("math/bits.deBruijn32tab", laid_math_bits_deBruijn32tab), ("math/bits.deBruijn64tab", laid_math_bits_deBruijn64tab), ("internal/strconv.uint64pow10", laid_internal_strconv_uint64pow10), ("strconv.ErrRange", laid_strconv_ErrRange), ("strconv.ErrSyntax", laid_strconv_ErrSyntax), ("ephemeris/rule.kids", laid_ephemeris_rule_kids), ("ephemeris/rule.levels", laid_ephemeris_rule_levels), ("ephemeris/rule.signs", laid_ephemeris_rule_signs), ("ephemeris/rule.symbols", laid_ephemeris_rule_symbols), ("ephemeris/rule.found", laid_ephemeris_rule_found)], narrowed := true }
def TopLogicAbsorbedUptoSaid : Prop := topLogicAbsorbedUptoRow.holds Tryd.pinned (OpenSpec.upto topLogicAbsorbedSpec)

/-- 'ephemeristop.TopNumbersParted', WHERE WHAT IT READS IS OF BULK AT MOST 1048576: true; the input reads as it did. -/
def topNumbersPartedUptoRow : OpenClaim := { program := "ytmjmcjcckncplaadoor", sum := "30cd231447e3092df61c1eb26895b249fcb571b3657af2ca0de561f7d61eb2f8", func := "ephemeris/ephemeristop.TopNumbersParted", spec := "topNumbersParted", inPlace := ["internal/abi.NoEscape", "internal/bytealg.IndexByteString", "internal/bytealg.IndexString"], unfollowed := true, recurses := true, named := ["ephemeris/rule.kids", "internal/strconv.uint64pow10", "math/bits.deBruijn32tab", "math/bits.deBruijn64tab", "ephemeris/rule.levels", "ephemeris/rule.signs", "internal/bytealg.MaxLen", "strconv.ErrSyntax", "strconv.ErrRange", "ephemeris/rule.symbols", "ephemeris/rule.found"], loops := true, apart := false, laid := [("math/bits.deBruijn32tab", laid_math_bits_deBruijn32tab), ("math/bits.deBruijn64tab", laid_math_bits_deBruijn64tab), ("internal/strconv.uint64pow10", laid_internal_strconv_uint64pow10), ("strconv.ErrRange", laid_strconv_ErrRange), ("strconv.ErrSyntax", laid_strconv_ErrSyntax), ("ephemeris/rule.kids", laid_ephemeris_rule_kids), ("ephemeris/rule.levels", laid_ephemeris_rule_levels), ("ephemeris/rule.signs", laid_ephemeris_rule_signs), ("ephemeris/rule.symbols", laid_ephemeris_rule_symbols), ("ephemeris/rule.found", laid_ephemeris_rule_found)], narrowed := true }
def TopNumbersPartedUptoSaid : Prop := topNumbersPartedUptoRow.holds Tryd.pinned (OpenSpec.upto topNumbersPartedSpec)

/-- 'ephemeristop.TopYearsMoved', WHERE WHAT IT READS IS OF BULK AT MOST 1048576: true; the input reads as it did. -/
def topYearsMovedUptoRow : OpenClaim := { program := "ytmjmcjcckncplaadoor", sum := "30cd231447e3092df61c1eb26895b249fcb571b3657af2ca0de561f7d61eb2f8", func := "ephemeris/ephemeristop.TopYearsMoved", spec := "topYearsMoved", inPlace := ["internal/abi.NoEscape", "internal/bytealg.IndexByteString", "internal/bytealg.IndexString"], unfollowed := true, recurses := true, named := ["ephemeris/rule.kids", "internal/strconv.uint64pow10", "math/bits.deBruijn32tab", "math/bits.deBruijn64tab", "ephemeris/rule.levels", "ephemeris/rule.signs", "internal/bytealg.MaxLen", "strconv.ErrSyntax", "strconv.ErrRange", "ephemeris/rule.symbols", "ephemeris/rule.found"], loops := true, apart := false, laid := [("math/bits.deBruijn32tab", laid_math_bits_deBruijn32tab), ("math/bits.deBruijn64tab", laid_math_bits_deBruijn64tab), ("internal/strconv.uint64pow10", laid_internal_strconv_uint64pow10), ("strconv.ErrRange", laid_strconv_ErrRange), ("strconv.ErrSyntax", laid_strconv_ErrSyntax), ("ephemeris/rule.kids", laid_ephemeris_rule_kids), ("ephemeris/rule.levels", laid_ephemeris_rule_levels), ("ephemeris/rule.signs", laid_ephemeris_rule_signs), ("ephemeris/rule.symbols", laid_ephemeris_rule_symbols), ("ephemeris/rule.found", laid_ephemeris_rule_found)], narrowed := true }
def TopYearsMovedUptoSaid : Prop := topYearsMovedUptoRow.holds Tryd.pinned (OpenSpec.upto topYearsMovedSpec)

/-- 'ephemeristop.TopYearsWritten', WHERE WHAT IT READS IS OF BULK AT MOST 1048576: true; the input reads as it did. -/
def topYearsWrittenUptoRow : OpenClaim := { program := "ytmjmcjcckncplaadoor", sum := "30cd231447e3092df61c1eb26895b249fcb571b3657af2ca0de561f7d61eb2f8", func := "ephemeris/ephemeristop.TopYearsWritten", spec := "topYearsWritten", inPlace := ["internal/abi.NoEscape", "internal/bytealg.IndexByteString", "internal/bytealg.IndexString"], unfollowed := true, recurses := true, named := ["ephemeris/rule.kids", "internal/strconv.uint64pow10", "math/bits.deBruijn32tab", "math/bits.deBruijn64tab", "ephemeris/rule.levels", "ephemeris/rule.signs", "internal/bytealg.MaxLen", "strconv.ErrSyntax", "strconv.ErrRange", "ephemeris/rule.symbols", "ephemeris/rule.found"], loops := true, apart := false, laid := [("math/bits.deBruijn32tab", laid_math_bits_deBruijn32tab), ("math/bits.deBruijn64tab", laid_math_bits_deBruijn64tab), ("internal/strconv.uint64pow10", laid_internal_strconv_uint64pow10), ("strconv.ErrRange", laid_strconv_ErrRange), ("strconv.ErrSyntax", laid_strconv_ErrSyntax), ("ephemeris/rule.kids", laid_ephemeris_rule_kids), ("ephemeris/rule.levels", laid_ephemeris_rule_levels), ("ephemeris/rule.signs", laid_ephemeris_rule_signs), ("ephemeris/rule.symbols", laid_ephemeris_rule_symbols), ("ephemeris/rule.found", laid_ephemeris_rule_found)], narrowed := true }
def TopYearsWrittenUptoSaid : Prop := topYearsWrittenUptoRow.holds Tryd.pinned (OpenSpec.upto topYearsWrittenSpec)

/-- 'ephemeristop.TopRulesTurned', WHERE WHAT IT READS IS OF BULK AT MOST 1048576: true; the input reads as it did. -/
def topRulesTurnedUptoRow : OpenClaim := { program := "ytmjmcjcckncplaadoor", sum := "30cd231447e3092df61c1eb26895b249fcb571b3657af2ca0de561f7d61eb2f8", func := "ephemeris/ephemeristop.TopRulesTurned", spec := "topRulesTurned", inPlace := ["internal/abi.NoEscape", "internal/bytealg.IndexByteString", "internal/bytealg.IndexString"], unfollowed := true, recurses := true, named := ["ephemeris/rule.kids", "internal/strconv.uint64pow10", "math/bits.deBruijn32tab", "math/bits.deBruijn64tab", "ephemeris/rule.levels", "ephemeris/rule.signs", "internal/bytealg.MaxLen", "strconv.ErrSyntax", "strconv.ErrRange", "ephemeris/rule.symbols", "ephemeris/rule.found"], loops := true, apart := false, laid := [("math/bits.deBruijn32tab", laid_math_bits_deBruijn32tab), ("math/bits.deBruijn64tab", laid_math_bits_deBruijn64tab), ("internal/strconv.uint64pow10", laid_internal_strconv_uint64pow10), ("strconv.ErrRange", laid_strconv_ErrRange), ("strconv.ErrSyntax", laid_strconv_ErrSyntax), ("ephemeris/rule.kids", laid_ephemeris_rule_kids), ("ephemeris/rule.levels", laid_ephemeris_rule_levels), ("ephemeris/rule.signs", laid_ephemeris_rule_signs), ("ephemeris/rule.symbols", laid_ephemeris_rule_symbols), ("ephemeris/rule.found", laid_ephemeris_rule_found)], narrowed := true }
def TopRulesTurnedUptoSaid : Prop := topRulesTurnedUptoRow.holds Tryd.pinned (OpenSpec.upto topRulesTurnedSpec)

/-- 'ephemeristop.TopRulesDistributed', WHERE WHAT IT READS IS OF BULK AT MOST 1048576: true; the input reads as it did. -/
def topRulesDistributedUptoRow : OpenClaim := { program := "ytmjmcjcckncplaadoor", sum := "30cd231447e3092df61c1eb26895b249fcb571b3657af2ca0de561f7d61eb2f8", func := "ephemeris/ephemeristop.TopRulesDistributed", spec := "topRulesDistributed", inPlace := ["internal/abi.NoEscape", "internal/bytealg.IndexByteString", "internal/bytealg.IndexString"], unfollowed := true, recurses := true, named := ["ephemeris/rule.kids", "internal/strconv.uint64pow10", "math/bits.deBruijn32tab", "math/bits.deBruijn64tab", "ephemeris/rule.levels", "ephemeris/rule.signs", "internal/bytealg.MaxLen", "strconv.ErrSyntax", "strconv.ErrRange", "ephemeris/rule.symbols", "ephemeris/rule.found"], loops := true, apart := false, laid := [("math/bits.deBruijn32tab", laid_math_bits_deBruijn32tab), ("math/bits.deBruijn64tab", laid_math_bits_deBruijn64tab), ("internal/strconv.uint64pow10", laid_internal_strconv_uint64pow10), ("strconv.ErrRange", laid_strconv_ErrRange), ("strconv.ErrSyntax", laid_strconv_ErrSyntax), ("ephemeris/rule.kids", laid_ephemeris_rule_kids), ("ephemeris/rule.levels", laid_ephemeris_rule_levels), ("ephemeris/rule.signs", laid_ephemeris_rule_signs), ("ephemeris/rule.symbols", laid_ephemeris_rule_symbols), ("ephemeris/rule.found", laid_ephemeris_rule_found)], narrowed := true }
def TopRulesDistributedUptoSaid : Prop := topRulesDistributedUptoRow.holds Tryd.pinned (OpenSpec.upto topRulesDistributedSpec)

end Rows
end Go.Proofs.YtmjmcjcckncplaaDoor
