/-
  NARROWER THAN 'FOR EVERY INPUT', by the rows' own cells (each row's printed sentence says how): FnExactInstrEncode: laid · FnEncodeFields: laid · FnEncodeLow: laid · FnEncodeSign: laid · FnExactInstrDecode: laid · FnEncode: laid · FnExactInstrText: laid · FnDecode: laid · FnDecodeImm: laid · FnInstrText: laid · FnInstrTextOther: laid.
  DERIVED. THE GIVEN ROWS OF THIS SEAT. 11 by the template 'for every input the law returns true; each argument reads behind the call as it read before'; 0 by the template 'total and deterministic' (their statements: YthmfkdlncnjjoaaDoorTotals.lean).
  GIVEN WITH THE SEED: the statements are not yours to turn. If you find one false, say at which input.
  Laid BY PROGRAM, IN A SANDBOX (cutbox-rows.mjs): the forced cells as the released guide's own fill.sh prints them over the translation 80d904badbf9081f… (all of the seat's roots in one cut). By AI agents, Wed Nov 11 2026. No macro, syntax, notation, axiom, sorry.
-/
import Derived.Test.YthmfkdlncnjjoaaDoorChecked
import GoSem.Claim
import GoSem.ClaimJoined
import GoSem.ClaimMapViews
import Derived.JoinedTies
import Derived.KernelRfl
namespace Go.Proofs.YthmfkdlncnjjoaaDoor
/- THE CELL 'sum', in the pinned program and in every row, IS THE sha256 OF THE DUMP (.gsa) THAT YthmfkdlncnjjoaaDoorProg.lean LOADS. Nothing in Lean hashes anything: it is a label: what it is worth is what the hold of that sum in a sandbox is worth. -/
noncomputable def Tryd.pinned : Pinned := { name := "ythmfkdlncnjjoaadoor", sum := "80d904badbf9081f3c988b4898be2a328a5f5d51990636cd6f3c1aad712abd5a", checked := Tryd.checked }
namespace Rows
def none {H : Type} : Left H := { results := [], args := [] }

/- WHAT THE LISTED PACKAGE-LEVEL VARIABLES READ AS WHEN THE CALL BEGINS. Each datum BY PROGRAM (the guide's laid-datum.mjs) off the statement by which the dump's own 'gosem.cut.vars' lays the variable. In a bare row this is a premise. The card (YthmfkdlncnjjoaaDoorCards.lean) ties it to the program's text. -/
def laid_loop_example_cothreads_impl_instrTable {H : Type} : DataW H := .agg [.agg [.lit (.string [97, 100, 100]), .lit (.int .i64 51), .lit (.int .i64 0), .lit (.int .i64 0)], .agg [.lit (.string [115, 117, 98]), .lit (.int .i64 51), .lit (.int .i64 0), .lit (.int .i64 32)], .agg [.lit (.string [109, 117, 108]), .lit (.int .i64 51), .lit (.int .i64 0), .lit (.int .i64 1)], .agg [.lit (.string [100, 105, 118]), .lit (.int .i64 51), .lit (.int .i64 4), .lit (.int .i64 1)], .agg [.lit (.string [114, 101, 109]), .lit (.int .i64 51), .lit (.int .i64 6), .lit (.int .i64 1)], .agg [.lit (.string [97, 110, 100]), .lit (.int .i64 51), .lit (.int .i64 7), .lit (.int .i64 0)], .agg [.lit (.string [111, 114]), .lit (.int .i64 51), .lit (.int .i64 6), .lit (.int .i64 0)], .agg [.lit (.string [120, 111, 114]), .lit (.int .i64 51), .lit (.int .i64 4), .lit (.int .i64 0)], .agg [.lit (.string [115, 108, 108]), .lit (.int .i64 51), .lit (.int .i64 1), .lit (.int .i64 0)], .agg [.lit (.string [115, 114, 97]), .lit (.int .i64 51), .lit (.int .i64 5), .lit (.int .i64 32)], .agg [.lit (.string [115, 108, 116]), .lit (.int .i64 51), .lit (.int .i64 2), .lit (.int .i64 0)], .agg [.lit (.string [97, 100, 100, 105]), .lit (.int .i64 19), .lit (.int .i64 0), .lit (.int .i64 0)], .agg [.lit (.string [115, 108, 116, 105, 117]), .lit (.int .i64 19), .lit (.int .i64 3), .lit (.int .i64 0)], .agg [.lit (.string [108, 119]), .lit (.int .i64 3), .lit (.int .i64 2), .lit (.int .i64 0)], .agg [.lit (.string [106, 97, 108, 114]), .lit (.int .i64 103), .lit (.int .i64 0), .lit (.int .i64 0)], .agg [.lit (.string [115, 119]), .lit (.int .i64 35), .lit (.int .i64 2), .lit (.int .i64 0)], .agg [.lit (.string [98, 101, 113]), .lit (.int .i64 99), .lit (.int .i64 0), .lit (.int .i64 0)], .agg [.lit (.string [98, 110, 101]), .lit (.int .i64 99), .lit (.int .i64 1), .lit (.int .i64 0)], .agg [.lit (.string [108, 117, 105]), .lit (.int .i64 55), .lit (.int .i64 0), .lit (.int .i64 0)], .agg [.lit (.string [106, 97, 108]), .lit (.int .i64 111), .lit (.int .i64 0), .lit (.int .i64 0)], .agg [.lit (.string [101, 99, 97, 108, 108]), .lit (.int .i64 115), .lit (.int .i64 0), .lit (.int .i64 0)]]
def laid_math_bits_deBruijn32tab {H : Type} : DataW H := .agg [.lit (.int .u8 0), .lit (.int .u8 1), .lit (.int .u8 28), .lit (.int .u8 2), .lit (.int .u8 29), .lit (.int .u8 14), .lit (.int .u8 24), .lit (.int .u8 3), .lit (.int .u8 30), .lit (.int .u8 22), .lit (.int .u8 20), .lit (.int .u8 15), .lit (.int .u8 25), .lit (.int .u8 17), .lit (.int .u8 4), .lit (.int .u8 8), .lit (.int .u8 31), .lit (.int .u8 27), .lit (.int .u8 13), .lit (.int .u8 23), .lit (.int .u8 21), .lit (.int .u8 19), .lit (.int .u8 16), .lit (.int .u8 7), .lit (.int .u8 26), .lit (.int .u8 12), .lit (.int .u8 18), .lit (.int .u8 6), .lit (.int .u8 11), .lit (.int .u8 5), .lit (.int .u8 10), .lit (.int .u8 9)]
def laid_math_bits_deBruijn64tab {H : Type} : DataW H := .agg [.lit (.int .u8 0), .lit (.int .u8 1), .lit (.int .u8 56), .lit (.int .u8 2), .lit (.int .u8 57), .lit (.int .u8 49), .lit (.int .u8 28), .lit (.int .u8 3), .lit (.int .u8 61), .lit (.int .u8 58), .lit (.int .u8 42), .lit (.int .u8 50), .lit (.int .u8 38), .lit (.int .u8 29), .lit (.int .u8 17), .lit (.int .u8 4), .lit (.int .u8 62), .lit (.int .u8 47), .lit (.int .u8 59), .lit (.int .u8 36), .lit (.int .u8 45), .lit (.int .u8 43), .lit (.int .u8 51), .lit (.int .u8 22), .lit (.int .u8 53), .lit (.int .u8 39), .lit (.int .u8 33), .lit (.int .u8 30), .lit (.int .u8 24), .lit (.int .u8 18), .lit (.int .u8 12), .lit (.int .u8 5), .lit (.int .u8 63), .lit (.int .u8 55), .lit (.int .u8 48), .lit (.int .u8 27), .lit (.int .u8 60), .lit (.int .u8 41), .lit (.int .u8 37), .lit (.int .u8 16), .lit (.int .u8 46), .lit (.int .u8 35), .lit (.int .u8 44), .lit (.int .u8 21), .lit (.int .u8 52), .lit (.int .u8 32), .lit (.int .u8 23), .lit (.int .u8 11), .lit (.int .u8 54), .lit (.int .u8 26), .lit (.int .u8 40), .lit (.int .u8 15), .lit (.int .u8 34), .lit (.int .u8 20), .lit (.int .u8 31), .lit (.int .u8 10), .lit (.int .u8 25), .lit (.int .u8 14), .lit (.int .u8 19), .lit (.int .u8 9), .lit (.int .u8 13), .lit (.int .u8 8), .lit (.int .u8 7), .lit (.int .u8 6)]
def laid_internal_strconv_uint64pow10 {H : Type} : DataW H := .agg [.lit (.int .u64 1), .lit (.int .u64 10), .lit (.int .u64 100), .lit (.int .u64 1000), .lit (.int .u64 10000), .lit (.int .u64 100000), .lit (.int .u64 1000000), .lit (.int .u64 10000000), .lit (.int .u64 100000000), .lit (.int .u64 1000000000), .lit (.int .u64 10000000000), .lit (.int .u64 100000000000), .lit (.int .u64 1000000000000), .lit (.int .u64 10000000000000), .lit (.int .u64 100000000000000), .lit (.int .u64 1000000000000000), .lit (.int .u64 10000000000000000), .lit (.int .u64 100000000000000000), .lit (.int .u64 1000000000000000000), .lit (.int .u64 10000000000000000000)]

/-- 'laws.FnExactInstrEncode': WHATEVER THE INPUT: true; the input reads as it did. -/
def fnExactInstrEncodeSpec : ChangeSpec := { name := "fnExactInstrEncode", vars := ["loop.example/cothreads/impl.instrTable"], fn := fun _ => fun
  | [d, g1] => { results := [.lit (.bool true)], args := [d], vars := [g1] }
  | _ => none }
def fnExactInstrEncodeRow : OpenClaim := { program := "ythmfkdlncnjjoaadoor", sum := "80d904badbf9081f3c988b4898be2a328a5f5d51990636cd6f3c1aad712abd5a", func := "loop.example/cothreads/laws.FnExactInstrEncode", spec := "fnExactInstrEncode", unfollowed := true, recurses := true, named := ["loop.example/cothreads/impl.instrTable"], apart := false, laid := [("loop.example/cothreads/impl.instrTable", laid_loop_example_cothreads_impl_instrTable)] }
def FnExactInstrEncodeSaid : Prop := fnExactInstrEncodeRow.holds Tryd.pinned (OpenSpec.ofChange fnExactInstrEncodeSpec)

/-- ITS FALSE NEIGHBOUR: 'it returns false'. Refute it at one input. -/
def fnExactInstrEncodeWrong : ChangeSpec := { name := "fnExactInstrEncode", vars := ["loop.example/cothreads/impl.instrTable"], fn := fun _ => fun
  | [d, g1] => { results := [.lit (.bool false)], args := [d], vars := [g1] }
  | _ => none }
def FnExactInstrEncodeWrongFalsely : Prop := fnExactInstrEncodeRow.holds Tryd.pinned (OpenSpec.ofChange fnExactInstrEncodeWrong)

/-- 'laws.FnEncodeFields': WHATEVER THE INPUT: true; the input reads as it did. -/
def fnEncodeFieldsSpec : ChangeSpec := { name := "fnEncodeFields", vars := ["loop.example/cothreads/impl.instrTable"], fn := fun _ => fun
  | [d, g1] => { results := [.lit (.bool true)], args := [d], vars := [g1] }
  | _ => none }
def fnEncodeFieldsRow : OpenClaim := { program := "ythmfkdlncnjjoaadoor", sum := "80d904badbf9081f3c988b4898be2a328a5f5d51990636cd6f3c1aad712abd5a", func := "loop.example/cothreads/laws.FnEncodeFields", spec := "fnEncodeFields", unfollowed := true, recurses := true, named := ["loop.example/cothreads/impl.instrTable"], apart := false, laid := [("loop.example/cothreads/impl.instrTable", laid_loop_example_cothreads_impl_instrTable)] }
def FnEncodeFieldsSaid : Prop := fnEncodeFieldsRow.holds Tryd.pinned (OpenSpec.ofChange fnEncodeFieldsSpec)

/-- ITS FALSE NEIGHBOUR: 'it returns false'. Refute it at one input. -/
def fnEncodeFieldsWrong : ChangeSpec := { name := "fnEncodeFields", vars := ["loop.example/cothreads/impl.instrTable"], fn := fun _ => fun
  | [d, g1] => { results := [.lit (.bool false)], args := [d], vars := [g1] }
  | _ => none }
def FnEncodeFieldsWrongFalsely : Prop := fnEncodeFieldsRow.holds Tryd.pinned (OpenSpec.ofChange fnEncodeFieldsWrong)

/-- 'laws.FnEncodeLow': WHATEVER THE INPUT: true; the input reads as it did. -/
def fnEncodeLowSpec : ChangeSpec := { name := "fnEncodeLow", vars := ["loop.example/cothreads/impl.instrTable"], fn := fun _ => fun
  | [d, g1] => { results := [.lit (.bool true)], args := [d], vars := [g1] }
  | _ => none }
def fnEncodeLowRow : OpenClaim := { program := "ythmfkdlncnjjoaadoor", sum := "80d904badbf9081f3c988b4898be2a328a5f5d51990636cd6f3c1aad712abd5a", func := "loop.example/cothreads/laws.FnEncodeLow", spec := "fnEncodeLow", unfollowed := true, recurses := true, named := ["loop.example/cothreads/impl.instrTable"], apart := false, laid := [("loop.example/cothreads/impl.instrTable", laid_loop_example_cothreads_impl_instrTable)] }
def FnEncodeLowSaid : Prop := fnEncodeLowRow.holds Tryd.pinned (OpenSpec.ofChange fnEncodeLowSpec)

/-- ITS FALSE NEIGHBOUR: 'it returns false'. Refute it at one input. -/
def fnEncodeLowWrong : ChangeSpec := { name := "fnEncodeLow", vars := ["loop.example/cothreads/impl.instrTable"], fn := fun _ => fun
  | [d, g1] => { results := [.lit (.bool false)], args := [d], vars := [g1] }
  | _ => none }
def FnEncodeLowWrongFalsely : Prop := fnEncodeLowRow.holds Tryd.pinned (OpenSpec.ofChange fnEncodeLowWrong)

/-- 'laws.FnEncodeSign': WHATEVER THE INPUT: true; the input reads as it did. -/
def fnEncodeSignSpec : ChangeSpec := { name := "fnEncodeSign", vars := ["loop.example/cothreads/impl.instrTable"], fn := fun _ => fun
  | [d, g1] => { results := [.lit (.bool true)], args := [d], vars := [g1] }
  | _ => none }
def fnEncodeSignRow : OpenClaim := { program := "ythmfkdlncnjjoaadoor", sum := "80d904badbf9081f3c988b4898be2a328a5f5d51990636cd6f3c1aad712abd5a", func := "loop.example/cothreads/laws.FnEncodeSign", spec := "fnEncodeSign", unfollowed := true, recurses := true, named := ["loop.example/cothreads/impl.instrTable"], apart := false, laid := [("loop.example/cothreads/impl.instrTable", laid_loop_example_cothreads_impl_instrTable)] }
def FnEncodeSignSaid : Prop := fnEncodeSignRow.holds Tryd.pinned (OpenSpec.ofChange fnEncodeSignSpec)

/-- ITS FALSE NEIGHBOUR: 'it returns false'. Refute it at one input. -/
def fnEncodeSignWrong : ChangeSpec := { name := "fnEncodeSign", vars := ["loop.example/cothreads/impl.instrTable"], fn := fun _ => fun
  | [d, g1] => { results := [.lit (.bool false)], args := [d], vars := [g1] }
  | _ => none }
def FnEncodeSignWrongFalsely : Prop := fnEncodeSignRow.holds Tryd.pinned (OpenSpec.ofChange fnEncodeSignWrong)

/-- 'laws.FnExactInstrDecode': WHATEVER THE INPUT: true; the input reads as it did. -/
def fnExactInstrDecodeSpec : ChangeSpec := { name := "fnExactInstrDecode", vars := ["loop.example/cothreads/impl.instrTable"], fn := fun _ => fun
  | [d, g1] => { results := [.lit (.bool true)], args := [d], vars := [g1] }
  | _ => none }
def fnExactInstrDecodeRow : OpenClaim := { program := "ythmfkdlncnjjoaadoor", sum := "80d904badbf9081f3c988b4898be2a328a5f5d51990636cd6f3c1aad712abd5a", func := "loop.example/cothreads/laws.FnExactInstrDecode", spec := "fnExactInstrDecode", unfollowed := true, recurses := true, named := ["loop.example/cothreads/impl.instrTable"], apart := false, laid := [("loop.example/cothreads/impl.instrTable", laid_loop_example_cothreads_impl_instrTable)] }
def FnExactInstrDecodeSaid : Prop := fnExactInstrDecodeRow.holds Tryd.pinned (OpenSpec.ofChange fnExactInstrDecodeSpec)

/-- ITS FALSE NEIGHBOUR: 'it returns false'. Refute it at one input. -/
def fnExactInstrDecodeWrong : ChangeSpec := { name := "fnExactInstrDecode", vars := ["loop.example/cothreads/impl.instrTable"], fn := fun _ => fun
  | [d, g1] => { results := [.lit (.bool false)], args := [d], vars := [g1] }
  | _ => none }
def FnExactInstrDecodeWrongFalsely : Prop := fnExactInstrDecodeRow.holds Tryd.pinned (OpenSpec.ofChange fnExactInstrDecodeWrong)

/-- 'laws.FnEncode': WHATEVER THE INPUT: true; the input reads as it did. -/
def fnEncodeSpec : ChangeSpec := { name := "fnEncode", vars := ["loop.example/cothreads/impl.instrTable"], fn := fun _ => fun
  | [d, g1] => { results := [.lit (.bool true)], args := [d], vars := [g1] }
  | _ => none }
def fnEncodeRow : OpenClaim := { program := "ythmfkdlncnjjoaadoor", sum := "80d904badbf9081f3c988b4898be2a328a5f5d51990636cd6f3c1aad712abd5a", func := "loop.example/cothreads/laws.FnEncode", spec := "fnEncode", unfollowed := true, recurses := true, named := ["loop.example/cothreads/impl.instrTable"], apart := false, laid := [("loop.example/cothreads/impl.instrTable", laid_loop_example_cothreads_impl_instrTable)] }
def FnEncodeSaid : Prop := fnEncodeRow.holds Tryd.pinned (OpenSpec.ofChange fnEncodeSpec)

/-- ITS FALSE NEIGHBOUR: 'it returns false'. Refute it at one input. -/
def fnEncodeWrong : ChangeSpec := { name := "fnEncode", vars := ["loop.example/cothreads/impl.instrTable"], fn := fun _ => fun
  | [d, g1] => { results := [.lit (.bool false)], args := [d], vars := [g1] }
  | _ => none }
def FnEncodeWrongFalsely : Prop := fnEncodeRow.holds Tryd.pinned (OpenSpec.ofChange fnEncodeWrong)

/-- 'laws.FnExactInstrText': WHATEVER THE INPUT: true; the input reads as it did. -/
def fnExactInstrTextSpec : ChangeSpec := { name := "fnExactInstrText", vars := ["loop.example/cothreads/impl.instrTable"], fn := fun _ => fun
  | [d, g1] => { results := [.lit (.bool true)], args := [d], vars := [g1] }
  | _ => none }
def fnExactInstrTextRow : OpenClaim := { program := "ythmfkdlncnjjoaadoor", sum := "80d904badbf9081f3c988b4898be2a328a5f5d51990636cd6f3c1aad712abd5a", func := "loop.example/cothreads/laws.FnExactInstrText", spec := "fnExactInstrText", recurses := true, named := ["loop.example/cothreads/impl.instrTable", "internal/strconv.uint64pow10", "math/bits.deBruijn32tab", "math/bits.deBruijn64tab"], apart := false, laid := [("math/bits.deBruijn32tab", laid_math_bits_deBruijn32tab), ("math/bits.deBruijn64tab", laid_math_bits_deBruijn64tab), ("internal/strconv.uint64pow10", laid_internal_strconv_uint64pow10), ("loop.example/cothreads/impl.instrTable", laid_loop_example_cothreads_impl_instrTable)] }
def FnExactInstrTextSaid : Prop := fnExactInstrTextRow.holds Tryd.pinned (OpenSpec.ofChange fnExactInstrTextSpec)

/-- ITS FALSE NEIGHBOUR: 'it returns false'. Refute it at one input. -/
def fnExactInstrTextWrong : ChangeSpec := { name := "fnExactInstrText", vars := ["loop.example/cothreads/impl.instrTable"], fn := fun _ => fun
  | [d, g1] => { results := [.lit (.bool false)], args := [d], vars := [g1] }
  | _ => none }
def FnExactInstrTextWrongFalsely : Prop := fnExactInstrTextRow.holds Tryd.pinned (OpenSpec.ofChange fnExactInstrTextWrong)

/-- 'laws.FnDecode': WHATEVER THE INPUT: true; the input reads as it did. -/
def fnDecodeSpec : ChangeSpec := { name := "fnDecode", vars := ["loop.example/cothreads/impl.instrTable"], fn := fun _ => fun
  | [d, g1] => { results := [.lit (.bool true)], args := [d], vars := [g1] }
  | _ => none }
def fnDecodeRow : OpenClaim := { program := "ythmfkdlncnjjoaadoor", sum := "80d904badbf9081f3c988b4898be2a328a5f5d51990636cd6f3c1aad712abd5a", func := "loop.example/cothreads/laws.FnDecode", spec := "fnDecode", unfollowed := true, recurses := true, named := ["loop.example/cothreads/impl.instrTable"], apart := false, laid := [("loop.example/cothreads/impl.instrTable", laid_loop_example_cothreads_impl_instrTable)] }
def FnDecodeSaid : Prop := fnDecodeRow.holds Tryd.pinned (OpenSpec.ofChange fnDecodeSpec)

/-- ITS FALSE NEIGHBOUR: 'it returns false'. Refute it at one input. -/
def fnDecodeWrong : ChangeSpec := { name := "fnDecode", vars := ["loop.example/cothreads/impl.instrTable"], fn := fun _ => fun
  | [d, g1] => { results := [.lit (.bool false)], args := [d], vars := [g1] }
  | _ => none }
def FnDecodeWrongFalsely : Prop := fnDecodeRow.holds Tryd.pinned (OpenSpec.ofChange fnDecodeWrong)

/-- 'laws.FnDecodeImm': WHATEVER THE INPUT: true; the input reads as it did. -/
def fnDecodeImmSpec : ChangeSpec := { name := "fnDecodeImm", vars := ["loop.example/cothreads/impl.instrTable"], fn := fun _ => fun
  | [d, g1] => { results := [.lit (.bool true)], args := [d], vars := [g1] }
  | _ => none }
def fnDecodeImmRow : OpenClaim := { program := "ythmfkdlncnjjoaadoor", sum := "80d904badbf9081f3c988b4898be2a328a5f5d51990636cd6f3c1aad712abd5a", func := "loop.example/cothreads/laws.FnDecodeImm", spec := "fnDecodeImm", unfollowed := true, recurses := true, named := ["loop.example/cothreads/impl.instrTable"], apart := false, laid := [("loop.example/cothreads/impl.instrTable", laid_loop_example_cothreads_impl_instrTable)] }
def FnDecodeImmSaid : Prop := fnDecodeImmRow.holds Tryd.pinned (OpenSpec.ofChange fnDecodeImmSpec)

/-- ITS FALSE NEIGHBOUR: 'it returns false'. Refute it at one input. -/
def fnDecodeImmWrong : ChangeSpec := { name := "fnDecodeImm", vars := ["loop.example/cothreads/impl.instrTable"], fn := fun _ => fun
  | [d, g1] => { results := [.lit (.bool false)], args := [d], vars := [g1] }
  | _ => none }
def FnDecodeImmWrongFalsely : Prop := fnDecodeImmRow.holds Tryd.pinned (OpenSpec.ofChange fnDecodeImmWrong)

/-- 'laws.FnInstrText': WHATEVER THE INPUT: true; the input reads as it did. -/
def fnInstrTextSpec : ChangeSpec := { name := "fnInstrText", vars := ["loop.example/cothreads/impl.instrTable"], fn := fun _ => fun
  | [d, g1] => { results := [.lit (.bool true)], args := [d], vars := [g1] }
  | _ => none }
def fnInstrTextRow : OpenClaim := { program := "ythmfkdlncnjjoaadoor", sum := "80d904badbf9081f3c988b4898be2a328a5f5d51990636cd6f3c1aad712abd5a", func := "loop.example/cothreads/laws.FnInstrText", spec := "fnInstrText", recurses := true, named := ["loop.example/cothreads/impl.instrTable", "internal/strconv.uint64pow10", "math/bits.deBruijn32tab", "math/bits.deBruijn64tab"], apart := false, laid := [("math/bits.deBruijn32tab", laid_math_bits_deBruijn32tab), ("math/bits.deBruijn64tab", laid_math_bits_deBruijn64tab), ("internal/strconv.uint64pow10", laid_internal_strconv_uint64pow10), ("loop.example/cothreads/impl.instrTable", laid_loop_example_cothreads_impl_instrTable)] }
def FnInstrTextSaid : Prop := fnInstrTextRow.holds Tryd.pinned (OpenSpec.ofChange fnInstrTextSpec)

/-- ITS FALSE NEIGHBOUR: 'it returns false'. Refute it at one input. -/
def fnInstrTextWrong : ChangeSpec := { name := "fnInstrText", vars := ["loop.example/cothreads/impl.instrTable"], fn := fun _ => fun
  | [d, g1] => { results := [.lit (.bool false)], args := [d], vars := [g1] }
  | _ => none }
def FnInstrTextWrongFalsely : Prop := fnInstrTextRow.holds Tryd.pinned (OpenSpec.ofChange fnInstrTextWrong)

/-- 'laws.FnInstrTextOther': WHATEVER THE INPUT: true; the input reads as it did. -/
def fnInstrTextOtherSpec : ChangeSpec := { name := "fnInstrTextOther", vars := ["loop.example/cothreads/impl.instrTable"], fn := fun _ => fun
  | [d1, d2, g1] => { results := [.lit (.bool true)], args := [d1, d2], vars := [g1] }
  | _ => none }
def fnInstrTextOtherRow : OpenClaim := { program := "ythmfkdlncnjjoaadoor", sum := "80d904badbf9081f3c988b4898be2a328a5f5d51990636cd6f3c1aad712abd5a", func := "loop.example/cothreads/laws.FnInstrTextOther", spec := "fnInstrTextOther", recurses := true, named := ["loop.example/cothreads/impl.instrTable", "internal/strconv.uint64pow10", "math/bits.deBruijn32tab", "math/bits.deBruijn64tab"], apart := false, laid := [("math/bits.deBruijn32tab", laid_math_bits_deBruijn32tab), ("math/bits.deBruijn64tab", laid_math_bits_deBruijn64tab), ("internal/strconv.uint64pow10", laid_internal_strconv_uint64pow10), ("loop.example/cothreads/impl.instrTable", laid_loop_example_cothreads_impl_instrTable)] }
def FnInstrTextOtherSaid : Prop := fnInstrTextOtherRow.holds Tryd.pinned (OpenSpec.ofChange fnInstrTextOtherSpec)

/-- ITS FALSE NEIGHBOUR: 'it returns false'. Refute it at one input. -/
def fnInstrTextOtherWrong : ChangeSpec := { name := "fnInstrTextOther", vars := ["loop.example/cothreads/impl.instrTable"], fn := fun _ => fun
  | [d1, d2, g1] => { results := [.lit (.bool false)], args := [d1, d2], vars := [g1] }
  | _ => none }
def FnInstrTextOtherWrongFalsely : Prop := fnInstrTextOtherRow.holds Tryd.pinned (OpenSpec.ofChange fnInstrTextOtherWrong)

/- THE SECOND FORM. 'bulk': how many values and letters a reading holds, each counted each time it is reached (what is shared counts as often as it is met; a slice's spare places count too). A statement '..UptoSaid' is the law's where the arguments, and the package variables that the reading takes, are together of bulk at most 1048576: NARROWER than '..Said'. Prove '..Said' where nothing that the law and all that it calls make is longer than what came in: it says more and counts as full. Else prove '..UptoSaid'. A law counts once. -/
mutual
def uptoBulk {H : Type} : DataW H → Nat
  | .lit (.string bytes) => bytes.length + 1
  | .lit _ => 1
  | .nil => 1
  | .ptr d => uptoBulk d + 1
  | .slice elems spare => uptoBulkAll elems + uptoBulkAll spare + 1
  | .agg parts => uptoBulkAll parts + 1
  | .iface _ d => uptoBulk d + 1
  | .map entries => uptoBulkEntries entries + 1
  | .held _ => 1
def uptoBulkAll {H : Type} : List (DataW H) → Nat
  | [] => 0
  | d :: r => uptoBulk d + uptoBulkAll r
def uptoBulkEntries {H : Type} : List (Lit × DataW H) → Nat
  | [] => 0
  | x :: r => uptoBulkEntry x + uptoBulkEntries r
def uptoBulkEntry {H : Type} : Lit × DataW H → Nat
  | (.string bytes, d) => bytes.length + uptoBulk d + 1
  | (_, d) => uptoBulk d + 1
 end
def uptoSmall : (H : Type) → List (DataW H) → Bool := fun _ ds => decide (uptoBulkAll ds ≤ 1048576)
def OpenSpec.upto (s : _root_.Go.ChangeSpec) : _root_.Go.OpenSpec := { _root_.Go.OpenSpec.ofChange s with cond := some uptoSmall }

/-- 'laws.FnExactInstrEncode', WHERE WHAT IT READS IS OF BULK AT MOST 1048576: true; the input reads as it did. -/
def fnExactInstrEncodeUptoRow : OpenClaim := { program := "ythmfkdlncnjjoaadoor", sum := "80d904badbf9081f3c988b4898be2a328a5f5d51990636cd6f3c1aad712abd5a", func := "loop.example/cothreads/laws.FnExactInstrEncode", spec := "fnExactInstrEncode", unfollowed := true, recurses := true, named := ["loop.example/cothreads/impl.instrTable"], apart := false, laid := [("loop.example/cothreads/impl.instrTable", laid_loop_example_cothreads_impl_instrTable)], narrowed := true }
def FnExactInstrEncodeUptoSaid : Prop := fnExactInstrEncodeUptoRow.holds Tryd.pinned (OpenSpec.upto fnExactInstrEncodeSpec)

/-- 'laws.FnEncodeFields', WHERE WHAT IT READS IS OF BULK AT MOST 1048576: true; the input reads as it did. -/
def fnEncodeFieldsUptoRow : OpenClaim := { program := "ythmfkdlncnjjoaadoor", sum := "80d904badbf9081f3c988b4898be2a328a5f5d51990636cd6f3c1aad712abd5a", func := "loop.example/cothreads/laws.FnEncodeFields", spec := "fnEncodeFields", unfollowed := true, recurses := true, named := ["loop.example/cothreads/impl.instrTable"], apart := false, laid := [("loop.example/cothreads/impl.instrTable", laid_loop_example_cothreads_impl_instrTable)], narrowed := true }
def FnEncodeFieldsUptoSaid : Prop := fnEncodeFieldsUptoRow.holds Tryd.pinned (OpenSpec.upto fnEncodeFieldsSpec)

/-- 'laws.FnEncodeLow', WHERE WHAT IT READS IS OF BULK AT MOST 1048576: true; the input reads as it did. -/
def fnEncodeLowUptoRow : OpenClaim := { program := "ythmfkdlncnjjoaadoor", sum := "80d904badbf9081f3c988b4898be2a328a5f5d51990636cd6f3c1aad712abd5a", func := "loop.example/cothreads/laws.FnEncodeLow", spec := "fnEncodeLow", unfollowed := true, recurses := true, named := ["loop.example/cothreads/impl.instrTable"], apart := false, laid := [("loop.example/cothreads/impl.instrTable", laid_loop_example_cothreads_impl_instrTable)], narrowed := true }
def FnEncodeLowUptoSaid : Prop := fnEncodeLowUptoRow.holds Tryd.pinned (OpenSpec.upto fnEncodeLowSpec)

/-- 'laws.FnEncodeSign', WHERE WHAT IT READS IS OF BULK AT MOST 1048576: true; the input reads as it did. -/
def fnEncodeSignUptoRow : OpenClaim := { program := "ythmfkdlncnjjoaadoor", sum := "80d904badbf9081f3c988b4898be2a328a5f5d51990636cd6f3c1aad712abd5a", func := "loop.example/cothreads/laws.FnEncodeSign", spec := "fnEncodeSign", unfollowed := true, recurses := true, named := ["loop.example/cothreads/impl.instrTable"], apart := false, laid := [("loop.example/cothreads/impl.instrTable", laid_loop_example_cothreads_impl_instrTable)], narrowed := true }
def FnEncodeSignUptoSaid : Prop := fnEncodeSignUptoRow.holds Tryd.pinned (OpenSpec.upto fnEncodeSignSpec)

/-- 'laws.FnExactInstrDecode', WHERE WHAT IT READS IS OF BULK AT MOST 1048576: true; the input reads as it did. -/
def fnExactInstrDecodeUptoRow : OpenClaim := { program := "ythmfkdlncnjjoaadoor", sum := "80d904badbf9081f3c988b4898be2a328a5f5d51990636cd6f3c1aad712abd5a", func := "loop.example/cothreads/laws.FnExactInstrDecode", spec := "fnExactInstrDecode", unfollowed := true, recurses := true, named := ["loop.example/cothreads/impl.instrTable"], apart := false, laid := [("loop.example/cothreads/impl.instrTable", laid_loop_example_cothreads_impl_instrTable)], narrowed := true }
def FnExactInstrDecodeUptoSaid : Prop := fnExactInstrDecodeUptoRow.holds Tryd.pinned (OpenSpec.upto fnExactInstrDecodeSpec)

/-- 'laws.FnEncode', WHERE WHAT IT READS IS OF BULK AT MOST 1048576: true; the input reads as it did. -/
def fnEncodeUptoRow : OpenClaim := { program := "ythmfkdlncnjjoaadoor", sum := "80d904badbf9081f3c988b4898be2a328a5f5d51990636cd6f3c1aad712abd5a", func := "loop.example/cothreads/laws.FnEncode", spec := "fnEncode", unfollowed := true, recurses := true, named := ["loop.example/cothreads/impl.instrTable"], apart := false, laid := [("loop.example/cothreads/impl.instrTable", laid_loop_example_cothreads_impl_instrTable)], narrowed := true }
def FnEncodeUptoSaid : Prop := fnEncodeUptoRow.holds Tryd.pinned (OpenSpec.upto fnEncodeSpec)

/-- 'laws.FnExactInstrText', WHERE WHAT IT READS IS OF BULK AT MOST 1048576: true; the input reads as it did. -/
def fnExactInstrTextUptoRow : OpenClaim := { program := "ythmfkdlncnjjoaadoor", sum := "80d904badbf9081f3c988b4898be2a328a5f5d51990636cd6f3c1aad712abd5a", func := "loop.example/cothreads/laws.FnExactInstrText", spec := "fnExactInstrText", recurses := true, named := ["loop.example/cothreads/impl.instrTable", "internal/strconv.uint64pow10", "math/bits.deBruijn32tab", "math/bits.deBruijn64tab"], apart := false, laid := [("math/bits.deBruijn32tab", laid_math_bits_deBruijn32tab), ("math/bits.deBruijn64tab", laid_math_bits_deBruijn64tab), ("internal/strconv.uint64pow10", laid_internal_strconv_uint64pow10), ("loop.example/cothreads/impl.instrTable", laid_loop_example_cothreads_impl_instrTable)], narrowed := true }
def FnExactInstrTextUptoSaid : Prop := fnExactInstrTextUptoRow.holds Tryd.pinned (OpenSpec.upto fnExactInstrTextSpec)

/-- 'laws.FnDecode', WHERE WHAT IT READS IS OF BULK AT MOST 1048576: true; the input reads as it did. -/
def fnDecodeUptoRow : OpenClaim := { program := "ythmfkdlncnjjoaadoor", sum := "80d904badbf9081f3c988b4898be2a328a5f5d51990636cd6f3c1aad712abd5a", func := "loop.example/cothreads/laws.FnDecode", spec := "fnDecode", unfollowed := true, recurses := true, named := ["loop.example/cothreads/impl.instrTable"], apart := false, laid := [("loop.example/cothreads/impl.instrTable", laid_loop_example_cothreads_impl_instrTable)], narrowed := true }
def FnDecodeUptoSaid : Prop := fnDecodeUptoRow.holds Tryd.pinned (OpenSpec.upto fnDecodeSpec)

/-- 'laws.FnDecodeImm', WHERE WHAT IT READS IS OF BULK AT MOST 1048576: true; the input reads as it did. -/
def fnDecodeImmUptoRow : OpenClaim := { program := "ythmfkdlncnjjoaadoor", sum := "80d904badbf9081f3c988b4898be2a328a5f5d51990636cd6f3c1aad712abd5a", func := "loop.example/cothreads/laws.FnDecodeImm", spec := "fnDecodeImm", unfollowed := true, recurses := true, named := ["loop.example/cothreads/impl.instrTable"], apart := false, laid := [("loop.example/cothreads/impl.instrTable", laid_loop_example_cothreads_impl_instrTable)], narrowed := true }
def FnDecodeImmUptoSaid : Prop := fnDecodeImmUptoRow.holds Tryd.pinned (OpenSpec.upto fnDecodeImmSpec)

/-- 'laws.FnInstrText', WHERE WHAT IT READS IS OF BULK AT MOST 1048576: true; the input reads as it did. -/
def fnInstrTextUptoRow : OpenClaim := { program := "ythmfkdlncnjjoaadoor", sum := "80d904badbf9081f3c988b4898be2a328a5f5d51990636cd6f3c1aad712abd5a", func := "loop.example/cothreads/laws.FnInstrText", spec := "fnInstrText", recurses := true, named := ["loop.example/cothreads/impl.instrTable", "internal/strconv.uint64pow10", "math/bits.deBruijn32tab", "math/bits.deBruijn64tab"], apart := false, laid := [("math/bits.deBruijn32tab", laid_math_bits_deBruijn32tab), ("math/bits.deBruijn64tab", laid_math_bits_deBruijn64tab), ("internal/strconv.uint64pow10", laid_internal_strconv_uint64pow10), ("loop.example/cothreads/impl.instrTable", laid_loop_example_cothreads_impl_instrTable)], narrowed := true }
def FnInstrTextUptoSaid : Prop := fnInstrTextUptoRow.holds Tryd.pinned (OpenSpec.upto fnInstrTextSpec)

/-- 'laws.FnInstrTextOther', WHERE WHAT IT READS IS OF BULK AT MOST 1048576: true; the input reads as it did. -/
def fnInstrTextOtherUptoRow : OpenClaim := { program := "ythmfkdlncnjjoaadoor", sum := "80d904badbf9081f3c988b4898be2a328a5f5d51990636cd6f3c1aad712abd5a", func := "loop.example/cothreads/laws.FnInstrTextOther", spec := "fnInstrTextOther", recurses := true, named := ["loop.example/cothreads/impl.instrTable", "internal/strconv.uint64pow10", "math/bits.deBruijn32tab", "math/bits.deBruijn64tab"], apart := false, laid := [("math/bits.deBruijn32tab", laid_math_bits_deBruijn32tab), ("math/bits.deBruijn64tab", laid_math_bits_deBruijn64tab), ("internal/strconv.uint64pow10", laid_internal_strconv_uint64pow10), ("loop.example/cothreads/impl.instrTable", laid_loop_example_cothreads_impl_instrTable)], narrowed := true }
def FnInstrTextOtherUptoSaid : Prop := fnInstrTextOtherUptoRow.holds Tryd.pinned (OpenSpec.upto fnInstrTextOtherSpec)

end Rows
end Go.Proofs.YthmfkdlncnjjoaaDoor
