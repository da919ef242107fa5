/-
  NARROWER THAN 'FOR EVERY INPUT', by the rows' own cells (each row's printed sentence says how): RollinghashTables: laid · RollinghashPushes: laid · RollinghashZeros: laid · RollinghashResets: laid · RollinghashHashes: laid · RollinghashForgets: laid · RollinghashJoins: laid · RollinghashAlls: laid · ChunkerAtOnce: laid · ChunkerReach: laid · ChunkerPrimary: laid · ChunkerLocal: laid · ChunkerPrefix: laid · ChunkerSuffix: laid · ChunkerCuts: laid · ChunkerStreams: laid · ChunkerBounds: laid · ChunkerCommon: laid · ChunkerValid: laid.
  DERIVED. THE GIVEN ROWS OF THIS SEAT. 19 by the template 'for every input the law returns true; each argument reads behind the call as it read before'; 0 by the template 'total and deterministic' (their statements: YtfnhcjcahcacnaaDoorTotals.lean).
  GIVEN WITH THE SEED: the statements are not yours to turn. If you find one false, say at which input.
  Laid BY PROGRAM, IN A SANDBOX (cutbox-rows.mjs): the forced cells as the released guide's own fill.sh prints them over the translation 65db1a50d2c598b4… (all of the seat's roots in one cut). By AI agents, Wed Nov 11 2026. No macro, syntax, notation, axiom, sorry.
-/
import Derived.Test.YtfnhcjcahcacnaaDoorChecked
import GoSem.Claim
import GoSem.ClaimJoined
import GoSem.ClaimMapViews
import Derived.JoinedTies
import Derived.KernelRfl
namespace Go.Proofs.YtfnhcjcahcacnaaDoor
/- THE CELL 'sum', in the pinned program and in every row, IS THE sha256 OF THE DUMP (.gsa) THAT YtfnhcjcahcacnaaDoorProg.lean LOADS. Nothing in Lean hashes anything: it is a label: what it is worth is what the hold of that sum in a sandbox is worth. -/
noncomputable def Tryd.pinned : Pinned := { name := "ytfnhcjcahcacnaadoor", sum := "65db1a50d2c598b4952f257ef5a798510e6b9f64c83f7d3681af0dd92a8b6685", checked := Tryd.checked }
namespace Rows
def none {H : Type} : Left H := { results := [], args := [] }

/- WHAT THE LISTED PACKAGE-LEVEL VARIABLES READ AS WHEN THE CALL BEGINS. Each datum BY PROGRAM (the guide's laid-datum.mjs) off the statement by which the dump's own 'gosem.cut.vars' lays the variable. In a bare row this is a premise. The card (YtfnhcjcahcacnaaDoorCards.lean) ties it to the program's text. -/
def laid_math_bits_deBruijn64tab {H : Type} : DataW H := .agg [.lit (.int .u8 0), .lit (.int .u8 1), .lit (.int .u8 56), .lit (.int .u8 2), .lit (.int .u8 57), .lit (.int .u8 49), .lit (.int .u8 28), .lit (.int .u8 3), .lit (.int .u8 61), .lit (.int .u8 58), .lit (.int .u8 42), .lit (.int .u8 50), .lit (.int .u8 38), .lit (.int .u8 29), .lit (.int .u8 17), .lit (.int .u8 4), .lit (.int .u8 62), .lit (.int .u8 47), .lit (.int .u8 59), .lit (.int .u8 36), .lit (.int .u8 45), .lit (.int .u8 43), .lit (.int .u8 51), .lit (.int .u8 22), .lit (.int .u8 53), .lit (.int .u8 39), .lit (.int .u8 33), .lit (.int .u8 30), .lit (.int .u8 24), .lit (.int .u8 18), .lit (.int .u8 12), .lit (.int .u8 5), .lit (.int .u8 63), .lit (.int .u8 55), .lit (.int .u8 48), .lit (.int .u8 27), .lit (.int .u8 60), .lit (.int .u8 41), .lit (.int .u8 37), .lit (.int .u8 16), .lit (.int .u8 46), .lit (.int .u8 35), .lit (.int .u8 44), .lit (.int .u8 21), .lit (.int .u8 52), .lit (.int .u8 32), .lit (.int .u8 23), .lit (.int .u8 11), .lit (.int .u8 54), .lit (.int .u8 26), .lit (.int .u8 40), .lit (.int .u8 15), .lit (.int .u8 34), .lit (.int .u8 20), .lit (.int .u8 31), .lit (.int .u8 10), .lit (.int .u8 25), .lit (.int .u8 14), .lit (.int .u8 19), .lit (.int .u8 9), .lit (.int .u8 13), .lit (.int .u8 8), .lit (.int .u8 7), .lit (.int .u8 6)]

/-- 'kinkeeplaw14.RollinghashTables': WHATEVER THE INPUT: true; the input reads as it did. -/
def rollinghashTablesSpec : ChangeSpec := { name := "rollinghashTables", fn := fun _ => fun
  | [d] => { results := [.lit (.bool true)], args := [d] }
  | _ => none }
def rollinghashTablesRow : OpenClaim := { program := "ytfnhcjcahcacnaadoor", sum := "65db1a50d2c598b4952f257ef5a798510e6b9f64c83f7d3681af0dd92a8b6685", func := "kinkeep/kinkeeplaw14.RollinghashTables", spec := "rollinghashTables", named := ["math/bits.deBruijn64tab"], apart := false, laid := [("math/bits.deBruijn64tab", laid_math_bits_deBruijn64tab)] }
def RollinghashTablesSaid : Prop := rollinghashTablesRow.holds Tryd.pinned (OpenSpec.ofChange rollinghashTablesSpec)

/-- ITS FALSE NEIGHBOUR: 'it returns false'. Refute it at one input. -/
def rollinghashTablesWrong : ChangeSpec := { name := "rollinghashTables", fn := fun _ => fun
  | [d] => { results := [.lit (.bool false)], args := [d] }
  | _ => none }
def RollinghashTablesWrongFalsely : Prop := rollinghashTablesRow.holds Tryd.pinned (OpenSpec.ofChange rollinghashTablesWrong)

/-- 'kinkeeplaw14.RollinghashPushes': WHATEVER THE INPUT: true; the input reads as it did. -/
def rollinghashPushesSpec : ChangeSpec := { name := "rollinghashPushes", fn := fun _ => fun
  | [d1, d2, d3] => { results := [.lit (.bool true)], args := [d1, d2, d3] }
  | _ => none }
def rollinghashPushesRow : OpenClaim := { program := "ytfnhcjcahcacnaadoor", sum := "65db1a50d2c598b4952f257ef5a798510e6b9f64c83f7d3681af0dd92a8b6685", func := "kinkeep/kinkeeplaw14.RollinghashPushes", spec := "rollinghashPushes", named := ["math/bits.deBruijn64tab"], apart := false, laid := [("math/bits.deBruijn64tab", laid_math_bits_deBruijn64tab)] }
def RollinghashPushesSaid : Prop := rollinghashPushesRow.holds Tryd.pinned (OpenSpec.ofChange rollinghashPushesSpec)

/-- ITS FALSE NEIGHBOUR: 'it returns false'. Refute it at one input. -/
def rollinghashPushesWrong : ChangeSpec := { name := "rollinghashPushes", fn := fun _ => fun
  | [d1, d2, d3] => { results := [.lit (.bool false)], args := [d1, d2, d3] }
  | _ => none }
def RollinghashPushesWrongFalsely : Prop := rollinghashPushesRow.holds Tryd.pinned (OpenSpec.ofChange rollinghashPushesWrong)

/-- 'kinkeeplaw14.RollinghashZeros': WHATEVER THE INPUT: true; the input reads as it did. -/
def rollinghashZerosSpec : ChangeSpec := { name := "rollinghashZeros", fn := fun _ => fun
  | [d] => { results := [.lit (.bool true)], args := [d] }
  | _ => none }
def rollinghashZerosRow : OpenClaim := { program := "ytfnhcjcahcacnaadoor", sum := "65db1a50d2c598b4952f257ef5a798510e6b9f64c83f7d3681af0dd92a8b6685", func := "kinkeep/kinkeeplaw14.RollinghashZeros", spec := "rollinghashZeros", named := ["math/bits.deBruijn64tab"], apart := false, laid := [("math/bits.deBruijn64tab", laid_math_bits_deBruijn64tab)] }
def RollinghashZerosSaid : Prop := rollinghashZerosRow.holds Tryd.pinned (OpenSpec.ofChange rollinghashZerosSpec)

/-- ITS FALSE NEIGHBOUR: 'it returns false'. Refute it at one input. -/
def rollinghashZerosWrong : ChangeSpec := { name := "rollinghashZeros", fn := fun _ => fun
  | [d] => { results := [.lit (.bool false)], args := [d] }
  | _ => none }
def RollinghashZerosWrongFalsely : Prop := rollinghashZerosRow.holds Tryd.pinned (OpenSpec.ofChange rollinghashZerosWrong)

/-- 'kinkeeplaw14.RollinghashResets': WHATEVER THE INPUT: true; the input reads as it did. -/
def rollinghashResetsSpec : ChangeSpec := { name := "rollinghashResets", fn := fun _ => fun
  | [d1, d2, d3, d4] => { results := [.lit (.bool true)], args := [d1, d2, d3, d4] }
  | _ => none }
def rollinghashResetsRow : OpenClaim := { program := "ytfnhcjcahcacnaadoor", sum := "65db1a50d2c598b4952f257ef5a798510e6b9f64c83f7d3681af0dd92a8b6685", func := "kinkeep/kinkeeplaw14.RollinghashResets", spec := "rollinghashResets", named := ["math/bits.deBruijn64tab"], apart := false, laid := [("math/bits.deBruijn64tab", laid_math_bits_deBruijn64tab)] }
def RollinghashResetsSaid : Prop := rollinghashResetsRow.holds Tryd.pinned (OpenSpec.ofChange rollinghashResetsSpec)

/-- ITS FALSE NEIGHBOUR: 'it returns false'. Refute it at one input. -/
def rollinghashResetsWrong : ChangeSpec := { name := "rollinghashResets", fn := fun _ => fun
  | [d1, d2, d3, d4] => { results := [.lit (.bool false)], args := [d1, d2, d3, d4] }
  | _ => none }
def RollinghashResetsWrongFalsely : Prop := rollinghashResetsRow.holds Tryd.pinned (OpenSpec.ofChange rollinghashResetsWrong)

/-- 'kinkeeplaw14.RollinghashHashes': WHATEVER THE INPUT: true; the input reads as it did. -/
def rollinghashHashesSpec : ChangeSpec := { name := "rollinghashHashes", fn := fun _ => fun
  | [d1, d2] => { results := [.lit (.bool true)], args := [d1, d2] }
  | _ => none }
def rollinghashHashesRow : OpenClaim := { program := "ytfnhcjcahcacnaadoor", sum := "65db1a50d2c598b4952f257ef5a798510e6b9f64c83f7d3681af0dd92a8b6685", func := "kinkeep/kinkeeplaw14.RollinghashHashes", spec := "rollinghashHashes", named := ["math/bits.deBruijn64tab"], apart := false, laid := [("math/bits.deBruijn64tab", laid_math_bits_deBruijn64tab)] }
def RollinghashHashesSaid : Prop := rollinghashHashesRow.holds Tryd.pinned (OpenSpec.ofChange rollinghashHashesSpec)

/-- ITS FALSE NEIGHBOUR: 'it returns false'. Refute it at one input. -/
def rollinghashHashesWrong : ChangeSpec := { name := "rollinghashHashes", fn := fun _ => fun
  | [d1, d2] => { results := [.lit (.bool false)], args := [d1, d2] }
  | _ => none }
def RollinghashHashesWrongFalsely : Prop := rollinghashHashesRow.holds Tryd.pinned (OpenSpec.ofChange rollinghashHashesWrong)

/-- 'kinkeeplaw14.RollinghashForgets': WHATEVER THE INPUT: true; the input reads as it did. -/
def rollinghashForgetsSpec : ChangeSpec := { name := "rollinghashForgets", fn := fun _ => fun
  | [d1, d2, d3, d4] => { results := [.lit (.bool true)], args := [d1, d2, d3, d4] }
  | _ => none }
def rollinghashForgetsRow : OpenClaim := { program := "ytfnhcjcahcacnaadoor", sum := "65db1a50d2c598b4952f257ef5a798510e6b9f64c83f7d3681af0dd92a8b6685", func := "kinkeep/kinkeeplaw14.RollinghashForgets", spec := "rollinghashForgets", named := ["math/bits.deBruijn64tab"], apart := false, laid := [("math/bits.deBruijn64tab", laid_math_bits_deBruijn64tab)] }
def RollinghashForgetsSaid : Prop := rollinghashForgetsRow.holds Tryd.pinned (OpenSpec.ofChange rollinghashForgetsSpec)

/-- ITS FALSE NEIGHBOUR: 'it returns false'. Refute it at one input. -/
def rollinghashForgetsWrong : ChangeSpec := { name := "rollinghashForgets", fn := fun _ => fun
  | [d1, d2, d3, d4] => { results := [.lit (.bool false)], args := [d1, d2, d3, d4] }
  | _ => none }
def RollinghashForgetsWrongFalsely : Prop := rollinghashForgetsRow.holds Tryd.pinned (OpenSpec.ofChange rollinghashForgetsWrong)

/-- 'kinkeeplaw14.RollinghashJoins': WHATEVER THE INPUT: true; the input reads as it did. -/
def rollinghashJoinsSpec : ChangeSpec := { name := "rollinghashJoins", fn := fun _ => fun
  | [d1, d2, d3] => { results := [.lit (.bool true)], args := [d1, d2, d3] }
  | _ => none }
def rollinghashJoinsRow : OpenClaim := { program := "ytfnhcjcahcacnaadoor", sum := "65db1a50d2c598b4952f257ef5a798510e6b9f64c83f7d3681af0dd92a8b6685", func := "kinkeep/kinkeeplaw14.RollinghashJoins", spec := "rollinghashJoins", named := ["math/bits.deBruijn64tab"], apart := false, laid := [("math/bits.deBruijn64tab", laid_math_bits_deBruijn64tab)] }
def RollinghashJoinsSaid : Prop := rollinghashJoinsRow.holds Tryd.pinned (OpenSpec.ofChange rollinghashJoinsSpec)

/-- ITS FALSE NEIGHBOUR: 'it returns false'. Refute it at one input. -/
def rollinghashJoinsWrong : ChangeSpec := { name := "rollinghashJoins", fn := fun _ => fun
  | [d1, d2, d3] => { results := [.lit (.bool false)], args := [d1, d2, d3] }
  | _ => none }
def RollinghashJoinsWrongFalsely : Prop := rollinghashJoinsRow.holds Tryd.pinned (OpenSpec.ofChange rollinghashJoinsWrong)

/-- 'kinkeeplaw14.RollinghashAlls': WHATEVER THE INPUT: true; the input reads as it did. -/
def rollinghashAllsSpec : ChangeSpec := { name := "rollinghashAlls", fn := fun _ => fun
  | [d1, d2, d3] => { results := [.lit (.bool true)], args := [d1, d2, d3] }
  | _ => none }
def rollinghashAllsRow : OpenClaim := { program := "ytfnhcjcahcacnaadoor", sum := "65db1a50d2c598b4952f257ef5a798510e6b9f64c83f7d3681af0dd92a8b6685", func := "kinkeep/kinkeeplaw14.RollinghashAlls", spec := "rollinghashAlls", named := ["math/bits.deBruijn64tab"], apart := false, laid := [("math/bits.deBruijn64tab", laid_math_bits_deBruijn64tab)] }
def RollinghashAllsSaid : Prop := rollinghashAllsRow.holds Tryd.pinned (OpenSpec.ofChange rollinghashAllsSpec)

/-- ITS FALSE NEIGHBOUR: 'it returns false'. Refute it at one input. -/
def rollinghashAllsWrong : ChangeSpec := { name := "rollinghashAlls", fn := fun _ => fun
  | [d1, d2, d3] => { results := [.lit (.bool false)], args := [d1, d2, d3] }
  | _ => none }
def RollinghashAllsWrongFalsely : Prop := rollinghashAllsRow.holds Tryd.pinned (OpenSpec.ofChange rollinghashAllsWrong)

/-- 'kinkeeplaw16.ChunkerAtOnce': WHATEVER THE INPUT: true; the input reads as it did. -/
def chunkerAtOnceSpec : ChangeSpec := { name := "chunkerAtOnce", fn := fun _ => fun
  | [d1, d2] => { results := [.lit (.bool true)], args := [d1, d2] }
  | _ => none }
def chunkerAtOnceRow : OpenClaim := { program := "ytfnhcjcahcacnaadoor", sum := "65db1a50d2c598b4952f257ef5a798510e6b9f64c83f7d3681af0dd92a8b6685", func := "kinkeep/kinkeeplaw16.ChunkerAtOnce", spec := "chunkerAtOnce", unfollowed := true, recurses := true, named := ["math/bits.deBruijn64tab"], apart := false, laid := [("math/bits.deBruijn64tab", laid_math_bits_deBruijn64tab)] }
def ChunkerAtOnceSaid : Prop := chunkerAtOnceRow.holds Tryd.pinned (OpenSpec.ofChange chunkerAtOnceSpec)

/-- ITS FALSE NEIGHBOUR: 'it returns false'. Refute it at one input. -/
def chunkerAtOnceWrong : ChangeSpec := { name := "chunkerAtOnce", fn := fun _ => fun
  | [d1, d2] => { results := [.lit (.bool false)], args := [d1, d2] }
  | _ => none }
def ChunkerAtOnceWrongFalsely : Prop := chunkerAtOnceRow.holds Tryd.pinned (OpenSpec.ofChange chunkerAtOnceWrong)

/-- 'kinkeeplaw16.ChunkerReach': WHATEVER THE INPUT: true; the input reads as it did. -/
def chunkerReachSpec : ChangeSpec := { name := "chunkerReach", fn := fun _ => fun
  | [d1, d2, d3] => { results := [.lit (.bool true)], args := [d1, d2, d3] }
  | _ => none }
def chunkerReachRow : OpenClaim := { program := "ytfnhcjcahcacnaadoor", sum := "65db1a50d2c598b4952f257ef5a798510e6b9f64c83f7d3681af0dd92a8b6685", func := "kinkeep/kinkeeplaw16.ChunkerReach", spec := "chunkerReach", unfollowed := true, recurses := true, named := ["math/bits.deBruijn64tab"], apart := false, laid := [("math/bits.deBruijn64tab", laid_math_bits_deBruijn64tab)] }
def ChunkerReachSaid : Prop := chunkerReachRow.holds Tryd.pinned (OpenSpec.ofChange chunkerReachSpec)

/-- ITS FALSE NEIGHBOUR: 'it returns false'. Refute it at one input. -/
def chunkerReachWrong : ChangeSpec := { name := "chunkerReach", fn := fun _ => fun
  | [d1, d2, d3] => { results := [.lit (.bool false)], args := [d1, d2, d3] }
  | _ => none }
def ChunkerReachWrongFalsely : Prop := chunkerReachRow.holds Tryd.pinned (OpenSpec.ofChange chunkerReachWrong)

/-- 'kinkeeplaw16.ChunkerPrimary': WHATEVER THE INPUT: true; the input reads as it did. -/
def chunkerPrimarySpec : ChangeSpec := { name := "chunkerPrimary", fn := fun _ => fun
  | [d1, d2] => { results := [.lit (.bool true)], args := [d1, d2] }
  | _ => none }
def chunkerPrimaryRow : OpenClaim := { program := "ytfnhcjcahcacnaadoor", sum := "65db1a50d2c598b4952f257ef5a798510e6b9f64c83f7d3681af0dd92a8b6685", func := "kinkeep/kinkeeplaw16.ChunkerPrimary", spec := "chunkerPrimary", unfollowed := true, recurses := true, named := ["math/bits.deBruijn64tab"], apart := false, laid := [("math/bits.deBruijn64tab", laid_math_bits_deBruijn64tab)] }
def ChunkerPrimarySaid : Prop := chunkerPrimaryRow.holds Tryd.pinned (OpenSpec.ofChange chunkerPrimarySpec)

/-- ITS FALSE NEIGHBOUR: 'it returns false'. Refute it at one input. -/
def chunkerPrimaryWrong : ChangeSpec := { name := "chunkerPrimary", fn := fun _ => fun
  | [d1, d2] => { results := [.lit (.bool false)], args := [d1, d2] }
  | _ => none }
def ChunkerPrimaryWrongFalsely : Prop := chunkerPrimaryRow.holds Tryd.pinned (OpenSpec.ofChange chunkerPrimaryWrong)

/-- 'kinkeeplaw16.ChunkerLocal': WHATEVER THE INPUT: true; the input reads as it did. -/
def chunkerLocalSpec : ChangeSpec := { name := "chunkerLocal", fn := fun _ => fun
  | [d1, d2, d3, d4] => { results := [.lit (.bool true)], args := [d1, d2, d3, d4] }
  | _ => none }
def chunkerLocalRow : OpenClaim := { program := "ytfnhcjcahcacnaadoor", sum := "65db1a50d2c598b4952f257ef5a798510e6b9f64c83f7d3681af0dd92a8b6685", func := "kinkeep/kinkeeplaw16.ChunkerLocal", spec := "chunkerLocal", unfollowed := true, recurses := true, named := ["math/bits.deBruijn64tab"], apart := false, laid := [("math/bits.deBruijn64tab", laid_math_bits_deBruijn64tab)] }
def ChunkerLocalSaid : Prop := chunkerLocalRow.holds Tryd.pinned (OpenSpec.ofChange chunkerLocalSpec)

/-- ITS FALSE NEIGHBOUR: 'it returns false'. Refute it at one input. -/
def chunkerLocalWrong : ChangeSpec := { name := "chunkerLocal", fn := fun _ => fun
  | [d1, d2, d3, d4] => { results := [.lit (.bool false)], args := [d1, d2, d3, d4] }
  | _ => none }
def ChunkerLocalWrongFalsely : Prop := chunkerLocalRow.holds Tryd.pinned (OpenSpec.ofChange chunkerLocalWrong)

/-- 'kinkeeplaw16.ChunkerPrefix': WHATEVER THE INPUT: true; the input reads as it did. -/
def chunkerPrefixSpec : ChangeSpec := { name := "chunkerPrefix", fn := fun _ => fun
  | [d1, d2, d3] => { results := [.lit (.bool true)], args := [d1, d2, d3] }
  | _ => none }
def chunkerPrefixRow : OpenClaim := { program := "ytfnhcjcahcacnaadoor", sum := "65db1a50d2c598b4952f257ef5a798510e6b9f64c83f7d3681af0dd92a8b6685", func := "kinkeep/kinkeeplaw16.ChunkerPrefix", spec := "chunkerPrefix", unfollowed := true, recurses := true, named := ["math/bits.deBruijn64tab"], apart := false, laid := [("math/bits.deBruijn64tab", laid_math_bits_deBruijn64tab)] }
def ChunkerPrefixSaid : Prop := chunkerPrefixRow.holds Tryd.pinned (OpenSpec.ofChange chunkerPrefixSpec)

/-- ITS FALSE NEIGHBOUR: 'it returns false'. Refute it at one input. -/
def chunkerPrefixWrong : ChangeSpec := { name := "chunkerPrefix", fn := fun _ => fun
  | [d1, d2, d3] => { results := [.lit (.bool false)], args := [d1, d2, d3] }
  | _ => none }
def ChunkerPrefixWrongFalsely : Prop := chunkerPrefixRow.holds Tryd.pinned (OpenSpec.ofChange chunkerPrefixWrong)

/-- 'kinkeeplaw16.ChunkerSuffix': WHATEVER THE INPUT: true; the input reads as it did. -/
def chunkerSuffixSpec : ChangeSpec := { name := "chunkerSuffix", fn := fun _ => fun
  | [d1, d2, d3, d4] => { results := [.lit (.bool true)], args := [d1, d2, d3, d4] }
  | _ => none }
def chunkerSuffixRow : OpenClaim := { program := "ytfnhcjcahcacnaadoor", sum := "65db1a50d2c598b4952f257ef5a798510e6b9f64c83f7d3681af0dd92a8b6685", func := "kinkeep/kinkeeplaw16.ChunkerSuffix", spec := "chunkerSuffix", unfollowed := true, recurses := true, named := ["math/bits.deBruijn64tab"], apart := false, laid := [("math/bits.deBruijn64tab", laid_math_bits_deBruijn64tab)] }
def ChunkerSuffixSaid : Prop := chunkerSuffixRow.holds Tryd.pinned (OpenSpec.ofChange chunkerSuffixSpec)

/-- ITS FALSE NEIGHBOUR: 'it returns false'. Refute it at one input. -/
def chunkerSuffixWrong : ChangeSpec := { name := "chunkerSuffix", fn := fun _ => fun
  | [d1, d2, d3, d4] => { results := [.lit (.bool false)], args := [d1, d2, d3, d4] }
  | _ => none }
def ChunkerSuffixWrongFalsely : Prop := chunkerSuffixRow.holds Tryd.pinned (OpenSpec.ofChange chunkerSuffixWrong)

/-- 'kinkeeplaw16.ChunkerCuts': WHATEVER THE INPUT: true; the input reads as it did. -/
def chunkerCutsSpec : ChangeSpec := { name := "chunkerCuts", fn := fun _ => fun
  | [d1, d2] => { results := [.lit (.bool true)], args := [d1, d2] }
  | _ => none }
def chunkerCutsRow : OpenClaim := { program := "ytfnhcjcahcacnaadoor", sum := "65db1a50d2c598b4952f257ef5a798510e6b9f64c83f7d3681af0dd92a8b6685", func := "kinkeep/kinkeeplaw16.ChunkerCuts", spec := "chunkerCuts", unfollowed := true, recurses := true, named := ["math/bits.deBruijn64tab"], apart := false, laid := [("math/bits.deBruijn64tab", laid_math_bits_deBruijn64tab)] }
def ChunkerCutsSaid : Prop := chunkerCutsRow.holds Tryd.pinned (OpenSpec.ofChange chunkerCutsSpec)

/-- ITS FALSE NEIGHBOUR: 'it returns false'. Refute it at one input. -/
def chunkerCutsWrong : ChangeSpec := { name := "chunkerCuts", fn := fun _ => fun
  | [d1, d2] => { results := [.lit (.bool false)], args := [d1, d2] }
  | _ => none }
def ChunkerCutsWrongFalsely : Prop := chunkerCutsRow.holds Tryd.pinned (OpenSpec.ofChange chunkerCutsWrong)

/-- 'kinkeeplaw16.ChunkerStreams': WHATEVER THE INPUT: true; the input reads as it did. -/
def chunkerStreamsSpec : ChangeSpec := { name := "chunkerStreams", fn := fun _ => fun
  | [d1, d2, d3] => { results := [.lit (.bool true)], args := [d1, d2, d3] }
  | _ => none }
def chunkerStreamsRow : OpenClaim := { program := "ytfnhcjcahcacnaadoor", sum := "65db1a50d2c598b4952f257ef5a798510e6b9f64c83f7d3681af0dd92a8b6685", func := "kinkeep/kinkeeplaw16.ChunkerStreams", spec := "chunkerStreams", unfollowed := true, recurses := true, named := ["math/bits.deBruijn64tab"], apart := false, laid := [("math/bits.deBruijn64tab", laid_math_bits_deBruijn64tab)] }
def ChunkerStreamsSaid : Prop := chunkerStreamsRow.holds Tryd.pinned (OpenSpec.ofChange chunkerStreamsSpec)

/-- ITS FALSE NEIGHBOUR: 'it returns false'. Refute it at one input. -/
def chunkerStreamsWrong : ChangeSpec := { name := "chunkerStreams", fn := fun _ => fun
  | [d1, d2, d3] => { results := [.lit (.bool false)], args := [d1, d2, d3] }
  | _ => none }
def ChunkerStreamsWrongFalsely : Prop := chunkerStreamsRow.holds Tryd.pinned (OpenSpec.ofChange chunkerStreamsWrong)

/-- 'kinkeeplaw16.ChunkerBounds': WHATEVER THE INPUT: true; the input reads as it did. -/
def chunkerBoundsSpec : ChangeSpec := { name := "chunkerBounds", fn := fun _ => fun
  | [d1, d2] => { results := [.lit (.bool true)], args := [d1, d2] }
  | _ => none }
def chunkerBoundsRow : OpenClaim := { program := "ytfnhcjcahcacnaadoor", sum := "65db1a50d2c598b4952f257ef5a798510e6b9f64c83f7d3681af0dd92a8b6685", func := "kinkeep/kinkeeplaw16.ChunkerBounds", spec := "chunkerBounds", unfollowed := true, recurses := true, named := ["math/bits.deBruijn64tab"], apart := false, laid := [("math/bits.deBruijn64tab", laid_math_bits_deBruijn64tab)] }
def ChunkerBoundsSaid : Prop := chunkerBoundsRow.holds Tryd.pinned (OpenSpec.ofChange chunkerBoundsSpec)

/-- ITS FALSE NEIGHBOUR: 'it returns false'. Refute it at one input. -/
def chunkerBoundsWrong : ChangeSpec := { name := "chunkerBounds", fn := fun _ => fun
  | [d1, d2] => { results := [.lit (.bool false)], args := [d1, d2] }
  | _ => none }
def ChunkerBoundsWrongFalsely : Prop := chunkerBoundsRow.holds Tryd.pinned (OpenSpec.ofChange chunkerBoundsWrong)

/-- 'kinkeeplaw16.ChunkerCommon': WHATEVER THE INPUT: true; the input reads as it did. -/
def chunkerCommonSpec : ChangeSpec := { name := "chunkerCommon", fn := fun _ => fun
  | [d1, d2, d3] => { results := [.lit (.bool true)], args := [d1, d2, d3] }
  | _ => none }
def chunkerCommonRow : OpenClaim := { program := "ytfnhcjcahcacnaadoor", sum := "65db1a50d2c598b4952f257ef5a798510e6b9f64c83f7d3681af0dd92a8b6685", func := "kinkeep/kinkeeplaw16.ChunkerCommon", spec := "chunkerCommon", unfollowed := true, recurses := true, named := ["math/bits.deBruijn64tab"], apart := false, laid := [("math/bits.deBruijn64tab", laid_math_bits_deBruijn64tab)] }
def ChunkerCommonSaid : Prop := chunkerCommonRow.holds Tryd.pinned (OpenSpec.ofChange chunkerCommonSpec)

/-- ITS FALSE NEIGHBOUR: 'it returns false'. Refute it at one input. -/
def chunkerCommonWrong : ChangeSpec := { name := "chunkerCommon", fn := fun _ => fun
  | [d1, d2, d3] => { results := [.lit (.bool false)], args := [d1, d2, d3] }
  | _ => none }
def ChunkerCommonWrongFalsely : Prop := chunkerCommonRow.holds Tryd.pinned (OpenSpec.ofChange chunkerCommonWrong)

/-- 'kinkeeplaw16.ChunkerValid': WHATEVER THE INPUT: true; the input reads as it did. -/
def chunkerValidSpec : ChangeSpec := { name := "chunkerValid", fn := fun _ => fun
  | [d1, d2] => { results := [.lit (.bool true)], args := [d1, d2] }
  | _ => none }
def chunkerValidRow : OpenClaim := { program := "ytfnhcjcahcacnaadoor", sum := "65db1a50d2c598b4952f257ef5a798510e6b9f64c83f7d3681af0dd92a8b6685", func := "kinkeep/kinkeeplaw16.ChunkerValid", spec := "chunkerValid", unfollowed := true, recurses := true, named := ["math/bits.deBruijn64tab"], apart := false, laid := [("math/bits.deBruijn64tab", laid_math_bits_deBruijn64tab)] }
def ChunkerValidSaid : Prop := chunkerValidRow.holds Tryd.pinned (OpenSpec.ofChange chunkerValidSpec)

/-- ITS FALSE NEIGHBOUR: 'it returns false'. Refute it at one input. -/
def chunkerValidWrong : ChangeSpec := { name := "chunkerValid", fn := fun _ => fun
  | [d1, d2] => { results := [.lit (.bool false)], args := [d1, d2] }
  | _ => none }
def ChunkerValidWrongFalsely : Prop := chunkerValidRow.holds Tryd.pinned (OpenSpec.ofChange chunkerValidWrong)

/- THE SECOND FORM. 'bulk': how many values and letters a reading holds, each counted each time it is reached (what is shared counts as often as it is met; a slice's spare places count too). A statement '..UptoSaid' is the law's where the arguments, and the package variables that the reading takes, are together of bulk at most 1048576: NARROWER than '..Said'. Prove '..Said' where nothing that the law and all that it calls make is longer than what came in: it says more and counts as full. Else prove '..UptoSaid'. A law counts once. -/
mutual
def uptoBulk {H : Type} : DataW H → Nat
  | .lit (.string bytes) => bytes.length + 1
  | .lit _ => 1
  | .nil => 1
  | .ptr d => uptoBulk d + 1
  | .slice elems spare => uptoBulkAll elems + uptoBulkAll spare + 1
  | .agg parts => uptoBulkAll parts + 1
  | .iface _ d => uptoBulk d + 1
  | .map entries => uptoBulkEntries entries + 1
  | .held _ => 1
def uptoBulkAll {H : Type} : List (DataW H) → Nat
  | [] => 0
  | d :: r => uptoBulk d + uptoBulkAll r
def uptoBulkEntries {H : Type} : List (Lit × DataW H) → Nat
  | [] => 0
  | x :: r => uptoBulkEntry x + uptoBulkEntries r
def uptoBulkEntry {H : Type} : Lit × DataW H → Nat
  | (.string bytes, d) => bytes.length + uptoBulk d + 1
  | (_, d) => uptoBulk d + 1
 end
def uptoSmall : (H : Type) → List (DataW H) → Bool := fun _ ds => decide (uptoBulkAll ds ≤ 1048576)
def OpenSpec.upto (s : _root_.Go.ChangeSpec) : _root_.Go.OpenSpec := { _root_.Go.OpenSpec.ofChange s with cond := some uptoSmall }

/-- 'kinkeeplaw14.RollinghashTables', WHERE WHAT IT READS IS OF BULK AT MOST 1048576: true; the input reads as it did. -/
def rollinghashTablesUptoRow : OpenClaim := { program := "ytfnhcjcahcacnaadoor", sum := "65db1a50d2c598b4952f257ef5a798510e6b9f64c83f7d3681af0dd92a8b6685", func := "kinkeep/kinkeeplaw14.RollinghashTables", spec := "rollinghashTables", named := ["math/bits.deBruijn64tab"], apart := false, laid := [("math/bits.deBruijn64tab", laid_math_bits_deBruijn64tab)], narrowed := true }
def RollinghashTablesUptoSaid : Prop := rollinghashTablesUptoRow.holds Tryd.pinned (OpenSpec.upto rollinghashTablesSpec)

/-- 'kinkeeplaw14.RollinghashPushes', WHERE WHAT IT READS IS OF BULK AT MOST 1048576: true; the input reads as it did. -/
def rollinghashPushesUptoRow : OpenClaim := { program := "ytfnhcjcahcacnaadoor", sum := "65db1a50d2c598b4952f257ef5a798510e6b9f64c83f7d3681af0dd92a8b6685", func := "kinkeep/kinkeeplaw14.RollinghashPushes", spec := "rollinghashPushes", named := ["math/bits.deBruijn64tab"], apart := false, laid := [("math/bits.deBruijn64tab", laid_math_bits_deBruijn64tab)], narrowed := true }
def RollinghashPushesUptoSaid : Prop := rollinghashPushesUptoRow.holds Tryd.pinned (OpenSpec.upto rollinghashPushesSpec)

/-- 'kinkeeplaw14.RollinghashZeros', WHERE WHAT IT READS IS OF BULK AT MOST 1048576: true; the input reads as it did. -/
def rollinghashZerosUptoRow : OpenClaim := { program := "ytfnhcjcahcacnaadoor", sum := "65db1a50d2c598b4952f257ef5a798510e6b9f64c83f7d3681af0dd92a8b6685", func := "kinkeep/kinkeeplaw14.RollinghashZeros", spec := "rollinghashZeros", named := ["math/bits.deBruijn64tab"], apart := false, laid := [("math/bits.deBruijn64tab", laid_math_bits_deBruijn64tab)], narrowed := true }
def RollinghashZerosUptoSaid : Prop := rollinghashZerosUptoRow.holds Tryd.pinned (OpenSpec.upto rollinghashZerosSpec)

/-- 'kinkeeplaw14.RollinghashResets', WHERE WHAT IT READS IS OF BULK AT MOST 1048576: true; the input reads as it did. -/
def rollinghashResetsUptoRow : OpenClaim := { program := "ytfnhcjcahcacnaadoor", sum := "65db1a50d2c598b4952f257ef5a798510e6b9f64c83f7d3681af0dd92a8b6685", func := "kinkeep/kinkeeplaw14.RollinghashResets", spec := "rollinghashResets", named := ["math/bits.deBruijn64tab"], apart := false, laid := [("math/bits.deBruijn64tab", laid_math_bits_deBruijn64tab)], narrowed := true }
def RollinghashResetsUptoSaid : Prop := rollinghashResetsUptoRow.holds Tryd.pinned (OpenSpec.upto rollinghashResetsSpec)

/-- 'kinkeeplaw14.RollinghashHashes', WHERE WHAT IT READS IS OF BULK AT MOST 1048576: true; the input reads as it did. -/
def rollinghashHashesUptoRow : OpenClaim := { program := "ytfnhcjcahcacnaadoor", sum := "65db1a50d2c598b4952f257ef5a798510e6b9f64c83f7d3681af0dd92a8b6685", func := "kinkeep/kinkeeplaw14.RollinghashHashes", spec := "rollinghashHashes", named := ["math/bits.deBruijn64tab"], apart := false, laid := [("math/bits.deBruijn64tab", laid_math_bits_deBruijn64tab)], narrowed := true }
def RollinghashHashesUptoSaid : Prop := rollinghashHashesUptoRow.holds Tryd.pinned (OpenSpec.upto rollinghashHashesSpec)

/-- 'kinkeeplaw14.RollinghashForgets', WHERE WHAT IT READS IS OF BULK AT MOST 1048576: true; the input reads as it did. -/
def rollinghashForgetsUptoRow : OpenClaim := { program := "ytfnhcjcahcacnaadoor", sum := "65db1a50d2c598b4952f257ef5a798510e6b9f64c83f7d3681af0dd92a8b6685", func := "kinkeep/kinkeeplaw14.RollinghashForgets", spec := "rollinghashForgets", named := ["math/bits.deBruijn64tab"], apart := false, laid := [("math/bits.deBruijn64tab", laid_math_bits_deBruijn64tab)], narrowed := true }
def RollinghashForgetsUptoSaid : Prop := rollinghashForgetsUptoRow.holds Tryd.pinned (OpenSpec.upto rollinghashForgetsSpec)

/-- 'kinkeeplaw14.RollinghashJoins', WHERE WHAT IT READS IS OF BULK AT MOST 1048576: true; the input reads as it did. -/
def rollinghashJoinsUptoRow : OpenClaim := { program := "ytfnhcjcahcacnaadoor", sum := "65db1a50d2c598b4952f257ef5a798510e6b9f64c83f7d3681af0dd92a8b6685", func := "kinkeep/kinkeeplaw14.RollinghashJoins", spec := "rollinghashJoins", named := ["math/bits.deBruijn64tab"], apart := false, laid := [("math/bits.deBruijn64tab", laid_math_bits_deBruijn64tab)], narrowed := true }
def RollinghashJoinsUptoSaid : Prop := rollinghashJoinsUptoRow.holds Tryd.pinned (OpenSpec.upto rollinghashJoinsSpec)

/-- 'kinkeeplaw14.RollinghashAlls', WHERE WHAT IT READS IS OF BULK AT MOST 1048576: true; the input reads as it did. -/
def rollinghashAllsUptoRow : OpenClaim := { program := "ytfnhcjcahcacnaadoor", sum := "65db1a50d2c598b4952f257ef5a798510e6b9f64c83f7d3681af0dd92a8b6685", func := "kinkeep/kinkeeplaw14.RollinghashAlls", spec := "rollinghashAlls", named := ["math/bits.deBruijn64tab"], apart := false, laid := [("math/bits.deBruijn64tab", laid_math_bits_deBruijn64tab)], narrowed := true }
def RollinghashAllsUptoSaid : Prop := rollinghashAllsUptoRow.holds Tryd.pinned (OpenSpec.upto rollinghashAllsSpec)

/-- 'kinkeeplaw16.ChunkerAtOnce', WHERE WHAT IT READS IS OF BULK AT MOST 1048576: true; the input reads as it did. -/
def chunkerAtOnceUptoRow : OpenClaim := { program := "ytfnhcjcahcacnaadoor", sum := "65db1a50d2c598b4952f257ef5a798510e6b9f64c83f7d3681af0dd92a8b6685", func := "kinkeep/kinkeeplaw16.ChunkerAtOnce", spec := "chunkerAtOnce", unfollowed := true, recurses := true, named := ["math/bits.deBruijn64tab"], apart := false, laid := [("math/bits.deBruijn64tab", laid_math_bits_deBruijn64tab)], narrowed := true }
def ChunkerAtOnceUptoSaid : Prop := chunkerAtOnceUptoRow.holds Tryd.pinned (OpenSpec.upto chunkerAtOnceSpec)

/-- 'kinkeeplaw16.ChunkerReach', WHERE WHAT IT READS IS OF BULK AT MOST 1048576: true; the input reads as it did. -/
def chunkerReachUptoRow : OpenClaim := { program := "ytfnhcjcahcacnaadoor", sum := "65db1a50d2c598b4952f257ef5a798510e6b9f64c83f7d3681af0dd92a8b6685", func := "kinkeep/kinkeeplaw16.ChunkerReach", spec := "chunkerReach", unfollowed := true, recurses := true, named := ["math/bits.deBruijn64tab"], apart := false, laid := [("math/bits.deBruijn64tab", laid_math_bits_deBruijn64tab)], narrowed := true }
def ChunkerReachUptoSaid : Prop := chunkerReachUptoRow.holds Tryd.pinned (OpenSpec.upto chunkerReachSpec)

/-- 'kinkeeplaw16.ChunkerPrimary', WHERE WHAT IT READS IS OF BULK AT MOST 1048576: true; the input reads as it did. -/
def chunkerPrimaryUptoRow : OpenClaim := { program := "ytfnhcjcahcacnaadoor", sum := "65db1a50d2c598b4952f257ef5a798510e6b9f64c83f7d3681af0dd92a8b6685", func := "kinkeep/kinkeeplaw16.ChunkerPrimary", spec := "chunkerPrimary", unfollowed := true, recurses := true, named := ["math/bits.deBruijn64tab"], apart := false, laid := [("math/bits.deBruijn64tab", laid_math_bits_deBruijn64tab)], narrowed := true }
def ChunkerPrimaryUptoSaid : Prop := chunkerPrimaryUptoRow.holds Tryd.pinned (OpenSpec.upto chunkerPrimarySpec)

/-- 'kinkeeplaw16.ChunkerLocal', WHERE WHAT IT READS IS OF BULK AT MOST 1048576: true; the input reads as it did. -/
def chunkerLocalUptoRow : OpenClaim := { program := "ytfnhcjcahcacnaadoor", sum := "65db1a50d2c598b4952f257ef5a798510e6b9f64c83f7d3681af0dd92a8b6685", func := "kinkeep/kinkeeplaw16.ChunkerLocal", spec := "chunkerLocal", unfollowed := true, recurses := true, named := ["math/bits.deBruijn64tab"], apart := false, laid := [("math/bits.deBruijn64tab", laid_math_bits_deBruijn64tab)], narrowed := true }
def ChunkerLocalUptoSaid : Prop := chunkerLocalUptoRow.holds Tryd.pinned (OpenSpec.upto chunkerLocalSpec)

/-- 'kinkeeplaw16.ChunkerPrefix', WHERE WHAT IT READS IS OF BULK AT MOST 1048576: true; the input reads as it did. -/
def chunkerPrefixUptoRow : OpenClaim := { program := "ytfnhcjcahcacnaadoor", sum := "65db1a50d2c598b4952f257ef5a798510e6b9f64c83f7d3681af0dd92a8b6685", func := "kinkeep/kinkeeplaw16.ChunkerPrefix", spec := "chunkerPrefix", unfollowed := true, recurses := true, named := ["math/bits.deBruijn64tab"], apart := false, laid := [("math/bits.deBruijn64tab", laid_math_bits_deBruijn64tab)], narrowed := true }
def ChunkerPrefixUptoSaid : Prop := chunkerPrefixUptoRow.holds Tryd.pinned (OpenSpec.upto chunkerPrefixSpec)

/-- 'kinkeeplaw16.ChunkerSuffix', WHERE WHAT IT READS IS OF BULK AT MOST 1048576: true; the input reads as it did. -/
def chunkerSuffixUptoRow : OpenClaim := { program := "ytfnhcjcahcacnaadoor", sum := "65db1a50d2c598b4952f257ef5a798510e6b9f64c83f7d3681af0dd92a8b6685", func := "kinkeep/kinkeeplaw16.ChunkerSuffix", spec := "chunkerSuffix", unfollowed := true, recurses := true, named := ["math/bits.deBruijn64tab"], apart := false, laid := [("math/bits.deBruijn64tab", laid_math_bits_deBruijn64tab)], narrowed := true }
def ChunkerSuffixUptoSaid : Prop := chunkerSuffixUptoRow.holds Tryd.pinned (OpenSpec.upto chunkerSuffixSpec)

/-- 'kinkeeplaw16.ChunkerCuts', WHERE WHAT IT READS IS OF BULK AT MOST 1048576: true; the input reads as it did. -/
def chunkerCutsUptoRow : OpenClaim := { program := "ytfnhcjcahcacnaadoor", sum := "65db1a50d2c598b4952f257ef5a798510e6b9f64c83f7d3681af0dd92a8b6685", func := "kinkeep/kinkeeplaw16.ChunkerCuts", spec := "chunkerCuts", unfollowed := true, recurses := true, named := ["math/bits.deBruijn64tab"], apart := false, laid := [("math/bits.deBruijn64tab", laid_math_bits_deBruijn64tab)], narrowed := true }
def ChunkerCutsUptoSaid : Prop := chunkerCutsUptoRow.holds Tryd.pinned (OpenSpec.upto chunkerCutsSpec)

/-- 'kinkeeplaw16.ChunkerStreams', WHERE WHAT IT READS IS OF BULK AT MOST 1048576: true; the input reads as it did. -/
def chunkerStreamsUptoRow : OpenClaim := { program := "ytfnhcjcahcacnaadoor", sum := "65db1a50d2c598b4952f257ef5a798510e6b9f64c83f7d3681af0dd92a8b6685", func := "kinkeep/kinkeeplaw16.ChunkerStreams", spec := "chunkerStreams", unfollowed := true, recurses := true, named := ["math/bits.deBruijn64tab"], apart := false, laid := [("math/bits.deBruijn64tab", laid_math_bits_deBruijn64tab)], narrowed := true }
def ChunkerStreamsUptoSaid : Prop := chunkerStreamsUptoRow.holds Tryd.pinned (OpenSpec.upto chunkerStreamsSpec)

/-- 'kinkeeplaw16.ChunkerBounds', WHERE WHAT IT READS IS OF BULK AT MOST 1048576: true; the input reads as it did. -/
def chunkerBoundsUptoRow : OpenClaim := { program := "ytfnhcjcahcacnaadoor", sum := "65db1a50d2c598b4952f257ef5a798510e6b9f64c83f7d3681af0dd92a8b6685", func := "kinkeep/kinkeeplaw16.ChunkerBounds", spec := "chunkerBounds", unfollowed := true, recurses := true, named := ["math/bits.deBruijn64tab"], apart := false, laid := [("math/bits.deBruijn64tab", laid_math_bits_deBruijn64tab)], narrowed := true }
def ChunkerBoundsUptoSaid : Prop := chunkerBoundsUptoRow.holds Tryd.pinned (OpenSpec.upto chunkerBoundsSpec)

/-- 'kinkeeplaw16.ChunkerCommon', WHERE WHAT IT READS IS OF BULK AT MOST 1048576: true; the input reads as it did. -/
def chunkerCommonUptoRow : OpenClaim := { program := "ytfnhcjcahcacnaadoor", sum := "65db1a50d2c598b4952f257ef5a798510e6b9f64c83f7d3681af0dd92a8b6685", func := "kinkeep/kinkeeplaw16.ChunkerCommon", spec := "chunkerCommon", unfollowed := true, recurses := true, named := ["math/bits.deBruijn64tab"], apart := false, laid := [("math/bits.deBruijn64tab", laid_math_bits_deBruijn64tab)], narrowed := true }
def ChunkerCommonUptoSaid : Prop := chunkerCommonUptoRow.holds Tryd.pinned (OpenSpec.upto chunkerCommonSpec)

/-- 'kinkeeplaw16.ChunkerValid', WHERE WHAT IT READS IS OF BULK AT MOST 1048576: true; the input reads as it did. -/
def chunkerValidUptoRow : OpenClaim := { program := "ytfnhcjcahcacnaadoor", sum := "65db1a50d2c598b4952f257ef5a798510e6b9f64c83f7d3681af0dd92a8b6685", func := "kinkeep/kinkeeplaw16.ChunkerValid", spec := "chunkerValid", unfollowed := true, recurses := true, named := ["math/bits.deBruijn64tab"], apart := false, laid := [("math/bits.deBruijn64tab", laid_math_bits_deBruijn64tab)], narrowed := true }
def ChunkerValidUptoSaid : Prop := chunkerValidUptoRow.holds Tryd.pinned (OpenSpec.upto chunkerValidSpec)

end Rows
end Go.Proofs.YtfnhcjcahcacnaaDoor
