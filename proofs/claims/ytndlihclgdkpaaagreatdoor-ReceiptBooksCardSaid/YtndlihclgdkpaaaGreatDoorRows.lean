/-
  NARROWER THAN 'FOR EVERY INPUT', by the rows' own cells (each row's printed sentence says how): ReceiptIssues: laid · ReceiptReturns: laid · ReceiptVerifies: laid · ReceiptChanged: laid · ReceiptEncodes: laid · ReceiptDecodes: laid · ReceiptContradicts: laid · ReceiptBooks: laid · ReceiptOrder: laid · GossipForged: laid · GossipVerifies: laid.
  DERIVED. THE GIVEN ROWS OF THIS SEAT. 11 by the template 'for every input the law returns true; each argument reads behind the call as it read before'; 0 by the template 'total and deterministic' (their statements: YtndlihclgdkpaaaGreatDoorTotals.lean).
  GIVEN WITH THE SEED: the statements are not yours to turn. If you find one false, say at which input.
  Laid BY PROGRAM, IN A SANDBOX (cutbox-rows.mjs): the forced cells as the released guide's own fill.sh prints them over the translation cba2b9a89fc71831… (all of the seat's roots in one cut). By AI agents, Wed Nov 11 2026. No macro, syntax, notation, axiom, sorry.
-/
import Derived.Test.YtndlihclgdkpaaaGreatDoorChecked
import GoSem.Claim
import GoSem.ClaimJoined
import GoSem.ClaimMapViews
import Derived.JoinedTies
import Derived.KernelRfl
namespace Go.Proofs.YtndlihclgdkpaaaGreatDoor
/- THE CELL 'sum', in the pinned program and in every row, IS THE sha256 OF THE DUMP (.gsa) THAT YtndlihclgdkpaaaGreatDoorProg.lean LOADS. Nothing in Lean hashes anything: it is a label: what it is worth is what the hold of that sum in a sandbox is worth. -/
noncomputable def Tryz.pinned : Pinned := { name := "ytndlihclgdkpaaagreatdoor", sum := "cba2b9a89fc7183125113c7ce8ab62f7e4c018a1dd3eedcc1065ec727fc1512e", checked := Tryz.checked }
namespace Rows
def none {H : Type} : Left H := { results := [], args := [] }

/- WHAT THE LISTED PACKAGE-LEVEL VARIABLES READ AS WHEN THE CALL BEGINS. Each datum BY PROGRAM (the guide's laid-datum.mjs) off the statement by which the dump's own 'gosem.cut.vars' lays the variable. In a bare row this is a premise. The card (YtndlihclgdkpaaaGreatDoorCards.lean) ties it to the program's text. -/
def laid_kinkeep_sha256_initial {H : Type} : DataW H := .agg [.lit (.int .u32 1779033703), .lit (.int .u32 3144134277), .lit (.int .u32 1013904242), .lit (.int .u32 2773480762), .lit (.int .u32 1359893119), .lit (.int .u32 2600822924), .lit (.int .u32 528734635), .lit (.int .u32 1541459225)]
def laid_kinkeep_sha256_constants {H : Type} : DataW H := .agg [.lit (.int .u32 1116352408), .lit (.int .u32 1899447441), .lit (.int .u32 3049323471), .lit (.int .u32 3921009573), .lit (.int .u32 961987163), .lit (.int .u32 1508970993), .lit (.int .u32 2453635748), .lit (.int .u32 2870763221), .lit (.int .u32 3624381080), .lit (.int .u32 310598401), .lit (.int .u32 607225278), .lit (.int .u32 1426881987), .lit (.int .u32 1925078388), .lit (.int .u32 2162078206), .lit (.int .u32 2614888103), .lit (.int .u32 3248222580), .lit (.int .u32 3835390401), .lit (.int .u32 4022224774), .lit (.int .u32 264347078), .lit (.int .u32 604807628), .lit (.int .u32 770255983), .lit (.int .u32 1249150122), .lit (.int .u32 1555081692), .lit (.int .u32 1996064986), .lit (.int .u32 2554220882), .lit (.int .u32 2821834349), .lit (.int .u32 2952996808), .lit (.int .u32 3210313671), .lit (.int .u32 3336571891), .lit (.int .u32 3584528711), .lit (.int .u32 113926993), .lit (.int .u32 338241895), .lit (.int .u32 666307205), .lit (.int .u32 773529912), .lit (.int .u32 1294757372), .lit (.int .u32 1396182291), .lit (.int .u32 1695183700), .lit (.int .u32 1986661051), .lit (.int .u32 2177026350), .lit (.int .u32 2456956037), .lit (.int .u32 2730485921), .lit (.int .u32 2820302411), .lit (.int .u32 3259730800), .lit (.int .u32 3345764771), .lit (.int .u32 3516065817), .lit (.int .u32 3600352804), .lit (.int .u32 4094571909), .lit (.int .u32 275423344), .lit (.int .u32 430227734), .lit (.int .u32 506948616), .lit (.int .u32 659060556), .lit (.int .u32 883997877), .lit (.int .u32 958139571), .lit (.int .u32 1322822218), .lit (.int .u32 1537002063), .lit (.int .u32 1747873779), .lit (.int .u32 1955562222), .lit (.int .u32 2024104815), .lit (.int .u32 2227730452), .lit (.int .u32 2361852424), .lit (.int .u32 2428436474), .lit (.int .u32 2756734187), .lit (.int .u32 3204031479), .lit (.int .u32 3329325298)]
def laid_kinkeep_hmac_pads {H : Type} : DataW H := .agg [.lit (.int .u8 54), .lit (.int .u8 92)]

/-- 'kinkeeplaw43.ReceiptIssues': WHATEVER THE INPUT: true; the input reads as it did. -/
def receiptIssuesSpec : ChangeSpec := { name := "receiptIssues", fn := fun _ => fun
  | [d1, d2, d3, d4, d5, d6, d7] => { results := [.lit (.bool true)], args := [d1, d2, d3, d4, d5, d6, d7] }
  | _ => none }
def receiptIssuesRow : OpenClaim := { program := "ytndlihclgdkpaaagreatdoor", sum := "cba2b9a89fc7183125113c7ce8ab62f7e4c018a1dd3eedcc1065ec727fc1512e", func := "kinkeep/kinkeeplaw43.ReceiptIssues", spec := "receiptIssues", inPlace := ["internal/abi.NoEscape", "internal/bytealg.MakeNoZero", "slices.overlaps[kinkeep/api.Receipt]"], unfollowed := true, recurses := true, named := ["kinkeep/hmac.pads", "kinkeep/sha256.initial", "kinkeep/sha256.constants"], plainKeys := false, apart := false, laid := [("kinkeep/sha256.initial", laid_kinkeep_sha256_initial), ("kinkeep/sha256.constants", laid_kinkeep_sha256_constants), ("kinkeep/hmac.pads", laid_kinkeep_hmac_pads)] }
def ReceiptIssuesSaid : Prop := receiptIssuesRow.holds Tryz.pinned (OpenSpec.ofChange receiptIssuesSpec)

/-- ITS FALSE NEIGHBOUR: 'it returns false'. Refute it at one input. -/
def receiptIssuesWrong : ChangeSpec := { name := "receiptIssues", fn := fun _ => fun
  | [d1, d2, d3, d4, d5, d6, d7] => { results := [.lit (.bool false)], args := [d1, d2, d3, d4, d5, d6, d7] }
  | _ => none }
def ReceiptIssuesWrongFalsely : Prop := receiptIssuesRow.holds Tryz.pinned (OpenSpec.ofChange receiptIssuesWrong)

/-- 'kinkeeplaw43.ReceiptReturns': WHATEVER THE INPUT: true; the input reads as it did. -/
def receiptReturnsSpec : ChangeSpec := { name := "receiptReturns", fn := fun _ => fun
  | [d1, d2, d3, d4, d5, d6] => { results := [.lit (.bool true)], args := [d1, d2, d3, d4, d5, d6] }
  | _ => none }
def receiptReturnsRow : OpenClaim := { program := "ytndlihclgdkpaaagreatdoor", sum := "cba2b9a89fc7183125113c7ce8ab62f7e4c018a1dd3eedcc1065ec727fc1512e", func := "kinkeep/kinkeeplaw43.ReceiptReturns", spec := "receiptReturns", inPlace := ["internal/abi.NoEscape", "internal/bytealg.MakeNoZero", "slices.overlaps[kinkeep/api.Receipt]"], unfollowed := true, recurses := true, named := ["kinkeep/hmac.pads", "kinkeep/sha256.initial", "kinkeep/sha256.constants"], plainKeys := false, apart := false, laid := [("kinkeep/sha256.initial", laid_kinkeep_sha256_initial), ("kinkeep/sha256.constants", laid_kinkeep_sha256_constants), ("kinkeep/hmac.pads", laid_kinkeep_hmac_pads)] }
def ReceiptReturnsSaid : Prop := receiptReturnsRow.holds Tryz.pinned (OpenSpec.ofChange receiptReturnsSpec)

/-- ITS FALSE NEIGHBOUR: 'it returns false'. Refute it at one input. -/
def receiptReturnsWrong : ChangeSpec := { name := "receiptReturns", fn := fun _ => fun
  | [d1, d2, d3, d4, d5, d6] => { results := [.lit (.bool false)], args := [d1, d2, d3, d4, d5, d6] }
  | _ => none }
def ReceiptReturnsWrongFalsely : Prop := receiptReturnsRow.holds Tryz.pinned (OpenSpec.ofChange receiptReturnsWrong)

/-- 'kinkeeplaw43.ReceiptVerifies': WHATEVER THE INPUT: true; the input reads as it did. -/
def receiptVerifiesSpec : ChangeSpec := { name := "receiptVerifies", fn := fun _ => fun
  | [d1, d2, d3] => { results := [.lit (.bool true)], args := [d1, d2, d3] }
  | _ => none }
def receiptVerifiesRow : OpenClaim := { program := "ytndlihclgdkpaaagreatdoor", sum := "cba2b9a89fc7183125113c7ce8ab62f7e4c018a1dd3eedcc1065ec727fc1512e", func := "kinkeep/kinkeeplaw43.ReceiptVerifies", spec := "receiptVerifies", inPlace := ["internal/abi.NoEscape", "internal/bytealg.MakeNoZero", "slices.overlaps[kinkeep/api.Receipt]"], unfollowed := true, recurses := true, named := ["kinkeep/hmac.pads", "kinkeep/sha256.initial", "kinkeep/sha256.constants"], plainKeys := false, apart := false, laid := [("kinkeep/sha256.initial", laid_kinkeep_sha256_initial), ("kinkeep/sha256.constants", laid_kinkeep_sha256_constants), ("kinkeep/hmac.pads", laid_kinkeep_hmac_pads)] }
def ReceiptVerifiesSaid : Prop := receiptVerifiesRow.holds Tryz.pinned (OpenSpec.ofChange receiptVerifiesSpec)

/-- ITS FALSE NEIGHBOUR: 'it returns false'. Refute it at one input. -/
def receiptVerifiesWrong : ChangeSpec := { name := "receiptVerifies", fn := fun _ => fun
  | [d1, d2, d3] => { results := [.lit (.bool false)], args := [d1, d2, d3] }
  | _ => none }
def ReceiptVerifiesWrongFalsely : Prop := receiptVerifiesRow.holds Tryz.pinned (OpenSpec.ofChange receiptVerifiesWrong)

/-- 'kinkeeplaw43.ReceiptChanged': WHATEVER THE INPUT: true; the input reads as it did. -/
def receiptChangedSpec : ChangeSpec := { name := "receiptChanged", fn := fun _ => fun
  | [d1, d2, d3, d4, d5, d6, d7, d8] => { results := [.lit (.bool true)], args := [d1, d2, d3, d4, d5, d6, d7, d8] }
  | _ => none }
def receiptChangedRow : OpenClaim := { program := "ytndlihclgdkpaaagreatdoor", sum := "cba2b9a89fc7183125113c7ce8ab62f7e4c018a1dd3eedcc1065ec727fc1512e", func := "kinkeep/kinkeeplaw43.ReceiptChanged", spec := "receiptChanged", inPlace := ["internal/abi.NoEscape", "internal/bytealg.MakeNoZero", "slices.overlaps[kinkeep/api.Receipt]"], unfollowed := true, recurses := true, named := ["kinkeep/hmac.pads", "kinkeep/sha256.initial", "kinkeep/sha256.constants"], plainKeys := false, apart := false, laid := [("kinkeep/sha256.initial", laid_kinkeep_sha256_initial), ("kinkeep/sha256.constants", laid_kinkeep_sha256_constants), ("kinkeep/hmac.pads", laid_kinkeep_hmac_pads)] }
def ReceiptChangedSaid : Prop := receiptChangedRow.holds Tryz.pinned (OpenSpec.ofChange receiptChangedSpec)

/-- ITS FALSE NEIGHBOUR: 'it returns false'. Refute it at one input. -/
def receiptChangedWrong : ChangeSpec := { name := "receiptChanged", fn := fun _ => fun
  | [d1, d2, d3, d4, d5, d6, d7, d8] => { results := [.lit (.bool false)], args := [d1, d2, d3, d4, d5, d6, d7, d8] }
  | _ => none }
def ReceiptChangedWrongFalsely : Prop := receiptChangedRow.holds Tryz.pinned (OpenSpec.ofChange receiptChangedWrong)

/-- 'kinkeeplaw43.ReceiptEncodes': WHATEVER THE INPUT: true; the input reads as it did. -/
def receiptEncodesSpec : ChangeSpec := { name := "receiptEncodes", fn := fun _ => fun
  | [d] => { results := [.lit (.bool true)], args := [d] }
  | _ => none }
def receiptEncodesRow : OpenClaim := { program := "ytndlihclgdkpaaagreatdoor", sum := "cba2b9a89fc7183125113c7ce8ab62f7e4c018a1dd3eedcc1065ec727fc1512e", func := "kinkeep/kinkeeplaw43.ReceiptEncodes", spec := "receiptEncodes", inPlace := ["internal/abi.NoEscape", "internal/bytealg.MakeNoZero", "slices.overlaps[kinkeep/api.Receipt]"], unfollowed := true, recurses := true, named := ["kinkeep/hmac.pads", "kinkeep/sha256.initial", "kinkeep/sha256.constants"], plainKeys := false, apart := false, laid := [("kinkeep/sha256.initial", laid_kinkeep_sha256_initial), ("kinkeep/sha256.constants", laid_kinkeep_sha256_constants), ("kinkeep/hmac.pads", laid_kinkeep_hmac_pads)] }
def ReceiptEncodesSaid : Prop := receiptEncodesRow.holds Tryz.pinned (OpenSpec.ofChange receiptEncodesSpec)

/-- ITS FALSE NEIGHBOUR: 'it returns false'. Refute it at one input. -/
def receiptEncodesWrong : ChangeSpec := { name := "receiptEncodes", fn := fun _ => fun
  | [d] => { results := [.lit (.bool false)], args := [d] }
  | _ => none }
def ReceiptEncodesWrongFalsely : Prop := receiptEncodesRow.holds Tryz.pinned (OpenSpec.ofChange receiptEncodesWrong)

/-- 'kinkeeplaw43.ReceiptDecodes': WHATEVER THE INPUT: true; the input reads as it did. -/
def receiptDecodesSpec : ChangeSpec := { name := "receiptDecodes", fn := fun _ => fun
  | [d] => { results := [.lit (.bool true)], args := [d] }
  | _ => none }
def receiptDecodesRow : OpenClaim := { program := "ytndlihclgdkpaaagreatdoor", sum := "cba2b9a89fc7183125113c7ce8ab62f7e4c018a1dd3eedcc1065ec727fc1512e", func := "kinkeep/kinkeeplaw43.ReceiptDecodes", spec := "receiptDecodes", inPlace := ["internal/abi.NoEscape", "internal/bytealg.MakeNoZero", "slices.overlaps[kinkeep/api.Receipt]"], unfollowed := true, recurses := true, named := ["kinkeep/hmac.pads", "kinkeep/sha256.initial", "kinkeep/sha256.constants"], plainKeys := false, apart := false, laid := [("kinkeep/sha256.initial", laid_kinkeep_sha256_initial), ("kinkeep/sha256.constants", laid_kinkeep_sha256_constants), ("kinkeep/hmac.pads", laid_kinkeep_hmac_pads)] }
def ReceiptDecodesSaid : Prop := receiptDecodesRow.holds Tryz.pinned (OpenSpec.ofChange receiptDecodesSpec)

/-- ITS FALSE NEIGHBOUR: 'it returns false'. Refute it at one input. -/
def receiptDecodesWrong : ChangeSpec := { name := "receiptDecodes", fn := fun _ => fun
  | [d] => { results := [.lit (.bool false)], args := [d] }
  | _ => none }
def ReceiptDecodesWrongFalsely : Prop := receiptDecodesRow.holds Tryz.pinned (OpenSpec.ofChange receiptDecodesWrong)

/-- 'kinkeeplaw43.ReceiptContradicts': WHATEVER THE INPUT: true; the input reads as it did. -/
def receiptContradictsSpec : ChangeSpec := { name := "receiptContradicts", fn := fun _ => fun
  | [d1, d2] => { results := [.lit (.bool true)], args := [d1, d2] }
  | _ => none }
def receiptContradictsRow : OpenClaim := { program := "ytndlihclgdkpaaagreatdoor", sum := "cba2b9a89fc7183125113c7ce8ab62f7e4c018a1dd3eedcc1065ec727fc1512e", func := "kinkeep/kinkeeplaw43.ReceiptContradicts", spec := "receiptContradicts", inPlace := ["internal/abi.NoEscape", "internal/bytealg.MakeNoZero", "slices.overlaps[kinkeep/api.Receipt]"], unfollowed := true, recurses := true, named := ["kinkeep/hmac.pads", "kinkeep/sha256.initial", "kinkeep/sha256.constants"], plainKeys := false, apart := false, laid := [("kinkeep/sha256.initial", laid_kinkeep_sha256_initial), ("kinkeep/sha256.constants", laid_kinkeep_sha256_constants), ("kinkeep/hmac.pads", laid_kinkeep_hmac_pads)] }
def ReceiptContradictsSaid : Prop := receiptContradictsRow.holds Tryz.pinned (OpenSpec.ofChange receiptContradictsSpec)

/-- ITS FALSE NEIGHBOUR: 'it returns false'. Refute it at one input. -/
def receiptContradictsWrong : ChangeSpec := { name := "receiptContradicts", fn := fun _ => fun
  | [d1, d2] => { results := [.lit (.bool false)], args := [d1, d2] }
  | _ => none }
def ReceiptContradictsWrongFalsely : Prop := receiptContradictsRow.holds Tryz.pinned (OpenSpec.ofChange receiptContradictsWrong)

/-- 'kinkeeplaw43.ReceiptBooks': WHATEVER THE INPUT: true; the input reads as it did. -/
def receiptBooksSpec : ChangeSpec := { name := "receiptBooks", fn := fun _ => fun
  | [d1, d2, d3] => { results := [.lit (.bool true)], args := [d1, d2, d3] }
  | _ => none }
def receiptBooksRow : OpenClaim := { program := "ytndlihclgdkpaaagreatdoor", sum := "cba2b9a89fc7183125113c7ce8ab62f7e4c018a1dd3eedcc1065ec727fc1512e", func := "kinkeep/kinkeeplaw43.ReceiptBooks", spec := "receiptBooks", inPlace := ["internal/abi.NoEscape", "internal/bytealg.MakeNoZero", "slices.overlaps[kinkeep/api.Receipt]"], unfollowed := true, recurses := true, named := ["kinkeep/hmac.pads", "kinkeep/sha256.initial", "kinkeep/sha256.constants"], plainKeys := false, apart := false, laid := [("kinkeep/sha256.initial", laid_kinkeep_sha256_initial), ("kinkeep/sha256.constants", laid_kinkeep_sha256_constants), ("kinkeep/hmac.pads", laid_kinkeep_hmac_pads)] }
def ReceiptBooksSaid : Prop := receiptBooksRow.holds Tryz.pinned (OpenSpec.ofChange receiptBooksSpec)

/-- ITS FALSE NEIGHBOUR: 'it returns false'. Refute it at one input. -/
def receiptBooksWrong : ChangeSpec := { name := "receiptBooks", fn := fun _ => fun
  | [d1, d2, d3] => { results := [.lit (.bool false)], args := [d1, d2, d3] }
  | _ => none }
def ReceiptBooksWrongFalsely : Prop := receiptBooksRow.holds Tryz.pinned (OpenSpec.ofChange receiptBooksWrong)

/-- 'kinkeeplaw43.ReceiptOrder': WHATEVER THE INPUT: true; the input reads as it did. -/
def receiptOrderSpec : ChangeSpec := { name := "receiptOrder", fn := fun _ => fun
  | [d1, d2] => { results := [.lit (.bool true)], args := [d1, d2] }
  | _ => none }
def receiptOrderRow : OpenClaim := { program := "ytndlihclgdkpaaagreatdoor", sum := "cba2b9a89fc7183125113c7ce8ab62f7e4c018a1dd3eedcc1065ec727fc1512e", func := "kinkeep/kinkeeplaw43.ReceiptOrder", spec := "receiptOrder", inPlace := ["internal/abi.NoEscape", "internal/bytealg.MakeNoZero", "slices.overlaps[kinkeep/api.Receipt]"], unfollowed := true, recurses := true, named := ["kinkeep/hmac.pads", "kinkeep/sha256.initial", "kinkeep/sha256.constants"], plainKeys := false, apart := false, laid := [("kinkeep/sha256.initial", laid_kinkeep_sha256_initial), ("kinkeep/sha256.constants", laid_kinkeep_sha256_constants), ("kinkeep/hmac.pads", laid_kinkeep_hmac_pads)] }
def ReceiptOrderSaid : Prop := receiptOrderRow.holds Tryz.pinned (OpenSpec.ofChange receiptOrderSpec)

/-- ITS FALSE NEIGHBOUR: 'it returns false'. Refute it at one input. -/
def receiptOrderWrong : ChangeSpec := { name := "receiptOrder", fn := fun _ => fun
  | [d1, d2] => { results := [.lit (.bool false)], args := [d1, d2] }
  | _ => none }
def ReceiptOrderWrongFalsely : Prop := receiptOrderRow.holds Tryz.pinned (OpenSpec.ofChange receiptOrderWrong)

/-- 'kinkeeplaw46.GossipForged': WHATEVER THE INPUT: true; the input reads as it did. -/
def gossipForgedSpec : ChangeSpec := { name := "gossipForged", fn := fun _ => fun
  | [d1, d2, d3, d4, d5, d6] => { results := [.lit (.bool true)], args := [d1, d2, d3, d4, d5, d6] }
  | _ => none }
def gossipForgedRow : OpenClaim := { program := "ytndlihclgdkpaaagreatdoor", sum := "cba2b9a89fc7183125113c7ce8ab62f7e4c018a1dd3eedcc1065ec727fc1512e", func := "kinkeep/kinkeeplaw46.GossipForged", spec := "gossipForged", inPlace := ["internal/abi.NoEscape", "internal/bytealg.MakeNoZero"], unfollowed := true, recurses := true, named := ["kinkeep/hmac.pads", "kinkeep/sha256.initial", "kinkeep/sha256.constants"], plainKeys := false, apart := false, laid := [("kinkeep/sha256.initial", laid_kinkeep_sha256_initial), ("kinkeep/sha256.constants", laid_kinkeep_sha256_constants), ("kinkeep/hmac.pads", laid_kinkeep_hmac_pads)] }
def GossipForgedSaid : Prop := gossipForgedRow.holds Tryz.pinned (OpenSpec.ofChange gossipForgedSpec)

/-- ITS FALSE NEIGHBOUR: 'it returns false'. Refute it at one input. -/
def gossipForgedWrong : ChangeSpec := { name := "gossipForged", fn := fun _ => fun
  | [d1, d2, d3, d4, d5, d6] => { results := [.lit (.bool false)], args := [d1, d2, d3, d4, d5, d6] }
  | _ => none }
def GossipForgedWrongFalsely : Prop := gossipForgedRow.holds Tryz.pinned (OpenSpec.ofChange gossipForgedWrong)

/-- 'kinkeeplaw46.GossipVerifies': WHATEVER THE INPUT: true; the input reads as it did. -/
def gossipVerifiesSpec : ChangeSpec := { name := "gossipVerifies", fn := fun _ => fun
  | [d1, d2, d3] => { results := [.lit (.bool true)], args := [d1, d2, d3] }
  | _ => none }
def gossipVerifiesRow : OpenClaim := { program := "ytndlihclgdkpaaagreatdoor", sum := "cba2b9a89fc7183125113c7ce8ab62f7e4c018a1dd3eedcc1065ec727fc1512e", func := "kinkeep/kinkeeplaw46.GossipVerifies", spec := "gossipVerifies", inPlace := ["internal/abi.NoEscape", "internal/bytealg.MakeNoZero"], unfollowed := true, recurses := true, named := ["kinkeep/hmac.pads", "kinkeep/sha256.initial", "kinkeep/sha256.constants"], plainKeys := false, apart := false, laid := [("kinkeep/sha256.initial", laid_kinkeep_sha256_initial), ("kinkeep/sha256.constants", laid_kinkeep_sha256_constants), ("kinkeep/hmac.pads", laid_kinkeep_hmac_pads)] }
def GossipVerifiesSaid : Prop := gossipVerifiesRow.holds Tryz.pinned (OpenSpec.ofChange gossipVerifiesSpec)

/-- ITS FALSE NEIGHBOUR: 'it returns false'. Refute it at one input. -/
def gossipVerifiesWrong : ChangeSpec := { name := "gossipVerifies", fn := fun _ => fun
  | [d1, d2, d3] => { results := [.lit (.bool false)], args := [d1, d2, d3] }
  | _ => none }
def GossipVerifiesWrongFalsely : Prop := gossipVerifiesRow.holds Tryz.pinned (OpenSpec.ofChange gossipVerifiesWrong)

/- THE SECOND FORM. 'bulk': how many values and letters a reading holds, each counted each time it is reached (what is shared counts as often as it is met; a slice's spare places count too). A statement '..UptoSaid' is the law's where the arguments, and the package variables that the reading takes, are together of bulk at most 1048576: NARROWER than '..Said'. Prove '..Said' where nothing that the law and all that it calls make is longer than what came in: it says more and counts as full. Else prove '..UptoSaid'. A law counts once. -/
mutual
def uptoBulk {H : Type} : DataW H → Nat
  | .lit (.string bytes) => bytes.length + 1
  | .lit _ => 1
  | .nil => 1
  | .ptr d => uptoBulk d + 1
  | .slice elems spare => uptoBulkAll elems + uptoBulkAll spare + 1
  | .agg parts => uptoBulkAll parts + 1
  | .iface _ d => uptoBulk d + 1
  | .map entries => uptoBulkEntries entries + 1
  | .held _ => 1
def uptoBulkAll {H : Type} : List (DataW H) → Nat
  | [] => 0
  | d :: r => uptoBulk d + uptoBulkAll r
def uptoBulkEntries {H : Type} : List (Lit × DataW H) → Nat
  | [] => 0
  | x :: r => uptoBulkEntry x + uptoBulkEntries r
def uptoBulkEntry {H : Type} : Lit × DataW H → Nat
  | (.string bytes, d) => bytes.length + uptoBulk d + 1
  | (_, d) => uptoBulk d + 1
 end
def uptoSmall : (H : Type) → List (DataW H) → Bool := fun _ ds => decide (uptoBulkAll ds ≤ 1048576)
def OpenSpec.upto (s : _root_.Go.ChangeSpec) : _root_.Go.OpenSpec := { _root_.Go.OpenSpec.ofChange s with cond := some uptoSmall }

/-- 'kinkeeplaw43.ReceiptIssues', WHERE WHAT IT READS IS OF BULK AT MOST 1048576: true; the input reads as it did. -/
def receiptIssuesUptoRow : OpenClaim := { program := "ytndlihclgdkpaaagreatdoor", sum := "cba2b9a89fc7183125113c7ce8ab62f7e4c018a1dd3eedcc1065ec727fc1512e", func := "kinkeep/kinkeeplaw43.ReceiptIssues", spec := "receiptIssues", inPlace := ["internal/abi.NoEscape", "internal/bytealg.MakeNoZero", "slices.overlaps[kinkeep/api.Receipt]"], unfollowed := true, recurses := true, named := ["kinkeep/hmac.pads", "kinkeep/sha256.initial", "kinkeep/sha256.constants"], plainKeys := false, apart := false, laid := [("kinkeep/sha256.initial", laid_kinkeep_sha256_initial), ("kinkeep/sha256.constants", laid_kinkeep_sha256_constants), ("kinkeep/hmac.pads", laid_kinkeep_hmac_pads)], narrowed := true }
def ReceiptIssuesUptoSaid : Prop := receiptIssuesUptoRow.holds Tryz.pinned (OpenSpec.upto receiptIssuesSpec)

/-- 'kinkeeplaw43.ReceiptReturns', WHERE WHAT IT READS IS OF BULK AT MOST 1048576: true; the input reads as it did. -/
def receiptReturnsUptoRow : OpenClaim := { program := "ytndlihclgdkpaaagreatdoor", sum := "cba2b9a89fc7183125113c7ce8ab62f7e4c018a1dd3eedcc1065ec727fc1512e", func := "kinkeep/kinkeeplaw43.ReceiptReturns", spec := "receiptReturns", inPlace := ["internal/abi.NoEscape", "internal/bytealg.MakeNoZero", "slices.overlaps[kinkeep/api.Receipt]"], unfollowed := true, recurses := true, named := ["kinkeep/hmac.pads", "kinkeep/sha256.initial", "kinkeep/sha256.constants"], plainKeys := false, apart := false, laid := [("kinkeep/sha256.initial", laid_kinkeep_sha256_initial), ("kinkeep/sha256.constants", laid_kinkeep_sha256_constants), ("kinkeep/hmac.pads", laid_kinkeep_hmac_pads)], narrowed := true }
def ReceiptReturnsUptoSaid : Prop := receiptReturnsUptoRow.holds Tryz.pinned (OpenSpec.upto receiptReturnsSpec)

/-- 'kinkeeplaw43.ReceiptVerifies', WHERE WHAT IT READS IS OF BULK AT MOST 1048576: true; the input reads as it did. -/
def receiptVerifiesUptoRow : OpenClaim := { program := "ytndlihclgdkpaaagreatdoor", sum := "cba2b9a89fc7183125113c7ce8ab62f7e4c018a1dd3eedcc1065ec727fc1512e", func := "kinkeep/kinkeeplaw43.ReceiptVerifies", spec := "receiptVerifies", inPlace := ["internal/abi.NoEscape", "internal/bytealg.MakeNoZero", "slices.overlaps[kinkeep/api.Receipt]"], unfollowed := true, recurses := true, named := ["kinkeep/hmac.pads", "kinkeep/sha256.initial", "kinkeep/sha256.constants"], plainKeys := false, apart := false, laid := [("kinkeep/sha256.initial", laid_kinkeep_sha256_initial), ("kinkeep/sha256.constants", laid_kinkeep_sha256_constants), ("kinkeep/hmac.pads", laid_kinkeep_hmac_pads)], narrowed := true }
def ReceiptVerifiesUptoSaid : Prop := receiptVerifiesUptoRow.holds Tryz.pinned (OpenSpec.upto receiptVerifiesSpec)

/-- 'kinkeeplaw43.ReceiptChanged', WHERE WHAT IT READS IS OF BULK AT MOST 1048576: true; the input reads as it did. -/
def receiptChangedUptoRow : OpenClaim := { program := "ytndlihclgdkpaaagreatdoor", sum := "cba2b9a89fc7183125113c7ce8ab62f7e4c018a1dd3eedcc1065ec727fc1512e", func := "kinkeep/kinkeeplaw43.ReceiptChanged", spec := "receiptChanged", inPlace := ["internal/abi.NoEscape", "internal/bytealg.MakeNoZero", "slices.overlaps[kinkeep/api.Receipt]"], unfollowed := true, recurses := true, named := ["kinkeep/hmac.pads", "kinkeep/sha256.initial", "kinkeep/sha256.constants"], plainKeys := false, apart := false, laid := [("kinkeep/sha256.initial", laid_kinkeep_sha256_initial), ("kinkeep/sha256.constants", laid_kinkeep_sha256_constants), ("kinkeep/hmac.pads", laid_kinkeep_hmac_pads)], narrowed := true }
def ReceiptChangedUptoSaid : Prop := receiptChangedUptoRow.holds Tryz.pinned (OpenSpec.upto receiptChangedSpec)

/-- 'kinkeeplaw43.ReceiptEncodes', WHERE WHAT IT READS IS OF BULK AT MOST 1048576: true; the input reads as it did. -/
def receiptEncodesUptoRow : OpenClaim := { program := "ytndlihclgdkpaaagreatdoor", sum := "cba2b9a89fc7183125113c7ce8ab62f7e4c018a1dd3eedcc1065ec727fc1512e", func := "kinkeep/kinkeeplaw43.ReceiptEncodes", spec := "receiptEncodes", inPlace := ["internal/abi.NoEscape", "internal/bytealg.MakeNoZero", "slices.overlaps[kinkeep/api.Receipt]"], unfollowed := true, recurses := true, named := ["kinkeep/hmac.pads", "kinkeep/sha256.initial", "kinkeep/sha256.constants"], plainKeys := false, apart := false, laid := [("kinkeep/sha256.initial", laid_kinkeep_sha256_initial), ("kinkeep/sha256.constants", laid_kinkeep_sha256_constants), ("kinkeep/hmac.pads", laid_kinkeep_hmac_pads)], narrowed := true }
def ReceiptEncodesUptoSaid : Prop := receiptEncodesUptoRow.holds Tryz.pinned (OpenSpec.upto receiptEncodesSpec)

/-- 'kinkeeplaw43.ReceiptDecodes', WHERE WHAT IT READS IS OF BULK AT MOST 1048576: true; the input reads as it did. -/
def receiptDecodesUptoRow : OpenClaim := { program := "ytndlihclgdkpaaagreatdoor", sum := "cba2b9a89fc7183125113c7ce8ab62f7e4c018a1dd3eedcc1065ec727fc1512e", func := "kinkeep/kinkeeplaw43.ReceiptDecodes", spec := "receiptDecodes", inPlace := ["internal/abi.NoEscape", "internal/bytealg.MakeNoZero", "slices.overlaps[kinkeep/api.Receipt]"], unfollowed := true, recurses := true, named := ["kinkeep/hmac.pads", "kinkeep/sha256.initial", "kinkeep/sha256.constants"], plainKeys := false, apart := false, laid := [("kinkeep/sha256.initial", laid_kinkeep_sha256_initial), ("kinkeep/sha256.constants", laid_kinkeep_sha256_constants), ("kinkeep/hmac.pads", laid_kinkeep_hmac_pads)], narrowed := true }
def ReceiptDecodesUptoSaid : Prop := receiptDecodesUptoRow.holds Tryz.pinned (OpenSpec.upto receiptDecodesSpec)

/-- 'kinkeeplaw43.ReceiptContradicts', WHERE WHAT IT READS IS OF BULK AT MOST 1048576: true; the input reads as it did. -/
def receiptContradictsUptoRow : OpenClaim := { program := "ytndlihclgdkpaaagreatdoor", sum := "cba2b9a89fc7183125113c7ce8ab62f7e4c018a1dd3eedcc1065ec727fc1512e", func := "kinkeep/kinkeeplaw43.ReceiptContradicts", spec := "receiptContradicts", inPlace := ["internal/abi.NoEscape", "internal/bytealg.MakeNoZero", "slices.overlaps[kinkeep/api.Receipt]"], unfollowed := true, recurses := true, named := ["kinkeep/hmac.pads", "kinkeep/sha256.initial", "kinkeep/sha256.constants"], plainKeys := false, apart := false, laid := [("kinkeep/sha256.initial", laid_kinkeep_sha256_initial), ("kinkeep/sha256.constants", laid_kinkeep_sha256_constants), ("kinkeep/hmac.pads", laid_kinkeep_hmac_pads)], narrowed := true }
def ReceiptContradictsUptoSaid : Prop := receiptContradictsUptoRow.holds Tryz.pinned (OpenSpec.upto receiptContradictsSpec)

/-- 'kinkeeplaw43.ReceiptBooks', WHERE WHAT IT READS IS OF BULK AT MOST 1048576: true; the input reads as it did. -/
def receiptBooksUptoRow : OpenClaim := { program := "ytndlihclgdkpaaagreatdoor", sum := "cba2b9a89fc7183125113c7ce8ab62f7e4c018a1dd3eedcc1065ec727fc1512e", func := "kinkeep/kinkeeplaw43.ReceiptBooks", spec := "receiptBooks", inPlace := ["internal/abi.NoEscape", "internal/bytealg.MakeNoZero", "slices.overlaps[kinkeep/api.Receipt]"], unfollowed := true, recurses := true, named := ["kinkeep/hmac.pads", "kinkeep/sha256.initial", "kinkeep/sha256.constants"], plainKeys := false, apart := false, laid := [("kinkeep/sha256.initial", laid_kinkeep_sha256_initial), ("kinkeep/sha256.constants", laid_kinkeep_sha256_constants), ("kinkeep/hmac.pads", laid_kinkeep_hmac_pads)], narrowed := true }
def ReceiptBooksUptoSaid : Prop := receiptBooksUptoRow.holds Tryz.pinned (OpenSpec.upto receiptBooksSpec)

/-- 'kinkeeplaw43.ReceiptOrder', WHERE WHAT IT READS IS OF BULK AT MOST 1048576: true; the input reads as it did. -/
def receiptOrderUptoRow : OpenClaim := { program := "ytndlihclgdkpaaagreatdoor", sum := "cba2b9a89fc7183125113c7ce8ab62f7e4c018a1dd3eedcc1065ec727fc1512e", func := "kinkeep/kinkeeplaw43.ReceiptOrder", spec := "receiptOrder", inPlace := ["internal/abi.NoEscape", "internal/bytealg.MakeNoZero", "slices.overlaps[kinkeep/api.Receipt]"], unfollowed := true, recurses := true, named := ["kinkeep/hmac.pads", "kinkeep/sha256.initial", "kinkeep/sha256.constants"], plainKeys := false, apart := false, laid := [("kinkeep/sha256.initial", laid_kinkeep_sha256_initial), ("kinkeep/sha256.constants", laid_kinkeep_sha256_constants), ("kinkeep/hmac.pads", laid_kinkeep_hmac_pads)], narrowed := true }
def ReceiptOrderUptoSaid : Prop := receiptOrderUptoRow.holds Tryz.pinned (OpenSpec.upto receiptOrderSpec)

/-- 'kinkeeplaw46.GossipForged', WHERE WHAT IT READS IS OF BULK AT MOST 1048576: true; the input reads as it did. -/
def gossipForgedUptoRow : OpenClaim := { program := "ytndlihclgdkpaaagreatdoor", sum := "cba2b9a89fc7183125113c7ce8ab62f7e4c018a1dd3eedcc1065ec727fc1512e", func := "kinkeep/kinkeeplaw46.GossipForged", spec := "gossipForged", inPlace := ["internal/abi.NoEscape", "internal/bytealg.MakeNoZero"], unfollowed := true, recurses := true, named := ["kinkeep/hmac.pads", "kinkeep/sha256.initial", "kinkeep/sha256.constants"], plainKeys := false, apart := false, laid := [("kinkeep/sha256.initial", laid_kinkeep_sha256_initial), ("kinkeep/sha256.constants", laid_kinkeep_sha256_constants), ("kinkeep/hmac.pads", laid_kinkeep_hmac_pads)], narrowed := true }
def GossipForgedUptoSaid : Prop := gossipForgedUptoRow.holds Tryz.pinned (OpenSpec.upto gossipForgedSpec)

/-- 'kinkeeplaw46.GossipVerifies', WHERE WHAT IT READS IS OF BULK AT MOST 1048576: true; the input reads as it did. -/
def gossipVerifiesUptoRow : OpenClaim := { program := "ytndlihclgdkpaaagreatdoor", sum := "cba2b9a89fc7183125113c7ce8ab62f7e4c018a1dd3eedcc1065ec727fc1512e", func := "kinkeep/kinkeeplaw46.GossipVerifies", spec := "gossipVerifies", inPlace := ["internal/abi.NoEscape", "internal/bytealg.MakeNoZero"], unfollowed := true, recurses := true, named := ["kinkeep/hmac.pads", "kinkeep/sha256.initial", "kinkeep/sha256.constants"], plainKeys := false, apart := false, laid := [("kinkeep/sha256.initial", laid_kinkeep_sha256_initial), ("kinkeep/sha256.constants", laid_kinkeep_sha256_constants), ("kinkeep/hmac.pads", laid_kinkeep_hmac_pads)], narrowed := true }
def GossipVerifiesUptoSaid : Prop := gossipVerifiesUptoRow.holds Tryz.pinned (OpenSpec.upto gossipVerifiesSpec)

end Rows
end Go.Proofs.YtndlihclgdkpaaaGreatDoor
