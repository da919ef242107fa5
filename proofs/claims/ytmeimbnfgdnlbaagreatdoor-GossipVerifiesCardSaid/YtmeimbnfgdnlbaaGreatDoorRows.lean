/-
  NARROWER THAN 'FOR EVERY INPUT', by the rows' own cells (each row's printed sentence says how): GossipChains: laid · GossipForged: laid · GossipVerifies: laid · GossipForks: laid · GossipEncodes: laid · GossipDecodes: laid.
  DERIVED. THE GIVEN ROWS OF THIS SEAT. 6 by the template 'for every input the law returns true; each argument reads behind the call as it read before'; 0 by the template 'total and deterministic' (their statements: YtmeimbnfgdnlbaaGreatDoorTotals.lean).
  GIVEN WITH THE SEED: the statements are not yours to turn. If you find one false, say at which input.
  Laid BY PROGRAM, IN A SANDBOX (cutbox-rows.mjs): the forced cells as the released guide's own fill.sh prints them over the translation c44d0fb4e727a5e9… (all of the seat's roots in one cut). By AI agents, Wed Nov 11 2026. No macro, syntax, notation, axiom, sorry.
-/
import Derived.Test.YtmeimbnfgdnlbaaGreatDoorChecked
import GoSem.Claim
import GoSem.ClaimJoined
import GoSem.ClaimMapViews
import Derived.JoinedTies
import Derived.KernelRfl
namespace Go.Proofs.YtmeimbnfgdnlbaaGreatDoor
/- THE CELL 'sum', in the pinned program and in every row, IS THE sha256 OF THE DUMP (.gsa) THAT YtmeimbnfgdnlbaaGreatDoorProg.lean LOADS. Nothing in Lean hashes anything: it is a label: what it is worth is what the hold of that sum in a sandbox is worth. -/
noncomputable def Tryz.pinned : Pinned := { name := "ytmeimbnfgdnlbaagreatdoor", sum := "c44d0fb4e727a5e9a9b02ddbfbae375c86bac864e61bb494f1ddeb13df8bd061", checked := Tryz.checked }
namespace Rows
def none {H : Type} : Left H := { results := [], args := [] }

/- WHAT THE LISTED PACKAGE-LEVEL VARIABLES READ AS WHEN THE CALL BEGINS. Each datum BY PROGRAM (the guide's laid-datum.mjs) off the statement by which the dump's own 'gosem.cut.vars' lays the variable. In a bare row this is a premise. The card (YtmeimbnfgdnlbaaGreatDoorCards.lean) ties it to the program's text. -/
def laid_kinkeep_sha256_initial {H : Type} : DataW H := .agg [.lit (.int .u32 1779033703), .lit (.int .u32 3144134277), .lit (.int .u32 1013904242), .lit (.int .u32 2773480762), .lit (.int .u32 1359893119), .lit (.int .u32 2600822924), .lit (.int .u32 528734635), .lit (.int .u32 1541459225)]
def laid_kinkeep_sha256_constants {H : Type} : DataW H := .agg [.lit (.int .u32 1116352408), .lit (.int .u32 1899447441), .lit (.int .u32 3049323471), .lit (.int .u32 3921009573), .lit (.int .u32 961987163), .lit (.int .u32 1508970993), .lit (.int .u32 2453635748), .lit (.int .u32 2870763221), .lit (.int .u32 3624381080), .lit (.int .u32 310598401), .lit (.int .u32 607225278), .lit (.int .u32 1426881987), .lit (.int .u32 1925078388), .lit (.int .u32 2162078206), .lit (.int .u32 2614888103), .lit (.int .u32 3248222580), .lit (.int .u32 3835390401), .lit (.int .u32 4022224774), .lit (.int .u32 264347078), .lit (.int .u32 604807628), .lit (.int .u32 770255983), .lit (.int .u32 1249150122), .lit (.int .u32 1555081692), .lit (.int .u32 1996064986), .lit (.int .u32 2554220882), .lit (.int .u32 2821834349), .lit (.int .u32 2952996808), .lit (.int .u32 3210313671), .lit (.int .u32 3336571891), .lit (.int .u32 3584528711), .lit (.int .u32 113926993), .lit (.int .u32 338241895), .lit (.int .u32 666307205), .lit (.int .u32 773529912), .lit (.int .u32 1294757372), .lit (.int .u32 1396182291), .lit (.int .u32 1695183700), .lit (.int .u32 1986661051), .lit (.int .u32 2177026350), .lit (.int .u32 2456956037), .lit (.int .u32 2730485921), .lit (.int .u32 2820302411), .lit (.int .u32 3259730800), .lit (.int .u32 3345764771), .lit (.int .u32 3516065817), .lit (.int .u32 3600352804), .lit (.int .u32 4094571909), .lit (.int .u32 275423344), .lit (.int .u32 430227734), .lit (.int .u32 506948616), .lit (.int .u32 659060556), .lit (.int .u32 883997877), .lit (.int .u32 958139571), .lit (.int .u32 1322822218), .lit (.int .u32 1537002063), .lit (.int .u32 1747873779), .lit (.int .u32 1955562222), .lit (.int .u32 2024104815), .lit (.int .u32 2227730452), .lit (.int .u32 2361852424), .lit (.int .u32 2428436474), .lit (.int .u32 2756734187), .lit (.int .u32 3204031479), .lit (.int .u32 3329325298)]
def laid_kinkeep_hmac_pads {H : Type} : DataW H := .agg [.lit (.int .u8 54), .lit (.int .u8 92)]

/-- 'kinkeeplaw46.GossipChains': WHATEVER THE INPUT: true; the input reads as it did. -/
def gossipChainsSpec : ChangeSpec := { name := "gossipChains", fn := fun _ => fun
  | [d] => { results := [.lit (.bool true)], args := [d] }
  | _ => none }
def gossipChainsRow : OpenClaim := { program := "ytmeimbnfgdnlbaagreatdoor", sum := "c44d0fb4e727a5e9a9b02ddbfbae375c86bac864e61bb494f1ddeb13df8bd061", func := "kinkeep/kinkeeplaw46.GossipChains", spec := "gossipChains", inPlace := ["internal/abi.NoEscape", "internal/bytealg.MakeNoZero"], unfollowed := true, recurses := true, named := ["kinkeep/hmac.pads", "kinkeep/sha256.initial", "kinkeep/sha256.constants"], apart := false, laid := [("kinkeep/sha256.initial", laid_kinkeep_sha256_initial), ("kinkeep/sha256.constants", laid_kinkeep_sha256_constants), ("kinkeep/hmac.pads", laid_kinkeep_hmac_pads)] }
def GossipChainsSaid : Prop := gossipChainsRow.holds Tryz.pinned (OpenSpec.ofChange gossipChainsSpec)

/-- ITS FALSE NEIGHBOUR: 'it returns false'. Refute it at one input. -/
def gossipChainsWrong : ChangeSpec := { name := "gossipChains", fn := fun _ => fun
  | [d] => { results := [.lit (.bool false)], args := [d] }
  | _ => none }
def GossipChainsWrongFalsely : Prop := gossipChainsRow.holds Tryz.pinned (OpenSpec.ofChange gossipChainsWrong)

/-- 'kinkeeplaw46.GossipForged': WHATEVER THE INPUT: true; the input reads as it did. -/
def gossipForgedSpec : ChangeSpec := { name := "gossipForged", fn := fun _ => fun
  | [d1, d2, d3, d4, d5, d6] => { results := [.lit (.bool true)], args := [d1, d2, d3, d4, d5, d6] }
  | _ => none }
def gossipForgedRow : OpenClaim := { program := "ytmeimbnfgdnlbaagreatdoor", sum := "c44d0fb4e727a5e9a9b02ddbfbae375c86bac864e61bb494f1ddeb13df8bd061", func := "kinkeep/kinkeeplaw46.GossipForged", spec := "gossipForged", inPlace := ["internal/abi.NoEscape", "internal/bytealg.MakeNoZero"], unfollowed := true, recurses := true, named := ["kinkeep/hmac.pads", "kinkeep/sha256.initial", "kinkeep/sha256.constants"], apart := false, laid := [("kinkeep/sha256.initial", laid_kinkeep_sha256_initial), ("kinkeep/sha256.constants", laid_kinkeep_sha256_constants), ("kinkeep/hmac.pads", laid_kinkeep_hmac_pads)] }
def GossipForgedSaid : Prop := gossipForgedRow.holds Tryz.pinned (OpenSpec.ofChange gossipForgedSpec)

/-- ITS FALSE NEIGHBOUR: 'it returns false'. Refute it at one input. -/
def gossipForgedWrong : ChangeSpec := { name := "gossipForged", fn := fun _ => fun
  | [d1, d2, d3, d4, d5, d6] => { results := [.lit (.bool false)], args := [d1, d2, d3, d4, d5, d6] }
  | _ => none }
def GossipForgedWrongFalsely : Prop := gossipForgedRow.holds Tryz.pinned (OpenSpec.ofChange gossipForgedWrong)

/-- 'kinkeeplaw46.GossipVerifies': WHATEVER THE INPUT: true; the input reads as it did. -/
def gossipVerifiesSpec : ChangeSpec := { name := "gossipVerifies", fn := fun _ => fun
  | [d1, d2, d3] => { results := [.lit (.bool true)], args := [d1, d2, d3] }
  | _ => none }
def gossipVerifiesRow : OpenClaim := { program := "ytmeimbnfgdnlbaagreatdoor", sum := "c44d0fb4e727a5e9a9b02ddbfbae375c86bac864e61bb494f1ddeb13df8bd061", func := "kinkeep/kinkeeplaw46.GossipVerifies", spec := "gossipVerifies", inPlace := ["internal/abi.NoEscape", "internal/bytealg.MakeNoZero"], unfollowed := true, recurses := true, named := ["kinkeep/hmac.pads", "kinkeep/sha256.initial", "kinkeep/sha256.constants"], apart := false, laid := [("kinkeep/sha256.initial", laid_kinkeep_sha256_initial), ("kinkeep/sha256.constants", laid_kinkeep_sha256_constants), ("kinkeep/hmac.pads", laid_kinkeep_hmac_pads)] }
def GossipVerifiesSaid : Prop := gossipVerifiesRow.holds Tryz.pinned (OpenSpec.ofChange gossipVerifiesSpec)

/-- ITS FALSE NEIGHBOUR: 'it returns false'. Refute it at one input. -/
def gossipVerifiesWrong : ChangeSpec := { name := "gossipVerifies", fn := fun _ => fun
  | [d1, d2, d3] => { results := [.lit (.bool false)], args := [d1, d2, d3] }
  | _ => none }
def GossipVerifiesWrongFalsely : Prop := gossipVerifiesRow.holds Tryz.pinned (OpenSpec.ofChange gossipVerifiesWrong)

/-- 'kinkeeplaw46.GossipForks': WHATEVER THE INPUT: true; the input reads as it did. -/
def gossipForksSpec : ChangeSpec := { name := "gossipForks", fn := fun _ => fun
  | [d1, d2] => { results := [.lit (.bool true)], args := [d1, d2] }
  | _ => none }
def gossipForksRow : OpenClaim := { program := "ytmeimbnfgdnlbaagreatdoor", sum := "c44d0fb4e727a5e9a9b02ddbfbae375c86bac864e61bb494f1ddeb13df8bd061", func := "kinkeep/kinkeeplaw46.GossipForks", spec := "gossipForks", inPlace := ["internal/abi.NoEscape", "internal/bytealg.MakeNoZero"], unfollowed := true, recurses := true, named := ["kinkeep/hmac.pads", "kinkeep/sha256.initial", "kinkeep/sha256.constants"], apart := false, laid := [("kinkeep/sha256.initial", laid_kinkeep_sha256_initial), ("kinkeep/sha256.constants", laid_kinkeep_sha256_constants), ("kinkeep/hmac.pads", laid_kinkeep_hmac_pads)] }
def GossipForksSaid : Prop := gossipForksRow.holds Tryz.pinned (OpenSpec.ofChange gossipForksSpec)

/-- ITS FALSE NEIGHBOUR: 'it returns false'. Refute it at one input. -/
def gossipForksWrong : ChangeSpec := { name := "gossipForks", fn := fun _ => fun
  | [d1, d2] => { results := [.lit (.bool false)], args := [d1, d2] }
  | _ => none }
def GossipForksWrongFalsely : Prop := gossipForksRow.holds Tryz.pinned (OpenSpec.ofChange gossipForksWrong)

/-- 'kinkeeplaw46.GossipEncodes': WHATEVER THE INPUT: true; the input reads as it did. -/
def gossipEncodesSpec : ChangeSpec := { name := "gossipEncodes", fn := fun _ => fun
  | [d] => { results := [.lit (.bool true)], args := [d] }
  | _ => none }
def gossipEncodesRow : OpenClaim := { program := "ytmeimbnfgdnlbaagreatdoor", sum := "c44d0fb4e727a5e9a9b02ddbfbae375c86bac864e61bb494f1ddeb13df8bd061", func := "kinkeep/kinkeeplaw46.GossipEncodes", spec := "gossipEncodes", inPlace := ["internal/abi.NoEscape", "internal/bytealg.MakeNoZero"], unfollowed := true, recurses := true, named := ["kinkeep/hmac.pads", "kinkeep/sha256.initial", "kinkeep/sha256.constants"], apart := false, laid := [("kinkeep/sha256.initial", laid_kinkeep_sha256_initial), ("kinkeep/sha256.constants", laid_kinkeep_sha256_constants), ("kinkeep/hmac.pads", laid_kinkeep_hmac_pads)] }
def GossipEncodesSaid : Prop := gossipEncodesRow.holds Tryz.pinned (OpenSpec.ofChange gossipEncodesSpec)

/-- ITS FALSE NEIGHBOUR: 'it returns false'. Refute it at one input. -/
def gossipEncodesWrong : ChangeSpec := { name := "gossipEncodes", fn := fun _ => fun
  | [d] => { results := [.lit (.bool false)], args := [d] }
  | _ => none }
def GossipEncodesWrongFalsely : Prop := gossipEncodesRow.holds Tryz.pinned (OpenSpec.ofChange gossipEncodesWrong)

/-- 'kinkeeplaw46.GossipDecodes': WHATEVER THE INPUT: true; the input reads as it did. -/
def gossipDecodesSpec : ChangeSpec := { name := "gossipDecodes", fn := fun _ => fun
  | [d] => { results := [.lit (.bool true)], args := [d] }
  | _ => none }
def gossipDecodesRow : OpenClaim := { program := "ytmeimbnfgdnlbaagreatdoor", sum := "c44d0fb4e727a5e9a9b02ddbfbae375c86bac864e61bb494f1ddeb13df8bd061", func := "kinkeep/kinkeeplaw46.GossipDecodes", spec := "gossipDecodes", inPlace := ["internal/abi.NoEscape", "internal/bytealg.MakeNoZero"], unfollowed := true, recurses := true, named := ["kinkeep/hmac.pads", "kinkeep/sha256.initial", "kinkeep/sha256.constants"], apart := false, laid := [("kinkeep/sha256.initial", laid_kinkeep_sha256_initial), ("kinkeep/sha256.constants", laid_kinkeep_sha256_constants), ("kinkeep/hmac.pads", laid_kinkeep_hmac_pads)] }
def GossipDecodesSaid : Prop := gossipDecodesRow.holds Tryz.pinned (OpenSpec.ofChange gossipDecodesSpec)

/-- ITS FALSE NEIGHBOUR: 'it returns false'. Refute it at one input. -/
def gossipDecodesWrong : ChangeSpec := { name := "gossipDecodes", fn := fun _ => fun
  | [d] => { results := [.lit (.bool false)], args := [d] }
  | _ => none }
def GossipDecodesWrongFalsely : Prop := gossipDecodesRow.holds Tryz.pinned (OpenSpec.ofChange gossipDecodesWrong)

/- THE SECOND FORM. 'bulk': how many values and letters a reading holds, each counted each time it is reached (what is shared counts as often as it is met; a slice's spare places count too). A statement '..UptoSaid' is the law's where the arguments, and the package variables that the reading takes, are together of bulk at most 1048576: NARROWER than '..Said'. Prove '..Said' where nothing that the law and all that it calls make is longer than what came in: it says more and counts as full. Else prove '..UptoSaid'. A law counts once. -/
mutual
def uptoBulk {H : Type} : DataW H → Nat
  | .lit (.string bytes) => bytes.length + 1
  | .lit _ => 1
  | .nil => 1
  | .ptr d => uptoBulk d + 1
  | .slice elems spare => uptoBulkAll elems + uptoBulkAll spare + 1
  | .agg parts => uptoBulkAll parts + 1
  | .iface _ d => uptoBulk d + 1
  | .map entries => uptoBulkEntries entries + 1
  | .held _ => 1
def uptoBulkAll {H : Type} : List (DataW H) → Nat
  | [] => 0
  | d :: r => uptoBulk d + uptoBulkAll r
def uptoBulkEntries {H : Type} : List (Lit × DataW H) → Nat
  | [] => 0
  | x :: r => uptoBulkEntry x + uptoBulkEntries r
def uptoBulkEntry {H : Type} : Lit × DataW H → Nat
  | (.string bytes, d) => bytes.length + uptoBulk d + 1
  | (_, d) => uptoBulk d + 1
 end
def uptoSmall : (H : Type) → List (DataW H) → Bool := fun _ ds => decide (uptoBulkAll ds ≤ 1048576)
def OpenSpec.upto (s : _root_.Go.ChangeSpec) : _root_.Go.OpenSpec := { _root_.Go.OpenSpec.ofChange s with cond := some uptoSmall }

/-- 'kinkeeplaw46.GossipChains', WHERE WHAT IT READS IS OF BULK AT MOST 1048576: true; the input reads as it did. -/
def gossipChainsUptoRow : OpenClaim := { program := "ytmeimbnfgdnlbaagreatdoor", sum := "c44d0fb4e727a5e9a9b02ddbfbae375c86bac864e61bb494f1ddeb13df8bd061", func := "kinkeep/kinkeeplaw46.GossipChains", spec := "gossipChains", inPlace := ["internal/abi.NoEscape", "internal/bytealg.MakeNoZero"], unfollowed := true, recurses := true, named := ["kinkeep/hmac.pads", "kinkeep/sha256.initial", "kinkeep/sha256.constants"], apart := false, laid := [("kinkeep/sha256.initial", laid_kinkeep_sha256_initial), ("kinkeep/sha256.constants", laid_kinkeep_sha256_constants), ("kinkeep/hmac.pads", laid_kinkeep_hmac_pads)], narrowed := true }
def GossipChainsUptoSaid : Prop := gossipChainsUptoRow.holds Tryz.pinned (OpenSpec.upto gossipChainsSpec)

/-- 'kinkeeplaw46.GossipForged', WHERE WHAT IT READS IS OF BULK AT MOST 1048576: true; the input reads as it did. -/
def gossipForgedUptoRow : OpenClaim := { program := "ytmeimbnfgdnlbaagreatdoor", sum := "c44d0fb4e727a5e9a9b02ddbfbae375c86bac864e61bb494f1ddeb13df8bd061", func := "kinkeep/kinkeeplaw46.GossipForged", spec := "gossipForged", inPlace := ["internal/abi.NoEscape", "internal/bytealg.MakeNoZero"], unfollowed := true, recurses := true, named := ["kinkeep/hmac.pads", "kinkeep/sha256.initial", "kinkeep/sha256.constants"], apart := false, laid := [("kinkeep/sha256.initial", laid_kinkeep_sha256_initial), ("kinkeep/sha256.constants", laid_kinkeep_sha256_constants), ("kinkeep/hmac.pads", laid_kinkeep_hmac_pads)], narrowed := true }
def GossipForgedUptoSaid : Prop := gossipForgedUptoRow.holds Tryz.pinned (OpenSpec.upto gossipForgedSpec)

/-- 'kinkeeplaw46.GossipVerifies', WHERE WHAT IT READS IS OF BULK AT MOST 1048576: true; the input reads as it did. -/
def gossipVerifiesUptoRow : OpenClaim := { program := "ytmeimbnfgdnlbaagreatdoor", sum := "c44d0fb4e727a5e9a9b02ddbfbae375c86bac864e61bb494f1ddeb13df8bd061", func := "kinkeep/kinkeeplaw46.GossipVerifies", spec := "gossipVerifies", inPlace := ["internal/abi.NoEscape", "internal/bytealg.MakeNoZero"], unfollowed := true, recurses := true, named := ["kinkeep/hmac.pads", "kinkeep/sha256.initial", "kinkeep/sha256.constants"], apart := false, laid := [("kinkeep/sha256.initial", laid_kinkeep_sha256_initial), ("kinkeep/sha256.constants", laid_kinkeep_sha256_constants), ("kinkeep/hmac.pads", laid_kinkeep_hmac_pads)], narrowed := true }
def GossipVerifiesUptoSaid : Prop := gossipVerifiesUptoRow.holds Tryz.pinned (OpenSpec.upto gossipVerifiesSpec)

/-- 'kinkeeplaw46.GossipForks', WHERE WHAT IT READS IS OF BULK AT MOST 1048576: true; the input reads as it did. -/
def gossipForksUptoRow : OpenClaim := { program := "ytmeimbnfgdnlbaagreatdoor", sum := "c44d0fb4e727a5e9a9b02ddbfbae375c86bac864e61bb494f1ddeb13df8bd061", func := "kinkeep/kinkeeplaw46.GossipForks", spec := "gossipForks", inPlace := ["internal/abi.NoEscape", "internal/bytealg.MakeNoZero"], unfollowed := true, recurses := true, named := ["kinkeep/hmac.pads", "kinkeep/sha256.initial", "kinkeep/sha256.constants"], apart := false, laid := [("kinkeep/sha256.initial", laid_kinkeep_sha256_initial), ("kinkeep/sha256.constants", laid_kinkeep_sha256_constants), ("kinkeep/hmac.pads", laid_kinkeep_hmac_pads)], narrowed := true }
def GossipForksUptoSaid : Prop := gossipForksUptoRow.holds Tryz.pinned (OpenSpec.upto gossipForksSpec)

/-- 'kinkeeplaw46.GossipEncodes', WHERE WHAT IT READS IS OF BULK AT MOST 1048576: true; the input reads as it did. -/
def gossipEncodesUptoRow : OpenClaim := { program := "ytmeimbnfgdnlbaagreatdoor", sum := "c44d0fb4e727a5e9a9b02ddbfbae375c86bac864e61bb494f1ddeb13df8bd061", func := "kinkeep/kinkeeplaw46.GossipEncodes", spec := "gossipEncodes", inPlace := ["internal/abi.NoEscape", "internal/bytealg.MakeNoZero"], unfollowed := true, recurses := true, named := ["kinkeep/hmac.pads", "kinkeep/sha256.initial", "kinkeep/sha256.constants"], apart := false, laid := [("kinkeep/sha256.initial", laid_kinkeep_sha256_initial), ("kinkeep/sha256.constants", laid_kinkeep_sha256_constants), ("kinkeep/hmac.pads", laid_kinkeep_hmac_pads)], narrowed := true }
def GossipEncodesUptoSaid : Prop := gossipEncodesUptoRow.holds Tryz.pinned (OpenSpec.upto gossipEncodesSpec)

/-- 'kinkeeplaw46.GossipDecodes', WHERE WHAT IT READS IS OF BULK AT MOST 1048576: true; the input reads as it did. -/
def gossipDecodesUptoRow : OpenClaim := { program := "ytmeimbnfgdnlbaagreatdoor", sum := "c44d0fb4e727a5e9a9b02ddbfbae375c86bac864e61bb494f1ddeb13df8bd061", func := "kinkeep/kinkeeplaw46.GossipDecodes", spec := "gossipDecodes", inPlace := ["internal/abi.NoEscape", "internal/bytealg.MakeNoZero"], unfollowed := true, recurses := true, named := ["kinkeep/hmac.pads", "kinkeep/sha256.initial", "kinkeep/sha256.constants"], apart := false, laid := [("kinkeep/sha256.initial", laid_kinkeep_sha256_initial), ("kinkeep/sha256.constants", laid_kinkeep_sha256_constants), ("kinkeep/hmac.pads", laid_kinkeep_hmac_pads)], narrowed := true }
def GossipDecodesUptoSaid : Prop := gossipDecodesUptoRow.holds Tryz.pinned (OpenSpec.upto gossipDecodesSpec)

end Rows
end Go.Proofs.YtmeimbnfgdnlbaaGreatDoor
