/-
  NARROWER THAN 'FOR EVERY INPUT', by the rows' own cells (each row's printed sentence says how): OnetimeDigits: laid · OnetimeChains: laid · OnetimeSignatures: laid · OnetimeRecovers: laid · OnetimeVerifies: laid · OnetimeCovered: laid · OnetimeComposes: laid · OnetimeOnly: laid · OnetimeBinds: laid · SignatureScheme: laid · SignatureSeed: laid · SignatureVerifies: laid · SignatureVerify: laid · SignatureNew: laid · SignatureResumes: laid.
  DERIVED. THE GIVEN ROWS OF THIS SEAT. 15 by the template 'for every input the law returns true; each argument reads behind the call as it read before'; 0 by the template 'total and deterministic' (their statements: YtmnendoloankgaaDoorTotals.lean).
  GIVEN WITH THE SEED: the statements are not yours to turn. If you find one false, say at which input.
  Laid BY PROGRAM, IN A SANDBOX (cutbox-rows.mjs): the forced cells as the released guide's own fill.sh prints them over the translation 429aa14555ad4cdc… (all of the seat's roots in one cut). By AI agents, Wed Nov 11 2026. No macro, syntax, notation, axiom, sorry.
-/
import Derived.Test.YtmnendoloankgaaDoorChecked
import GoSem.Claim
import GoSem.ClaimJoined
import GoSem.ClaimMapViews
import Derived.JoinedTies
import Derived.KernelRfl
namespace Go.Proofs.YtmnendoloankgaaDoor
/- THE CELL 'sum', in the pinned program and in every row, IS THE sha256 OF THE DUMP (.gsa) THAT YtmnendoloankgaaDoorProg.lean LOADS. Nothing in Lean hashes anything: it is a label: what it is worth is what the hold of that sum in a sandbox is worth. -/
noncomputable def Tryd.pinned : Pinned := { name := "ytmnendoloankgaadoor", sum := "429aa14555ad4cdce44b728fd052a2895575a12009b0bf19b38005aa46bce1b7", checked := Tryd.checked }
namespace Rows
def none {H : Type} : Left H := { results := [], args := [] }

/- WHAT THE LISTED PACKAGE-LEVEL VARIABLES READ AS WHEN THE CALL BEGINS. Each datum BY PROGRAM (the guide's laid-datum.mjs) off the statement by which the dump's own 'gosem.cut.vars' lays the variable. In a bare row this is a premise. The card (YtmnendoloankgaaDoorCards.lean) ties it to the program's text. -/
def laid_kinkeep_sha256_initial {H : Type} : DataW H := .agg [.lit (.int .u32 1779033703), .lit (.int .u32 3144134277), .lit (.int .u32 1013904242), .lit (.int .u32 2773480762), .lit (.int .u32 1359893119), .lit (.int .u32 2600822924), .lit (.int .u32 528734635), .lit (.int .u32 1541459225)]
def laid_kinkeep_sha256_constants {H : Type} : DataW H := .agg [.lit (.int .u32 1116352408), .lit (.int .u32 1899447441), .lit (.int .u32 3049323471), .lit (.int .u32 3921009573), .lit (.int .u32 961987163), .lit (.int .u32 1508970993), .lit (.int .u32 2453635748), .lit (.int .u32 2870763221), .lit (.int .u32 3624381080), .lit (.int .u32 310598401), .lit (.int .u32 607225278), .lit (.int .u32 1426881987), .lit (.int .u32 1925078388), .lit (.int .u32 2162078206), .lit (.int .u32 2614888103), .lit (.int .u32 3248222580), .lit (.int .u32 3835390401), .lit (.int .u32 4022224774), .lit (.int .u32 264347078), .lit (.int .u32 604807628), .lit (.int .u32 770255983), .lit (.int .u32 1249150122), .lit (.int .u32 1555081692), .lit (.int .u32 1996064986), .lit (.int .u32 2554220882), .lit (.int .u32 2821834349), .lit (.int .u32 2952996808), .lit (.int .u32 3210313671), .lit (.int .u32 3336571891), .lit (.int .u32 3584528711), .lit (.int .u32 113926993), .lit (.int .u32 338241895), .lit (.int .u32 666307205), .lit (.int .u32 773529912), .lit (.int .u32 1294757372), .lit (.int .u32 1396182291), .lit (.int .u32 1695183700), .lit (.int .u32 1986661051), .lit (.int .u32 2177026350), .lit (.int .u32 2456956037), .lit (.int .u32 2730485921), .lit (.int .u32 2820302411), .lit (.int .u32 3259730800), .lit (.int .u32 3345764771), .lit (.int .u32 3516065817), .lit (.int .u32 3600352804), .lit (.int .u32 4094571909), .lit (.int .u32 275423344), .lit (.int .u32 430227734), .lit (.int .u32 506948616), .lit (.int .u32 659060556), .lit (.int .u32 883997877), .lit (.int .u32 958139571), .lit (.int .u32 1322822218), .lit (.int .u32 1537002063), .lit (.int .u32 1747873779), .lit (.int .u32 1955562222), .lit (.int .u32 2024104815), .lit (.int .u32 2227730452), .lit (.int .u32 2361852424), .lit (.int .u32 2428436474), .lit (.int .u32 2756734187), .lit (.int .u32 3204031479), .lit (.int .u32 3329325298)]
def laid_kinkeep_hmac_pads {H : Type} : DataW H := .agg [.lit (.int .u8 54), .lit (.int .u8 92)]

/-- 'kinkeeplaw12.OnetimeDigits': WHATEVER THE INPUT: true; the input reads as it did. -/
def onetimeDigitsSpec : ChangeSpec := { name := "onetimeDigits", fn := fun _ => fun
  | [d1, d2, d3] => { results := [.lit (.bool true)], args := [d1, d2, d3] }
  | _ => none }
def onetimeDigitsRow : OpenClaim := { program := "ytmnendoloankgaadoor", sum := "429aa14555ad4cdce44b728fd052a2895575a12009b0bf19b38005aa46bce1b7", func := "kinkeep/kinkeeplaw12.OnetimeDigits", spec := "onetimeDigits", inPlace := ["internal/abi.NoEscape", "internal/bytealg.MakeNoZero"], unfollowed := true, recurses := true, named := ["kinkeep/sha256.initial", "kinkeep/sha256.constants", "kinkeep/hmac.pads"], apart := false, laid := [("kinkeep/sha256.initial", laid_kinkeep_sha256_initial), ("kinkeep/sha256.constants", laid_kinkeep_sha256_constants), ("kinkeep/hmac.pads", laid_kinkeep_hmac_pads)] }
def OnetimeDigitsSaid : Prop := onetimeDigitsRow.holds Tryd.pinned (OpenSpec.ofChange onetimeDigitsSpec)

/-- ITS FALSE NEIGHBOUR: 'it returns false'. Refute it at one input. -/
def onetimeDigitsWrong : ChangeSpec := { name := "onetimeDigits", fn := fun _ => fun
  | [d1, d2, d3] => { results := [.lit (.bool false)], args := [d1, d2, d3] }
  | _ => none }
def OnetimeDigitsWrongFalsely : Prop := onetimeDigitsRow.holds Tryd.pinned (OpenSpec.ofChange onetimeDigitsWrong)

/-- 'kinkeeplaw12.OnetimeChains': WHATEVER THE INPUT: true; the input reads as it did. -/
def onetimeChainsSpec : ChangeSpec := { name := "onetimeChains", fn := fun _ => fun
  | [d1, d2, d3, d4, d5] => { results := [.lit (.bool true)], args := [d1, d2, d3, d4, d5] }
  | _ => none }
def onetimeChainsRow : OpenClaim := { program := "ytmnendoloankgaadoor", sum := "429aa14555ad4cdce44b728fd052a2895575a12009b0bf19b38005aa46bce1b7", func := "kinkeep/kinkeeplaw12.OnetimeChains", spec := "onetimeChains", inPlace := ["internal/abi.NoEscape", "internal/bytealg.MakeNoZero"], unfollowed := true, recurses := true, named := ["kinkeep/sha256.initial", "kinkeep/sha256.constants", "kinkeep/hmac.pads"], apart := false, laid := [("kinkeep/sha256.initial", laid_kinkeep_sha256_initial), ("kinkeep/sha256.constants", laid_kinkeep_sha256_constants), ("kinkeep/hmac.pads", laid_kinkeep_hmac_pads)] }
def OnetimeChainsSaid : Prop := onetimeChainsRow.holds Tryd.pinned (OpenSpec.ofChange onetimeChainsSpec)

/-- ITS FALSE NEIGHBOUR: 'it returns false'. Refute it at one input. -/
def onetimeChainsWrong : ChangeSpec := { name := "onetimeChains", fn := fun _ => fun
  | [d1, d2, d3, d4, d5] => { results := [.lit (.bool false)], args := [d1, d2, d3, d4, d5] }
  | _ => none }
def OnetimeChainsWrongFalsely : Prop := onetimeChainsRow.holds Tryd.pinned (OpenSpec.ofChange onetimeChainsWrong)

/-- 'kinkeeplaw12.OnetimeSignatures': WHATEVER THE INPUT: true; the input reads as it did. -/
def onetimeSignaturesSpec : ChangeSpec := { name := "onetimeSignatures", fn := fun _ => fun
  | [d1, d2, d3] => { results := [.lit (.bool true)], args := [d1, d2, d3] }
  | _ => none }
def onetimeSignaturesRow : OpenClaim := { program := "ytmnendoloankgaadoor", sum := "429aa14555ad4cdce44b728fd052a2895575a12009b0bf19b38005aa46bce1b7", func := "kinkeep/kinkeeplaw12.OnetimeSignatures", spec := "onetimeSignatures", inPlace := ["internal/abi.NoEscape", "internal/bytealg.MakeNoZero"], unfollowed := true, recurses := true, named := ["kinkeep/sha256.initial", "kinkeep/sha256.constants", "kinkeep/hmac.pads"], apart := false, laid := [("kinkeep/sha256.initial", laid_kinkeep_sha256_initial), ("kinkeep/sha256.constants", laid_kinkeep_sha256_constants), ("kinkeep/hmac.pads", laid_kinkeep_hmac_pads)] }
def OnetimeSignaturesSaid : Prop := onetimeSignaturesRow.holds Tryd.pinned (OpenSpec.ofChange onetimeSignaturesSpec)

/-- ITS FALSE NEIGHBOUR: 'it returns false'. Refute it at one input. -/
def onetimeSignaturesWrong : ChangeSpec := { name := "onetimeSignatures", fn := fun _ => fun
  | [d1, d2, d3] => { results := [.lit (.bool false)], args := [d1, d2, d3] }
  | _ => none }
def OnetimeSignaturesWrongFalsely : Prop := onetimeSignaturesRow.holds Tryd.pinned (OpenSpec.ofChange onetimeSignaturesWrong)

/-- 'kinkeeplaw12.OnetimeRecovers': WHATEVER THE INPUT: true; the input reads as it did. -/
def onetimeRecoversSpec : ChangeSpec := { name := "onetimeRecovers", fn := fun _ => fun
  | [d1, d2, d3, d4] => { results := [.lit (.bool true)], args := [d1, d2, d3, d4] }
  | _ => none }
def onetimeRecoversRow : OpenClaim := { program := "ytmnendoloankgaadoor", sum := "429aa14555ad4cdce44b728fd052a2895575a12009b0bf19b38005aa46bce1b7", func := "kinkeep/kinkeeplaw12.OnetimeRecovers", spec := "onetimeRecovers", inPlace := ["internal/abi.NoEscape", "internal/bytealg.MakeNoZero"], unfollowed := true, recurses := true, named := ["kinkeep/sha256.initial", "kinkeep/sha256.constants", "kinkeep/hmac.pads"], apart := false, laid := [("kinkeep/sha256.initial", laid_kinkeep_sha256_initial), ("kinkeep/sha256.constants", laid_kinkeep_sha256_constants), ("kinkeep/hmac.pads", laid_kinkeep_hmac_pads)] }
def OnetimeRecoversSaid : Prop := onetimeRecoversRow.holds Tryd.pinned (OpenSpec.ofChange onetimeRecoversSpec)

/-- ITS FALSE NEIGHBOUR: 'it returns false'. Refute it at one input. -/
def onetimeRecoversWrong : ChangeSpec := { name := "onetimeRecovers", fn := fun _ => fun
  | [d1, d2, d3, d4] => { results := [.lit (.bool false)], args := [d1, d2, d3, d4] }
  | _ => none }
def OnetimeRecoversWrongFalsely : Prop := onetimeRecoversRow.holds Tryd.pinned (OpenSpec.ofChange onetimeRecoversWrong)

/-- 'kinkeeplaw12.OnetimeVerifies': WHATEVER THE INPUT: true; the input reads as it did. -/
def onetimeVerifiesSpec : ChangeSpec := { name := "onetimeVerifies", fn := fun _ => fun
  | [d1, d2, d3, d4] => { results := [.lit (.bool true)], args := [d1, d2, d3, d4] }
  | _ => none }
def onetimeVerifiesRow : OpenClaim := { program := "ytmnendoloankgaadoor", sum := "429aa14555ad4cdce44b728fd052a2895575a12009b0bf19b38005aa46bce1b7", func := "kinkeep/kinkeeplaw12.OnetimeVerifies", spec := "onetimeVerifies", inPlace := ["internal/abi.NoEscape", "internal/bytealg.MakeNoZero"], unfollowed := true, recurses := true, named := ["kinkeep/sha256.initial", "kinkeep/sha256.constants", "kinkeep/hmac.pads"], apart := false, laid := [("kinkeep/sha256.initial", laid_kinkeep_sha256_initial), ("kinkeep/sha256.constants", laid_kinkeep_sha256_constants), ("kinkeep/hmac.pads", laid_kinkeep_hmac_pads)] }
def OnetimeVerifiesSaid : Prop := onetimeVerifiesRow.holds Tryd.pinned (OpenSpec.ofChange onetimeVerifiesSpec)

/-- ITS FALSE NEIGHBOUR: 'it returns false'. Refute it at one input. -/
def onetimeVerifiesWrong : ChangeSpec := { name := "onetimeVerifies", fn := fun _ => fun
  | [d1, d2, d3, d4] => { results := [.lit (.bool false)], args := [d1, d2, d3, d4] }
  | _ => none }
def OnetimeVerifiesWrongFalsely : Prop := onetimeVerifiesRow.holds Tryd.pinned (OpenSpec.ofChange onetimeVerifiesWrong)

/-- 'kinkeeplaw12.OnetimeCovered': WHATEVER THE INPUT: true; the input reads as it did. -/
def onetimeCoveredSpec : ChangeSpec := { name := "onetimeCovered", fn := fun _ => fun
  | [d1, d2, d3] => { results := [.lit (.bool true)], args := [d1, d2, d3] }
  | _ => none }
def onetimeCoveredRow : OpenClaim := { program := "ytmnendoloankgaadoor", sum := "429aa14555ad4cdce44b728fd052a2895575a12009b0bf19b38005aa46bce1b7", func := "kinkeep/kinkeeplaw12.OnetimeCovered", spec := "onetimeCovered", inPlace := ["internal/abi.NoEscape", "internal/bytealg.MakeNoZero"], unfollowed := true, recurses := true, named := ["kinkeep/sha256.initial", "kinkeep/sha256.constants", "kinkeep/hmac.pads"], apart := false, laid := [("kinkeep/sha256.initial", laid_kinkeep_sha256_initial), ("kinkeep/sha256.constants", laid_kinkeep_sha256_constants), ("kinkeep/hmac.pads", laid_kinkeep_hmac_pads)] }
def OnetimeCoveredSaid : Prop := onetimeCoveredRow.holds Tryd.pinned (OpenSpec.ofChange onetimeCoveredSpec)

/-- ITS FALSE NEIGHBOUR: 'it returns false'. Refute it at one input. -/
def onetimeCoveredWrong : ChangeSpec := { name := "onetimeCovered", fn := fun _ => fun
  | [d1, d2, d3] => { results := [.lit (.bool false)], args := [d1, d2, d3] }
  | _ => none }
def OnetimeCoveredWrongFalsely : Prop := onetimeCoveredRow.holds Tryd.pinned (OpenSpec.ofChange onetimeCoveredWrong)

/-- 'kinkeeplaw12.OnetimeComposes': WHATEVER THE INPUT: true; the input reads as it did. -/
def onetimeComposesSpec : ChangeSpec := { name := "onetimeComposes", fn := fun _ => fun
  | [d1, d2, d3, d4, d5] => { results := [.lit (.bool true)], args := [d1, d2, d3, d4, d5] }
  | _ => none }
def onetimeComposesRow : OpenClaim := { program := "ytmnendoloankgaadoor", sum := "429aa14555ad4cdce44b728fd052a2895575a12009b0bf19b38005aa46bce1b7", func := "kinkeep/kinkeeplaw12.OnetimeComposes", spec := "onetimeComposes", inPlace := ["internal/abi.NoEscape", "internal/bytealg.MakeNoZero"], unfollowed := true, recurses := true, named := ["kinkeep/sha256.initial", "kinkeep/sha256.constants", "kinkeep/hmac.pads"], apart := false, laid := [("kinkeep/sha256.initial", laid_kinkeep_sha256_initial), ("kinkeep/sha256.constants", laid_kinkeep_sha256_constants), ("kinkeep/hmac.pads", laid_kinkeep_hmac_pads)] }
def OnetimeComposesSaid : Prop := onetimeComposesRow.holds Tryd.pinned (OpenSpec.ofChange onetimeComposesSpec)

/-- ITS FALSE NEIGHBOUR: 'it returns false'. Refute it at one input. -/
def onetimeComposesWrong : ChangeSpec := { name := "onetimeComposes", fn := fun _ => fun
  | [d1, d2, d3, d4, d5] => { results := [.lit (.bool false)], args := [d1, d2, d3, d4, d5] }
  | _ => none }
def OnetimeComposesWrongFalsely : Prop := onetimeComposesRow.holds Tryd.pinned (OpenSpec.ofChange onetimeComposesWrong)

/-- 'kinkeeplaw12.OnetimeOnly': WHATEVER THE INPUT: true; the input reads as it did. -/
def onetimeOnlySpec : ChangeSpec := { name := "onetimeOnly", fn := fun _ => fun
  | [d1, d2, d3, d4] => { results := [.lit (.bool true)], args := [d1, d2, d3, d4] }
  | _ => none }
def onetimeOnlyRow : OpenClaim := { program := "ytmnendoloankgaadoor", sum := "429aa14555ad4cdce44b728fd052a2895575a12009b0bf19b38005aa46bce1b7", func := "kinkeep/kinkeeplaw12.OnetimeOnly", spec := "onetimeOnly", inPlace := ["internal/abi.NoEscape", "internal/bytealg.MakeNoZero"], unfollowed := true, recurses := true, named := ["kinkeep/sha256.initial", "kinkeep/sha256.constants", "kinkeep/hmac.pads"], apart := false, laid := [("kinkeep/sha256.initial", laid_kinkeep_sha256_initial), ("kinkeep/sha256.constants", laid_kinkeep_sha256_constants), ("kinkeep/hmac.pads", laid_kinkeep_hmac_pads)] }
def OnetimeOnlySaid : Prop := onetimeOnlyRow.holds Tryd.pinned (OpenSpec.ofChange onetimeOnlySpec)

/-- ITS FALSE NEIGHBOUR: 'it returns false'. Refute it at one input. -/
def onetimeOnlyWrong : ChangeSpec := { name := "onetimeOnly", fn := fun _ => fun
  | [d1, d2, d3, d4] => { results := [.lit (.bool false)], args := [d1, d2, d3, d4] }
  | _ => none }
def OnetimeOnlyWrongFalsely : Prop := onetimeOnlyRow.holds Tryd.pinned (OpenSpec.ofChange onetimeOnlyWrong)

/-- 'kinkeeplaw12.OnetimeBinds': WHATEVER THE INPUT: true; the input reads as it did. -/
def onetimeBindsSpec : ChangeSpec := { name := "onetimeBinds", fn := fun _ => fun
  | [d1, d2, d3, d4] => { results := [.lit (.bool true)], args := [d1, d2, d3, d4] }
  | _ => none }
def onetimeBindsRow : OpenClaim := { program := "ytmnendoloankgaadoor", sum := "429aa14555ad4cdce44b728fd052a2895575a12009b0bf19b38005aa46bce1b7", func := "kinkeep/kinkeeplaw12.OnetimeBinds", spec := "onetimeBinds", inPlace := ["internal/abi.NoEscape", "internal/bytealg.MakeNoZero"], unfollowed := true, recurses := true, named := ["kinkeep/sha256.initial", "kinkeep/sha256.constants", "kinkeep/hmac.pads"], apart := false, laid := [("kinkeep/sha256.initial", laid_kinkeep_sha256_initial), ("kinkeep/sha256.constants", laid_kinkeep_sha256_constants), ("kinkeep/hmac.pads", laid_kinkeep_hmac_pads)] }
def OnetimeBindsSaid : Prop := onetimeBindsRow.holds Tryd.pinned (OpenSpec.ofChange onetimeBindsSpec)

/-- ITS FALSE NEIGHBOUR: 'it returns false'. Refute it at one input. -/
def onetimeBindsWrong : ChangeSpec := { name := "onetimeBinds", fn := fun _ => fun
  | [d1, d2, d3, d4] => { results := [.lit (.bool false)], args := [d1, d2, d3, d4] }
  | _ => none }
def OnetimeBindsWrongFalsely : Prop := onetimeBindsRow.holds Tryd.pinned (OpenSpec.ofChange onetimeBindsWrong)

/-- 'kinkeeplaw13.SignatureScheme': WHATEVER THE INPUT: true; the input reads as it did. -/
def signatureSchemeSpec : ChangeSpec := { name := "signatureScheme", fn := fun _ => fun
  | [d] => { results := [.lit (.bool true)], args := [d] }
  | _ => none }
def signatureSchemeRow : OpenClaim := { program := "ytmnendoloankgaadoor", sum := "429aa14555ad4cdce44b728fd052a2895575a12009b0bf19b38005aa46bce1b7", func := "kinkeep/kinkeeplaw13.SignatureScheme", spec := "signatureScheme", inPlace := ["internal/abi.NoEscape", "internal/bytealg.MakeNoZero"], unfollowed := true, recurses := true, named := ["kinkeep/hmac.pads", "kinkeep/sha256.initial", "kinkeep/sha256.constants"], apart := false, laid := [("kinkeep/sha256.initial", laid_kinkeep_sha256_initial), ("kinkeep/sha256.constants", laid_kinkeep_sha256_constants), ("kinkeep/hmac.pads", laid_kinkeep_hmac_pads)] }
def SignatureSchemeSaid : Prop := signatureSchemeRow.holds Tryd.pinned (OpenSpec.ofChange signatureSchemeSpec)

/-- ITS FALSE NEIGHBOUR: 'it returns false'. Refute it at one input. -/
def signatureSchemeWrong : ChangeSpec := { name := "signatureScheme", fn := fun _ => fun
  | [d] => { results := [.lit (.bool false)], args := [d] }
  | _ => none }
def SignatureSchemeWrongFalsely : Prop := signatureSchemeRow.holds Tryd.pinned (OpenSpec.ofChange signatureSchemeWrong)

/-- 'kinkeeplaw13.SignatureSeed': WHATEVER THE INPUT: true; the input reads as it did. -/
def signatureSeedSpec : ChangeSpec := { name := "signatureSeed", fn := fun _ => fun
  | [d1, d2] => { results := [.lit (.bool true)], args := [d1, d2] }
  | _ => none }
def signatureSeedRow : OpenClaim := { program := "ytmnendoloankgaadoor", sum := "429aa14555ad4cdce44b728fd052a2895575a12009b0bf19b38005aa46bce1b7", func := "kinkeep/kinkeeplaw13.SignatureSeed", spec := "signatureSeed", inPlace := ["internal/abi.NoEscape", "internal/bytealg.MakeNoZero"], unfollowed := true, recurses := true, named := ["kinkeep/hmac.pads", "kinkeep/sha256.initial", "kinkeep/sha256.constants"], apart := false, laid := [("kinkeep/sha256.initial", laid_kinkeep_sha256_initial), ("kinkeep/sha256.constants", laid_kinkeep_sha256_constants), ("kinkeep/hmac.pads", laid_kinkeep_hmac_pads)] }
def SignatureSeedSaid : Prop := signatureSeedRow.holds Tryd.pinned (OpenSpec.ofChange signatureSeedSpec)

/-- ITS FALSE NEIGHBOUR: 'it returns false'. Refute it at one input. -/
def signatureSeedWrong : ChangeSpec := { name := "signatureSeed", fn := fun _ => fun
  | [d1, d2] => { results := [.lit (.bool false)], args := [d1, d2] }
  | _ => none }
def SignatureSeedWrongFalsely : Prop := signatureSeedRow.holds Tryd.pinned (OpenSpec.ofChange signatureSeedWrong)

/-- 'kinkeeplaw13.SignatureVerifies': WHATEVER THE INPUT: true; the input reads as it did. -/
def signatureVerifiesSpec : ChangeSpec := { name := "signatureVerifies", fn := fun _ => fun
  | [d1, d2, d3, d4] => { results := [.lit (.bool true)], args := [d1, d2, d3, d4] }
  | _ => none }
def signatureVerifiesRow : OpenClaim := { program := "ytmnendoloankgaadoor", sum := "429aa14555ad4cdce44b728fd052a2895575a12009b0bf19b38005aa46bce1b7", func := "kinkeep/kinkeeplaw13.SignatureVerifies", spec := "signatureVerifies", inPlace := ["internal/abi.NoEscape", "internal/bytealg.MakeNoZero"], unfollowed := true, recurses := true, named := ["kinkeep/hmac.pads", "kinkeep/sha256.initial", "kinkeep/sha256.constants"], apart := false, laid := [("kinkeep/sha256.initial", laid_kinkeep_sha256_initial), ("kinkeep/sha256.constants", laid_kinkeep_sha256_constants), ("kinkeep/hmac.pads", laid_kinkeep_hmac_pads)] }
def SignatureVerifiesSaid : Prop := signatureVerifiesRow.holds Tryd.pinned (OpenSpec.ofChange signatureVerifiesSpec)

/-- ITS FALSE NEIGHBOUR: 'it returns false'. Refute it at one input. -/
def signatureVerifiesWrong : ChangeSpec := { name := "signatureVerifies", fn := fun _ => fun
  | [d1, d2, d3, d4] => { results := [.lit (.bool false)], args := [d1, d2, d3, d4] }
  | _ => none }
def SignatureVerifiesWrongFalsely : Prop := signatureVerifiesRow.holds Tryd.pinned (OpenSpec.ofChange signatureVerifiesWrong)

/-- 'kinkeeplaw13.SignatureVerify': WHATEVER THE INPUT: true; the input reads as it did. -/
def signatureVerifySpec : ChangeSpec := { name := "signatureVerify", fn := fun _ => fun
  | [d1, d2, d3, d4] => { results := [.lit (.bool true)], args := [d1, d2, d3, d4] }
  | _ => none }
def signatureVerifyRow : OpenClaim := { program := "ytmnendoloankgaadoor", sum := "429aa14555ad4cdce44b728fd052a2895575a12009b0bf19b38005aa46bce1b7", func := "kinkeep/kinkeeplaw13.SignatureVerify", spec := "signatureVerify", inPlace := ["internal/abi.NoEscape", "internal/bytealg.MakeNoZero"], unfollowed := true, recurses := true, named := ["kinkeep/hmac.pads", "kinkeep/sha256.initial", "kinkeep/sha256.constants"], apart := false, laid := [("kinkeep/sha256.initial", laid_kinkeep_sha256_initial), ("kinkeep/sha256.constants", laid_kinkeep_sha256_constants), ("kinkeep/hmac.pads", laid_kinkeep_hmac_pads)] }
def SignatureVerifySaid : Prop := signatureVerifyRow.holds Tryd.pinned (OpenSpec.ofChange signatureVerifySpec)

/-- ITS FALSE NEIGHBOUR: 'it returns false'. Refute it at one input. -/
def signatureVerifyWrong : ChangeSpec := { name := "signatureVerify", fn := fun _ => fun
  | [d1, d2, d3, d4] => { results := [.lit (.bool false)], args := [d1, d2, d3, d4] }
  | _ => none }
def SignatureVerifyWrongFalsely : Prop := signatureVerifyRow.holds Tryd.pinned (OpenSpec.ofChange signatureVerifyWrong)

/-- 'kinkeeplaw13.SignatureNew': WHATEVER THE INPUT: true; the input reads as it did. -/
def signatureNewSpec : ChangeSpec := { name := "signatureNew", fn := fun _ => fun
  | [d1, d2] => { results := [.lit (.bool true)], args := [d1, d2] }
  | _ => none }
def signatureNewRow : OpenClaim := { program := "ytmnendoloankgaadoor", sum := "429aa14555ad4cdce44b728fd052a2895575a12009b0bf19b38005aa46bce1b7", func := "kinkeep/kinkeeplaw13.SignatureNew", spec := "signatureNew", inPlace := ["internal/abi.NoEscape", "internal/bytealg.MakeNoZero"], unfollowed := true, recurses := true, named := ["kinkeep/hmac.pads", "kinkeep/sha256.initial", "kinkeep/sha256.constants"], apart := false, laid := [("kinkeep/sha256.initial", laid_kinkeep_sha256_initial), ("kinkeep/sha256.constants", laid_kinkeep_sha256_constants), ("kinkeep/hmac.pads", laid_kinkeep_hmac_pads)] }
def SignatureNewSaid : Prop := signatureNewRow.holds Tryd.pinned (OpenSpec.ofChange signatureNewSpec)

/-- ITS FALSE NEIGHBOUR: 'it returns false'. Refute it at one input. -/
def signatureNewWrong : ChangeSpec := { name := "signatureNew", fn := fun _ => fun
  | [d1, d2] => { results := [.lit (.bool false)], args := [d1, d2] }
  | _ => none }
def SignatureNewWrongFalsely : Prop := signatureNewRow.holds Tryd.pinned (OpenSpec.ofChange signatureNewWrong)

/-- 'kinkeeplaw13.SignatureResumes': WHATEVER THE INPUT: true; the input reads as it did. -/
def signatureResumesSpec : ChangeSpec := { name := "signatureResumes", fn := fun _ => fun
  | [d1, d2, d3, d4, d5] => { results := [.lit (.bool true)], args := [d1, d2, d3, d4, d5] }
  | _ => none }
def signatureResumesRow : OpenClaim := { program := "ytmnendoloankgaadoor", sum := "429aa14555ad4cdce44b728fd052a2895575a12009b0bf19b38005aa46bce1b7", func := "kinkeep/kinkeeplaw13.SignatureResumes", spec := "signatureResumes", inPlace := ["internal/abi.NoEscape", "internal/bytealg.MakeNoZero"], unfollowed := true, recurses := true, named := ["kinkeep/hmac.pads", "kinkeep/sha256.initial", "kinkeep/sha256.constants"], apart := false, laid := [("kinkeep/sha256.initial", laid_kinkeep_sha256_initial), ("kinkeep/sha256.constants", laid_kinkeep_sha256_constants), ("kinkeep/hmac.pads", laid_kinkeep_hmac_pads)] }
def SignatureResumesSaid : Prop := signatureResumesRow.holds Tryd.pinned (OpenSpec.ofChange signatureResumesSpec)

/-- ITS FALSE NEIGHBOUR: 'it returns false'. Refute it at one input. -/
def signatureResumesWrong : ChangeSpec := { name := "signatureResumes", fn := fun _ => fun
  | [d1, d2, d3, d4, d5] => { results := [.lit (.bool false)], args := [d1, d2, d3, d4, d5] }
  | _ => none }
def SignatureResumesWrongFalsely : Prop := signatureResumesRow.holds Tryd.pinned (OpenSpec.ofChange signatureResumesWrong)

/- THE SECOND FORM. 'bulk': how many values and letters a reading holds, each counted each time it is reached (what is shared counts as often as it is met; a slice's spare places count too). A statement '..UptoSaid' is the law's where the arguments, and the package variables that the reading takes, are together of bulk at most 1048576: NARROWER than '..Said'. Prove '..Said' where nothing that the law and all that it calls make is longer than what came in: it says more and counts as full. Else prove '..UptoSaid'. A law counts once. -/
mutual
def uptoBulk {H : Type} : DataW H → Nat
  | .lit (.string bytes) => bytes.length + 1
  | .lit _ => 1
  | .nil => 1
  | .ptr d => uptoBulk d + 1
  | .slice elems spare => uptoBulkAll elems + uptoBulkAll spare + 1
  | .agg parts => uptoBulkAll parts + 1
  | .iface _ d => uptoBulk d + 1
  | .map entries => uptoBulkEntries entries + 1
  | .held _ => 1
def uptoBulkAll {H : Type} : List (DataW H) → Nat
  | [] => 0
  | d :: r => uptoBulk d + uptoBulkAll r
def uptoBulkEntries {H : Type} : List (Lit × DataW H) → Nat
  | [] => 0
  | x :: r => uptoBulkEntry x + uptoBulkEntries r
def uptoBulkEntry {H : Type} : Lit × DataW H → Nat
  | (.string bytes, d) => bytes.length + uptoBulk d + 1
  | (_, d) => uptoBulk d + 1
 end
def uptoSmall : (H : Type) → List (DataW H) → Bool := fun _ ds => decide (uptoBulkAll ds ≤ 1048576)
def OpenSpec.upto (s : _root_.Go.ChangeSpec) : _root_.Go.OpenSpec := { _root_.Go.OpenSpec.ofChange s with cond := some uptoSmall }

/-- 'kinkeeplaw12.OnetimeDigits', WHERE WHAT IT READS IS OF BULK AT MOST 1048576: true; the input reads as it did. -/
def onetimeDigitsUptoRow : OpenClaim := { program := "ytmnendoloankgaadoor", sum := "429aa14555ad4cdce44b728fd052a2895575a12009b0bf19b38005aa46bce1b7", func := "kinkeep/kinkeeplaw12.OnetimeDigits", spec := "onetimeDigits", inPlace := ["internal/abi.NoEscape", "internal/bytealg.MakeNoZero"], unfollowed := true, recurses := true, named := ["kinkeep/sha256.initial", "kinkeep/sha256.constants", "kinkeep/hmac.pads"], apart := false, laid := [("kinkeep/sha256.initial", laid_kinkeep_sha256_initial), ("kinkeep/sha256.constants", laid_kinkeep_sha256_constants), ("kinkeep/hmac.pads", laid_kinkeep_hmac_pads)], narrowed := true }
def OnetimeDigitsUptoSaid : Prop := onetimeDigitsUptoRow.holds Tryd.pinned (OpenSpec.upto onetimeDigitsSpec)

/-- 'kinkeeplaw12.OnetimeChains', WHERE WHAT IT READS IS OF BULK AT MOST 1048576: true; the input reads as it did. -/
def onetimeChainsUptoRow : OpenClaim := { program := "ytmnendoloankgaadoor", sum := "429aa14555ad4cdce44b728fd052a2895575a12009b0bf19b38005aa46bce1b7", func := "kinkeep/kinkeeplaw12.OnetimeChains", spec := "onetimeChains", inPlace := ["internal/abi.NoEscape", "internal/bytealg.MakeNoZero"], unfollowed := true, recurses := true, named := ["kinkeep/sha256.initial", "kinkeep/sha256.constants", "kinkeep/hmac.pads"], apart := false, laid := [("kinkeep/sha256.initial", laid_kinkeep_sha256_initial), ("kinkeep/sha256.constants", laid_kinkeep_sha256_constants), ("kinkeep/hmac.pads", laid_kinkeep_hmac_pads)], narrowed := true }
def OnetimeChainsUptoSaid : Prop := onetimeChainsUptoRow.holds Tryd.pinned (OpenSpec.upto onetimeChainsSpec)

/-- 'kinkeeplaw12.OnetimeSignatures', WHERE WHAT IT READS IS OF BULK AT MOST 1048576: true; the input reads as it did. -/
def onetimeSignaturesUptoRow : OpenClaim := { program := "ytmnendoloankgaadoor", sum := "429aa14555ad4cdce44b728fd052a2895575a12009b0bf19b38005aa46bce1b7", func := "kinkeep/kinkeeplaw12.OnetimeSignatures", spec := "onetimeSignatures", inPlace := ["internal/abi.NoEscape", "internal/bytealg.MakeNoZero"], unfollowed := true, recurses := true, named := ["kinkeep/sha256.initial", "kinkeep/sha256.constants", "kinkeep/hmac.pads"], apart := false, laid := [("kinkeep/sha256.initial", laid_kinkeep_sha256_initial), ("kinkeep/sha256.constants", laid_kinkeep_sha256_constants), ("kinkeep/hmac.pads", laid_kinkeep_hmac_pads)], narrowed := true }
def OnetimeSignaturesUptoSaid : Prop := onetimeSignaturesUptoRow.holds Tryd.pinned (OpenSpec.upto onetimeSignaturesSpec)

/-- 'kinkeeplaw12.OnetimeRecovers', WHERE WHAT IT READS IS OF BULK AT MOST 1048576: true; the input reads as it did. -/
def onetimeRecoversUptoRow : OpenClaim := { program := "ytmnendoloankgaadoor", sum := "429aa14555ad4cdce44b728fd052a2895575a12009b0bf19b38005aa46bce1b7", func := "kinkeep/kinkeeplaw12.OnetimeRecovers", spec := "onetimeRecovers", inPlace := ["internal/abi.NoEscape", "internal/bytealg.MakeNoZero"], unfollowed := true, recurses := true, named := ["kinkeep/sha256.initial", "kinkeep/sha256.constants", "kinkeep/hmac.pads"], apart := false, laid := [("kinkeep/sha256.initial", laid_kinkeep_sha256_initial), ("kinkeep/sha256.constants", laid_kinkeep_sha256_constants), ("kinkeep/hmac.pads", laid_kinkeep_hmac_pads)], narrowed := true }
def OnetimeRecoversUptoSaid : Prop := onetimeRecoversUptoRow.holds Tryd.pinned (OpenSpec.upto onetimeRecoversSpec)

/-- 'kinkeeplaw12.OnetimeVerifies', WHERE WHAT IT READS IS OF BULK AT MOST 1048576: true; the input reads as it did. -/
def onetimeVerifiesUptoRow : OpenClaim := { program := "ytmnendoloankgaadoor", sum := "429aa14555ad4cdce44b728fd052a2895575a12009b0bf19b38005aa46bce1b7", func := "kinkeep/kinkeeplaw12.OnetimeVerifies", spec := "onetimeVerifies", inPlace := ["internal/abi.NoEscape", "internal/bytealg.MakeNoZero"], unfollowed := true, recurses := true, named := ["kinkeep/sha256.initial", "kinkeep/sha256.constants", "kinkeep/hmac.pads"], apart := false, laid := [("kinkeep/sha256.initial", laid_kinkeep_sha256_initial), ("kinkeep/sha256.constants", laid_kinkeep_sha256_constants), ("kinkeep/hmac.pads", laid_kinkeep_hmac_pads)], narrowed := true }
def OnetimeVerifiesUptoSaid : Prop := onetimeVerifiesUptoRow.holds Tryd.pinned (OpenSpec.upto onetimeVerifiesSpec)

/-- 'kinkeeplaw12.OnetimeCovered', WHERE WHAT IT READS IS OF BULK AT MOST 1048576: true; the input reads as it did. -/
def onetimeCoveredUptoRow : OpenClaim := { program := "ytmnendoloankgaadoor", sum := "429aa14555ad4cdce44b728fd052a2895575a12009b0bf19b38005aa46bce1b7", func := "kinkeep/kinkeeplaw12.OnetimeCovered", spec := "onetimeCovered", inPlace := ["internal/abi.NoEscape", "internal/bytealg.MakeNoZero"], unfollowed := true, recurses := true, named := ["kinkeep/sha256.initial", "kinkeep/sha256.constants", "kinkeep/hmac.pads"], apart := false, laid := [("kinkeep/sha256.initial", laid_kinkeep_sha256_initial), ("kinkeep/sha256.constants", laid_kinkeep_sha256_constants), ("kinkeep/hmac.pads", laid_kinkeep_hmac_pads)], narrowed := true }
def OnetimeCoveredUptoSaid : Prop := onetimeCoveredUptoRow.holds Tryd.pinned (OpenSpec.upto onetimeCoveredSpec)

/-- 'kinkeeplaw12.OnetimeComposes', WHERE WHAT IT READS IS OF BULK AT MOST 1048576: true; the input reads as it did. -/
def onetimeComposesUptoRow : OpenClaim := { program := "ytmnendoloankgaadoor", sum := "429aa14555ad4cdce44b728fd052a2895575a12009b0bf19b38005aa46bce1b7", func := "kinkeep/kinkeeplaw12.OnetimeComposes", spec := "onetimeComposes", inPlace := ["internal/abi.NoEscape", "internal/bytealg.MakeNoZero"], unfollowed := true, recurses := true, named := ["kinkeep/sha256.initial", "kinkeep/sha256.constants", "kinkeep/hmac.pads"], apart := false, laid := [("kinkeep/sha256.initial", laid_kinkeep_sha256_initial), ("kinkeep/sha256.constants", laid_kinkeep_sha256_constants), ("kinkeep/hmac.pads", laid_kinkeep_hmac_pads)], narrowed := true }
def OnetimeComposesUptoSaid : Prop := onetimeComposesUptoRow.holds Tryd.pinned (OpenSpec.upto onetimeComposesSpec)

/-- 'kinkeeplaw12.OnetimeOnly', WHERE WHAT IT READS IS OF BULK AT MOST 1048576: true; the input reads as it did. -/
def onetimeOnlyUptoRow : OpenClaim := { program := "ytmnendoloankgaadoor", sum := "429aa14555ad4cdce44b728fd052a2895575a12009b0bf19b38005aa46bce1b7", func := "kinkeep/kinkeeplaw12.OnetimeOnly", spec := "onetimeOnly", inPlace := ["internal/abi.NoEscape", "internal/bytealg.MakeNoZero"], unfollowed := true, recurses := true, named := ["kinkeep/sha256.initial", "kinkeep/sha256.constants", "kinkeep/hmac.pads"], apart := false, laid := [("kinkeep/sha256.initial", laid_kinkeep_sha256_initial), ("kinkeep/sha256.constants", laid_kinkeep_sha256_constants), ("kinkeep/hmac.pads", laid_kinkeep_hmac_pads)], narrowed := true }
def OnetimeOnlyUptoSaid : Prop := onetimeOnlyUptoRow.holds Tryd.pinned (OpenSpec.upto onetimeOnlySpec)

/-- 'kinkeeplaw12.OnetimeBinds', WHERE WHAT IT READS IS OF BULK AT MOST 1048576: true; the input reads as it did. -/
def onetimeBindsUptoRow : OpenClaim := { program := "ytmnendoloankgaadoor", sum := "429aa14555ad4cdce44b728fd052a2895575a12009b0bf19b38005aa46bce1b7", func := "kinkeep/kinkeeplaw12.OnetimeBinds", spec := "onetimeBinds", inPlace := ["internal/abi.NoEscape", "internal/bytealg.MakeNoZero"], unfollowed := true, recurses := true, named := ["kinkeep/sha256.initial", "kinkeep/sha256.constants", "kinkeep/hmac.pads"], apart := false, laid := [("kinkeep/sha256.initial", laid_kinkeep_sha256_initial), ("kinkeep/sha256.constants", laid_kinkeep_sha256_constants), ("kinkeep/hmac.pads", laid_kinkeep_hmac_pads)], narrowed := true }
def OnetimeBindsUptoSaid : Prop := onetimeBindsUptoRow.holds Tryd.pinned (OpenSpec.upto onetimeBindsSpec)

/-- 'kinkeeplaw13.SignatureScheme', WHERE WHAT IT READS IS OF BULK AT MOST 1048576: true; the input reads as it did. -/
def signatureSchemeUptoRow : OpenClaim := { program := "ytmnendoloankgaadoor", sum := "429aa14555ad4cdce44b728fd052a2895575a12009b0bf19b38005aa46bce1b7", func := "kinkeep/kinkeeplaw13.SignatureScheme", spec := "signatureScheme", inPlace := ["internal/abi.NoEscape", "internal/bytealg.MakeNoZero"], unfollowed := true, recurses := true, named := ["kinkeep/hmac.pads", "kinkeep/sha256.initial", "kinkeep/sha256.constants"], apart := false, laid := [("kinkeep/sha256.initial", laid_kinkeep_sha256_initial), ("kinkeep/sha256.constants", laid_kinkeep_sha256_constants), ("kinkeep/hmac.pads", laid_kinkeep_hmac_pads)], narrowed := true }
def SignatureSchemeUptoSaid : Prop := signatureSchemeUptoRow.holds Tryd.pinned (OpenSpec.upto signatureSchemeSpec)

/-- 'kinkeeplaw13.SignatureSeed', WHERE WHAT IT READS IS OF BULK AT MOST 1048576: true; the input reads as it did. -/
def signatureSeedUptoRow : OpenClaim := { program := "ytmnendoloankgaadoor", sum := "429aa14555ad4cdce44b728fd052a2895575a12009b0bf19b38005aa46bce1b7", func := "kinkeep/kinkeeplaw13.SignatureSeed", spec := "signatureSeed", inPlace := ["internal/abi.NoEscape", "internal/bytealg.MakeNoZero"], unfollowed := true, recurses := true, named := ["kinkeep/hmac.pads", "kinkeep/sha256.initial", "kinkeep/sha256.constants"], apart := false, laid := [("kinkeep/sha256.initial", laid_kinkeep_sha256_initial), ("kinkeep/sha256.constants", laid_kinkeep_sha256_constants), ("kinkeep/hmac.pads", laid_kinkeep_hmac_pads)], narrowed := true }
def SignatureSeedUptoSaid : Prop := signatureSeedUptoRow.holds Tryd.pinned (OpenSpec.upto signatureSeedSpec)

/-- 'kinkeeplaw13.SignatureVerifies', WHERE WHAT IT READS IS OF BULK AT MOST 1048576: true; the input reads as it did. -/
def signatureVerifiesUptoRow : OpenClaim := { program := "ytmnendoloankgaadoor", sum := "429aa14555ad4cdce44b728fd052a2895575a12009b0bf19b38005aa46bce1b7", func := "kinkeep/kinkeeplaw13.SignatureVerifies", spec := "signatureVerifies", inPlace := ["internal/abi.NoEscape", "internal/bytealg.MakeNoZero"], unfollowed := true, recurses := true, named := ["kinkeep/hmac.pads", "kinkeep/sha256.initial", "kinkeep/sha256.constants"], apart := false, laid := [("kinkeep/sha256.initial", laid_kinkeep_sha256_initial), ("kinkeep/sha256.constants", laid_kinkeep_sha256_constants), ("kinkeep/hmac.pads", laid_kinkeep_hmac_pads)], narrowed := true }
def SignatureVerifiesUptoSaid : Prop := signatureVerifiesUptoRow.holds Tryd.pinned (OpenSpec.upto signatureVerifiesSpec)

/-- 'kinkeeplaw13.SignatureVerify', WHERE WHAT IT READS IS OF BULK AT MOST 1048576: true; the input reads as it did. -/
def signatureVerifyUptoRow : OpenClaim := { program := "ytmnendoloankgaadoor", sum := "429aa14555ad4cdce44b728fd052a2895575a12009b0bf19b38005aa46bce1b7", func := "kinkeep/kinkeeplaw13.SignatureVerify", spec := "signatureVerify", inPlace := ["internal/abi.NoEscape", "internal/bytealg.MakeNoZero"], unfollowed := true, recurses := true, named := ["kinkeep/hmac.pads", "kinkeep/sha256.initial", "kinkeep/sha256.constants"], apart := false, laid := [("kinkeep/sha256.initial", laid_kinkeep_sha256_initial), ("kinkeep/sha256.constants", laid_kinkeep_sha256_constants), ("kinkeep/hmac.pads", laid_kinkeep_hmac_pads)], narrowed := true }
def SignatureVerifyUptoSaid : Prop := signatureVerifyUptoRow.holds Tryd.pinned (OpenSpec.upto signatureVerifySpec)

/-- 'kinkeeplaw13.SignatureNew', WHERE WHAT IT READS IS OF BULK AT MOST 1048576: true; the input reads as it did. -/
def signatureNewUptoRow : OpenClaim := { program := "ytmnendoloankgaadoor", sum := "429aa14555ad4cdce44b728fd052a2895575a12009b0bf19b38005aa46bce1b7", func := "kinkeep/kinkeeplaw13.SignatureNew", spec := "signatureNew", inPlace := ["internal/abi.NoEscape", "internal/bytealg.MakeNoZero"], unfollowed := true, recurses := true, named := ["kinkeep/hmac.pads", "kinkeep/sha256.initial", "kinkeep/sha256.constants"], apart := false, laid := [("kinkeep/sha256.initial", laid_kinkeep_sha256_initial), ("kinkeep/sha256.constants", laid_kinkeep_sha256_constants), ("kinkeep/hmac.pads", laid_kinkeep_hmac_pads)], narrowed := true }
def SignatureNewUptoSaid : Prop := signatureNewUptoRow.holds Tryd.pinned (OpenSpec.upto signatureNewSpec)

/-- 'kinkeeplaw13.SignatureResumes', WHERE WHAT IT READS IS OF BULK AT MOST 1048576: true; the input reads as it did. -/
def signatureResumesUptoRow : OpenClaim := { program := "ytmnendoloankgaadoor", sum := "429aa14555ad4cdce44b728fd052a2895575a12009b0bf19b38005aa46bce1b7", func := "kinkeep/kinkeeplaw13.SignatureResumes", spec := "signatureResumes", inPlace := ["internal/abi.NoEscape", "internal/bytealg.MakeNoZero"], unfollowed := true, recurses := true, named := ["kinkeep/hmac.pads", "kinkeep/sha256.initial", "kinkeep/sha256.constants"], apart := false, laid := [("kinkeep/sha256.initial", laid_kinkeep_sha256_initial), ("kinkeep/sha256.constants", laid_kinkeep_sha256_constants), ("kinkeep/hmac.pads", laid_kinkeep_hmac_pads)], narrowed := true }
def SignatureResumesUptoSaid : Prop := signatureResumesUptoRow.holds Tryd.pinned (OpenSpec.upto signatureResumesSpec)

end Rows
end Go.Proofs.YtmnendoloankgaaDoor
