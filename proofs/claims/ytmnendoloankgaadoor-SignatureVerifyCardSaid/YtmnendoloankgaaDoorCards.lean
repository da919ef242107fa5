/-
  DERIVED. GIVEN WITH THE SEED: THE CARDS: each row of YtmnendoloankgaaDoorRows.lean that lists a variable, with what it lists TIED to the program's text (the seventh form; the later family's looks); each row that meets fmt, with fmt's text TOLD by the authors' own Lean function (tested against real Go, not proved from fmt's source: count such statements apart). THE CARD IS WHAT COUNTS. Prove the row's statement (the work); the ties are given (YtmnendoloankgaaDoorTie.lean); close each card by the builder's one call (the guide's Derived/Test/ToyasCard.lean, 'card_holds'). Laid BY PROGRAM, IN A SANDBOX (cutbox-door.mjs). By AI agents, Wed Nov 11 2026. No macro, syntax, notation, axiom, sorry.
-/
import Derived.Test.YtmnendoloankgaaDoorRows
import GoSem.ClaimSeven
namespace Go.Proofs.YtmnendoloankgaaDoor
namespace Rows

/-- THE TIED CARD OF 'kinkeeplaw12.OnetimeDigits'. -/
def onetimeDigitsCard : Claim7 := { stood := { row := onetimeDigitsRow, standIns := [], harness := (true, "1217505358b7ef9b16fe66511f782498727dadd1d7c1d26a2e519f4e9d78b429"), looks := false }, kinds := [], alts := [], laidByText := true, laidKinds := [.data, .data, .data], laidTests := true, laidLooks := .later }
def OnetimeDigitsCardSaid : Prop := Claim7.holds Tryd.pinned (.plain (OpenSpec.ofChange onetimeDigitsSpec)) onetimeDigitsCard

/-- THE TIED CARD OF 'kinkeeplaw12.OnetimeChains'. -/
def onetimeChainsCard : Claim7 := { stood := { row := onetimeChainsRow, standIns := [], harness := (true, "1217505358b7ef9b16fe66511f782498727dadd1d7c1d26a2e519f4e9d78b429"), looks := false }, kinds := [], alts := [], laidByText := true, laidKinds := [.data, .data, .data], laidTests := true, laidLooks := .later }
def OnetimeChainsCardSaid : Prop := Claim7.holds Tryd.pinned (.plain (OpenSpec.ofChange onetimeChainsSpec)) onetimeChainsCard

/-- THE TIED CARD OF 'kinkeeplaw12.OnetimeSignatures'. -/
def onetimeSignaturesCard : Claim7 := { stood := { row := onetimeSignaturesRow, standIns := [], harness := (true, "1217505358b7ef9b16fe66511f782498727dadd1d7c1d26a2e519f4e9d78b429"), looks := false }, kinds := [], alts := [], laidByText := true, laidKinds := [.data, .data, .data], laidTests := true, laidLooks := .later }
def OnetimeSignaturesCardSaid : Prop := Claim7.holds Tryd.pinned (.plain (OpenSpec.ofChange onetimeSignaturesSpec)) onetimeSignaturesCard

/-- THE TIED CARD OF 'kinkeeplaw12.OnetimeRecovers'. -/
def onetimeRecoversCard : Claim7 := { stood := { row := onetimeRecoversRow, standIns := [], harness := (true, "1217505358b7ef9b16fe66511f782498727dadd1d7c1d26a2e519f4e9d78b429"), looks := false }, kinds := [], alts := [], laidByText := true, laidKinds := [.data, .data, .data], laidTests := true, laidLooks := .later }
def OnetimeRecoversCardSaid : Prop := Claim7.holds Tryd.pinned (.plain (OpenSpec.ofChange onetimeRecoversSpec)) onetimeRecoversCard

/-- THE TIED CARD OF 'kinkeeplaw12.OnetimeVerifies'. -/
def onetimeVerifiesCard : Claim7 := { stood := { row := onetimeVerifiesRow, standIns := [], harness := (true, "1217505358b7ef9b16fe66511f782498727dadd1d7c1d26a2e519f4e9d78b429"), looks := false }, kinds := [], alts := [], laidByText := true, laidKinds := [.data, .data, .data], laidTests := true, laidLooks := .later }
def OnetimeVerifiesCardSaid : Prop := Claim7.holds Tryd.pinned (.plain (OpenSpec.ofChange onetimeVerifiesSpec)) onetimeVerifiesCard

/-- THE TIED CARD OF 'kinkeeplaw12.OnetimeCovered'. -/
def onetimeCoveredCard : Claim7 := { stood := { row := onetimeCoveredRow, standIns := [], harness := (true, "1217505358b7ef9b16fe66511f782498727dadd1d7c1d26a2e519f4e9d78b429"), looks := false }, kinds := [], alts := [], laidByText := true, laidKinds := [.data, .data, .data], laidTests := true, laidLooks := .later }
def OnetimeCoveredCardSaid : Prop := Claim7.holds Tryd.pinned (.plain (OpenSpec.ofChange onetimeCoveredSpec)) onetimeCoveredCard

/-- THE TIED CARD OF 'kinkeeplaw12.OnetimeComposes'. -/
def onetimeComposesCard : Claim7 := { stood := { row := onetimeComposesRow, standIns := [], harness := (true, "1217505358b7ef9b16fe66511f782498727dadd1d7c1d26a2e519f4e9d78b429"), looks := false }, kinds := [], alts := [], laidByText := true, laidKinds := [.data, .data, .data], laidTests := true, laidLooks := .later }
def OnetimeComposesCardSaid : Prop := Claim7.holds Tryd.pinned (.plain (OpenSpec.ofChange onetimeComposesSpec)) onetimeComposesCard

/-- THE TIED CARD OF 'kinkeeplaw12.OnetimeOnly'. -/
def onetimeOnlyCard : Claim7 := { stood := { row := onetimeOnlyRow, standIns := [], harness := (true, "1217505358b7ef9b16fe66511f782498727dadd1d7c1d26a2e519f4e9d78b429"), looks := false }, kinds := [], alts := [], laidByText := true, laidKinds := [.data, .data, .data], laidTests := true, laidLooks := .later }
def OnetimeOnlyCardSaid : Prop := Claim7.holds Tryd.pinned (.plain (OpenSpec.ofChange onetimeOnlySpec)) onetimeOnlyCard

/-- THE TIED CARD OF 'kinkeeplaw12.OnetimeBinds'. -/
def onetimeBindsCard : Claim7 := { stood := { row := onetimeBindsRow, standIns := [], harness := (true, "1217505358b7ef9b16fe66511f782498727dadd1d7c1d26a2e519f4e9d78b429"), looks := false }, kinds := [], alts := [], laidByText := true, laidKinds := [.data, .data, .data], laidTests := true, laidLooks := .later }
def OnetimeBindsCardSaid : Prop := Claim7.holds Tryd.pinned (.plain (OpenSpec.ofChange onetimeBindsSpec)) onetimeBindsCard

/-- THE TIED CARD OF 'kinkeeplaw13.SignatureScheme'. -/
def signatureSchemeCard : Claim7 := { stood := { row := signatureSchemeRow, standIns := [], harness := (true, "1217505358b7ef9b16fe66511f782498727dadd1d7c1d26a2e519f4e9d78b429"), looks := false }, kinds := [], alts := [], laidByText := true, laidKinds := [.data, .data, .data], laidTests := true, laidLooks := .later }
def SignatureSchemeCardSaid : Prop := Claim7.holds Tryd.pinned (.plain (OpenSpec.ofChange signatureSchemeSpec)) signatureSchemeCard

/-- THE TIED CARD OF 'kinkeeplaw13.SignatureSeed'. -/
def signatureSeedCard : Claim7 := { stood := { row := signatureSeedRow, standIns := [], harness := (true, "1217505358b7ef9b16fe66511f782498727dadd1d7c1d26a2e519f4e9d78b429"), looks := false }, kinds := [], alts := [], laidByText := true, laidKinds := [.data, .data, .data], laidTests := true, laidLooks := .later }
def SignatureSeedCardSaid : Prop := Claim7.holds Tryd.pinned (.plain (OpenSpec.ofChange signatureSeedSpec)) signatureSeedCard

/-- THE TIED CARD OF 'kinkeeplaw13.SignatureVerifies'. -/
def signatureVerifiesCard : Claim7 := { stood := { row := signatureVerifiesRow, standIns := [], harness := (true, "1217505358b7ef9b16fe66511f782498727dadd1d7c1d26a2e519f4e9d78b429"), looks := false }, kinds := [], alts := [], laidByText := true, laidKinds := [.data, .data, .data], laidTests := true, laidLooks := .later }
def SignatureVerifiesCardSaid : Prop := Claim7.holds Tryd.pinned (.plain (OpenSpec.ofChange signatureVerifiesSpec)) signatureVerifiesCard

/-- THE TIED CARD OF 'kinkeeplaw13.SignatureVerify'. -/
def signatureVerifyCard : Claim7 := { stood := { row := signatureVerifyRow, standIns := [], harness := (true, "1217505358b7ef9b16fe66511f782498727dadd1d7c1d26a2e519f4e9d78b429"), looks := false }, kinds := [], alts := [], laidByText := true, laidKinds := [.data, .data, .data], laidTests := true, laidLooks := .later }
def SignatureVerifyCardSaid : Prop := Claim7.holds Tryd.pinned (.plain (OpenSpec.ofChange signatureVerifySpec)) signatureVerifyCard

/-- THE TIED CARD OF 'kinkeeplaw13.SignatureNew'. -/
def signatureNewCard : Claim7 := { stood := { row := signatureNewRow, standIns := [], harness := (true, "1217505358b7ef9b16fe66511f782498727dadd1d7c1d26a2e519f4e9d78b429"), looks := false }, kinds := [], alts := [], laidByText := true, laidKinds := [.data, .data, .data], laidTests := true, laidLooks := .later }
def SignatureNewCardSaid : Prop := Claim7.holds Tryd.pinned (.plain (OpenSpec.ofChange signatureNewSpec)) signatureNewCard

/-- THE TIED CARD OF 'kinkeeplaw13.SignatureResumes'. -/
def signatureResumesCard : Claim7 := { stood := { row := signatureResumesRow, standIns := [], harness := (true, "1217505358b7ef9b16fe66511f782498727dadd1d7c1d26a2e519f4e9d78b429"), looks := false }, kinds := [], alts := [], laidByText := true, laidKinds := [.data, .data, .data], laidTests := true, laidLooks := .later }
def SignatureResumesCardSaid : Prop := Claim7.holds Tryd.pinned (.plain (OpenSpec.ofChange signatureResumesSpec)) signatureResumesCard

/-- THE SECOND FORM's CARD OF 'kinkeeplaw12.OnetimeDigits'. -/
def onetimeDigitsUptoCard : Claim7 := { stood := { row := onetimeDigitsUptoRow, standIns := [], harness := (true, "1217505358b7ef9b16fe66511f782498727dadd1d7c1d26a2e519f4e9d78b429"), looks := false }, kinds := [], alts := [], laidByText := true, laidKinds := [.data, .data, .data], laidTests := true, laidLooks := .later }
def OnetimeDigitsUptoCardSaid : Prop := Claim7.holds Tryd.pinned (.plain (OpenSpec.upto onetimeDigitsSpec)) onetimeDigitsUptoCard

/-- THE SECOND FORM's CARD OF 'kinkeeplaw12.OnetimeChains'. -/
def onetimeChainsUptoCard : Claim7 := { stood := { row := onetimeChainsUptoRow, standIns := [], harness := (true, "1217505358b7ef9b16fe66511f782498727dadd1d7c1d26a2e519f4e9d78b429"), looks := false }, kinds := [], alts := [], laidByText := true, laidKinds := [.data, .data, .data], laidTests := true, laidLooks := .later }
def OnetimeChainsUptoCardSaid : Prop := Claim7.holds Tryd.pinned (.plain (OpenSpec.upto onetimeChainsSpec)) onetimeChainsUptoCard

/-- THE SECOND FORM's CARD OF 'kinkeeplaw12.OnetimeSignatures'. -/
def onetimeSignaturesUptoCard : Claim7 := { stood := { row := onetimeSignaturesUptoRow, standIns := [], harness := (true, "1217505358b7ef9b16fe66511f782498727dadd1d7c1d26a2e519f4e9d78b429"), looks := false }, kinds := [], alts := [], laidByText := true, laidKinds := [.data, .data, .data], laidTests := true, laidLooks := .later }
def OnetimeSignaturesUptoCardSaid : Prop := Claim7.holds Tryd.pinned (.plain (OpenSpec.upto onetimeSignaturesSpec)) onetimeSignaturesUptoCard

/-- THE SECOND FORM's CARD OF 'kinkeeplaw12.OnetimeRecovers'. -/
def onetimeRecoversUptoCard : Claim7 := { stood := { row := onetimeRecoversUptoRow, standIns := [], harness := (true, "1217505358b7ef9b16fe66511f782498727dadd1d7c1d26a2e519f4e9d78b429"), looks := false }, kinds := [], alts := [], laidByText := true, laidKinds := [.data, .data, .data], laidTests := true, laidLooks := .later }
def OnetimeRecoversUptoCardSaid : Prop := Claim7.holds Tryd.pinned (.plain (OpenSpec.upto onetimeRecoversSpec)) onetimeRecoversUptoCard

/-- THE SECOND FORM's CARD OF 'kinkeeplaw12.OnetimeVerifies'. -/
def onetimeVerifiesUptoCard : Claim7 := { stood := { row := onetimeVerifiesUptoRow, standIns := [], harness := (true, "1217505358b7ef9b16fe66511f782498727dadd1d7c1d26a2e519f4e9d78b429"), looks := false }, kinds := [], alts := [], laidByText := true, laidKinds := [.data, .data, .data], laidTests := true, laidLooks := .later }
def OnetimeVerifiesUptoCardSaid : Prop := Claim7.holds Tryd.pinned (.plain (OpenSpec.upto onetimeVerifiesSpec)) onetimeVerifiesUptoCard

/-- THE SECOND FORM's CARD OF 'kinkeeplaw12.OnetimeCovered'. -/
def onetimeCoveredUptoCard : Claim7 := { stood := { row := onetimeCoveredUptoRow, standIns := [], harness := (true, "1217505358b7ef9b16fe66511f782498727dadd1d7c1d26a2e519f4e9d78b429"), looks := false }, kinds := [], alts := [], laidByText := true, laidKinds := [.data, .data, .data], laidTests := true, laidLooks := .later }
def OnetimeCoveredUptoCardSaid : Prop := Claim7.holds Tryd.pinned (.plain (OpenSpec.upto onetimeCoveredSpec)) onetimeCoveredUptoCard

/-- THE SECOND FORM's CARD OF 'kinkeeplaw12.OnetimeComposes'. -/
def onetimeComposesUptoCard : Claim7 := { stood := { row := onetimeComposesUptoRow, standIns := [], harness := (true, "1217505358b7ef9b16fe66511f782498727dadd1d7c1d26a2e519f4e9d78b429"), looks := false }, kinds := [], alts := [], laidByText := true, laidKinds := [.data, .data, .data], laidTests := true, laidLooks := .later }
def OnetimeComposesUptoCardSaid : Prop := Claim7.holds Tryd.pinned (.plain (OpenSpec.upto onetimeComposesSpec)) onetimeComposesUptoCard

/-- THE SECOND FORM's CARD OF 'kinkeeplaw12.OnetimeOnly'. -/
def onetimeOnlyUptoCard : Claim7 := { stood := { row := onetimeOnlyUptoRow, standIns := [], harness := (true, "1217505358b7ef9b16fe66511f782498727dadd1d7c1d26a2e519f4e9d78b429"), looks := false }, kinds := [], alts := [], laidByText := true, laidKinds := [.data, .data, .data], laidTests := true, laidLooks := .later }
def OnetimeOnlyUptoCardSaid : Prop := Claim7.holds Tryd.pinned (.plain (OpenSpec.upto onetimeOnlySpec)) onetimeOnlyUptoCard

/-- THE SECOND FORM's CARD OF 'kinkeeplaw12.OnetimeBinds'. -/
def onetimeBindsUptoCard : Claim7 := { stood := { row := onetimeBindsUptoRow, standIns := [], harness := (true, "1217505358b7ef9b16fe66511f782498727dadd1d7c1d26a2e519f4e9d78b429"), looks := false }, kinds := [], alts := [], laidByText := true, laidKinds := [.data, .data, .data], laidTests := true, laidLooks := .later }
def OnetimeBindsUptoCardSaid : Prop := Claim7.holds Tryd.pinned (.plain (OpenSpec.upto onetimeBindsSpec)) onetimeBindsUptoCard

/-- THE SECOND FORM's CARD OF 'kinkeeplaw13.SignatureScheme'. -/
def signatureSchemeUptoCard : Claim7 := { stood := { row := signatureSchemeUptoRow, standIns := [], harness := (true, "1217505358b7ef9b16fe66511f782498727dadd1d7c1d26a2e519f4e9d78b429"), looks := false }, kinds := [], alts := [], laidByText := true, laidKinds := [.data, .data, .data], laidTests := true, laidLooks := .later }
def SignatureSchemeUptoCardSaid : Prop := Claim7.holds Tryd.pinned (.plain (OpenSpec.upto signatureSchemeSpec)) signatureSchemeUptoCard

/-- THE SECOND FORM's CARD OF 'kinkeeplaw13.SignatureSeed'. -/
def signatureSeedUptoCard : Claim7 := { stood := { row := signatureSeedUptoRow, standIns := [], harness := (true, "1217505358b7ef9b16fe66511f782498727dadd1d7c1d26a2e519f4e9d78b429"), looks := false }, kinds := [], alts := [], laidByText := true, laidKinds := [.data, .data, .data], laidTests := true, laidLooks := .later }
def SignatureSeedUptoCardSaid : Prop := Claim7.holds Tryd.pinned (.plain (OpenSpec.upto signatureSeedSpec)) signatureSeedUptoCard

/-- THE SECOND FORM's CARD OF 'kinkeeplaw13.SignatureVerifies'. -/
def signatureVerifiesUptoCard : Claim7 := { stood := { row := signatureVerifiesUptoRow, standIns := [], harness := (true, "1217505358b7ef9b16fe66511f782498727dadd1d7c1d26a2e519f4e9d78b429"), looks := false }, kinds := [], alts := [], laidByText := true, laidKinds := [.data, .data, .data], laidTests := true, laidLooks := .later }
def SignatureVerifiesUptoCardSaid : Prop := Claim7.holds Tryd.pinned (.plain (OpenSpec.upto signatureVerifiesSpec)) signatureVerifiesUptoCard

/-- THE SECOND FORM's CARD OF 'kinkeeplaw13.SignatureVerify'. -/
def signatureVerifyUptoCard : Claim7 := { stood := { row := signatureVerifyUptoRow, standIns := [], harness := (true, "1217505358b7ef9b16fe66511f782498727dadd1d7c1d26a2e519f4e9d78b429"), looks := false }, kinds := [], alts := [], laidByText := true, laidKinds := [.data, .data, .data], laidTests := true, laidLooks := .later }
def SignatureVerifyUptoCardSaid : Prop := Claim7.holds Tryd.pinned (.plain (OpenSpec.upto signatureVerifySpec)) signatureVerifyUptoCard

/-- THE SECOND FORM's CARD OF 'kinkeeplaw13.SignatureNew'. -/
def signatureNewUptoCard : Claim7 := { stood := { row := signatureNewUptoRow, standIns := [], harness := (true, "1217505358b7ef9b16fe66511f782498727dadd1d7c1d26a2e519f4e9d78b429"), looks := false }, kinds := [], alts := [], laidByText := true, laidKinds := [.data, .data, .data], laidTests := true, laidLooks := .later }
def SignatureNewUptoCardSaid : Prop := Claim7.holds Tryd.pinned (.plain (OpenSpec.upto signatureNewSpec)) signatureNewUptoCard

/-- THE SECOND FORM's CARD OF 'kinkeeplaw13.SignatureResumes'. -/
def signatureResumesUptoCard : Claim7 := { stood := { row := signatureResumesUptoRow, standIns := [], harness := (true, "1217505358b7ef9b16fe66511f782498727dadd1d7c1d26a2e519f4e9d78b429"), looks := false }, kinds := [], alts := [], laidByText := true, laidKinds := [.data, .data, .data], laidTests := true, laidLooks := .later }
def SignatureResumesUptoCardSaid : Prop := Claim7.holds Tryd.pinned (.plain (OpenSpec.upto signatureResumesSpec)) signatureResumesUptoCard
end Rows
end Go.Proofs.YtmnendoloankgaaDoor
