/-
  DERIVED. GIVEN WITH THE SEED: THE CARDS: each row of YthmfkdlncnjjoaaDoorRows.lean that lists a variable, with what it lists TIED to the program's text (the seventh form; the later family's looks); each row that meets fmt, with fmt's text TOLD by the authors' own Lean function (tested against real Go, not proved from fmt's source: count such statements apart). THE CARD IS WHAT COUNTS. Prove the row's statement (the work); the ties are given (YthmfkdlncnjjoaaDoorTie.lean); close each card by the builder's one call (the guide's Derived/Test/ToyasCard.lean, 'card_holds'). Laid BY PROGRAM, IN A SANDBOX (cutbox-door.mjs). By AI agents, Wed Nov 11 2026. No macro, syntax, notation, axiom, sorry.
-/
import Derived.Test.YthmfkdlncnjjoaaDoorRows
import GoSem.ClaimSeven
namespace Go.Proofs.YthmfkdlncnjjoaaDoor
namespace Rows

/-- THE TIED CARD OF 'laws.FnExactInstrEncode'. -/
def fnExactInstrEncodeCard : Claim7 := { stood := { row := fnExactInstrEncodeRow, standIns := [], harness := (true, "846287b248739c73c3266221fd3ec5f5c500b1737d41afc80cff272c37bf298f"), looks := false }, kinds := [], alts := [], laidByText := true, laidKinds := [.wider], laidTests := true, laidLooks := .later }
def FnExactInstrEncodeCardSaid : Prop := Claim7.holds Tryd.pinned (.plain (OpenSpec.ofChange fnExactInstrEncodeSpec)) fnExactInstrEncodeCard

/-- THE TIED CARD OF 'laws.FnEncodeFields'. -/
def fnEncodeFieldsCard : Claim7 := { stood := { row := fnEncodeFieldsRow, standIns := [], harness := (true, "846287b248739c73c3266221fd3ec5f5c500b1737d41afc80cff272c37bf298f"), looks := false }, kinds := [], alts := [], laidByText := true, laidKinds := [.wider], laidTests := true, laidLooks := .later }
def FnEncodeFieldsCardSaid : Prop := Claim7.holds Tryd.pinned (.plain (OpenSpec.ofChange fnEncodeFieldsSpec)) fnEncodeFieldsCard

/-- THE TIED CARD OF 'laws.FnEncodeLow'. -/
def fnEncodeLowCard : Claim7 := { stood := { row := fnEncodeLowRow, standIns := [], harness := (true, "846287b248739c73c3266221fd3ec5f5c500b1737d41afc80cff272c37bf298f"), looks := false }, kinds := [], alts := [], laidByText := true, laidKinds := [.wider], laidTests := true, laidLooks := .later }
def FnEncodeLowCardSaid : Prop := Claim7.holds Tryd.pinned (.plain (OpenSpec.ofChange fnEncodeLowSpec)) fnEncodeLowCard

/-- THE TIED CARD OF 'laws.FnEncodeSign'. -/
def fnEncodeSignCard : Claim7 := { stood := { row := fnEncodeSignRow, standIns := [], harness := (true, "846287b248739c73c3266221fd3ec5f5c500b1737d41afc80cff272c37bf298f"), looks := false }, kinds := [], alts := [], laidByText := true, laidKinds := [.wider], laidTests := true, laidLooks := .later }
def FnEncodeSignCardSaid : Prop := Claim7.holds Tryd.pinned (.plain (OpenSpec.ofChange fnEncodeSignSpec)) fnEncodeSignCard

/-- THE TIED CARD OF 'laws.FnExactInstrDecode'. -/
def fnExactInstrDecodeCard : Claim7 := { stood := { row := fnExactInstrDecodeRow, standIns := [], harness := (true, "846287b248739c73c3266221fd3ec5f5c500b1737d41afc80cff272c37bf298f"), looks := false }, kinds := [], alts := [], laidByText := true, laidKinds := [.wider], laidTests := true, laidLooks := .later }
def FnExactInstrDecodeCardSaid : Prop := Claim7.holds Tryd.pinned (.plain (OpenSpec.ofChange fnExactInstrDecodeSpec)) fnExactInstrDecodeCard

/-- THE TIED CARD OF 'laws.FnEncode'. -/
def fnEncodeCard : Claim7 := { stood := { row := fnEncodeRow, standIns := [], harness := (true, "846287b248739c73c3266221fd3ec5f5c500b1737d41afc80cff272c37bf298f"), looks := false }, kinds := [], alts := [], laidByText := true, laidKinds := [.wider], laidTests := true, laidLooks := .later }
def FnEncodeCardSaid : Prop := Claim7.holds Tryd.pinned (.plain (OpenSpec.ofChange fnEncodeSpec)) fnEncodeCard

/-- THE TIED CARD OF 'laws.FnExactInstrText'. -/
def fnExactInstrTextCard : Claim7 := { stood := { row := fnExactInstrTextRow, standIns := [], harness := (true, "846287b248739c73c3266221fd3ec5f5c500b1737d41afc80cff272c37bf298f"), looks := false }, kinds := [], alts := [], laidByText := true, laidKinds := [.data, .data, .data, .wider], laidTests := true, laidLooks := .later }
def FnExactInstrTextCardSaid : Prop := Claim7.holds Tryd.pinned (.plain (OpenSpec.ofChange fnExactInstrTextSpec)) fnExactInstrTextCard

/-- THE TIED CARD OF 'laws.FnDecode'. -/
def fnDecodeCard : Claim7 := { stood := { row := fnDecodeRow, standIns := [], harness := (true, "846287b248739c73c3266221fd3ec5f5c500b1737d41afc80cff272c37bf298f"), looks := false }, kinds := [], alts := [], laidByText := true, laidKinds := [.wider], laidTests := true, laidLooks := .later }
def FnDecodeCardSaid : Prop := Claim7.holds Tryd.pinned (.plain (OpenSpec.ofChange fnDecodeSpec)) fnDecodeCard

/-- THE TIED CARD OF 'laws.FnDecodeImm'. -/
def fnDecodeImmCard : Claim7 := { stood := { row := fnDecodeImmRow, standIns := [], harness := (true, "846287b248739c73c3266221fd3ec5f5c500b1737d41afc80cff272c37bf298f"), looks := false }, kinds := [], alts := [], laidByText := true, laidKinds := [.wider], laidTests := true, laidLooks := .later }
def FnDecodeImmCardSaid : Prop := Claim7.holds Tryd.pinned (.plain (OpenSpec.ofChange fnDecodeImmSpec)) fnDecodeImmCard

/-- THE TIED CARD OF 'laws.FnInstrText'. -/
def fnInstrTextCard : Claim7 := { stood := { row := fnInstrTextRow, standIns := [], harness := (true, "846287b248739c73c3266221fd3ec5f5c500b1737d41afc80cff272c37bf298f"), looks := false }, kinds := [], alts := [], laidByText := true, laidKinds := [.data, .data, .data, .wider], laidTests := true, laidLooks := .later }
def FnInstrTextCardSaid : Prop := Claim7.holds Tryd.pinned (.plain (OpenSpec.ofChange fnInstrTextSpec)) fnInstrTextCard

/-- THE TIED CARD OF 'laws.FnInstrTextOther'. -/
def fnInstrTextOtherCard : Claim7 := { stood := { row := fnInstrTextOtherRow, standIns := [], harness := (true, "846287b248739c73c3266221fd3ec5f5c500b1737d41afc80cff272c37bf298f"), looks := false }, kinds := [], alts := [], laidByText := true, laidKinds := [.data, .data, .data, .wider], laidTests := true, laidLooks := .later }
def FnInstrTextOtherCardSaid : Prop := Claim7.holds Tryd.pinned (.plain (OpenSpec.ofChange fnInstrTextOtherSpec)) fnInstrTextOtherCard

/-- THE SECOND FORM's CARD OF 'laws.FnExactInstrEncode'. -/
def fnExactInstrEncodeUptoCard : Claim7 := { stood := { row := fnExactInstrEncodeUptoRow, standIns := [], harness := (true, "846287b248739c73c3266221fd3ec5f5c500b1737d41afc80cff272c37bf298f"), looks := false }, kinds := [], alts := [], laidByText := true, laidKinds := [.wider], laidTests := true, laidLooks := .later }
def FnExactInstrEncodeUptoCardSaid : Prop := Claim7.holds Tryd.pinned (.plain (OpenSpec.upto fnExactInstrEncodeSpec)) fnExactInstrEncodeUptoCard

/-- THE SECOND FORM's CARD OF 'laws.FnEncodeFields'. -/
def fnEncodeFieldsUptoCard : Claim7 := { stood := { row := fnEncodeFieldsUptoRow, standIns := [], harness := (true, "846287b248739c73c3266221fd3ec5f5c500b1737d41afc80cff272c37bf298f"), looks := false }, kinds := [], alts := [], laidByText := true, laidKinds := [.wider], laidTests := true, laidLooks := .later }
def FnEncodeFieldsUptoCardSaid : Prop := Claim7.holds Tryd.pinned (.plain (OpenSpec.upto fnEncodeFieldsSpec)) fnEncodeFieldsUptoCard

/-- THE SECOND FORM's CARD OF 'laws.FnEncodeLow'. -/
def fnEncodeLowUptoCard : Claim7 := { stood := { row := fnEncodeLowUptoRow, standIns := [], harness := (true, "846287b248739c73c3266221fd3ec5f5c500b1737d41afc80cff272c37bf298f"), looks := false }, kinds := [], alts := [], laidByText := true, laidKinds := [.wider], laidTests := true, laidLooks := .later }
def FnEncodeLowUptoCardSaid : Prop := Claim7.holds Tryd.pinned (.plain (OpenSpec.upto fnEncodeLowSpec)) fnEncodeLowUptoCard

/-- THE SECOND FORM's CARD OF 'laws.FnEncodeSign'. -/
def fnEncodeSignUptoCard : Claim7 := { stood := { row := fnEncodeSignUptoRow, standIns := [], harness := (true, "846287b248739c73c3266221fd3ec5f5c500b1737d41afc80cff272c37bf298f"), looks := false }, kinds := [], alts := [], laidByText := true, laidKinds := [.wider], laidTests := true, laidLooks := .later }
def FnEncodeSignUptoCardSaid : Prop := Claim7.holds Tryd.pinned (.plain (OpenSpec.upto fnEncodeSignSpec)) fnEncodeSignUptoCard

/-- THE SECOND FORM's CARD OF 'laws.FnExactInstrDecode'. -/
def fnExactInstrDecodeUptoCard : Claim7 := { stood := { row := fnExactInstrDecodeUptoRow, standIns := [], harness := (true, "846287b248739c73c3266221fd3ec5f5c500b1737d41afc80cff272c37bf298f"), looks := false }, kinds := [], alts := [], laidByText := true, laidKinds := [.wider], laidTests := true, laidLooks := .later }
def FnExactInstrDecodeUptoCardSaid : Prop := Claim7.holds Tryd.pinned (.plain (OpenSpec.upto fnExactInstrDecodeSpec)) fnExactInstrDecodeUptoCard

/-- THE SECOND FORM's CARD OF 'laws.FnEncode'. -/
def fnEncodeUptoCard : Claim7 := { stood := { row := fnEncodeUptoRow, standIns := [], harness := (true, "846287b248739c73c3266221fd3ec5f5c500b1737d41afc80cff272c37bf298f"), looks := false }, kinds := [], alts := [], laidByText := true, laidKinds := [.wider], laidTests := true, laidLooks := .later }
def FnEncodeUptoCardSaid : Prop := Claim7.holds Tryd.pinned (.plain (OpenSpec.upto fnEncodeSpec)) fnEncodeUptoCard

/-- THE SECOND FORM's CARD OF 'laws.FnExactInstrText'. -/
def fnExactInstrTextUptoCard : Claim7 := { stood := { row := fnExactInstrTextUptoRow, standIns := [], harness := (true, "846287b248739c73c3266221fd3ec5f5c500b1737d41afc80cff272c37bf298f"), looks := false }, kinds := [], alts := [], laidByText := true, laidKinds := [.data, .data, .data, .wider], laidTests := true, laidLooks := .later }
def FnExactInstrTextUptoCardSaid : Prop := Claim7.holds Tryd.pinned (.plain (OpenSpec.upto fnExactInstrTextSpec)) fnExactInstrTextUptoCard

/-- THE SECOND FORM's CARD OF 'laws.FnDecode'. -/
def fnDecodeUptoCard : Claim7 := { stood := { row := fnDecodeUptoRow, standIns := [], harness := (true, "846287b248739c73c3266221fd3ec5f5c500b1737d41afc80cff272c37bf298f"), looks := false }, kinds := [], alts := [], laidByText := true, laidKinds := [.wider], laidTests := true, laidLooks := .later }
def FnDecodeUptoCardSaid : Prop := Claim7.holds Tryd.pinned (.plain (OpenSpec.upto fnDecodeSpec)) fnDecodeUptoCard

/-- THE SECOND FORM's CARD OF 'laws.FnDecodeImm'. -/
def fnDecodeImmUptoCard : Claim7 := { stood := { row := fnDecodeImmUptoRow, standIns := [], harness := (true, "846287b248739c73c3266221fd3ec5f5c500b1737d41afc80cff272c37bf298f"), looks := false }, kinds := [], alts := [], laidByText := true, laidKinds := [.wider], laidTests := true, laidLooks := .later }
def FnDecodeImmUptoCardSaid : Prop := Claim7.holds Tryd.pinned (.plain (OpenSpec.upto fnDecodeImmSpec)) fnDecodeImmUptoCard

/-- THE SECOND FORM's CARD OF 'laws.FnInstrText'. -/
def fnInstrTextUptoCard : Claim7 := { stood := { row := fnInstrTextUptoRow, standIns := [], harness := (true, "846287b248739c73c3266221fd3ec5f5c500b1737d41afc80cff272c37bf298f"), looks := false }, kinds := [], alts := [], laidByText := true, laidKinds := [.data, .data, .data, .wider], laidTests := true, laidLooks := .later }
def FnInstrTextUptoCardSaid : Prop := Claim7.holds Tryd.pinned (.plain (OpenSpec.upto fnInstrTextSpec)) fnInstrTextUptoCard

/-- THE SECOND FORM's CARD OF 'laws.FnInstrTextOther'. -/
def fnInstrTextOtherUptoCard : Claim7 := { stood := { row := fnInstrTextOtherUptoRow, standIns := [], harness := (true, "846287b248739c73c3266221fd3ec5f5c500b1737d41afc80cff272c37bf298f"), looks := false }, kinds := [], alts := [], laidByText := true, laidKinds := [.data, .data, .data, .wider], laidTests := true, laidLooks := .later }
def FnInstrTextOtherUptoCardSaid : Prop := Claim7.holds Tryd.pinned (.plain (OpenSpec.upto fnInstrTextOtherSpec)) fnInstrTextOtherUptoCard
end Rows
end Go.Proofs.YthmfkdlncnjjoaaDoor
