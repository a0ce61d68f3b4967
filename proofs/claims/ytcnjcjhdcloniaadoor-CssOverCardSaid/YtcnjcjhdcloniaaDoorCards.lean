/-
  DERIVED. GIVEN WITH THE SEED: THE CARDS: each row of YtcnjcjhdcloniaaDoorRows.lean that lists a variable, with what it lists TIED to the program's text (the seventh form; the later family's looks); each row that meets fmt, with fmt's text TOLD by the authors' own Lean function (tested against real Go, not proved from fmt's source: count such statements apart). THE CARD IS WHAT COUNTS. Prove the row's statement (the work); the ties are given (YtcnjcjhdcloniaaDoorTie.lean); close each card by the builder's one call (the guide's Derived/Test/ToyasCard.lean, 'card_holds'). Laid BY PROGRAM, IN A SANDBOX (cutbox-door.mjs). By AI agents, Wed Nov 11 2026. No macro, syntax, notation, axiom, sorry.
-/
import Derived.Test.YtcnjcjhdcloniaaDoorRows
import GoSem.ClaimSeven
namespace Go.Proofs.YtcnjcjhdcloniaaDoor
namespace Rows

/-- THE TIED CARD OF 'quillworklaw02.TagsFind'. -/
def tagsFindCard : Claim7 := { stood := { row := tagsFindRow, standIns := [], harness := (true, "e48b8a5069209a357f0a76f45fcbec9e783e297d1e23a44270fea7a169813f21"), looks := false }, kinds := [], alts := [], laidByText := true, laidKinds := [.data, .pinned], laidTests := true, laidLooks := .later }
def TagsFindCardSaid : Prop := Claim7.holds Tryd.pinned (.plain (OpenSpec.ofChange tagsFindSpec)) tagsFindCard

/-- THE TIED CARD OF 'quillworklaw02.TagsMay'. -/
def tagsMayCard : Claim7 := { stood := { row := tagsMayRow, standIns := [], harness := (true, "e48b8a5069209a357f0a76f45fcbec9e783e297d1e23a44270fea7a169813f21"), looks := false }, kinds := [], alts := [], laidByText := true, laidKinds := [.data, .pinned], laidTests := true, laidLooks := .later }
def TagsMayCardSaid : Prop := Claim7.holds Tryd.pinned (.plain (OpenSpec.ofChange tagsMaySpec)) tagsMayCard

/-- THE TIED CARD OF 'quillworklaw02.TagsNames'. -/
def tagsNamesCard : Claim7 := { stood := { row := tagsNamesRow, standIns := [], harness := (true, "e48b8a5069209a357f0a76f45fcbec9e783e297d1e23a44270fea7a169813f21"), looks := false }, kinds := [], alts := [], laidByText := true, laidKinds := [.data, .pinned], laidTests := true, laidLooks := .later }
def TagsNamesCardSaid : Prop := Claim7.holds Tryd.pinned (.plain (OpenSpec.ofChange tagsNamesSpec)) tagsNamesCard

/-- THE TIED CARD OF 'quillworklaw02.TagsContent'. -/
def tagsContentCard : Claim7 := { stood := { row := tagsContentRow, standIns := [], harness := (true, "e48b8a5069209a357f0a76f45fcbec9e783e297d1e23a44270fea7a169813f21"), looks := false }, kinds := [], alts := [], laidByText := true, laidKinds := [.data, .pinned], laidTests := true, laidLooks := .later }
def TagsContentCardSaid : Prop := Claim7.holds Tryd.pinned (.plain (OpenSpec.ofChange tagsContentSpec)) tagsContentCard

/-- THE TIED CARD OF 'quillworklaw02.TagsTell'. -/
def tagsTellCard : Claim7 := { stood := { row := tagsTellRow, standIns := [], harness := (true, "e48b8a5069209a357f0a76f45fcbec9e783e297d1e23a44270fea7a169813f21"), looks := false }, kinds := [], alts := [], laidByText := true, laidKinds := [.data, .pinned], laidTests := true, laidLooks := .later }
def TagsTellCardSaid : Prop := Claim7.holds Tryd.pinned (.plain (OpenSpec.ofChange tagsTellSpec)) tagsTellCard

/-- THE TIED CARD OF 'quillworklaw02.TagsOf'. -/
def tagsOfCard : Claim7 := { stood := { row := tagsOfRow, standIns := [], harness := (true, "e48b8a5069209a357f0a76f45fcbec9e783e297d1e23a44270fea7a169813f21"), looks := false }, kinds := [], alts := [], laidByText := true, laidKinds := [.data, .pinned], laidTests := true, laidLooks := .later }
def TagsOfCardSaid : Prop := Claim7.holds Tryd.pinned (.plain (OpenSpec.ofChange tagsOfSpec)) tagsOfCard

/-- THE TIED CARD OF 'quillworklaw04.CssParses'. -/
def cssParsesCard : Claim7 := { stood := { row := cssParsesRow, standIns := [], harness := (true, "e48b8a5069209a357f0a76f45fcbec9e783e297d1e23a44270fea7a169813f21"), looks := false }, kinds := [], alts := [], laidByText := true, laidKinds := [.data, .pinned], laidTests := true, laidLooks := .later }
def CssParsesCardSaid : Prop := Claim7.holds Tryd.pinned (.plain (OpenSpec.ofChange cssParsesSpec)) cssParsesCard

/-- THE TIED CARD OF 'quillworklaw04.CssPrints'. -/
def cssPrintsCard : Claim7 := { stood := { row := cssPrintsRow, standIns := [], harness := (true, "e48b8a5069209a357f0a76f45fcbec9e783e297d1e23a44270fea7a169813f21"), looks := false }, kinds := [], alts := [], laidByText := true, laidKinds := [.data, .pinned], laidTests := true, laidLooks := .later }
def CssPrintsCardSaid : Prop := Claim7.holds Tryd.pinned (.plain (OpenSpec.ofChange cssPrintsSpec)) cssPrintsCard

/-- THE TIED CARD OF 'quillworklaw04.CssBack'. -/
def cssBackCard : Claim7 := { stood := { row := cssBackRow, standIns := [], harness := (true, "e48b8a5069209a357f0a76f45fcbec9e783e297d1e23a44270fea7a169813f21"), looks := false }, kinds := [], alts := [], laidByText := true, laidKinds := [.data, .pinned], laidTests := true, laidLooks := .later }
def CssBackCardSaid : Prop := Claim7.holds Tryd.pinned (.plain (OpenSpec.ofChange cssBackSpec)) cssBackCard

/-- THE TIED CARD OF 'quillworklaw04.CssLater'. -/
def cssLaterCard : Claim7 := { stood := { row := cssLaterRow, standIns := [], harness := (true, "e48b8a5069209a357f0a76f45fcbec9e783e297d1e23a44270fea7a169813f21"), looks := false }, kinds := [], alts := [], laidByText := true, laidKinds := [.data, .pinned], laidTests := true, laidLooks := .later }
def CssLaterCardSaid : Prop := Claim7.holds Tryd.pinned (.plain (OpenSpec.ofChange cssLaterSpec)) cssLaterCard

/-- THE TIED CARD OF 'quillworklaw04.CssOver'. -/
def cssOverCard : Claim7 := { stood := { row := cssOverRow, standIns := [], harness := (true, "e48b8a5069209a357f0a76f45fcbec9e783e297d1e23a44270fea7a169813f21"), looks := false }, kinds := [], alts := [], laidByText := true, laidKinds := [.data, .pinned], laidTests := true, laidLooks := .later }
def CssOverCardSaid : Prop := Claim7.holds Tryd.pinned (.plain (OpenSpec.ofChange cssOverSpec)) cssOverCard

/-- THE SECOND FORM's CARD OF 'quillworklaw02.TagsFind'. -/
def tagsFindUptoCard : Claim7 := { stood := { row := tagsFindUptoRow, standIns := [], harness := (true, "e48b8a5069209a357f0a76f45fcbec9e783e297d1e23a44270fea7a169813f21"), looks := false }, kinds := [], alts := [], laidByText := true, laidKinds := [.data, .pinned], laidTests := true, laidLooks := .later }
def TagsFindUptoCardSaid : Prop := Claim7.holds Tryd.pinned (.plain (OpenSpec.upto tagsFindSpec)) tagsFindUptoCard

/-- THE SECOND FORM's CARD OF 'quillworklaw02.TagsMay'. -/
def tagsMayUptoCard : Claim7 := { stood := { row := tagsMayUptoRow, standIns := [], harness := (true, "e48b8a5069209a357f0a76f45fcbec9e783e297d1e23a44270fea7a169813f21"), looks := false }, kinds := [], alts := [], laidByText := true, laidKinds := [.data, .pinned], laidTests := true, laidLooks := .later }
def TagsMayUptoCardSaid : Prop := Claim7.holds Tryd.pinned (.plain (OpenSpec.upto tagsMaySpec)) tagsMayUptoCard

/-- THE SECOND FORM's CARD OF 'quillworklaw02.TagsNames'. -/
def tagsNamesUptoCard : Claim7 := { stood := { row := tagsNamesUptoRow, standIns := [], harness := (true, "e48b8a5069209a357f0a76f45fcbec9e783e297d1e23a44270fea7a169813f21"), looks := false }, kinds := [], alts := [], laidByText := true, laidKinds := [.data, .pinned], laidTests := true, laidLooks := .later }
def TagsNamesUptoCardSaid : Prop := Claim7.holds Tryd.pinned (.plain (OpenSpec.upto tagsNamesSpec)) tagsNamesUptoCard

/-- THE SECOND FORM's CARD OF 'quillworklaw02.TagsContent'. -/
def tagsContentUptoCard : Claim7 := { stood := { row := tagsContentUptoRow, standIns := [], harness := (true, "e48b8a5069209a357f0a76f45fcbec9e783e297d1e23a44270fea7a169813f21"), looks := false }, kinds := [], alts := [], laidByText := true, laidKinds := [.data, .pinned], laidTests := true, laidLooks := .later }
def TagsContentUptoCardSaid : Prop := Claim7.holds Tryd.pinned (.plain (OpenSpec.upto tagsContentSpec)) tagsContentUptoCard

/-- THE SECOND FORM's CARD OF 'quillworklaw02.TagsTell'. -/
def tagsTellUptoCard : Claim7 := { stood := { row := tagsTellUptoRow, standIns := [], harness := (true, "e48b8a5069209a357f0a76f45fcbec9e783e297d1e23a44270fea7a169813f21"), looks := false }, kinds := [], alts := [], laidByText := true, laidKinds := [.data, .pinned], laidTests := true, laidLooks := .later }
def TagsTellUptoCardSaid : Prop := Claim7.holds Tryd.pinned (.plain (OpenSpec.upto tagsTellSpec)) tagsTellUptoCard

/-- THE SECOND FORM's CARD OF 'quillworklaw02.TagsOf'. -/
def tagsOfUptoCard : Claim7 := { stood := { row := tagsOfUptoRow, standIns := [], harness := (true, "e48b8a5069209a357f0a76f45fcbec9e783e297d1e23a44270fea7a169813f21"), looks := false }, kinds := [], alts := [], laidByText := true, laidKinds := [.data, .pinned], laidTests := true, laidLooks := .later }
def TagsOfUptoCardSaid : Prop := Claim7.holds Tryd.pinned (.plain (OpenSpec.upto tagsOfSpec)) tagsOfUptoCard

/-- THE SECOND FORM's CARD OF 'quillworklaw04.CssParses'. -/
def cssParsesUptoCard : Claim7 := { stood := { row := cssParsesUptoRow, standIns := [], harness := (true, "e48b8a5069209a357f0a76f45fcbec9e783e297d1e23a44270fea7a169813f21"), looks := false }, kinds := [], alts := [], laidByText := true, laidKinds := [.data, .pinned], laidTests := true, laidLooks := .later }
def CssParsesUptoCardSaid : Prop := Claim7.holds Tryd.pinned (.plain (OpenSpec.upto cssParsesSpec)) cssParsesUptoCard

/-- THE SECOND FORM's CARD OF 'quillworklaw04.CssPrints'. -/
def cssPrintsUptoCard : Claim7 := { stood := { row := cssPrintsUptoRow, standIns := [], harness := (true, "e48b8a5069209a357f0a76f45fcbec9e783e297d1e23a44270fea7a169813f21"), looks := false }, kinds := [], alts := [], laidByText := true, laidKinds := [.data, .pinned], laidTests := true, laidLooks := .later }
def CssPrintsUptoCardSaid : Prop := Claim7.holds Tryd.pinned (.plain (OpenSpec.upto cssPrintsSpec)) cssPrintsUptoCard

/-- THE SECOND FORM's CARD OF 'quillworklaw04.CssBack'. -/
def cssBackUptoCard : Claim7 := { stood := { row := cssBackUptoRow, standIns := [], harness := (true, "e48b8a5069209a357f0a76f45fcbec9e783e297d1e23a44270fea7a169813f21"), looks := false }, kinds := [], alts := [], laidByText := true, laidKinds := [.data, .pinned], laidTests := true, laidLooks := .later }
def CssBackUptoCardSaid : Prop := Claim7.holds Tryd.pinned (.plain (OpenSpec.upto cssBackSpec)) cssBackUptoCard

/-- THE SECOND FORM's CARD OF 'quillworklaw04.CssLater'. -/
def cssLaterUptoCard : Claim7 := { stood := { row := cssLaterUptoRow, standIns := [], harness := (true, "e48b8a5069209a357f0a76f45fcbec9e783e297d1e23a44270fea7a169813f21"), looks := false }, kinds := [], alts := [], laidByText := true, laidKinds := [.data, .pinned], laidTests := true, laidLooks := .later }
def CssLaterUptoCardSaid : Prop := Claim7.holds Tryd.pinned (.plain (OpenSpec.upto cssLaterSpec)) cssLaterUptoCard

/-- THE SECOND FORM's CARD OF 'quillworklaw04.CssOver'. -/
def cssOverUptoCard : Claim7 := { stood := { row := cssOverUptoRow, standIns := [], harness := (true, "e48b8a5069209a357f0a76f45fcbec9e783e297d1e23a44270fea7a169813f21"), looks := false }, kinds := [], alts := [], laidByText := true, laidKinds := [.data, .pinned], laidTests := true, laidLooks := .later }
def CssOverUptoCardSaid : Prop := Claim7.holds Tryd.pinned (.plain (OpenSpec.upto cssOverSpec)) cssOverUptoCard
end Rows
end Go.Proofs.YtcnjcjhdcloniaaDoor
