/-
  DERIVED. GIVEN WITH THE SEED: THE CARDS: each row of YtcljgfpcdlnlkaaDoorRows.lean that lists a variable, with what it lists TIED to the program's text (the seventh form; the later family's looks); each row that meets fmt, with fmt's text TOLD by the authors' own Lean function (tested against real Go, not proved from fmt's source: count such statements apart). THE CARD IS WHAT COUNTS. Prove the row's statement (the work); the ties are given (YtcljgfpcdlnlkaaDoorTie.lean); close each card by the builder's one call (the guide's Derived/Test/ToyasCard.lean, 'card_holds'). Laid BY PROGRAM, IN A SANDBOX (cutbox-door.mjs). By AI agents, Wed Nov 11 2026. No macro, syntax, notation, axiom, sorry.
-/
import Derived.Test.YtcljgfpcdlnlkaaDoorRows
import GoSem.ClaimSeven
namespace Go.Proofs.YtcljgfpcdlnlkaaDoor
namespace Rows

/-- THE TIED CARD OF 'armillarylaw08.SubLeast'. -/
def subLeastCard : Claim7 := { stood := { row := subLeastRow, standIns := [], harness := (true, "b7f390f4ac617f6fa05530b730e12d26db561aeaf8ebef656134171ed864906e"), looks := false }, kinds := [], alts := [], laidByText := true, laidKinds := [.data], laidTests := true, laidLooks := .later }
def SubLeastCardSaid : Prop := Claim7.holds Tryd.pinned (.plain (OpenSpec.ofChange subLeastSpec)) subLeastCard

/-- THE TIED CARD OF 'armillarylaw08.SubPicks'. -/
def subPicksCard : Claim7 := { stood := { row := subPicksRow, standIns := [], harness := (true, "b7f390f4ac617f6fa05530b730e12d26db561aeaf8ebef656134171ed864906e"), looks := false }, kinds := [], alts := [], laidByText := true, laidKinds := [.data], laidTests := true, laidLooks := .later }
def SubPicksCardSaid : Prop := Claim7.holds Tryd.pinned (.plain (OpenSpec.ofChange subPicksSpec)) subPicksCard

/-- THE TIED CARD OF 'armillarylaw08.SubTells'. -/
def subTellsCard : Claim7 := { stood := { row := subTellsRow, standIns := [], harness := (true, "b7f390f4ac617f6fa05530b730e12d26db561aeaf8ebef656134171ed864906e"), looks := false }, kinds := [], alts := [], laidByText := true, laidKinds := [.data], laidTests := true, laidLooks := .later }
def SubTellsCardSaid : Prop := Claim7.holds Tryd.pinned (.plain (OpenSpec.ofChange subTellsSpec)) subTellsCard

/-- THE TIED CARD OF 'armillarylaw08.SubOrder'. -/
def subOrderCard : Claim7 := { stood := { row := subOrderRow, standIns := [], harness := (true, "b7f390f4ac617f6fa05530b730e12d26db561aeaf8ebef656134171ed864906e"), looks := false }, kinds := [], alts := [], laidByText := true, laidKinds := [.data], laidTests := true, laidLooks := .later }
def SubOrderCardSaid : Prop := Claim7.holds Tryd.pinned (.plain (OpenSpec.ofChange subOrderSpec)) subOrderCard

/-- THE TIED CARD OF 'armillarylaw08.SubRules'. -/
def subRulesCard : Claim7 := { stood := { row := subRulesRow, standIns := [], harness := (true, "b7f390f4ac617f6fa05530b730e12d26db561aeaf8ebef656134171ed864906e"), looks := false }, kinds := [], alts := [], laidByText := true, laidKinds := [.data], laidTests := true, laidLooks := .later }
def SubRulesCardSaid : Prop := Claim7.holds Tryd.pinned (.plain (OpenSpec.ofChange subRulesSpec)) subRulesCard

/-- THE TIED CARD OF 'armillarylaw08.SubUnions'. -/
def subUnionsCard : Claim7 := { stood := { row := subUnionsRow, standIns := [], harness := (true, "b7f390f4ac617f6fa05530b730e12d26db561aeaf8ebef656134171ed864906e"), looks := false }, kinds := [], alts := [], laidByText := true, laidKinds := [.data], laidTests := true, laidLooks := .later }
def SubUnionsCardSaid : Prop := Claim7.holds Tryd.pinned (.plain (OpenSpec.ofChange subUnionsSpec)) subUnionsCard

/-- THE TIED CARD OF 'armillarylaw08.SubKnown'. -/
def subKnownCard : Claim7 := { stood := { row := subKnownRow, standIns := [], harness := (true, "b7f390f4ac617f6fa05530b730e12d26db561aeaf8ebef656134171ed864906e"), looks := false }, kinds := [], alts := [], laidByText := true, laidKinds := [.data], laidTests := true, laidLooks := .later }
def SubKnownCardSaid : Prop := Claim7.holds Tryd.pinned (.plain (OpenSpec.ofChange subKnownSpec)) subKnownCard

/-- THE TIED CARD OF 'armillarylaw10.SubstPuts'. -/
def substPutsCard : Claim7 := { stood := { row := substPutsRow, standIns := [], harness := (true, "b7f390f4ac617f6fa05530b730e12d26db561aeaf8ebef656134171ed864906e"), looks := false }, kinds := [], alts := [], laidByText := true, laidKinds := [.data], laidTests := true, laidLooks := .later }
def SubstPutsCardSaid : Prop := Claim7.holds Tryd.pinned (.plain (OpenSpec.ofChange substPutsSpec)) substPutsCard

/-- THE TIED CARD OF 'armillarylaw10.SubstVars'. -/
def substVarsCard : Claim7 := { stood := { row := substVarsRow, standIns := [], harness := (true, "b7f390f4ac617f6fa05530b730e12d26db561aeaf8ebef656134171ed864906e"), looks := false }, kinds := [], alts := [], laidByText := true, laidKinds := [.data], laidTests := true, laidLooks := .later }
def SubstVarsCardSaid : Prop := Claim7.holds Tryd.pinned (.plain (OpenSpec.ofChange substVarsSpec)) substVarsCard

/-- THE TIED CARD OF 'armillarylaw10.SubstFew'. -/
def substFewCard : Claim7 := { stood := { row := substFewRow, standIns := [], harness := (true, "b7f390f4ac617f6fa05530b730e12d26db561aeaf8ebef656134171ed864906e"), looks := false }, kinds := [], alts := [], laidByText := true, laidKinds := [.data], laidTests := true, laidLooks := .later }
def SubstFewCardSaid : Prop := Claim7.holds Tryd.pinned (.plain (OpenSpec.ofChange substFewSpec)) substFewCard

/-- THE TIED CARD OF 'armillarylaw10.SubstStrict'. -/
def substStrictCard : Claim7 := { stood := { row := substStrictRow, standIns := [], harness := (true, "b7f390f4ac617f6fa05530b730e12d26db561aeaf8ebef656134171ed864906e"), looks := false }, kinds := [], alts := [], laidByText := true, laidKinds := [.data], laidTests := true, laidLooks := .later }
def SubstStrictCardSaid : Prop := Claim7.holds Tryd.pinned (.plain (OpenSpec.ofChange substStrictSpec)) substStrictCard

/-- THE TIED CARD OF 'armillarylaw08.SubDyn'. -/
def subDynCard : Claim7 := { stood := { row := subDynRow, standIns := [], harness := (true, "b7f390f4ac617f6fa05530b730e12d26db561aeaf8ebef656134171ed864906e"), looks := false }, kinds := [], alts := [], laidByText := true, laidKinds := [.data], laidTests := true, laidLooks := .later }
def SubDynCardSaid : Prop := Claim7.holds Tryd.pinned (.plain (OpenSpec.ofChange subDynSpec)) subDynCard

/-- THE TIED CARD OF 'armillarylaw10.SubstTwice'. -/
def substTwiceCard : Claim7 := { stood := { row := substTwiceRow, standIns := [], harness := (true, "b7f390f4ac617f6fa05530b730e12d26db561aeaf8ebef656134171ed864906e"), looks := false }, kinds := [], alts := [], laidByText := true, laidKinds := [.data], laidTests := true, laidLooks := .later }
def SubstTwiceCardSaid : Prop := Claim7.holds Tryd.pinned (.plain (OpenSpec.ofChange substTwiceSpec)) substTwiceCard

/-- THE TIED CARD OF 'armillarylaw10.SubstOwn'. -/
def substOwnCard : Claim7 := { stood := { row := substOwnRow, standIns := [], harness := (true, "b7f390f4ac617f6fa05530b730e12d26db561aeaf8ebef656134171ed864906e"), looks := false }, kinds := [], alts := [], laidByText := true, laidKinds := [.data], laidTests := true, laidLooks := .later }
def SubstOwnCardSaid : Prop := Claim7.holds Tryd.pinned (.plain (OpenSpec.ofChange substOwnSpec)) substOwnCard

/-- THE TIED CARD OF 'armillarylaw07.CanonSame'. -/
def canonSameCard : Claim7 := { stood := { row := canonSameRow, standIns := [], harness := (true, "b7f390f4ac617f6fa05530b730e12d26db561aeaf8ebef656134171ed864906e"), looks := false }, kinds := [], alts := [], laidByText := true, laidKinds := [.data, .data, .data, .data], laidTests := true, laidLooks := .later }
def CanonSameCardSaid : Prop := Claim7.holds Tryd.pinned (.plain (OpenSpec.ofChange canonSameSpec)) canonSameCard

/-- THE TIED CARD OF 'armillarylaw07.CanonOrder'. -/
def canonOrderCard : Claim7 := { stood := { row := canonOrderRow, standIns := [], harness := (true, "b7f390f4ac617f6fa05530b730e12d26db561aeaf8ebef656134171ed864906e"), looks := false }, kinds := [], alts := [], laidByText := true, laidKinds := [.data, .data, .data, .data], laidTests := true, laidLooks := .later }
def CanonOrderCardSaid : Prop := Claim7.holds Tryd.pinned (.plain (OpenSpec.ofChange canonOrderSpec)) canonOrderCard

/-- THE SECOND FORM's CARD OF 'armillarylaw08.SubLeast'. -/
def subLeastUptoCard : Claim7 := { stood := { row := subLeastUptoRow, standIns := [], harness := (true, "b7f390f4ac617f6fa05530b730e12d26db561aeaf8ebef656134171ed864906e"), looks := false }, kinds := [], alts := [], laidByText := true, laidKinds := [.data], laidTests := true, laidLooks := .later }
def SubLeastUptoCardSaid : Prop := Claim7.holds Tryd.pinned (.plain (OpenSpec.upto subLeastSpec)) subLeastUptoCard

/-- THE SECOND FORM's CARD OF 'armillarylaw08.SubPicks'. -/
def subPicksUptoCard : Claim7 := { stood := { row := subPicksUptoRow, standIns := [], harness := (true, "b7f390f4ac617f6fa05530b730e12d26db561aeaf8ebef656134171ed864906e"), looks := false }, kinds := [], alts := [], laidByText := true, laidKinds := [.data], laidTests := true, laidLooks := .later }
def SubPicksUptoCardSaid : Prop := Claim7.holds Tryd.pinned (.plain (OpenSpec.upto subPicksSpec)) subPicksUptoCard

/-- THE SECOND FORM's CARD OF 'armillarylaw08.SubTells'. -/
def subTellsUptoCard : Claim7 := { stood := { row := subTellsUptoRow, standIns := [], harness := (true, "b7f390f4ac617f6fa05530b730e12d26db561aeaf8ebef656134171ed864906e"), looks := false }, kinds := [], alts := [], laidByText := true, laidKinds := [.data], laidTests := true, laidLooks := .later }
def SubTellsUptoCardSaid : Prop := Claim7.holds Tryd.pinned (.plain (OpenSpec.upto subTellsSpec)) subTellsUptoCard

/-- THE SECOND FORM's CARD OF 'armillarylaw08.SubOrder'. -/
def subOrderUptoCard : Claim7 := { stood := { row := subOrderUptoRow, standIns := [], harness := (true, "b7f390f4ac617f6fa05530b730e12d26db561aeaf8ebef656134171ed864906e"), looks := false }, kinds := [], alts := [], laidByText := true, laidKinds := [.data], laidTests := true, laidLooks := .later }
def SubOrderUptoCardSaid : Prop := Claim7.holds Tryd.pinned (.plain (OpenSpec.upto subOrderSpec)) subOrderUptoCard

/-- THE SECOND FORM's CARD OF 'armillarylaw08.SubRules'. -/
def subRulesUptoCard : Claim7 := { stood := { row := subRulesUptoRow, standIns := [], harness := (true, "b7f390f4ac617f6fa05530b730e12d26db561aeaf8ebef656134171ed864906e"), looks := false }, kinds := [], alts := [], laidByText := true, laidKinds := [.data], laidTests := true, laidLooks := .later }
def SubRulesUptoCardSaid : Prop := Claim7.holds Tryd.pinned (.plain (OpenSpec.upto subRulesSpec)) subRulesUptoCard

/-- THE SECOND FORM's CARD OF 'armillarylaw08.SubUnions'. -/
def subUnionsUptoCard : Claim7 := { stood := { row := subUnionsUptoRow, standIns := [], harness := (true, "b7f390f4ac617f6fa05530b730e12d26db561aeaf8ebef656134171ed864906e"), looks := false }, kinds := [], alts := [], laidByText := true, laidKinds := [.data], laidTests := true, laidLooks := .later }
def SubUnionsUptoCardSaid : Prop := Claim7.holds Tryd.pinned (.plain (OpenSpec.upto subUnionsSpec)) subUnionsUptoCard

/-- THE SECOND FORM's CARD OF 'armillarylaw08.SubKnown'. -/
def subKnownUptoCard : Claim7 := { stood := { row := subKnownUptoRow, standIns := [], harness := (true, "b7f390f4ac617f6fa05530b730e12d26db561aeaf8ebef656134171ed864906e"), looks := false }, kinds := [], alts := [], laidByText := true, laidKinds := [.data], laidTests := true, laidLooks := .later }
def SubKnownUptoCardSaid : Prop := Claim7.holds Tryd.pinned (.plain (OpenSpec.upto subKnownSpec)) subKnownUptoCard

/-- THE SECOND FORM's CARD OF 'armillarylaw10.SubstPuts'. -/
def substPutsUptoCard : Claim7 := { stood := { row := substPutsUptoRow, standIns := [], harness := (true, "b7f390f4ac617f6fa05530b730e12d26db561aeaf8ebef656134171ed864906e"), looks := false }, kinds := [], alts := [], laidByText := true, laidKinds := [.data], laidTests := true, laidLooks := .later }
def SubstPutsUptoCardSaid : Prop := Claim7.holds Tryd.pinned (.plain (OpenSpec.upto substPutsSpec)) substPutsUptoCard

/-- THE SECOND FORM's CARD OF 'armillarylaw10.SubstVars'. -/
def substVarsUptoCard : Claim7 := { stood := { row := substVarsUptoRow, standIns := [], harness := (true, "b7f390f4ac617f6fa05530b730e12d26db561aeaf8ebef656134171ed864906e"), looks := false }, kinds := [], alts := [], laidByText := true, laidKinds := [.data], laidTests := true, laidLooks := .later }
def SubstVarsUptoCardSaid : Prop := Claim7.holds Tryd.pinned (.plain (OpenSpec.upto substVarsSpec)) substVarsUptoCard

/-- THE SECOND FORM's CARD OF 'armillarylaw10.SubstFew'. -/
def substFewUptoCard : Claim7 := { stood := { row := substFewUptoRow, standIns := [], harness := (true, "b7f390f4ac617f6fa05530b730e12d26db561aeaf8ebef656134171ed864906e"), looks := false }, kinds := [], alts := [], laidByText := true, laidKinds := [.data], laidTests := true, laidLooks := .later }
def SubstFewUptoCardSaid : Prop := Claim7.holds Tryd.pinned (.plain (OpenSpec.upto substFewSpec)) substFewUptoCard

/-- THE SECOND FORM's CARD OF 'armillarylaw10.SubstStrict'. -/
def substStrictUptoCard : Claim7 := { stood := { row := substStrictUptoRow, standIns := [], harness := (true, "b7f390f4ac617f6fa05530b730e12d26db561aeaf8ebef656134171ed864906e"), looks := false }, kinds := [], alts := [], laidByText := true, laidKinds := [.data], laidTests := true, laidLooks := .later }
def SubstStrictUptoCardSaid : Prop := Claim7.holds Tryd.pinned (.plain (OpenSpec.upto substStrictSpec)) substStrictUptoCard

/-- THE SECOND FORM's CARD OF 'armillarylaw08.SubDyn'. -/
def subDynUptoCard : Claim7 := { stood := { row := subDynUptoRow, standIns := [], harness := (true, "b7f390f4ac617f6fa05530b730e12d26db561aeaf8ebef656134171ed864906e"), looks := false }, kinds := [], alts := [], laidByText := true, laidKinds := [.data], laidTests := true, laidLooks := .later }
def SubDynUptoCardSaid : Prop := Claim7.holds Tryd.pinned (.plain (OpenSpec.upto subDynSpec)) subDynUptoCard

/-- THE SECOND FORM's CARD OF 'armillarylaw10.SubstTwice'. -/
def substTwiceUptoCard : Claim7 := { stood := { row := substTwiceUptoRow, standIns := [], harness := (true, "b7f390f4ac617f6fa05530b730e12d26db561aeaf8ebef656134171ed864906e"), looks := false }, kinds := [], alts := [], laidByText := true, laidKinds := [.data], laidTests := true, laidLooks := .later }
def SubstTwiceUptoCardSaid : Prop := Claim7.holds Tryd.pinned (.plain (OpenSpec.upto substTwiceSpec)) substTwiceUptoCard

/-- THE SECOND FORM's CARD OF 'armillarylaw10.SubstOwn'. -/
def substOwnUptoCard : Claim7 := { stood := { row := substOwnUptoRow, standIns := [], harness := (true, "b7f390f4ac617f6fa05530b730e12d26db561aeaf8ebef656134171ed864906e"), looks := false }, kinds := [], alts := [], laidByText := true, laidKinds := [.data], laidTests := true, laidLooks := .later }
def SubstOwnUptoCardSaid : Prop := Claim7.holds Tryd.pinned (.plain (OpenSpec.upto substOwnSpec)) substOwnUptoCard

/-- THE SECOND FORM's CARD OF 'armillarylaw07.CanonSame'. -/
def canonSameUptoCard : Claim7 := { stood := { row := canonSameUptoRow, standIns := [], harness := (true, "b7f390f4ac617f6fa05530b730e12d26db561aeaf8ebef656134171ed864906e"), looks := false }, kinds := [], alts := [], laidByText := true, laidKinds := [.data, .data, .data, .data], laidTests := true, laidLooks := .later }
def CanonSameUptoCardSaid : Prop := Claim7.holds Tryd.pinned (.plain (OpenSpec.upto canonSameSpec)) canonSameUptoCard

/-- THE SECOND FORM's CARD OF 'armillarylaw07.CanonOrder'. -/
def canonOrderUptoCard : Claim7 := { stood := { row := canonOrderUptoRow, standIns := [], harness := (true, "b7f390f4ac617f6fa05530b730e12d26db561aeaf8ebef656134171ed864906e"), looks := false }, kinds := [], alts := [], laidByText := true, laidKinds := [.data, .data, .data, .data], laidTests := true, laidLooks := .later }
def CanonOrderUptoCardSaid : Prop := Claim7.holds Tryd.pinned (.plain (OpenSpec.upto canonOrderSpec)) canonOrderUptoCard
end Rows
end Go.Proofs.YtcljgfpcdlnlkaaDoor
