/-
  DERIVED. GIVEN WITH THE SEED: THE CARDS: each row of YtnoibcdojfnicaaGreatDoorRows.lean that lists a variable, with what it lists TIED to the program's text (the seventh form; the later family's looks); each row that meets fmt, with fmt's text TOLD by the authors' own Lean function (tested against real Go, not proved from fmt's source: count such statements apart). THE CARD IS WHAT COUNTS. Prove the row's statement (the work); the ties are given (YtnoibcdojfnicaaGreatDoorTie.lean); close each card by the builder's one call (the guide's Derived/Test/ToyasCard.lean, 'card_holds'). Laid BY PROGRAM, IN A SANDBOX (cutbox-door.mjs). By AI agents, Wed Nov 11 2026. No macro, syntax, notation, axiom, sorry.
-/
import Derived.Test.YtnoibcdojfnicaaGreatDoorRows
import GoSem.ClaimSeven
namespace Go.Proofs.YtnoibcdojfnicaaGreatDoor
namespace Rows

/-- THE TIED CARD OF 'descanttop.TopBits'. -/
def topBitsCard : Claim7 := { stood := { row := topBitsRow, standIns := [], harness := (true, "5595824e149320c2b096bc80b8db5db1cccfcbdb2dcc387e95134d984c4a0685"), looks := false }, kinds := [], alts := [], laidByText := true, laidKinds := [.data, .data, .data], laidTests := true, laidLooks := .later }
def TopBitsCardSaid : Prop := Claim7.holds Tryz.pinned (.plain (OpenSpec.ofChange topBitsSpec)) topBitsCard

/-- THE TIED CARD OF 'descanttop.TopNumbers'. -/
def topNumbersCard : Claim7 := { stood := { row := topNumbersRow, standIns := [], harness := (true, "5595824e149320c2b096bc80b8db5db1cccfcbdb2dcc387e95134d984c4a0685"), looks := false }, kinds := [], alts := [], laidByText := true, laidKinds := [.data, .data, .data], laidTests := true, laidLooks := .later }
def TopNumbersCardSaid : Prop := Claim7.holds Tryz.pinned (.plain (OpenSpec.ofChange topNumbersSpec)) topNumbersCard

/-- THE TIED CARD OF 'descanttop.TopChain'. -/
def topChainCard : Claim7 := { stood := { row := topChainRow, standIns := [], harness := (true, "5595824e149320c2b096bc80b8db5db1cccfcbdb2dcc387e95134d984c4a0685"), looks := false }, kinds := [], alts := [], laidByText := true, laidKinds := [.data, .data, .data], laidTests := true, laidLooks := .later }
def TopChainCardSaid : Prop := Claim7.holds Tryz.pinned (.plain (OpenSpec.ofChange topChainSpec)) topChainCard

/-- THE TIED CARD OF 'descanttop.TopCoded'. -/
def topCodedCard : Claim7 := { stood := { row := topCodedRow, standIns := [], harness := (true, "5595824e149320c2b096bc80b8db5db1cccfcbdb2dcc387e95134d984c4a0685"), looks := false }, kinds := [], alts := [], laidByText := true, laidKinds := [.data, .data, .data], laidTests := true, laidLooks := .later }
def TopCodedCardSaid : Prop := Claim7.holds Tryz.pinned (.plain (OpenSpec.ofChange topCodedSpec)) topCodedCard

/-- THE TIED CARD OF 'descanttop.TopKept'. -/
def topKeptCard : Claim7 := { stood := { row := topKeptRow, standIns := [], harness := (true, "5595824e149320c2b096bc80b8db5db1cccfcbdb2dcc387e95134d984c4a0685"), looks := false }, kinds := [], alts := [], laidByText := true, laidKinds := [.data, .data, .data], laidTests := true, laidLooks := .later }
def TopKeptCardSaid : Prop := Claim7.holds Tryz.pinned (.plain (OpenSpec.ofChange topKeptSpec)) topKeptCard

/-- THE TIED CARD OF 'descanttop.TopRanges'. -/
def topRangesCard : Claim7 := { stood := { row := topRangesRow, standIns := [], harness := (true, "5595824e149320c2b096bc80b8db5db1cccfcbdb2dcc387e95134d984c4a0685"), looks := false }, kinds := [], alts := [], laidByText := true, laidKinds := [.data, .data, .data], laidTests := true, laidLooks := .later }
def TopRangesCardSaid : Prop := Claim7.holds Tryz.pinned (.plain (OpenSpec.ofChange topRangesSpec)) topRangesCard

/-- THE TIED CARD OF 'descanttop.TopTurned'. -/
def topTurnedCard : Claim7 := { stood := { row := topTurnedRow, standIns := [], harness := (true, "5595824e149320c2b096bc80b8db5db1cccfcbdb2dcc387e95134d984c4a0685"), looks := false }, kinds := [], alts := [], laidByText := true, laidKinds := [.data, .data, .data], laidTests := true, laidLooks := .later }
def TopTurnedCardSaid : Prop := Claim7.holds Tryz.pinned (.plain (OpenSpec.ofChange topTurnedSpec)) topTurnedCard

/-- THE SECOND FORM's CARD OF 'descanttop.TopBits'. -/
def topBitsUptoCard : Claim7 := { stood := { row := topBitsUptoRow, standIns := [], harness := (true, "5595824e149320c2b096bc80b8db5db1cccfcbdb2dcc387e95134d984c4a0685"), looks := false }, kinds := [], alts := [], laidByText := true, laidKinds := [.data, .data, .data], laidTests := true, laidLooks := .later }
def TopBitsUptoCardSaid : Prop := Claim7.holds Tryz.pinned (.plain (OpenSpec.upto topBitsSpec)) topBitsUptoCard

/-- THE SECOND FORM's CARD OF 'descanttop.TopNumbers'. -/
def topNumbersUptoCard : Claim7 := { stood := { row := topNumbersUptoRow, standIns := [], harness := (true, "5595824e149320c2b096bc80b8db5db1cccfcbdb2dcc387e95134d984c4a0685"), looks := false }, kinds := [], alts := [], laidByText := true, laidKinds := [.data, .data, .data], laidTests := true, laidLooks := .later }
def TopNumbersUptoCardSaid : Prop := Claim7.holds Tryz.pinned (.plain (OpenSpec.upto topNumbersSpec)) topNumbersUptoCard

/-- THE SECOND FORM's CARD OF 'descanttop.TopChain'. -/
def topChainUptoCard : Claim7 := { stood := { row := topChainUptoRow, standIns := [], harness := (true, "5595824e149320c2b096bc80b8db5db1cccfcbdb2dcc387e95134d984c4a0685"), looks := false }, kinds := [], alts := [], laidByText := true, laidKinds := [.data, .data, .data], laidTests := true, laidLooks := .later }
def TopChainUptoCardSaid : Prop := Claim7.holds Tryz.pinned (.plain (OpenSpec.upto topChainSpec)) topChainUptoCard

/-- THE SECOND FORM's CARD OF 'descanttop.TopCoded'. -/
def topCodedUptoCard : Claim7 := { stood := { row := topCodedUptoRow, standIns := [], harness := (true, "5595824e149320c2b096bc80b8db5db1cccfcbdb2dcc387e95134d984c4a0685"), looks := false }, kinds := [], alts := [], laidByText := true, laidKinds := [.data, .data, .data], laidTests := true, laidLooks := .later }
def TopCodedUptoCardSaid : Prop := Claim7.holds Tryz.pinned (.plain (OpenSpec.upto topCodedSpec)) topCodedUptoCard

/-- THE SECOND FORM's CARD OF 'descanttop.TopKept'. -/
def topKeptUptoCard : Claim7 := { stood := { row := topKeptUptoRow, standIns := [], harness := (true, "5595824e149320c2b096bc80b8db5db1cccfcbdb2dcc387e95134d984c4a0685"), looks := false }, kinds := [], alts := [], laidByText := true, laidKinds := [.data, .data, .data], laidTests := true, laidLooks := .later }
def TopKeptUptoCardSaid : Prop := Claim7.holds Tryz.pinned (.plain (OpenSpec.upto topKeptSpec)) topKeptUptoCard

/-- THE SECOND FORM's CARD OF 'descanttop.TopRanges'. -/
def topRangesUptoCard : Claim7 := { stood := { row := topRangesUptoRow, standIns := [], harness := (true, "5595824e149320c2b096bc80b8db5db1cccfcbdb2dcc387e95134d984c4a0685"), looks := false }, kinds := [], alts := [], laidByText := true, laidKinds := [.data, .data, .data], laidTests := true, laidLooks := .later }
def TopRangesUptoCardSaid : Prop := Claim7.holds Tryz.pinned (.plain (OpenSpec.upto topRangesSpec)) topRangesUptoCard

/-- THE SECOND FORM's CARD OF 'descanttop.TopTurned'. -/
def topTurnedUptoCard : Claim7 := { stood := { row := topTurnedUptoRow, standIns := [], harness := (true, "5595824e149320c2b096bc80b8db5db1cccfcbdb2dcc387e95134d984c4a0685"), looks := false }, kinds := [], alts := [], laidByText := true, laidKinds := [.data, .data, .data], laidTests := true, laidLooks := .later }
def TopTurnedUptoCardSaid : Prop := Claim7.holds Tryz.pinned (.plain (OpenSpec.upto topTurnedSpec)) topTurnedUptoCard
end Rows
end Go.Proofs.YtnoibcdojfnicaaGreatDoor
