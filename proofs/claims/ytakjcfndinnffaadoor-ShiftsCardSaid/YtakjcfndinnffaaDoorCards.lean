/-
  DERIVED. GIVEN WITH THE SEED: THE CARDS: each row of YtakjcfndinnffaaDoorRows.lean that lists a variable, with what it lists TIED to the program's text (the seventh form; the later family's looks); each row that meets fmt, with fmt's text TOLD by the authors' own Lean function (tested against real Go, not proved from fmt's source: count such statements apart). THE CARD IS WHAT COUNTS. Prove the row's statement (the work); the ties are given (YtakjcfndinnffaaDoorTie.lean); close each card by the builder's one call (the guide's Derived/Test/ToyasCard.lean, 'card_holds'). Laid BY PROGRAM, IN A SANDBOX (cutbox-door.mjs). By AI agents, Wed Nov 11 2026. No macro, syntax, notation, axiom, sorry.
-/
import Derived.Test.YtakjcfndinnffaaDoorRows
import GoSem.ClaimSeven
namespace Go.Proofs.YtakjcfndinnffaaDoor
namespace Rows

/-- THE TIED CARD OF 'descantlaw18.Shifts'. -/
def shiftsCard : Claim7 := { stood := { row := shiftsRow, standIns := [], harness := (true, "cf968c585d420f76f8fd05cce59edad1c9c44ab1a80e0b2b1f4d9779978a2016"), looks := false }, kinds := [], alts := [], laidByText := true, laidKinds := [.data, .data], laidTests := true, laidLooks := .later }
def ShiftsCardSaid : Prop := Claim7.holds Tryd.pinned (.plain (OpenSpec.ofChange shiftsSpec)) shiftsCard

/-- THE TIED CARD OF 'descantlaw18.ShiftBack'. -/
def shiftBackCard : Claim7 := { stood := { row := shiftBackRow, standIns := [], harness := (true, "cf968c585d420f76f8fd05cce59edad1c9c44ab1a80e0b2b1f4d9779978a2016"), looks := false }, kinds := [], alts := [], laidByText := true, laidKinds := [.data, .data], laidTests := true, laidLooks := .later }
def ShiftBackCardSaid : Prop := Claim7.holds Tryd.pinned (.plain (OpenSpec.ofChange shiftBackSpec)) shiftBackCard

/-- THE TIED CARD OF 'descantlaw18.ShiftForms'. -/
def shiftFormsCard : Claim7 := { stood := { row := shiftFormsRow, standIns := [], harness := (true, "cf968c585d420f76f8fd05cce59edad1c9c44ab1a80e0b2b1f4d9779978a2016"), looks := false }, kinds := [], alts := [], laidByText := true, laidKinds := [.data, .data], laidTests := true, laidLooks := .later }
def ShiftFormsCardSaid : Prop := Claim7.holds Tryd.pinned (.plain (OpenSpec.ofChange shiftFormsSpec)) shiftFormsCard

/-- THE TIED CARD OF 'descantlaw18.ShiftMore'. -/
def shiftMoreCard : Claim7 := { stood := { row := shiftMoreRow, standIns := [], harness := (true, "cf968c585d420f76f8fd05cce59edad1c9c44ab1a80e0b2b1f4d9779978a2016"), looks := false }, kinds := [], alts := [], laidByText := true, laidKinds := [.data, .data], laidTests := true, laidLooks := .later }
def ShiftMoreCardSaid : Prop := Claim7.holds Tryd.pinned (.plain (OpenSpec.ofChange shiftMoreSpec)) shiftMoreCard

/-- THE TIED CARD OF 'descantlaw18.ShiftTwice'. -/
def shiftTwiceCard : Claim7 := { stood := { row := shiftTwiceRow, standIns := [], harness := (true, "cf968c585d420f76f8fd05cce59edad1c9c44ab1a80e0b2b1f4d9779978a2016"), looks := false }, kinds := [], alts := [], laidByText := true, laidKinds := [.data, .data], laidTests := true, laidLooks := .later }
def ShiftTwiceCardSaid : Prop := Claim7.holds Tryd.pinned (.plain (OpenSpec.ofChange shiftTwiceSpec)) shiftTwiceCard

/-- THE TIED CARD OF 'descantlaw18.ShiftRow'. -/
def shiftRowCard : Claim7 := { stood := { row := shiftRowRow, standIns := [], harness := (true, "cf968c585d420f76f8fd05cce59edad1c9c44ab1a80e0b2b1f4d9779978a2016"), looks := false }, kinds := [], alts := [], laidByText := true, laidKinds := [.data, .data], laidTests := true, laidLooks := .later }
def ShiftRowCardSaid : Prop := Claim7.holds Tryd.pinned (.plain (OpenSpec.ofChange shiftRowSpec)) shiftRowCard

/-- THE SECOND FORM's CARD OF 'descantlaw18.Shifts'. -/
def shiftsUptoCard : Claim7 := { stood := { row := shiftsUptoRow, standIns := [], harness := (true, "cf968c585d420f76f8fd05cce59edad1c9c44ab1a80e0b2b1f4d9779978a2016"), looks := false }, kinds := [], alts := [], laidByText := true, laidKinds := [.data, .data], laidTests := true, laidLooks := .later }
def ShiftsUptoCardSaid : Prop := Claim7.holds Tryd.pinned (.plain (OpenSpec.upto shiftsSpec)) shiftsUptoCard

/-- THE SECOND FORM's CARD OF 'descantlaw18.ShiftBack'. -/
def shiftBackUptoCard : Claim7 := { stood := { row := shiftBackUptoRow, standIns := [], harness := (true, "cf968c585d420f76f8fd05cce59edad1c9c44ab1a80e0b2b1f4d9779978a2016"), looks := false }, kinds := [], alts := [], laidByText := true, laidKinds := [.data, .data], laidTests := true, laidLooks := .later }
def ShiftBackUptoCardSaid : Prop := Claim7.holds Tryd.pinned (.plain (OpenSpec.upto shiftBackSpec)) shiftBackUptoCard

/-- THE SECOND FORM's CARD OF 'descantlaw18.ShiftForms'. -/
def shiftFormsUptoCard : Claim7 := { stood := { row := shiftFormsUptoRow, standIns := [], harness := (true, "cf968c585d420f76f8fd05cce59edad1c9c44ab1a80e0b2b1f4d9779978a2016"), looks := false }, kinds := [], alts := [], laidByText := true, laidKinds := [.data, .data], laidTests := true, laidLooks := .later }
def ShiftFormsUptoCardSaid : Prop := Claim7.holds Tryd.pinned (.plain (OpenSpec.upto shiftFormsSpec)) shiftFormsUptoCard

/-- THE SECOND FORM's CARD OF 'descantlaw18.ShiftMore'. -/
def shiftMoreUptoCard : Claim7 := { stood := { row := shiftMoreUptoRow, standIns := [], harness := (true, "cf968c585d420f76f8fd05cce59edad1c9c44ab1a80e0b2b1f4d9779978a2016"), looks := false }, kinds := [], alts := [], laidByText := true, laidKinds := [.data, .data], laidTests := true, laidLooks := .later }
def ShiftMoreUptoCardSaid : Prop := Claim7.holds Tryd.pinned (.plain (OpenSpec.upto shiftMoreSpec)) shiftMoreUptoCard

/-- THE SECOND FORM's CARD OF 'descantlaw18.ShiftTwice'. -/
def shiftTwiceUptoCard : Claim7 := { stood := { row := shiftTwiceUptoRow, standIns := [], harness := (true, "cf968c585d420f76f8fd05cce59edad1c9c44ab1a80e0b2b1f4d9779978a2016"), looks := false }, kinds := [], alts := [], laidByText := true, laidKinds := [.data, .data], laidTests := true, laidLooks := .later }
def ShiftTwiceUptoCardSaid : Prop := Claim7.holds Tryd.pinned (.plain (OpenSpec.upto shiftTwiceSpec)) shiftTwiceUptoCard

/-- THE SECOND FORM's CARD OF 'descantlaw18.ShiftRow'. -/
def shiftRowUptoCard : Claim7 := { stood := { row := shiftRowUptoRow, standIns := [], harness := (true, "cf968c585d420f76f8fd05cce59edad1c9c44ab1a80e0b2b1f4d9779978a2016"), looks := false }, kinds := [], alts := [], laidByText := true, laidKinds := [.data, .data], laidTests := true, laidLooks := .later }
def ShiftRowUptoCardSaid : Prop := Claim7.holds Tryd.pinned (.plain (OpenSpec.upto shiftRowSpec)) shiftRowUptoCard
end Rows
end Go.Proofs.YtakjcfndinnffaaDoor
