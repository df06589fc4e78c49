/-
  NARROWER THAN 'FOR EVERY INPUT', by the rows' own cells (each row's printed sentence says how): Shifts: laid · ShiftBack: laid · ShiftForms: laid · ShiftMore: laid · ShiftTwice: laid · ShiftRow: laid.
  DERIVED. THE GIVEN ROWS OF THIS SEAT. 6 by the template 'for every input the law returns true; each argument reads behind the call as it read before'; 0 by the template 'total and deterministic' (their statements: YtakjcfndinnffaaDoorTotals.lean).
  GIVEN WITH THE SEED: the statements are not yours to turn. If you find one false, say at which input.
  Laid BY PROGRAM, IN A SANDBOX (cutbox-rows.mjs): the forced cells as the released guide's own fill.sh prints them over the translation cc6a934b5d00f787… (all of the seat's roots in one cut). By AI agents, Wed Nov 11 2026. No macro, syntax, notation, axiom, sorry.
-/
import Derived.Test.YtakjcfndinnffaaDoorChecked
import GoSem.Claim
import GoSem.ClaimJoined
import GoSem.ClaimMapViews
import Derived.JoinedTies
import Derived.KernelRfl
namespace Go.Proofs.YtakjcfndinnffaaDoor
/- THE CELL 'sum', in the pinned program and in every row, IS THE sha256 OF THE DUMP (.gsa) THAT YtakjcfndinnffaaDoorProg.lean LOADS. Nothing in Lean hashes anything: it is a label: what it is worth is what the hold of that sum in a sandbox is worth. -/
noncomputable def Tryd.pinned : Pinned := { name := "ytakjcfndinnffaadoor", sum := "cc6a934b5d00f7872b277071639459c031395254b31d15db2b19f821a72d6821", checked := Tryd.checked }
namespace Rows
def none {H : Type} : Left H := { results := [], args := [] }

/- WHAT THE LISTED PACKAGE-LEVEL VARIABLES READ AS WHEN THE CALL BEGINS. Each datum BY PROGRAM (the guide's laid-datum.mjs) off the statement by which the dump's own 'gosem.cut.vars' lays the variable. In a bare row this is a premise. The card (YtakjcfndinnffaaDoorCards.lean) ties it to the program's text. -/
def laid_math_bits_deBruijn32tab {H : Type} : DataW H := .agg [.lit (.int .u8 0), .lit (.int .u8 1), .lit (.int .u8 28), .lit (.int .u8 2), .lit (.int .u8 29), .lit (.int .u8 14), .lit (.int .u8 24), .lit (.int .u8 3), .lit (.int .u8 30), .lit (.int .u8 22), .lit (.int .u8 20), .lit (.int .u8 15), .lit (.int .u8 25), .lit (.int .u8 17), .lit (.int .u8 4), .lit (.int .u8 8), .lit (.int .u8 31), .lit (.int .u8 27), .lit (.int .u8 13), .lit (.int .u8 23), .lit (.int .u8 21), .lit (.int .u8 19), .lit (.int .u8 16), .lit (.int .u8 7), .lit (.int .u8 26), .lit (.int .u8 12), .lit (.int .u8 18), .lit (.int .u8 6), .lit (.int .u8 11), .lit (.int .u8 5), .lit (.int .u8 10), .lit (.int .u8 9)]
def laid_math_bits_deBruijn64tab {H : Type} : DataW H := .agg [.lit (.int .u8 0), .lit (.int .u8 1), .lit (.int .u8 56), .lit (.int .u8 2), .lit (.int .u8 57), .lit (.int .u8 49), .lit (.int .u8 28), .lit (.int .u8 3), .lit (.int .u8 61), .lit (.int .u8 58), .lit (.int .u8 42), .lit (.int .u8 50), .lit (.int .u8 38), .lit (.int .u8 29), .lit (.int .u8 17), .lit (.int .u8 4), .lit (.int .u8 62), .lit (.int .u8 47), .lit (.int .u8 59), .lit (.int .u8 36), .lit (.int .u8 45), .lit (.int .u8 43), .lit (.int .u8 51), .lit (.int .u8 22), .lit (.int .u8 53), .lit (.int .u8 39), .lit (.int .u8 33), .lit (.int .u8 30), .lit (.int .u8 24), .lit (.int .u8 18), .lit (.int .u8 12), .lit (.int .u8 5), .lit (.int .u8 63), .lit (.int .u8 55), .lit (.int .u8 48), .lit (.int .u8 27), .lit (.int .u8 60), .lit (.int .u8 41), .lit (.int .u8 37), .lit (.int .u8 16), .lit (.int .u8 46), .lit (.int .u8 35), .lit (.int .u8 44), .lit (.int .u8 21), .lit (.int .u8 52), .lit (.int .u8 32), .lit (.int .u8 23), .lit (.int .u8 11), .lit (.int .u8 54), .lit (.int .u8 26), .lit (.int .u8 40), .lit (.int .u8 15), .lit (.int .u8 34), .lit (.int .u8 20), .lit (.int .u8 31), .lit (.int .u8 10), .lit (.int .u8 25), .lit (.int .u8 14), .lit (.int .u8 19), .lit (.int .u8 9), .lit (.int .u8 13), .lit (.int .u8 8), .lit (.int .u8 7), .lit (.int .u8 6)]

/-- 'descantlaw18.Shifts': WHATEVER THE INPUT: true; the input reads as it did. -/
def shiftsSpec : ChangeSpec := { name := "shifts", fn := fun _ => fun
  | [d1, d2] => { results := [.lit (.bool true)], args := [d1, d2] }
  | _ => none }
def shiftsRow : OpenClaim := { program := "ytakjcfndinnffaadoor", sum := "cc6a934b5d00f7872b277071639459c031395254b31d15db2b19f821a72d6821", func := "descant/descantlaw18.Shifts", spec := "shifts", unfollowed := true, recurses := true, named := ["math/bits.deBruijn32tab", "math/bits.deBruijn64tab"], apart := false, laid := [("math/bits.deBruijn32tab", laid_math_bits_deBruijn32tab), ("math/bits.deBruijn64tab", laid_math_bits_deBruijn64tab)] }
def ShiftsSaid : Prop := shiftsRow.holds Tryd.pinned (OpenSpec.ofChange shiftsSpec)

/-- ITS FALSE NEIGHBOUR: 'it returns false'. Refute it at one input. -/
def shiftsWrong : ChangeSpec := { name := "shifts", fn := fun _ => fun
  | [d1, d2] => { results := [.lit (.bool false)], args := [d1, d2] }
  | _ => none }
def ShiftsWrongFalsely : Prop := shiftsRow.holds Tryd.pinned (OpenSpec.ofChange shiftsWrong)

/-- 'descantlaw18.ShiftBack': WHATEVER THE INPUT: true; the input reads as it did. -/
def shiftBackSpec : ChangeSpec := { name := "shiftBack", fn := fun _ => fun
  | [d1, d2] => { results := [.lit (.bool true)], args := [d1, d2] }
  | _ => none }
def shiftBackRow : OpenClaim := { program := "ytakjcfndinnffaadoor", sum := "cc6a934b5d00f7872b277071639459c031395254b31d15db2b19f821a72d6821", func := "descant/descantlaw18.ShiftBack", spec := "shiftBack", unfollowed := true, recurses := true, named := ["math/bits.deBruijn32tab", "math/bits.deBruijn64tab"], apart := false, laid := [("math/bits.deBruijn32tab", laid_math_bits_deBruijn32tab), ("math/bits.deBruijn64tab", laid_math_bits_deBruijn64tab)] }
def ShiftBackSaid : Prop := shiftBackRow.holds Tryd.pinned (OpenSpec.ofChange shiftBackSpec)

/-- ITS FALSE NEIGHBOUR: 'it returns false'. Refute it at one input. -/
def shiftBackWrong : ChangeSpec := { name := "shiftBack", fn := fun _ => fun
  | [d1, d2] => { results := [.lit (.bool false)], args := [d1, d2] }
  | _ => none }
def ShiftBackWrongFalsely : Prop := shiftBackRow.holds Tryd.pinned (OpenSpec.ofChange shiftBackWrong)

/-- 'descantlaw18.ShiftForms': WHATEVER THE INPUT: true; the input reads as it did. -/
def shiftFormsSpec : ChangeSpec := { name := "shiftForms", fn := fun _ => fun
  | [d1, d2] => { results := [.lit (.bool true)], args := [d1, d2] }
  | _ => none }
def shiftFormsRow : OpenClaim := { program := "ytakjcfndinnffaadoor", sum := "cc6a934b5d00f7872b277071639459c031395254b31d15db2b19f821a72d6821", func := "descant/descantlaw18.ShiftForms", spec := "shiftForms", unfollowed := true, recurses := true, named := ["math/bits.deBruijn32tab", "math/bits.deBruijn64tab"], apart := false, laid := [("math/bits.deBruijn32tab", laid_math_bits_deBruijn32tab), ("math/bits.deBruijn64tab", laid_math_bits_deBruijn64tab)] }
def ShiftFormsSaid : Prop := shiftFormsRow.holds Tryd.pinned (OpenSpec.ofChange shiftFormsSpec)

/-- ITS FALSE NEIGHBOUR: 'it returns false'. Refute it at one input. -/
def shiftFormsWrong : ChangeSpec := { name := "shiftForms", fn := fun _ => fun
  | [d1, d2] => { results := [.lit (.bool false)], args := [d1, d2] }
  | _ => none }
def ShiftFormsWrongFalsely : Prop := shiftFormsRow.holds Tryd.pinned (OpenSpec.ofChange shiftFormsWrong)

/-- 'descantlaw18.ShiftMore': WHATEVER THE INPUT: true; the input reads as it did. -/
def shiftMoreSpec : ChangeSpec := { name := "shiftMore", fn := fun _ => fun
  | [d1, d2] => { results := [.lit (.bool true)], args := [d1, d2] }
  | _ => none }
def shiftMoreRow : OpenClaim := { program := "ytakjcfndinnffaadoor", sum := "cc6a934b5d00f7872b277071639459c031395254b31d15db2b19f821a72d6821", func := "descant/descantlaw18.ShiftMore", spec := "shiftMore", unfollowed := true, recurses := true, named := ["math/bits.deBruijn32tab", "math/bits.deBruijn64tab"], apart := false, laid := [("math/bits.deBruijn32tab", laid_math_bits_deBruijn32tab), ("math/bits.deBruijn64tab", laid_math_bits_deBruijn64tab)] }
def ShiftMoreSaid : Prop := shiftMoreRow.holds Tryd.pinned (OpenSpec.ofChange shiftMoreSpec)

/-- ITS FALSE NEIGHBOUR: 'it returns false'. Refute it at one input. -/
def shiftMoreWrong : ChangeSpec := { name := "shiftMore", fn := fun _ => fun
  | [d1, d2] => { results := [.lit (.bool false)], args := [d1, d2] }
  | _ => none }
def ShiftMoreWrongFalsely : Prop := shiftMoreRow.holds Tryd.pinned (OpenSpec.ofChange shiftMoreWrong)

/-- 'descantlaw18.ShiftTwice': WHATEVER THE INPUT: true; the input reads as it did. -/
def shiftTwiceSpec : ChangeSpec := { name := "shiftTwice", fn := fun _ => fun
  | [d1, d2, d3] => { results := [.lit (.bool true)], args := [d1, d2, d3] }
  | _ => none }
def shiftTwiceRow : OpenClaim := { program := "ytakjcfndinnffaadoor", sum := "cc6a934b5d00f7872b277071639459c031395254b31d15db2b19f821a72d6821", func := "descant/descantlaw18.ShiftTwice", spec := "shiftTwice", unfollowed := true, recurses := true, named := ["math/bits.deBruijn32tab", "math/bits.deBruijn64tab"], apart := false, laid := [("math/bits.deBruijn32tab", laid_math_bits_deBruijn32tab), ("math/bits.deBruijn64tab", laid_math_bits_deBruijn64tab)] }
def ShiftTwiceSaid : Prop := shiftTwiceRow.holds Tryd.pinned (OpenSpec.ofChange shiftTwiceSpec)

/-- ITS FALSE NEIGHBOUR: 'it returns false'. Refute it at one input. -/
def shiftTwiceWrong : ChangeSpec := { name := "shiftTwice", fn := fun _ => fun
  | [d1, d2, d3] => { results := [.lit (.bool false)], args := [d1, d2, d3] }
  | _ => none }
def ShiftTwiceWrongFalsely : Prop := shiftTwiceRow.holds Tryd.pinned (OpenSpec.ofChange shiftTwiceWrong)

/-- 'descantlaw18.ShiftRow': WHATEVER THE INPUT: true; the input reads as it did. -/
def shiftRowSpec : ChangeSpec := { name := "shiftRow", fn := fun _ => fun
  | [d1, d2] => { results := [.lit (.bool true)], args := [d1, d2] }
  | _ => none }
def shiftRowRow : OpenClaim := { program := "ytakjcfndinnffaadoor", sum := "cc6a934b5d00f7872b277071639459c031395254b31d15db2b19f821a72d6821", func := "descant/descantlaw18.ShiftRow", spec := "shiftRow", unfollowed := true, recurses := true, named := ["math/bits.deBruijn32tab", "math/bits.deBruijn64tab"], apart := false, laid := [("math/bits.deBruijn32tab", laid_math_bits_deBruijn32tab), ("math/bits.deBruijn64tab", laid_math_bits_deBruijn64tab)] }
def ShiftRowSaid : Prop := shiftRowRow.holds Tryd.pinned (OpenSpec.ofChange shiftRowSpec)

/-- ITS FALSE NEIGHBOUR: 'it returns false'. Refute it at one input. -/
def shiftRowWrong : ChangeSpec := { name := "shiftRow", fn := fun _ => fun
  | [d1, d2] => { results := [.lit (.bool false)], args := [d1, d2] }
  | _ => none }
def ShiftRowWrongFalsely : Prop := shiftRowRow.holds Tryd.pinned (OpenSpec.ofChange shiftRowWrong)

/- THE SECOND FORM. 'bulk': how many values and letters a reading holds, each counted each time it is reached (what is shared counts as often as it is met; a slice's spare places count too). A statement '..UptoSaid' is the law's where the arguments, and the package variables that the reading takes, are together of bulk at most 1048576: NARROWER than '..Said'. Prove '..Said' where nothing that the law and all that it calls make is longer than what came in: it says more and counts as full. Else prove '..UptoSaid'. A law counts once. -/
mutual
def uptoBulk {H : Type} : DataW H → Nat
  | .lit (.string bytes) => bytes.length + 1
  | .lit _ => 1
  | .nil => 1
  | .ptr d => uptoBulk d + 1
  | .slice elems spare => uptoBulkAll elems + uptoBulkAll spare + 1
  | .agg parts => uptoBulkAll parts + 1
  | .iface _ d => uptoBulk d + 1
  | .map entries => uptoBulkEntries entries + 1
  | .held _ => 1
def uptoBulkAll {H : Type} : List (DataW H) → Nat
  | [] => 0
  | d :: r => uptoBulk d + uptoBulkAll r
def uptoBulkEntries {H : Type} : List (Lit × DataW H) → Nat
  | [] => 0
  | x :: r => uptoBulkEntry x + uptoBulkEntries r
def uptoBulkEntry {H : Type} : Lit × DataW H → Nat
  | (.string bytes, d) => bytes.length + uptoBulk d + 1
  | (_, d) => uptoBulk d + 1
 end
def uptoSmall : (H : Type) → List (DataW H) → Bool := fun _ ds => decide (uptoBulkAll ds ≤ 1048576)
def OpenSpec.upto (s : _root_.Go.ChangeSpec) : _root_.Go.OpenSpec := { _root_.Go.OpenSpec.ofChange s with cond := some uptoSmall }

/-- 'descantlaw18.Shifts', WHERE WHAT IT READS IS OF BULK AT MOST 1048576: true; the input reads as it did. -/
def shiftsUptoRow : OpenClaim := { program := "ytakjcfndinnffaadoor", sum := "cc6a934b5d00f7872b277071639459c031395254b31d15db2b19f821a72d6821", func := "descant/descantlaw18.Shifts", spec := "shifts", unfollowed := true, recurses := true, named := ["math/bits.deBruijn32tab", "math/bits.deBruijn64tab"], apart := false, laid := [("math/bits.deBruijn32tab", laid_math_bits_deBruijn32tab), ("math/bits.deBruijn64tab", laid_math_bits_deBruijn64tab)], narrowed := true }
def ShiftsUptoSaid : Prop := shiftsUptoRow.holds Tryd.pinned (OpenSpec.upto shiftsSpec)

/-- 'descantlaw18.ShiftBack', WHERE WHAT IT READS IS OF BULK AT MOST 1048576: true; the input reads as it did. -/
def shiftBackUptoRow : OpenClaim := { program := "ytakjcfndinnffaadoor", sum := "cc6a934b5d00f7872b277071639459c031395254b31d15db2b19f821a72d6821", func := "descant/descantlaw18.ShiftBack", spec := "shiftBack", unfollowed := true, recurses := true, named := ["math/bits.deBruijn32tab", "math/bits.deBruijn64tab"], apart := false, laid := [("math/bits.deBruijn32tab", laid_math_bits_deBruijn32tab), ("math/bits.deBruijn64tab", laid_math_bits_deBruijn64tab)], narrowed := true }
def ShiftBackUptoSaid : Prop := shiftBackUptoRow.holds Tryd.pinned (OpenSpec.upto shiftBackSpec)

/-- 'descantlaw18.ShiftForms', WHERE WHAT IT READS IS OF BULK AT MOST 1048576: true; the input reads as it did. -/
def shiftFormsUptoRow : OpenClaim := { program := "ytakjcfndinnffaadoor", sum := "cc6a934b5d00f7872b277071639459c031395254b31d15db2b19f821a72d6821", func := "descant/descantlaw18.ShiftForms", spec := "shiftForms", unfollowed := true, recurses := true, named := ["math/bits.deBruijn32tab", "math/bits.deBruijn64tab"], apart := false, laid := [("math/bits.deBruijn32tab", laid_math_bits_deBruijn32tab), ("math/bits.deBruijn64tab", laid_math_bits_deBruijn64tab)], narrowed := true }
def ShiftFormsUptoSaid : Prop := shiftFormsUptoRow.holds Tryd.pinned (OpenSpec.upto shiftFormsSpec)

/-- 'descantlaw18.ShiftMore', WHERE WHAT IT READS IS OF BULK AT MOST 1048576: true; the input reads as it did. -/
def shiftMoreUptoRow : OpenClaim := { program := "ytakjcfndinnffaadoor", sum := "cc6a934b5d00f7872b277071639459c031395254b31d15db2b19f821a72d6821", func := "descant/descantlaw18.ShiftMore", spec := "shiftMore", unfollowed := true, recurses := true, named := ["math/bits.deBruijn32tab", "math/bits.deBruijn64tab"], apart := false, laid := [("math/bits.deBruijn32tab", laid_math_bits_deBruijn32tab), ("math/bits.deBruijn64tab", laid_math_bits_deBruijn64tab)], narrowed := true }
def ShiftMoreUptoSaid : Prop := shiftMoreUptoRow.holds Tryd.pinned (OpenSpec.upto shiftMoreSpec)

/-- 'descantlaw18.ShiftTwice', WHERE WHAT IT READS IS OF BULK AT MOST 1048576: true; the input reads as it did. -/
def shiftTwiceUptoRow : OpenClaim := { program := "ytakjcfndinnffaadoor", sum := "cc6a934b5d00f7872b277071639459c031395254b31d15db2b19f821a72d6821", func := "descant/descantlaw18.ShiftTwice", spec := "shiftTwice", unfollowed := true, recurses := true, named := ["math/bits.deBruijn32tab", "math/bits.deBruijn64tab"], apart := false, laid := [("math/bits.deBruijn32tab", laid_math_bits_deBruijn32tab), ("math/bits.deBruijn64tab", laid_math_bits_deBruijn64tab)], narrowed := true }
def ShiftTwiceUptoSaid : Prop := shiftTwiceUptoRow.holds Tryd.pinned (OpenSpec.upto shiftTwiceSpec)

/-- 'descantlaw18.ShiftRow', WHERE WHAT IT READS IS OF BULK AT MOST 1048576: true; the input reads as it did. -/
def shiftRowUptoRow : OpenClaim := { program := "ytakjcfndinnffaadoor", sum := "cc6a934b5d00f7872b277071639459c031395254b31d15db2b19f821a72d6821", func := "descant/descantlaw18.ShiftRow", spec := "shiftRow", unfollowed := true, recurses := true, named := ["math/bits.deBruijn32tab", "math/bits.deBruijn64tab"], apart := false, laid := [("math/bits.deBruijn32tab", laid_math_bits_deBruijn32tab), ("math/bits.deBruijn64tab", laid_math_bits_deBruijn64tab)], narrowed := true }
def ShiftRowUptoSaid : Prop := shiftRowUptoRow.holds Tryd.pinned (OpenSpec.upto shiftRowSpec)

end Rows
end Go.Proofs.YtakjcfndinnffaaDoor
