/-
  No cell of these rows narrows 'for every input' (looked for: loops, veiled, ifaces, maps, wideKeys, modest, calm, conditions, laid).
  DERIVED. THE GIVEN ROWS OF THIS SEAT. 8 by the template 'for every input the law returns true; each argument reads behind the call as it read before'; 0 by the template 'total and deterministic' (their statements: YthiknekmgjnkdaaTotals.lean).
  GIVEN WITH THE SEED: the statements are not yours to turn. If you find one false, say at which input.
  Laid BY PROGRAM, IN A SANDBOX (cutbox-rows.mjs): the forced cells as the released guide's own fill.sh prints them over the translation 0d61383a5c95a04e… (all of the seat's roots in one cut). By AI agents, Wed Nov 11 2026. No macro, syntax, notation, axiom, sorry.
-/
import Derived.Test.YthiknekmgjnkdaaChecked
import GoSem.Claim
import GoSem.ClaimJoined
import GoSem.ClaimMapViews
import Derived.JoinedTies
import Derived.KernelRfl
namespace Go.Proofs.Ythiknekmgjnkdaa
/- THE CELL 'sum', in the pinned program and in every row, IS THE sha256 OF THE DUMP (.gsa) THAT YthiknekmgjnkdaaProg.lean LOADS. Nothing in Lean hashes anything: it is a label: what it is worth is what the hold of that sum in a sandbox is worth. -/
noncomputable def Try.pinned : Pinned := { name := "ythiknekmgjnkdaa", sum := "0d61383a5c95a04e167c3585d759d2850c912d3a50883448d684a58571616e3f", checked := Try.checked }
namespace Rows
def none {H : Type} : Left H := { results := [], args := [] }

/-- 'descantlaw19.Pcms': WHATEVER THE INPUT: true; the input reads as it did. -/
def pcmsSpec : ChangeSpec := { name := "pcms", fn := fun _ => fun
  | [d1, d2, d3] => { results := [.lit (.bool true)], args := [d1, d2, d3] }
  | _ => none }
def pcmsRow : OpenClaim := { program := "ythiknekmgjnkdaa", sum := "0d61383a5c95a04e167c3585d759d2850c912d3a50883448d684a58571616e3f", func := "descant/descantlaw19.Pcms", spec := "pcms", apart := false }
def PcmsSaid : Prop := pcmsRow.holds Try.pinned (OpenSpec.ofChange pcmsSpec)

/-- ITS FALSE NEIGHBOUR: 'it returns false'. Refute it at one input. -/
def pcmsWrong : ChangeSpec := { name := "pcms", fn := fun _ => fun
  | [d1, d2, d3] => { results := [.lit (.bool false)], args := [d1, d2, d3] }
  | _ => none }
def PcmsWrongFalsely : Prop := pcmsRow.holds Try.pinned (OpenSpec.ofChange pcmsWrong)

/-- 'descantlaw19.PcmForms': WHATEVER THE INPUT: true; the input reads as it did. -/
def pcmFormsSpec : ChangeSpec := { name := "pcmForms", fn := fun _ => fun
  | [d1, d2] => { results := [.lit (.bool true)], args := [d1, d2] }
  | _ => none }
def pcmFormsRow : OpenClaim := { program := "ythiknekmgjnkdaa", sum := "0d61383a5c95a04e167c3585d759d2850c912d3a50883448d684a58571616e3f", func := "descant/descantlaw19.PcmForms", spec := "pcmForms", apart := false }
def PcmFormsSaid : Prop := pcmFormsRow.holds Try.pinned (OpenSpec.ofChange pcmFormsSpec)

/-- ITS FALSE NEIGHBOUR: 'it returns false'. Refute it at one input. -/
def pcmFormsWrong : ChangeSpec := { name := "pcmForms", fn := fun _ => fun
  | [d1, d2] => { results := [.lit (.bool false)], args := [d1, d2] }
  | _ => none }
def PcmFormsWrongFalsely : Prop := pcmFormsRow.holds Try.pinned (OpenSpec.ofChange pcmFormsWrong)

/-- 'descantlaw19.PcmFrames': WHATEVER THE INPUT: true; the input reads as it did. -/
def pcmFramesSpec : ChangeSpec := { name := "pcmFrames", fn := fun _ => fun
  | [d1, d2, d3] => { results := [.lit (.bool true)], args := [d1, d2, d3] }
  | _ => none }
def pcmFramesRow : OpenClaim := { program := "ythiknekmgjnkdaa", sum := "0d61383a5c95a04e167c3585d759d2850c912d3a50883448d684a58571616e3f", func := "descant/descantlaw19.PcmFrames", spec := "pcmFrames", apart := false }
def PcmFramesSaid : Prop := pcmFramesRow.holds Try.pinned (OpenSpec.ofChange pcmFramesSpec)

/-- ITS FALSE NEIGHBOUR: 'it returns false'. Refute it at one input. -/
def pcmFramesWrong : ChangeSpec := { name := "pcmFrames", fn := fun _ => fun
  | [d1, d2, d3] => { results := [.lit (.bool false)], args := [d1, d2, d3] }
  | _ => none }
def PcmFramesWrongFalsely : Prop := pcmFramesRow.holds Try.pinned (OpenSpec.ofChange pcmFramesWrong)

/-- 'descantlaw19.PcmJoin': WHATEVER THE INPUT: true; the input reads as it did. -/
def pcmJoinSpec : ChangeSpec := { name := "pcmJoin", fn := fun _ => fun
  | [d1, d2, d3] => { results := [.lit (.bool true)], args := [d1, d2, d3] }
  | _ => none }
def pcmJoinRow : OpenClaim := { program := "ythiknekmgjnkdaa", sum := "0d61383a5c95a04e167c3585d759d2850c912d3a50883448d684a58571616e3f", func := "descant/descantlaw19.PcmJoin", spec := "pcmJoin", apart := false }
def PcmJoinSaid : Prop := pcmJoinRow.holds Try.pinned (OpenSpec.ofChange pcmJoinSpec)

/-- ITS FALSE NEIGHBOUR: 'it returns false'. Refute it at one input. -/
def pcmJoinWrong : ChangeSpec := { name := "pcmJoin", fn := fun _ => fun
  | [d1, d2, d3] => { results := [.lit (.bool false)], args := [d1, d2, d3] }
  | _ => none }
def PcmJoinWrongFalsely : Prop := pcmJoinRow.holds Try.pinned (OpenSpec.ofChange pcmJoinWrong)

/-- 'descantlaw17.Sides': WHATEVER THE INPUT: true; the input reads as it did. -/
def sidesSpec : ChangeSpec := { name := "sides", fn := fun _ => fun
  | [d] => { results := [.lit (.bool true)], args := [d] }
  | _ => none }
def sidesRow : OpenClaim := { program := "ythiknekmgjnkdaa", sum := "0d61383a5c95a04e167c3585d759d2850c912d3a50883448d684a58571616e3f", func := "descant/descantlaw17.Sides", spec := "sides", unfollowed := true, recurses := true, apart := false }
def SidesSaid : Prop := sidesRow.holds Try.pinned (OpenSpec.ofChange sidesSpec)

/-- ITS FALSE NEIGHBOUR: 'it returns false'. Refute it at one input. -/
def sidesWrong : ChangeSpec := { name := "sides", fn := fun _ => fun
  | [d] => { results := [.lit (.bool false)], args := [d] }
  | _ => none }
def SidesWrongFalsely : Prop := sidesRow.holds Try.pinned (OpenSpec.ofChange sidesWrong)

/-- 'descantlaw17.SideForms': WHATEVER THE INPUT: true; the input reads as it did. -/
def sideFormsSpec : ChangeSpec := { name := "sideForms", fn := fun _ => fun
  | [d1, d2] => { results := [.lit (.bool true)], args := [d1, d2] }
  | _ => none }
def sideFormsRow : OpenClaim := { program := "ythiknekmgjnkdaa", sum := "0d61383a5c95a04e167c3585d759d2850c912d3a50883448d684a58571616e3f", func := "descant/descantlaw17.SideForms", spec := "sideForms", unfollowed := true, recurses := true, apart := false }
def SideFormsSaid : Prop := sideFormsRow.holds Try.pinned (OpenSpec.ofChange sideFormsSpec)

/-- ITS FALSE NEIGHBOUR: 'it returns false'. Refute it at one input. -/
def sideFormsWrong : ChangeSpec := { name := "sideForms", fn := fun _ => fun
  | [d1, d2] => { results := [.lit (.bool false)], args := [d1, d2] }
  | _ => none }
def SideFormsWrongFalsely : Prop := sideFormsRow.holds Try.pinned (OpenSpec.ofChange sideFormsWrong)

/-- 'descantlaw17.SideOne': WHATEVER THE INPUT: true; the input reads as it did. -/
def sideOneSpec : ChangeSpec := { name := "sideOne", fn := fun _ => fun
  | [d] => { results := [.lit (.bool true)], args := [d] }
  | _ => none }
def sideOneRow : OpenClaim := { program := "ythiknekmgjnkdaa", sum := "0d61383a5c95a04e167c3585d759d2850c912d3a50883448d684a58571616e3f", func := "descant/descantlaw17.SideOne", spec := "sideOne", unfollowed := true, recurses := true, apart := false }
def SideOneSaid : Prop := sideOneRow.holds Try.pinned (OpenSpec.ofChange sideOneSpec)

/-- ITS FALSE NEIGHBOUR: 'it returns false'. Refute it at one input. -/
def sideOneWrong : ChangeSpec := { name := "sideOne", fn := fun _ => fun
  | [d] => { results := [.lit (.bool false)], args := [d] }
  | _ => none }
def SideOneWrongFalsely : Prop := sideOneRow.holds Try.pinned (OpenSpec.ofChange sideOneWrong)

/-- 'descantlaw17.SideSwap': WHATEVER THE INPUT: true; the input reads as it did. -/
def sideSwapSpec : ChangeSpec := { name := "sideSwap", fn := fun _ => fun
  | [d1, d2] => { results := [.lit (.bool true)], args := [d1, d2] }
  | _ => none }
def sideSwapRow : OpenClaim := { program := "ythiknekmgjnkdaa", sum := "0d61383a5c95a04e167c3585d759d2850c912d3a50883448d684a58571616e3f", func := "descant/descantlaw17.SideSwap", spec := "sideSwap", unfollowed := true, recurses := true, apart := false }
def SideSwapSaid : Prop := sideSwapRow.holds Try.pinned (OpenSpec.ofChange sideSwapSpec)

/-- ITS FALSE NEIGHBOUR: 'it returns false'. Refute it at one input. -/
def sideSwapWrong : ChangeSpec := { name := "sideSwap", fn := fun _ => fun
  | [d1, d2] => { results := [.lit (.bool false)], args := [d1, d2] }
  | _ => none }
def SideSwapWrongFalsely : Prop := sideSwapRow.holds Try.pinned (OpenSpec.ofChange sideSwapWrong)

/- THE SECOND FORM. 'bulk': how many values and letters a reading holds, each counted each time it is reached (what is shared counts as often as it is met; a slice's spare places count too). A statement '..UptoSaid' is the law's where the arguments, and the package variables that the reading takes, are together of bulk at most 1048576: NARROWER than '..Said'. Prove '..Said' where nothing that the law and all that it calls make is longer than what came in: it says more and counts as full. Else prove '..UptoSaid'. A law counts once. -/
mutual
def uptoBulk {H : Type} : DataW H → Nat
  | .lit (.string bytes) => bytes.length + 1
  | .lit _ => 1
  | .nil => 1
  | .ptr d => uptoBulk d + 1
  | .slice elems spare => uptoBulkAll elems + uptoBulkAll spare + 1
  | .agg parts => uptoBulkAll parts + 1
  | .iface _ d => uptoBulk d + 1
  | .map entries => uptoBulkEntries entries + 1
  | .held _ => 1
def uptoBulkAll {H : Type} : List (DataW H) → Nat
  | [] => 0
  | d :: r => uptoBulk d + uptoBulkAll r
def uptoBulkEntries {H : Type} : List (Lit × DataW H) → Nat
  | [] => 0
  | x :: r => uptoBulkEntry x + uptoBulkEntries r
def uptoBulkEntry {H : Type} : Lit × DataW H → Nat
  | (.string bytes, d) => bytes.length + uptoBulk d + 1
  | (_, d) => uptoBulk d + 1
 end
def uptoSmall : (H : Type) → List (DataW H) → Bool := fun _ ds => decide (uptoBulkAll ds ≤ 1048576)
def OpenSpec.upto (s : _root_.Go.ChangeSpec) : _root_.Go.OpenSpec := { _root_.Go.OpenSpec.ofChange s with cond := some uptoSmall }

/-- 'descantlaw19.Pcms', WHERE WHAT IT READS IS OF BULK AT MOST 1048576: true; the input reads as it did. -/
def pcmsUptoRow : OpenClaim := { program := "ythiknekmgjnkdaa", sum := "0d61383a5c95a04e167c3585d759d2850c912d3a50883448d684a58571616e3f", func := "descant/descantlaw19.Pcms", spec := "pcms", apart := false, narrowed := true }
def PcmsUptoSaid : Prop := pcmsUptoRow.holds Try.pinned (OpenSpec.upto pcmsSpec)

/-- 'descantlaw19.PcmForms', WHERE WHAT IT READS IS OF BULK AT MOST 1048576: true; the input reads as it did. -/
def pcmFormsUptoRow : OpenClaim := { program := "ythiknekmgjnkdaa", sum := "0d61383a5c95a04e167c3585d759d2850c912d3a50883448d684a58571616e3f", func := "descant/descantlaw19.PcmForms", spec := "pcmForms", apart := false, narrowed := true }
def PcmFormsUptoSaid : Prop := pcmFormsUptoRow.holds Try.pinned (OpenSpec.upto pcmFormsSpec)

/-- 'descantlaw19.PcmFrames', WHERE WHAT IT READS IS OF BULK AT MOST 1048576: true; the input reads as it did. -/
def pcmFramesUptoRow : OpenClaim := { program := "ythiknekmgjnkdaa", sum := "0d61383a5c95a04e167c3585d759d2850c912d3a50883448d684a58571616e3f", func := "descant/descantlaw19.PcmFrames", spec := "pcmFrames", apart := false, narrowed := true }
def PcmFramesUptoSaid : Prop := pcmFramesUptoRow.holds Try.pinned (OpenSpec.upto pcmFramesSpec)

/-- 'descantlaw19.PcmJoin', WHERE WHAT IT READS IS OF BULK AT MOST 1048576: true; the input reads as it did. -/
def pcmJoinUptoRow : OpenClaim := { program := "ythiknekmgjnkdaa", sum := "0d61383a5c95a04e167c3585d759d2850c912d3a50883448d684a58571616e3f", func := "descant/descantlaw19.PcmJoin", spec := "pcmJoin", apart := false, narrowed := true }
def PcmJoinUptoSaid : Prop := pcmJoinUptoRow.holds Try.pinned (OpenSpec.upto pcmJoinSpec)

/-- 'descantlaw17.Sides', WHERE WHAT IT READS IS OF BULK AT MOST 1048576: true; the input reads as it did. -/
def sidesUptoRow : OpenClaim := { program := "ythiknekmgjnkdaa", sum := "0d61383a5c95a04e167c3585d759d2850c912d3a50883448d684a58571616e3f", func := "descant/descantlaw17.Sides", spec := "sides", unfollowed := true, recurses := true, apart := false, narrowed := true }
def SidesUptoSaid : Prop := sidesUptoRow.holds Try.pinned (OpenSpec.upto sidesSpec)

/-- 'descantlaw17.SideForms', WHERE WHAT IT READS IS OF BULK AT MOST 1048576: true; the input reads as it did. -/
def sideFormsUptoRow : OpenClaim := { program := "ythiknekmgjnkdaa", sum := "0d61383a5c95a04e167c3585d759d2850c912d3a50883448d684a58571616e3f", func := "descant/descantlaw17.SideForms", spec := "sideForms", unfollowed := true, recurses := true, apart := false, narrowed := true }
def SideFormsUptoSaid : Prop := sideFormsUptoRow.holds Try.pinned (OpenSpec.upto sideFormsSpec)

/-- 'descantlaw17.SideOne', WHERE WHAT IT READS IS OF BULK AT MOST 1048576: true; the input reads as it did. -/
def sideOneUptoRow : OpenClaim := { program := "ythiknekmgjnkdaa", sum := "0d61383a5c95a04e167c3585d759d2850c912d3a50883448d684a58571616e3f", func := "descant/descantlaw17.SideOne", spec := "sideOne", unfollowed := true, recurses := true, apart := false, narrowed := true }
def SideOneUptoSaid : Prop := sideOneUptoRow.holds Try.pinned (OpenSpec.upto sideOneSpec)

/-- 'descantlaw17.SideSwap', WHERE WHAT IT READS IS OF BULK AT MOST 1048576: true; the input reads as it did. -/
def sideSwapUptoRow : OpenClaim := { program := "ythiknekmgjnkdaa", sum := "0d61383a5c95a04e167c3585d759d2850c912d3a50883448d684a58571616e3f", func := "descant/descantlaw17.SideSwap", spec := "sideSwap", unfollowed := true, recurses := true, apart := false, narrowed := true }
def SideSwapUptoSaid : Prop := sideSwapUptoRow.holds Try.pinned (OpenSpec.upto sideSwapSpec)

end Rows
end Go.Proofs.Ythiknekmgjnkdaa
