/-
  No cell of these rows narrows 'for every input' (looked for: loops, veiled, ifaces, maps, wideKeys, modest, calm, conditions, laid).
  DERIVED. THE GIVEN ROWS OF THIS SEAT. 5 by the template 'for every input the law returns true; each argument reads behind the call as it read before'; 0 by the template 'total and deterministic' (their statements: YtpojgfpfkfjegaaTotals.lean).
  GIVEN WITH THE SEED: the statements are not yours to turn. If you find one false, say at which input.
  Laid BY PROGRAM, IN A SANDBOX (cutbox-rows.mjs): the forced cells as the released guide's own fill.sh prints them over the translation 3d72568db9371de7… (all of the seat's roots in one cut). By AI agents, Wed Nov 11 2026. No macro, syntax, notation, axiom, sorry.
-/
import Derived.Test.YtpojgfpfkfjegaaChecked
import GoSem.Claim
import GoSem.ClaimJoined
import GoSem.ClaimMapViews
import Derived.JoinedTies
import Derived.KernelRfl
namespace Go.Proofs.Ytpojgfpfkfjegaa
/- THE CELL 'sum', in the pinned program and in every row, IS THE sha256 OF THE DUMP (.gsa) THAT YtpojgfpfkfjegaaProg.lean LOADS. Nothing in Lean hashes anything: it is a label: what it is worth is what the hold of that sum in a sandbox is worth. -/
noncomputable def Try.pinned : Pinned := { name := "ytpojgfpfkfjegaa", sum := "3d72568db9371de78ee19d890ce6bfa764149693e7c88deb21d64e77c5503f06", checked := Try.checked }
namespace Rows
def none {H : Type} : Left H := { results := [], args := [] }

/-- 'descantlaw16.Lines': WHATEVER THE INPUT: true; the input reads as it did. -/
def linesSpec : ChangeSpec := { name := "lines", fn := fun _ => fun
  | [d1, d2] => { results := [.lit (.bool true)], args := [d1, d2] }
  | _ => none }
def linesRow : OpenClaim := { program := "ytpojgfpfkfjegaa", sum := "3d72568db9371de78ee19d890ce6bfa764149693e7c88deb21d64e77c5503f06", func := "descant/descantlaw16.Lines", spec := "lines", unfollowed := true, recurses := true, apart := false }
def LinesSaid : Prop := linesRow.holds Try.pinned (OpenSpec.ofChange linesSpec)

/-- ITS FALSE NEIGHBOUR: 'it returns false'. Refute it at one input. -/
def linesWrong : ChangeSpec := { name := "lines", fn := fun _ => fun
  | [d1, d2] => { results := [.lit (.bool false)], args := [d1, d2] }
  | _ => none }
def LinesWrongFalsely : Prop := linesRow.holds Try.pinned (OpenSpec.ofChange linesWrong)

/-- 'descantlaw16.LineForms': WHATEVER THE INPUT: true; the input reads as it did. -/
def lineFormsSpec : ChangeSpec := { name := "lineForms", fn := fun _ => fun
  | [d1, d2] => { results := [.lit (.bool true)], args := [d1, d2] }
  | _ => none }
def lineFormsRow : OpenClaim := { program := "ytpojgfpfkfjegaa", sum := "3d72568db9371de78ee19d890ce6bfa764149693e7c88deb21d64e77c5503f06", func := "descant/descantlaw16.LineForms", spec := "lineForms", unfollowed := true, recurses := true, apart := false }
def LineFormsSaid : Prop := lineFormsRow.holds Try.pinned (OpenSpec.ofChange lineFormsSpec)

/-- ITS FALSE NEIGHBOUR: 'it returns false'. Refute it at one input. -/
def lineFormsWrong : ChangeSpec := { name := "lineForms", fn := fun _ => fun
  | [d1, d2] => { results := [.lit (.bool false)], args := [d1, d2] }
  | _ => none }
def LineFormsWrongFalsely : Prop := lineFormsRow.holds Try.pinned (OpenSpec.ofChange lineFormsWrong)

/-- 'descantlaw16.LinePrefix': WHATEVER THE INPUT: true; the input reads as it did. -/
def linePrefixSpec : ChangeSpec := { name := "linePrefix", fn := fun _ => fun
  | [d1, d2] => { results := [.lit (.bool true)], args := [d1, d2] }
  | _ => none }
def linePrefixRow : OpenClaim := { program := "ytpojgfpfkfjegaa", sum := "3d72568db9371de78ee19d890ce6bfa764149693e7c88deb21d64e77c5503f06", func := "descant/descantlaw16.LinePrefix", spec := "linePrefix", unfollowed := true, recurses := true, apart := false }
def LinePrefixSaid : Prop := linePrefixRow.holds Try.pinned (OpenSpec.ofChange linePrefixSpec)

/-- ITS FALSE NEIGHBOUR: 'it returns false'. Refute it at one input. -/
def linePrefixWrong : ChangeSpec := { name := "linePrefix", fn := fun _ => fun
  | [d1, d2] => { results := [.lit (.bool false)], args := [d1, d2] }
  | _ => none }
def LinePrefixWrongFalsely : Prop := linePrefixRow.holds Try.pinned (OpenSpec.ofChange linePrefixWrong)

/-- 'descantlaw16.LineStill': WHATEVER THE INPUT: true; the input reads as it did. -/
def lineStillSpec : ChangeSpec := { name := "lineStill", fn := fun _ => fun
  | [d1, d2] => { results := [.lit (.bool true)], args := [d1, d2] }
  | _ => none }
def lineStillRow : OpenClaim := { program := "ytpojgfpfkfjegaa", sum := "3d72568db9371de78ee19d890ce6bfa764149693e7c88deb21d64e77c5503f06", func := "descant/descantlaw16.LineStill", spec := "lineStill", unfollowed := true, recurses := true, apart := false }
def LineStillSaid : Prop := lineStillRow.holds Try.pinned (OpenSpec.ofChange lineStillSpec)

/-- ITS FALSE NEIGHBOUR: 'it returns false'. Refute it at one input. -/
def lineStillWrong : ChangeSpec := { name := "lineStill", fn := fun _ => fun
  | [d1, d2] => { results := [.lit (.bool false)], args := [d1, d2] }
  | _ => none }
def LineStillWrongFalsely : Prop := lineStillRow.holds Try.pinned (OpenSpec.ofChange lineStillWrong)

/-- 'descantlaw16.LineUnlike': WHATEVER THE INPUT: true; the input reads as it did. -/
def lineUnlikeSpec : ChangeSpec := { name := "lineUnlike", fn := fun _ => fun
  | [d1, d2, d3] => { results := [.lit (.bool true)], args := [d1, d2, d3] }
  | _ => none }
def lineUnlikeRow : OpenClaim := { program := "ytpojgfpfkfjegaa", sum := "3d72568db9371de78ee19d890ce6bfa764149693e7c88deb21d64e77c5503f06", func := "descant/descantlaw16.LineUnlike", spec := "lineUnlike", unfollowed := true, recurses := true, apart := false }
def LineUnlikeSaid : Prop := lineUnlikeRow.holds Try.pinned (OpenSpec.ofChange lineUnlikeSpec)

/-- ITS FALSE NEIGHBOUR: 'it returns false'. Refute it at one input. -/
def lineUnlikeWrong : ChangeSpec := { name := "lineUnlike", fn := fun _ => fun
  | [d1, d2, d3] => { results := [.lit (.bool false)], args := [d1, d2, d3] }
  | _ => none }
def LineUnlikeWrongFalsely : Prop := lineUnlikeRow.holds Try.pinned (OpenSpec.ofChange lineUnlikeWrong)

/- THE SECOND FORM. 'bulk': how many values and letters a reading holds, each counted each time it is reached (what is shared counts as often as it is met; a slice's spare places count too). A statement '..UptoSaid' is the law's where the arguments, and the package variables that the reading takes, are together of bulk at most 1048576: NARROWER than '..Said'. Prove '..Said' where nothing that the law and all that it calls make is longer than what came in: it says more and counts as full. Else prove '..UptoSaid'. A law counts once. -/
mutual
def uptoBulk {H : Type} : DataW H → Nat
  | .lit (.string bytes) => bytes.length + 1
  | .lit _ => 1
  | .nil => 1
  | .ptr d => uptoBulk d + 1
  | .slice elems spare => uptoBulkAll elems + uptoBulkAll spare + 1
  | .agg parts => uptoBulkAll parts + 1
  | .iface _ d => uptoBulk d + 1
  | .map entries => uptoBulkEntries entries + 1
  | .held _ => 1
def uptoBulkAll {H : Type} : List (DataW H) → Nat
  | [] => 0
  | d :: r => uptoBulk d + uptoBulkAll r
def uptoBulkEntries {H : Type} : List (Lit × DataW H) → Nat
  | [] => 0
  | x :: r => uptoBulkEntry x + uptoBulkEntries r
def uptoBulkEntry {H : Type} : Lit × DataW H → Nat
  | (.string bytes, d) => bytes.length + uptoBulk d + 1
  | (_, d) => uptoBulk d + 1
 end
def uptoSmall : (H : Type) → List (DataW H) → Bool := fun _ ds => decide (uptoBulkAll ds ≤ 1048576)
def OpenSpec.upto (s : _root_.Go.ChangeSpec) : _root_.Go.OpenSpec := { _root_.Go.OpenSpec.ofChange s with cond := some uptoSmall }

/-- 'descantlaw16.Lines', WHERE WHAT IT READS IS OF BULK AT MOST 1048576: true; the input reads as it did. -/
def linesUptoRow : OpenClaim := { program := "ytpojgfpfkfjegaa", sum := "3d72568db9371de78ee19d890ce6bfa764149693e7c88deb21d64e77c5503f06", func := "descant/descantlaw16.Lines", spec := "lines", unfollowed := true, recurses := true, apart := false, narrowed := true }
def LinesUptoSaid : Prop := linesUptoRow.holds Try.pinned (OpenSpec.upto linesSpec)

/-- 'descantlaw16.LineForms', WHERE WHAT IT READS IS OF BULK AT MOST 1048576: true; the input reads as it did. -/
def lineFormsUptoRow : OpenClaim := { program := "ytpojgfpfkfjegaa", sum := "3d72568db9371de78ee19d890ce6bfa764149693e7c88deb21d64e77c5503f06", func := "descant/descantlaw16.LineForms", spec := "lineForms", unfollowed := true, recurses := true, apart := false, narrowed := true }
def LineFormsUptoSaid : Prop := lineFormsUptoRow.holds Try.pinned (OpenSpec.upto lineFormsSpec)

/-- 'descantlaw16.LinePrefix', WHERE WHAT IT READS IS OF BULK AT MOST 1048576: true; the input reads as it did. -/
def linePrefixUptoRow : OpenClaim := { program := "ytpojgfpfkfjegaa", sum := "3d72568db9371de78ee19d890ce6bfa764149693e7c88deb21d64e77c5503f06", func := "descant/descantlaw16.LinePrefix", spec := "linePrefix", unfollowed := true, recurses := true, apart := false, narrowed := true }
def LinePrefixUptoSaid : Prop := linePrefixUptoRow.holds Try.pinned (OpenSpec.upto linePrefixSpec)

/-- 'descantlaw16.LineStill', WHERE WHAT IT READS IS OF BULK AT MOST 1048576: true; the input reads as it did. -/
def lineStillUptoRow : OpenClaim := { program := "ytpojgfpfkfjegaa", sum := "3d72568db9371de78ee19d890ce6bfa764149693e7c88deb21d64e77c5503f06", func := "descant/descantlaw16.LineStill", spec := "lineStill", unfollowed := true, recurses := true, apart := false, narrowed := true }
def LineStillUptoSaid : Prop := lineStillUptoRow.holds Try.pinned (OpenSpec.upto lineStillSpec)

/-- 'descantlaw16.LineUnlike', WHERE WHAT IT READS IS OF BULK AT MOST 1048576: true; the input reads as it did. -/
def lineUnlikeUptoRow : OpenClaim := { program := "ytpojgfpfkfjegaa", sum := "3d72568db9371de78ee19d890ce6bfa764149693e7c88deb21d64e77c5503f06", func := "descant/descantlaw16.LineUnlike", spec := "lineUnlike", unfollowed := true, recurses := true, apart := false, narrowed := true }
def LineUnlikeUptoSaid : Prop := lineUnlikeUptoRow.holds Try.pinned (OpenSpec.upto lineUnlikeSpec)

end Rows
end Go.Proofs.Ytpojgfpfkfjegaa
