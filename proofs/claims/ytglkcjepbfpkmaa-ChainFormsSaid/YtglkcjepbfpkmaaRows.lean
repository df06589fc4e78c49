/-
  No cell of these rows narrows 'for every input' (looked for: loops, veiled, ifaces, maps, wideKeys, modest, calm, conditions, laid).
  DERIVED. THE GIVEN ROWS OF THIS SEAT. 11 by the template 'for every input the law returns true; each argument reads behind the call as it read before'; 0 by the template 'total and deterministic' (their statements: YtglkcjepbfpkmaaTotals.lean).
  GIVEN WITH THE SEED: the statements are not yours to turn. If you find one false, say at which input.
  Laid BY PROGRAM, IN A SANDBOX (cutbox-rows.mjs): the forced cells as the released guide's own fill.sh prints them over the translation 56a5475b8e3d4960… (all of the seat's roots in one cut). By AI agents, Wed Nov 11 2026. No macro, syntax, notation, axiom, sorry.
-/
import Derived.Test.YtglkcjepbfpkmaaChecked
import GoSem.Claim
import GoSem.ClaimJoined
import GoSem.ClaimMapViews
import Derived.JoinedTies
import Derived.KernelRfl
namespace Go.Proofs.Ytglkcjepbfpkmaa
/- THE CELL 'sum', in the pinned program and in every row, IS THE sha256 OF THE DUMP (.gsa) THAT YtglkcjepbfpkmaaProg.lean LOADS. Nothing in Lean hashes anything: it is a label: what it is worth is what the hold of that sum in a sandbox is worth. -/
noncomputable def Try.pinned : Pinned := { name := "ytglkcjepbfpkmaa", sum := "56a5475b8e3d4960c9371e6eb81915addbff924f4f2b746856653468d1253c52", checked := Try.checked }
namespace Rows
def none {H : Type} : Left H := { results := [], args := [] }

/-- 'descantlaw14.Lmses': WHATEVER THE INPUT: true; the input reads as it did. -/
def lmsesSpec : ChangeSpec := { name := "lmses", fn := fun _ => fun
  | [d1, d2] => { results := [.lit (.bool true)], args := [d1, d2] }
  | _ => none }
def lmsesRow : OpenClaim := { program := "ytglkcjepbfpkmaa", sum := "56a5475b8e3d4960c9371e6eb81915addbff924f4f2b746856653468d1253c52", func := "descant/descantlaw14.Lmses", spec := "lmses", apart := false }
def LmsesSaid : Prop := lmsesRow.holds Try.pinned (OpenSpec.ofChange lmsesSpec)

/-- ITS FALSE NEIGHBOUR: 'it returns false'. Refute it at one input. -/
def lmsesWrong : ChangeSpec := { name := "lmses", fn := fun _ => fun
  | [d1, d2] => { results := [.lit (.bool false)], args := [d1, d2] }
  | _ => none }
def LmsesWrongFalsely : Prop := lmsesRow.holds Try.pinned (OpenSpec.ofChange lmsesWrong)

/-- 'descantlaw14.LmsForms': WHATEVER THE INPUT: true; the input reads as it did. -/
def lmsFormsSpec : ChangeSpec := { name := "lmsForms", fn := fun _ => fun
  | [d1, d2] => { results := [.lit (.bool true)], args := [d1, d2] }
  | _ => none }
def lmsFormsRow : OpenClaim := { program := "ytglkcjepbfpkmaa", sum := "56a5475b8e3d4960c9371e6eb81915addbff924f4f2b746856653468d1253c52", func := "descant/descantlaw14.LmsForms", spec := "lmsForms", apart := false }
def LmsFormsSaid : Prop := lmsFormsRow.holds Try.pinned (OpenSpec.ofChange lmsFormsSpec)

/-- ITS FALSE NEIGHBOUR: 'it returns false'. Refute it at one input. -/
def lmsFormsWrong : ChangeSpec := { name := "lmsForms", fn := fun _ => fun
  | [d1, d2] => { results := [.lit (.bool false)], args := [d1, d2] }
  | _ => none }
def LmsFormsWrongFalsely : Prop := lmsFormsRow.holds Try.pinned (OpenSpec.ofChange lmsFormsWrong)

/-- 'descantlaw14.LmsHistory': WHATEVER THE INPUT: true; the input reads as it did. -/
def lmsHistorySpec : ChangeSpec := { name := "lmsHistory", fn := fun _ => fun
  | [d] => { results := [.lit (.bool true)], args := [d] }
  | _ => none }
def lmsHistoryRow : OpenClaim := { program := "ytglkcjepbfpkmaa", sum := "56a5475b8e3d4960c9371e6eb81915addbff924f4f2b746856653468d1253c52", func := "descant/descantlaw14.LmsHistory", spec := "lmsHistory", apart := false }
def LmsHistorySaid : Prop := lmsHistoryRow.holds Try.pinned (OpenSpec.ofChange lmsHistorySpec)

/-- ITS FALSE NEIGHBOUR: 'it returns false'. Refute it at one input. -/
def lmsHistoryWrong : ChangeSpec := { name := "lmsHistory", fn := fun _ => fun
  | [d] => { results := [.lit (.bool false)], args := [d] }
  | _ => none }
def LmsHistoryWrongFalsely : Prop := lmsHistoryRow.holds Try.pinned (OpenSpec.ofChange lmsHistoryWrong)

/-- 'descantlaw14.LmsLearns': WHATEVER THE INPUT: true; the input reads as it did. -/
def lmsLearnsSpec : ChangeSpec := { name := "lmsLearns", fn := fun _ => fun
  | [d] => { results := [.lit (.bool true)], args := [d] }
  | _ => none }
def lmsLearnsRow : OpenClaim := { program := "ytglkcjepbfpkmaa", sum := "56a5475b8e3d4960c9371e6eb81915addbff924f4f2b746856653468d1253c52", func := "descant/descantlaw14.LmsLearns", spec := "lmsLearns", apart := false }
def LmsLearnsSaid : Prop := lmsLearnsRow.holds Try.pinned (OpenSpec.ofChange lmsLearnsSpec)

/-- ITS FALSE NEIGHBOUR: 'it returns false'. Refute it at one input. -/
def lmsLearnsWrong : ChangeSpec := { name := "lmsLearns", fn := fun _ => fun
  | [d] => { results := [.lit (.bool false)], args := [d] }
  | _ => none }
def LmsLearnsWrongFalsely : Prop := lmsLearnsRow.holds Try.pinned (OpenSpec.ofChange lmsLearnsWrong)

/-- 'descantlaw14.LmsSteps': WHATEVER THE INPUT: true; the input reads as it did. -/
def lmsStepsSpec : ChangeSpec := { name := "lmsSteps", fn := fun _ => fun
  | [d1, d2] => { results := [.lit (.bool true)], args := [d1, d2] }
  | _ => none }
def lmsStepsRow : OpenClaim := { program := "ytglkcjepbfpkmaa", sum := "56a5475b8e3d4960c9371e6eb81915addbff924f4f2b746856653468d1253c52", func := "descant/descantlaw14.LmsSteps", spec := "lmsSteps", apart := false }
def LmsStepsSaid : Prop := lmsStepsRow.holds Try.pinned (OpenSpec.ofChange lmsStepsSpec)

/-- ITS FALSE NEIGHBOUR: 'it returns false'. Refute it at one input. -/
def lmsStepsWrong : ChangeSpec := { name := "lmsSteps", fn := fun _ => fun
  | [d1, d2] => { results := [.lit (.bool false)], args := [d1, d2] }
  | _ => none }
def LmsStepsWrongFalsely : Prop := lmsStepsRow.holds Try.pinned (OpenSpec.ofChange lmsStepsWrong)

/-- 'descantlaw14.LmsMirror': WHATEVER THE INPUT: true; the input reads as it did. -/
def lmsMirrorSpec : ChangeSpec := { name := "lmsMirror", fn := fun _ => fun
  | [d] => { results := [.lit (.bool true)], args := [d] }
  | _ => none }
def lmsMirrorRow : OpenClaim := { program := "ytglkcjepbfpkmaa", sum := "56a5475b8e3d4960c9371e6eb81915addbff924f4f2b746856653468d1253c52", func := "descant/descantlaw14.LmsMirror", spec := "lmsMirror", apart := false }
def LmsMirrorSaid : Prop := lmsMirrorRow.holds Try.pinned (OpenSpec.ofChange lmsMirrorSpec)

/-- ITS FALSE NEIGHBOUR: 'it returns false'. Refute it at one input. -/
def lmsMirrorWrong : ChangeSpec := { name := "lmsMirror", fn := fun _ => fun
  | [d] => { results := [.lit (.bool false)], args := [d] }
  | _ => none }
def LmsMirrorWrongFalsely : Prop := lmsMirrorRow.holds Try.pinned (OpenSpec.ofChange lmsMirrorWrong)

/-- 'descantlaw15.Chains': WHATEVER THE INPUT: true; the input reads as it did. -/
def chainsSpec : ChangeSpec := { name := "chains", fn := fun _ => fun
  | [d1, d2] => { results := [.lit (.bool true)], args := [d1, d2] }
  | _ => none }
def chainsRow : OpenClaim := { program := "ytglkcjepbfpkmaa", sum := "56a5475b8e3d4960c9371e6eb81915addbff924f4f2b746856653468d1253c52", func := "descant/descantlaw15.Chains", spec := "chains", apart := false }
def ChainsSaid : Prop := chainsRow.holds Try.pinned (OpenSpec.ofChange chainsSpec)

/-- ITS FALSE NEIGHBOUR: 'it returns false'. Refute it at one input. -/
def chainsWrong : ChangeSpec := { name := "chains", fn := fun _ => fun
  | [d1, d2] => { results := [.lit (.bool false)], args := [d1, d2] }
  | _ => none }
def ChainsWrongFalsely : Prop := chainsRow.holds Try.pinned (OpenSpec.ofChange chainsWrong)

/-- 'descantlaw15.ChainForms': WHATEVER THE INPUT: true; the input reads as it did. -/
def chainFormsSpec : ChangeSpec := { name := "chainForms", fn := fun _ => fun
  | [d1, d2] => { results := [.lit (.bool true)], args := [d1, d2] }
  | _ => none }
def chainFormsRow : OpenClaim := { program := "ytglkcjepbfpkmaa", sum := "56a5475b8e3d4960c9371e6eb81915addbff924f4f2b746856653468d1253c52", func := "descant/descantlaw15.ChainForms", spec := "chainForms", apart := false }
def ChainFormsSaid : Prop := chainFormsRow.holds Try.pinned (OpenSpec.ofChange chainFormsSpec)

/-- ITS FALSE NEIGHBOUR: 'it returns false'. Refute it at one input. -/
def chainFormsWrong : ChangeSpec := { name := "chainForms", fn := fun _ => fun
  | [d1, d2] => { results := [.lit (.bool false)], args := [d1, d2] }
  | _ => none }
def ChainFormsWrongFalsely : Prop := chainFormsRow.holds Try.pinned (OpenSpec.ofChange chainFormsWrong)

/-- 'descantlaw15.ChainBounds': WHATEVER THE INPUT: true; the input reads as it did. -/
def chainBoundsSpec : ChangeSpec := { name := "chainBounds", fn := fun _ => fun
  | [d] => { results := [.lit (.bool true)], args := [d] }
  | _ => none }
def chainBoundsRow : OpenClaim := { program := "ytglkcjepbfpkmaa", sum := "56a5475b8e3d4960c9371e6eb81915addbff924f4f2b746856653468d1253c52", func := "descant/descantlaw15.ChainBounds", spec := "chainBounds", apart := false }
def ChainBoundsSaid : Prop := chainBoundsRow.holds Try.pinned (OpenSpec.ofChange chainBoundsSpec)

/-- ITS FALSE NEIGHBOUR: 'it returns false'. Refute it at one input. -/
def chainBoundsWrong : ChangeSpec := { name := "chainBounds", fn := fun _ => fun
  | [d] => { results := [.lit (.bool false)], args := [d] }
  | _ => none }
def ChainBoundsWrongFalsely : Prop := chainBoundsRow.holds Try.pinned (OpenSpec.ofChange chainBoundsWrong)

/-- 'descantlaw15.ChainStill': WHATEVER THE INPUT: true; the input reads as it did. -/
def chainStillSpec : ChangeSpec := { name := "chainStill", fn := fun _ => fun
  | [d1, d2] => { results := [.lit (.bool true)], args := [d1, d2] }
  | _ => none }
def chainStillRow : OpenClaim := { program := "ytglkcjepbfpkmaa", sum := "56a5475b8e3d4960c9371e6eb81915addbff924f4f2b746856653468d1253c52", func := "descant/descantlaw15.ChainStill", spec := "chainStill", apart := false }
def ChainStillSaid : Prop := chainStillRow.holds Try.pinned (OpenSpec.ofChange chainStillSpec)

/-- ITS FALSE NEIGHBOUR: 'it returns false'. Refute it at one input. -/
def chainStillWrong : ChangeSpec := { name := "chainStill", fn := fun _ => fun
  | [d1, d2] => { results := [.lit (.bool false)], args := [d1, d2] }
  | _ => none }
def ChainStillWrongFalsely : Prop := chainStillRow.holds Try.pinned (OpenSpec.ofChange chainStillWrong)

/-- 'descantlaw15.ChainParts': WHATEVER THE INPUT: true; the input reads as it did. -/
def chainPartsSpec : ChangeSpec := { name := "chainParts", fn := fun _ => fun
  | [d1, d2] => { results := [.lit (.bool true)], args := [d1, d2] }
  | _ => none }
def chainPartsRow : OpenClaim := { program := "ytglkcjepbfpkmaa", sum := "56a5475b8e3d4960c9371e6eb81915addbff924f4f2b746856653468d1253c52", func := "descant/descantlaw15.ChainParts", spec := "chainParts", apart := false }
def ChainPartsSaid : Prop := chainPartsRow.holds Try.pinned (OpenSpec.ofChange chainPartsSpec)

/-- ITS FALSE NEIGHBOUR: 'it returns false'. Refute it at one input. -/
def chainPartsWrong : ChangeSpec := { name := "chainParts", fn := fun _ => fun
  | [d1, d2] => { results := [.lit (.bool false)], args := [d1, d2] }
  | _ => none }
def ChainPartsWrongFalsely : Prop := chainPartsRow.holds Try.pinned (OpenSpec.ofChange chainPartsWrong)

/- THE SECOND FORM. 'bulk': how many values and letters a reading holds, each counted each time it is reached (what is shared counts as often as it is met; a slice's spare places count too). A statement '..UptoSaid' is the law's where the arguments, and the package variables that the reading takes, are together of bulk at most 1048576: NARROWER than '..Said'. Prove '..Said' where nothing that the law and all that it calls make is longer than what came in: it says more and counts as full. Else prove '..UptoSaid'. A law counts once. -/
mutual
def uptoBulk {H : Type} : DataW H → Nat
  | .lit (.string bytes) => bytes.length + 1
  | .lit _ => 1
  | .nil => 1
  | .ptr d => uptoBulk d + 1
  | .slice elems spare => uptoBulkAll elems + uptoBulkAll spare + 1
  | .agg parts => uptoBulkAll parts + 1
  | .iface _ d => uptoBulk d + 1
  | .map entries => uptoBulkEntries entries + 1
  | .held _ => 1
def uptoBulkAll {H : Type} : List (DataW H) → Nat
  | [] => 0
  | d :: r => uptoBulk d + uptoBulkAll r
def uptoBulkEntries {H : Type} : List (Lit × DataW H) → Nat
  | [] => 0
  | x :: r => uptoBulkEntry x + uptoBulkEntries r
def uptoBulkEntry {H : Type} : Lit × DataW H → Nat
  | (.string bytes, d) => bytes.length + uptoBulk d + 1
  | (_, d) => uptoBulk d + 1
 end
def uptoSmall : (H : Type) → List (DataW H) → Bool := fun _ ds => decide (uptoBulkAll ds ≤ 1048576)
def OpenSpec.upto (s : _root_.Go.ChangeSpec) : _root_.Go.OpenSpec := { _root_.Go.OpenSpec.ofChange s with cond := some uptoSmall }

/-- 'descantlaw14.Lmses', WHERE WHAT IT READS IS OF BULK AT MOST 1048576: true; the input reads as it did. -/
def lmsesUptoRow : OpenClaim := { program := "ytglkcjepbfpkmaa", sum := "56a5475b8e3d4960c9371e6eb81915addbff924f4f2b746856653468d1253c52", func := "descant/descantlaw14.Lmses", spec := "lmses", apart := false, narrowed := true }
def LmsesUptoSaid : Prop := lmsesUptoRow.holds Try.pinned (OpenSpec.upto lmsesSpec)

/-- 'descantlaw14.LmsForms', WHERE WHAT IT READS IS OF BULK AT MOST 1048576: true; the input reads as it did. -/
def lmsFormsUptoRow : OpenClaim := { program := "ytglkcjepbfpkmaa", sum := "56a5475b8e3d4960c9371e6eb81915addbff924f4f2b746856653468d1253c52", func := "descant/descantlaw14.LmsForms", spec := "lmsForms", apart := false, narrowed := true }
def LmsFormsUptoSaid : Prop := lmsFormsUptoRow.holds Try.pinned (OpenSpec.upto lmsFormsSpec)

/-- 'descantlaw14.LmsHistory', WHERE WHAT IT READS IS OF BULK AT MOST 1048576: true; the input reads as it did. -/
def lmsHistoryUptoRow : OpenClaim := { program := "ytglkcjepbfpkmaa", sum := "56a5475b8e3d4960c9371e6eb81915addbff924f4f2b746856653468d1253c52", func := "descant/descantlaw14.LmsHistory", spec := "lmsHistory", apart := false, narrowed := true }
def LmsHistoryUptoSaid : Prop := lmsHistoryUptoRow.holds Try.pinned (OpenSpec.upto lmsHistorySpec)

/-- 'descantlaw14.LmsLearns', WHERE WHAT IT READS IS OF BULK AT MOST 1048576: true; the input reads as it did. -/
def lmsLearnsUptoRow : OpenClaim := { program := "ytglkcjepbfpkmaa", sum := "56a5475b8e3d4960c9371e6eb81915addbff924f4f2b746856653468d1253c52", func := "descant/descantlaw14.LmsLearns", spec := "lmsLearns", apart := false, narrowed := true }
def LmsLearnsUptoSaid : Prop := lmsLearnsUptoRow.holds Try.pinned (OpenSpec.upto lmsLearnsSpec)

/-- 'descantlaw14.LmsSteps', WHERE WHAT IT READS IS OF BULK AT MOST 1048576: true; the input reads as it did. -/
def lmsStepsUptoRow : OpenClaim := { program := "ytglkcjepbfpkmaa", sum := "56a5475b8e3d4960c9371e6eb81915addbff924f4f2b746856653468d1253c52", func := "descant/descantlaw14.LmsSteps", spec := "lmsSteps", apart := false, narrowed := true }
def LmsStepsUptoSaid : Prop := lmsStepsUptoRow.holds Try.pinned (OpenSpec.upto lmsStepsSpec)

/-- 'descantlaw14.LmsMirror', WHERE WHAT IT READS IS OF BULK AT MOST 1048576: true; the input reads as it did. -/
def lmsMirrorUptoRow : OpenClaim := { program := "ytglkcjepbfpkmaa", sum := "56a5475b8e3d4960c9371e6eb81915addbff924f4f2b746856653468d1253c52", func := "descant/descantlaw14.LmsMirror", spec := "lmsMirror", apart := false, narrowed := true }
def LmsMirrorUptoSaid : Prop := lmsMirrorUptoRow.holds Try.pinned (OpenSpec.upto lmsMirrorSpec)

/-- 'descantlaw15.Chains', WHERE WHAT IT READS IS OF BULK AT MOST 1048576: true; the input reads as it did. -/
def chainsUptoRow : OpenClaim := { program := "ytglkcjepbfpkmaa", sum := "56a5475b8e3d4960c9371e6eb81915addbff924f4f2b746856653468d1253c52", func := "descant/descantlaw15.Chains", spec := "chains", apart := false, narrowed := true }
def ChainsUptoSaid : Prop := chainsUptoRow.holds Try.pinned (OpenSpec.upto chainsSpec)

/-- 'descantlaw15.ChainForms', WHERE WHAT IT READS IS OF BULK AT MOST 1048576: true; the input reads as it did. -/
def chainFormsUptoRow : OpenClaim := { program := "ytglkcjepbfpkmaa", sum := "56a5475b8e3d4960c9371e6eb81915addbff924f4f2b746856653468d1253c52", func := "descant/descantlaw15.ChainForms", spec := "chainForms", apart := false, narrowed := true }
def ChainFormsUptoSaid : Prop := chainFormsUptoRow.holds Try.pinned (OpenSpec.upto chainFormsSpec)

/-- 'descantlaw15.ChainBounds', WHERE WHAT IT READS IS OF BULK AT MOST 1048576: true; the input reads as it did. -/
def chainBoundsUptoRow : OpenClaim := { program := "ytglkcjepbfpkmaa", sum := "56a5475b8e3d4960c9371e6eb81915addbff924f4f2b746856653468d1253c52", func := "descant/descantlaw15.ChainBounds", spec := "chainBounds", apart := false, narrowed := true }
def ChainBoundsUptoSaid : Prop := chainBoundsUptoRow.holds Try.pinned (OpenSpec.upto chainBoundsSpec)

/-- 'descantlaw15.ChainStill', WHERE WHAT IT READS IS OF BULK AT MOST 1048576: true; the input reads as it did. -/
def chainStillUptoRow : OpenClaim := { program := "ytglkcjepbfpkmaa", sum := "56a5475b8e3d4960c9371e6eb81915addbff924f4f2b746856653468d1253c52", func := "descant/descantlaw15.ChainStill", spec := "chainStill", apart := false, narrowed := true }
def ChainStillUptoSaid : Prop := chainStillUptoRow.holds Try.pinned (OpenSpec.upto chainStillSpec)

/-- 'descantlaw15.ChainParts', WHERE WHAT IT READS IS OF BULK AT MOST 1048576: true; the input reads as it did. -/
def chainPartsUptoRow : OpenClaim := { program := "ytglkcjepbfpkmaa", sum := "56a5475b8e3d4960c9371e6eb81915addbff924f4f2b746856653468d1253c52", func := "descant/descantlaw15.ChainParts", spec := "chainParts", apart := false, narrowed := true }
def ChainPartsUptoSaid : Prop := chainPartsUptoRow.holds Try.pinned (OpenSpec.upto chainPartsSpec)

end Rows
end Go.Proofs.Ytglkcjepbfpkmaa
