/-
  No cell of these rows narrows 'for every input' (looked for: loops, veiled, ifaces, maps, wideKeys, modest, calm, conditions, laid).
  DERIVED. THE GIVEN ROWS OF THIS SEAT. 10 by the template 'for every input the law returns true; each argument reads behind the call as it read before'; 0 by the template 'total and deterministic' (their statements: YtkngkmemcokbfaaTotals.lean).
  GIVEN WITH THE SEED: the statements are not yours to turn. If you find one false, say at which input.
  Laid BY PROGRAM, IN A SANDBOX (cutbox-rows.mjs): the forced cells as the released guide's own fill.sh prints them over the translation 2d6c4c6059e9699d… (all of the seat's roots in one cut). By AI agents, Wed Nov 11 2026. No macro, syntax, notation, axiom, sorry.
-/
import Derived.Test.YtkngkmemcokbfaaChecked
import GoSem.Claim
import GoSem.ClaimJoined
import GoSem.ClaimMapViews
import Derived.JoinedTies
import Derived.KernelRfl
namespace Go.Proofs.Ytkngkmemcokbfaa
/- THE CELL 'sum', in the pinned program and in every row, IS THE sha256 OF THE DUMP (.gsa) THAT YtkngkmemcokbfaaProg.lean LOADS. Nothing in Lean hashes anything: it is a label: what it is worth is what the hold of that sum in a sandbox is worth. -/
noncomputable def Try.pinned : Pinned := { name := "ytkngkmemcokbfaa", sum := "2d6c4c6059e9699dbca8fb810ac1a57d32eb2d479954323e4489f88c9313929d", checked := Try.checked }
namespace Rows
def none {H : Type} : Left H := { results := [], args := [] }

/-- 'descantlaw20.Riffs': WHATEVER THE INPUT: true; the input reads as it did. -/
def riffsSpec : ChangeSpec := { name := "riffs", fn := fun _ => fun
  | [d] => { results := [.lit (.bool true)], args := [d] }
  | _ => none }
def riffsRow : OpenClaim := { program := "ytkngkmemcokbfaa", sum := "2d6c4c6059e9699dbca8fb810ac1a57d32eb2d479954323e4489f88c9313929d", func := "descant/descantlaw20.Riffs", spec := "riffs", apart := false }
def RiffsSaid : Prop := riffsRow.holds Try.pinned (OpenSpec.ofChange riffsSpec)

/-- ITS FALSE NEIGHBOUR: 'it returns false'. Refute it at one input. -/
def riffsWrong : ChangeSpec := { name := "riffs", fn := fun _ => fun
  | [d] => { results := [.lit (.bool false)], args := [d] }
  | _ => none }
def RiffsWrongFalsely : Prop := riffsRow.holds Try.pinned (OpenSpec.ofChange riffsWrong)

/-- 'descantlaw20.RiffRow': WHATEVER THE INPUT: true; the input reads as it did. -/
def riffRowSpec : ChangeSpec := { name := "riffRow", fn := fun _ => fun
  | [d] => { results := [.lit (.bool true)], args := [d] }
  | _ => none }
def riffRowRow : OpenClaim := { program := "ytkngkmemcokbfaa", sum := "2d6c4c6059e9699dbca8fb810ac1a57d32eb2d479954323e4489f88c9313929d", func := "descant/descantlaw20.RiffRow", spec := "riffRow", apart := false }
def RiffRowSaid : Prop := riffRowRow.holds Try.pinned (OpenSpec.ofChange riffRowSpec)

/-- ITS FALSE NEIGHBOUR: 'it returns false'. Refute it at one input. -/
def riffRowWrong : ChangeSpec := { name := "riffRow", fn := fun _ => fun
  | [d] => { results := [.lit (.bool false)], args := [d] }
  | _ => none }
def RiffRowWrongFalsely : Prop := riffRowRow.holds Try.pinned (OpenSpec.ofChange riffRowWrong)

/-- 'descantlaw20.RiffForms': WHATEVER THE INPUT: true; the input reads as it did. -/
def riffFormsSpec : ChangeSpec := { name := "riffForms", fn := fun _ => fun
  | [d1, d2] => { results := [.lit (.bool true)], args := [d1, d2] }
  | _ => none }
def riffFormsRow : OpenClaim := { program := "ytkngkmemcokbfaa", sum := "2d6c4c6059e9699dbca8fb810ac1a57d32eb2d479954323e4489f88c9313929d", func := "descant/descantlaw20.RiffForms", spec := "riffForms", apart := false }
def RiffFormsSaid : Prop := riffFormsRow.holds Try.pinned (OpenSpec.ofChange riffFormsSpec)

/-- ITS FALSE NEIGHBOUR: 'it returns false'. Refute it at one input. -/
def riffFormsWrong : ChangeSpec := { name := "riffForms", fn := fun _ => fun
  | [d1, d2] => { results := [.lit (.bool false)], args := [d1, d2] }
  | _ => none }
def RiffFormsWrongFalsely : Prop := riffFormsRow.holds Try.pinned (OpenSpec.ofChange riffFormsWrong)

/-- 'descantlaw20.RiffMany': WHATEVER THE INPUT: true; the input reads as it did. -/
def riffManySpec : ChangeSpec := { name := "riffMany", fn := fun _ => fun
  | [d1, d2] => { results := [.lit (.bool true)], args := [d1, d2] }
  | _ => none }
def riffManyRow : OpenClaim := { program := "ytkngkmemcokbfaa", sum := "2d6c4c6059e9699dbca8fb810ac1a57d32eb2d479954323e4489f88c9313929d", func := "descant/descantlaw20.RiffMany", spec := "riffMany", apart := false }
def RiffManySaid : Prop := riffManyRow.holds Try.pinned (OpenSpec.ofChange riffManySpec)

/-- ITS FALSE NEIGHBOUR: 'it returns false'. Refute it at one input. -/
def riffManyWrong : ChangeSpec := { name := "riffMany", fn := fun _ => fun
  | [d1, d2] => { results := [.lit (.bool false)], args := [d1, d2] }
  | _ => none }
def RiffManyWrongFalsely : Prop := riffManyRow.holds Try.pinned (OpenSpec.ofChange riffManyWrong)

/-- 'descantlaw20.RiffCut': WHATEVER THE INPUT: true; the input reads as it did. -/
def riffCutSpec : ChangeSpec := { name := "riffCut", fn := fun _ => fun
  | [d1, d2] => { results := [.lit (.bool true)], args := [d1, d2] }
  | _ => none }
def riffCutRow : OpenClaim := { program := "ytkngkmemcokbfaa", sum := "2d6c4c6059e9699dbca8fb810ac1a57d32eb2d479954323e4489f88c9313929d", func := "descant/descantlaw20.RiffCut", spec := "riffCut", apart := false }
def RiffCutSaid : Prop := riffCutRow.holds Try.pinned (OpenSpec.ofChange riffCutSpec)

/-- ITS FALSE NEIGHBOUR: 'it returns false'. Refute it at one input. -/
def riffCutWrong : ChangeSpec := { name := "riffCut", fn := fun _ => fun
  | [d1, d2] => { results := [.lit (.bool false)], args := [d1, d2] }
  | _ => none }
def RiffCutWrongFalsely : Prop := riffCutRow.holds Try.pinned (OpenSpec.ofChange riffCutWrong)

/-- 'descantlaw21.Waves': WHATEVER THE INPUT: true; the input reads as it did. -/
def wavesSpec : ChangeSpec := { name := "waves", fn := fun _ => fun
  | [d1, d2] => { results := [.lit (.bool true)], args := [d1, d2] }
  | _ => none }
def wavesRow : OpenClaim := { program := "ytkngkmemcokbfaa", sum := "2d6c4c6059e9699dbca8fb810ac1a57d32eb2d479954323e4489f88c9313929d", func := "descant/descantlaw21.Waves", spec := "waves", unfollowed := true, recurses := true, apart := false }
def WavesSaid : Prop := wavesRow.holds Try.pinned (OpenSpec.ofChange wavesSpec)

/-- ITS FALSE NEIGHBOUR: 'it returns false'. Refute it at one input. -/
def wavesWrong : ChangeSpec := { name := "waves", fn := fun _ => fun
  | [d1, d2] => { results := [.lit (.bool false)], args := [d1, d2] }
  | _ => none }
def WavesWrongFalsely : Prop := wavesRow.holds Try.pinned (OpenSpec.ofChange wavesWrong)

/-- 'descantlaw21.WaveForms': WHATEVER THE INPUT: true; the input reads as it did. -/
def waveFormsSpec : ChangeSpec := { name := "waveForms", fn := fun _ => fun
  | [d1, d2] => { results := [.lit (.bool true)], args := [d1, d2] }
  | _ => none }
def waveFormsRow : OpenClaim := { program := "ytkngkmemcokbfaa", sum := "2d6c4c6059e9699dbca8fb810ac1a57d32eb2d479954323e4489f88c9313929d", func := "descant/descantlaw21.WaveForms", spec := "waveForms", unfollowed := true, recurses := true, apart := false }
def WaveFormsSaid : Prop := waveFormsRow.holds Try.pinned (OpenSpec.ofChange waveFormsSpec)

/-- ITS FALSE NEIGHBOUR: 'it returns false'. Refute it at one input. -/
def waveFormsWrong : ChangeSpec := { name := "waveForms", fn := fun _ => fun
  | [d1, d2] => { results := [.lit (.bool false)], args := [d1, d2] }
  | _ => none }
def WaveFormsWrongFalsely : Prop := waveFormsRow.holds Try.pinned (OpenSpec.ofChange waveFormsWrong)

/-- 'descantlaw21.WaveAny': WHATEVER THE INPUT: true; the input reads as it did. -/
def waveAnySpec : ChangeSpec := { name := "waveAny", fn := fun _ => fun
  | [d1, d2, d3] => { results := [.lit (.bool true)], args := [d1, d2, d3] }
  | _ => none }
def waveAnyRow : OpenClaim := { program := "ytkngkmemcokbfaa", sum := "2d6c4c6059e9699dbca8fb810ac1a57d32eb2d479954323e4489f88c9313929d", func := "descant/descantlaw21.WaveAny", spec := "waveAny", unfollowed := true, recurses := true, apart := false }
def WaveAnySaid : Prop := waveAnyRow.holds Try.pinned (OpenSpec.ofChange waveAnySpec)

/-- ITS FALSE NEIGHBOUR: 'it returns false'. Refute it at one input. -/
def waveAnyWrong : ChangeSpec := { name := "waveAny", fn := fun _ => fun
  | [d1, d2, d3] => { results := [.lit (.bool false)], args := [d1, d2, d3] }
  | _ => none }
def WaveAnyWrongFalsely : Prop := waveAnyRow.holds Try.pinned (OpenSpec.ofChange waveAnyWrong)

/-- 'descantlaw21.WaveParts': WHATEVER THE INPUT: true; the input reads as it did. -/
def wavePartsSpec : ChangeSpec := { name := "waveParts", fn := fun _ => fun
  | [d1, d2] => { results := [.lit (.bool true)], args := [d1, d2] }
  | _ => none }
def wavePartsRow : OpenClaim := { program := "ytkngkmemcokbfaa", sum := "2d6c4c6059e9699dbca8fb810ac1a57d32eb2d479954323e4489f88c9313929d", func := "descant/descantlaw21.WaveParts", spec := "waveParts", unfollowed := true, recurses := true, apart := false }
def WavePartsSaid : Prop := wavePartsRow.holds Try.pinned (OpenSpec.ofChange wavePartsSpec)

/-- ITS FALSE NEIGHBOUR: 'it returns false'. Refute it at one input. -/
def wavePartsWrong : ChangeSpec := { name := "waveParts", fn := fun _ => fun
  | [d1, d2] => { results := [.lit (.bool false)], args := [d1, d2] }
  | _ => none }
def WavePartsWrongFalsely : Prop := wavePartsRow.holds Try.pinned (OpenSpec.ofChange wavePartsWrong)

/-- 'descantlaw21.WaveMore': WHATEVER THE INPUT: true; the input reads as it did. -/
def waveMoreSpec : ChangeSpec := { name := "waveMore", fn := fun _ => fun
  | [d1, d2] => { results := [.lit (.bool true)], args := [d1, d2] }
  | _ => none }
def waveMoreRow : OpenClaim := { program := "ytkngkmemcokbfaa", sum := "2d6c4c6059e9699dbca8fb810ac1a57d32eb2d479954323e4489f88c9313929d", func := "descant/descantlaw21.WaveMore", spec := "waveMore", unfollowed := true, recurses := true, apart := false }
def WaveMoreSaid : Prop := waveMoreRow.holds Try.pinned (OpenSpec.ofChange waveMoreSpec)

/-- ITS FALSE NEIGHBOUR: 'it returns false'. Refute it at one input. -/
def waveMoreWrong : ChangeSpec := { name := "waveMore", fn := fun _ => fun
  | [d1, d2] => { results := [.lit (.bool false)], args := [d1, d2] }
  | _ => none }
def WaveMoreWrongFalsely : Prop := waveMoreRow.holds Try.pinned (OpenSpec.ofChange waveMoreWrong)

/- THE SECOND FORM. 'bulk': how many values and letters a reading holds, each counted each time it is reached (what is shared counts as often as it is met; a slice's spare places count too). A statement '..UptoSaid' is the law's where the arguments, and the package variables that the reading takes, are together of bulk at most 1048576: NARROWER than '..Said'. Prove '..Said' where nothing that the law and all that it calls make is longer than what came in: it says more and counts as full. Else prove '..UptoSaid'. A law counts once. -/
mutual
def uptoBulk {H : Type} : DataW H → Nat
  | .lit (.string bytes) => bytes.length + 1
  | .lit _ => 1
  | .nil => 1
  | .ptr d => uptoBulk d + 1
  | .slice elems spare => uptoBulkAll elems + uptoBulkAll spare + 1
  | .agg parts => uptoBulkAll parts + 1
  | .iface _ d => uptoBulk d + 1
  | .map entries => uptoBulkEntries entries + 1
  | .held _ => 1
def uptoBulkAll {H : Type} : List (DataW H) → Nat
  | [] => 0
  | d :: r => uptoBulk d + uptoBulkAll r
def uptoBulkEntries {H : Type} : List (Lit × DataW H) → Nat
  | [] => 0
  | x :: r => uptoBulkEntry x + uptoBulkEntries r
def uptoBulkEntry {H : Type} : Lit × DataW H → Nat
  | (.string bytes, d) => bytes.length + uptoBulk d + 1
  | (_, d) => uptoBulk d + 1
 end
def uptoSmall : (H : Type) → List (DataW H) → Bool := fun _ ds => decide (uptoBulkAll ds ≤ 1048576)
def OpenSpec.upto (s : _root_.Go.ChangeSpec) : _root_.Go.OpenSpec := { _root_.Go.OpenSpec.ofChange s with cond := some uptoSmall }

/-- 'descantlaw20.Riffs', WHERE WHAT IT READS IS OF BULK AT MOST 1048576: true; the input reads as it did. -/
def riffsUptoRow : OpenClaim := { program := "ytkngkmemcokbfaa", sum := "2d6c4c6059e9699dbca8fb810ac1a57d32eb2d479954323e4489f88c9313929d", func := "descant/descantlaw20.Riffs", spec := "riffs", apart := false, narrowed := true }
def RiffsUptoSaid : Prop := riffsUptoRow.holds Try.pinned (OpenSpec.upto riffsSpec)

/-- 'descantlaw20.RiffRow', WHERE WHAT IT READS IS OF BULK AT MOST 1048576: true; the input reads as it did. -/
def riffRowUptoRow : OpenClaim := { program := "ytkngkmemcokbfaa", sum := "2d6c4c6059e9699dbca8fb810ac1a57d32eb2d479954323e4489f88c9313929d", func := "descant/descantlaw20.RiffRow", spec := "riffRow", apart := false, narrowed := true }
def RiffRowUptoSaid : Prop := riffRowUptoRow.holds Try.pinned (OpenSpec.upto riffRowSpec)

/-- 'descantlaw20.RiffForms', WHERE WHAT IT READS IS OF BULK AT MOST 1048576: true; the input reads as it did. -/
def riffFormsUptoRow : OpenClaim := { program := "ytkngkmemcokbfaa", sum := "2d6c4c6059e9699dbca8fb810ac1a57d32eb2d479954323e4489f88c9313929d", func := "descant/descantlaw20.RiffForms", spec := "riffForms", apart := false, narrowed := true }
def RiffFormsUptoSaid : Prop := riffFormsUptoRow.holds Try.pinned (OpenSpec.upto riffFormsSpec)

/-- 'descantlaw20.RiffMany', WHERE WHAT IT READS IS OF BULK AT MOST 1048576: true; the input reads as it did. -/
def riffManyUptoRow : OpenClaim := { program := "ytkngkmemcokbfaa", sum := "2d6c4c6059e9699dbca8fb810ac1a57d32eb2d479954323e4489f88c9313929d", func := "descant/descantlaw20.RiffMany", spec := "riffMany", apart := false, narrowed := true }
def RiffManyUptoSaid : Prop := riffManyUptoRow.holds Try.pinned (OpenSpec.upto riffManySpec)

/-- 'descantlaw20.RiffCut', WHERE WHAT IT READS IS OF BULK AT MOST 1048576: true; the input reads as it did. -/
def riffCutUptoRow : OpenClaim := { program := "ytkngkmemcokbfaa", sum := "2d6c4c6059e9699dbca8fb810ac1a57d32eb2d479954323e4489f88c9313929d", func := "descant/descantlaw20.RiffCut", spec := "riffCut", apart := false, narrowed := true }
def RiffCutUptoSaid : Prop := riffCutUptoRow.holds Try.pinned (OpenSpec.upto riffCutSpec)

/-- 'descantlaw21.Waves', WHERE WHAT IT READS IS OF BULK AT MOST 1048576: true; the input reads as it did. -/
def wavesUptoRow : OpenClaim := { program := "ytkngkmemcokbfaa", sum := "2d6c4c6059e9699dbca8fb810ac1a57d32eb2d479954323e4489f88c9313929d", func := "descant/descantlaw21.Waves", spec := "waves", unfollowed := true, recurses := true, apart := false, narrowed := true }
def WavesUptoSaid : Prop := wavesUptoRow.holds Try.pinned (OpenSpec.upto wavesSpec)

/-- 'descantlaw21.WaveForms', WHERE WHAT IT READS IS OF BULK AT MOST 1048576: true; the input reads as it did. -/
def waveFormsUptoRow : OpenClaim := { program := "ytkngkmemcokbfaa", sum := "2d6c4c6059e9699dbca8fb810ac1a57d32eb2d479954323e4489f88c9313929d", func := "descant/descantlaw21.WaveForms", spec := "waveForms", unfollowed := true, recurses := true, apart := false, narrowed := true }
def WaveFormsUptoSaid : Prop := waveFormsUptoRow.holds Try.pinned (OpenSpec.upto waveFormsSpec)

/-- 'descantlaw21.WaveAny', WHERE WHAT IT READS IS OF BULK AT MOST 1048576: true; the input reads as it did. -/
def waveAnyUptoRow : OpenClaim := { program := "ytkngkmemcokbfaa", sum := "2d6c4c6059e9699dbca8fb810ac1a57d32eb2d479954323e4489f88c9313929d", func := "descant/descantlaw21.WaveAny", spec := "waveAny", unfollowed := true, recurses := true, apart := false, narrowed := true }
def WaveAnyUptoSaid : Prop := waveAnyUptoRow.holds Try.pinned (OpenSpec.upto waveAnySpec)

/-- 'descantlaw21.WaveParts', WHERE WHAT IT READS IS OF BULK AT MOST 1048576: true; the input reads as it did. -/
def wavePartsUptoRow : OpenClaim := { program := "ytkngkmemcokbfaa", sum := "2d6c4c6059e9699dbca8fb810ac1a57d32eb2d479954323e4489f88c9313929d", func := "descant/descantlaw21.WaveParts", spec := "waveParts", unfollowed := true, recurses := true, apart := false, narrowed := true }
def WavePartsUptoSaid : Prop := wavePartsUptoRow.holds Try.pinned (OpenSpec.upto wavePartsSpec)

/-- 'descantlaw21.WaveMore', WHERE WHAT IT READS IS OF BULK AT MOST 1048576: true; the input reads as it did. -/
def waveMoreUptoRow : OpenClaim := { program := "ytkngkmemcokbfaa", sum := "2d6c4c6059e9699dbca8fb810ac1a57d32eb2d479954323e4489f88c9313929d", func := "descant/descantlaw21.WaveMore", spec := "waveMore", unfollowed := true, recurses := true, apart := false, narrowed := true }
def WaveMoreUptoSaid : Prop := waveMoreUptoRow.holds Try.pinned (OpenSpec.upto waveMoreSpec)

end Rows
end Go.Proofs.Ytkngkmemcokbfaa
