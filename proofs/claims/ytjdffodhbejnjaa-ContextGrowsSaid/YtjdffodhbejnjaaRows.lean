/-
  No cell of these rows narrows 'for every input' (looked for: loops, veiled, ifaces, maps, wideKeys, modest, calm, conditions, laid).
  DERIVED. THE GIVEN ROWS OF THIS SEAT. 12 by the template 'for every input the law returns true; each argument reads behind the call as it read before'; 0 by the template 'total and deterministic' (their statements: YtjdffodhbejnjaaTotals.lean).
  GIVEN WITH THE SEED: the statements are not yours to turn. If you find one false, say at which input.
  Laid BY PROGRAM, IN A SANDBOX (cutbox-rows.mjs): the forced cells as the released guide's own fill.sh prints them over the translation df9c762add9af74c… (all of the seat's roots in one cut). By AI agents, Wed Nov 11 2026. No macro, syntax, notation, axiom, sorry.
-/
import Derived.Test.YtjdffodhbejnjaaChecked
import GoSem.Claim
import GoSem.ClaimJoined
import GoSem.ClaimMapViews
import Derived.JoinedTies
import Derived.KernelRfl
namespace Go.Proofs.Ytjdffodhbejnjaa
/- THE CELL 'sum', in the pinned program and in every row, IS THE sha256 OF THE DUMP (.gsa) THAT YtjdffodhbejnjaaProg.lean LOADS. Nothing in Lean hashes anything: it is a label: what it is worth is what the hold of that sum in a sandbox is worth. -/
noncomputable def Try.pinned : Pinned := { name := "ytjdffodhbejnjaa", sum := "df9c762add9af74c0d0e25d614923b66c0a14a06f36b70e3ba11c974e1ba6c85", checked := Try.checked }
namespace Rows
def none {H : Type} : Left H := { results := [], args := [] }

/-- 'descantlaw10.Folds': WHATEVER THE INPUT: true; the input reads as it did. -/
def foldsSpec : ChangeSpec := { name := "folds", fn := fun _ => fun
  | [d1, d2] => { results := [.lit (.bool true)], args := [d1, d2] }
  | _ => none }
def foldsRow : OpenClaim := { program := "ytjdffodhbejnjaa", sum := "df9c762add9af74c0d0e25d614923b66c0a14a06f36b70e3ba11c974e1ba6c85", func := "descant/descantlaw10.Folds", spec := "folds", apart := false }
def FoldsSaid : Prop := foldsRow.holds Try.pinned (OpenSpec.ofChange foldsSpec)

/-- ITS FALSE NEIGHBOUR: 'it returns false'. Refute it at one input. -/
def foldsWrong : ChangeSpec := { name := "folds", fn := fun _ => fun
  | [d1, d2] => { results := [.lit (.bool false)], args := [d1, d2] }
  | _ => none }
def FoldsWrongFalsely : Prop := foldsRow.holds Try.pinned (OpenSpec.ofChange foldsWrong)

/-- 'descantlaw10.FoldForms': WHATEVER THE INPUT: true; the input reads as it did. -/
def foldFormsSpec : ChangeSpec := { name := "foldForms", fn := fun _ => fun
  | [d] => { results := [.lit (.bool true)], args := [d] }
  | _ => none }
def foldFormsRow : OpenClaim := { program := "ytjdffodhbejnjaa", sum := "df9c762add9af74c0d0e25d614923b66c0a14a06f36b70e3ba11c974e1ba6c85", func := "descant/descantlaw10.FoldForms", spec := "foldForms", apart := false }
def FoldFormsSaid : Prop := foldFormsRow.holds Try.pinned (OpenSpec.ofChange foldFormsSpec)

/-- ITS FALSE NEIGHBOUR: 'it returns false'. Refute it at one input. -/
def foldFormsWrong : ChangeSpec := { name := "foldForms", fn := fun _ => fun
  | [d] => { results := [.lit (.bool false)], args := [d] }
  | _ => none }
def FoldFormsWrongFalsely : Prop := foldFormsRow.holds Try.pinned (OpenSpec.ofChange foldFormsWrong)

/-- 'descantlaw10.FoldRow': WHATEVER THE INPUT: true; the input reads as it did. -/
def foldRowSpec : ChangeSpec := { name := "foldRow", fn := fun _ => fun
  | [d1, d2] => { results := [.lit (.bool true)], args := [d1, d2] }
  | _ => none }
def foldRowRow : OpenClaim := { program := "ytjdffodhbejnjaa", sum := "df9c762add9af74c0d0e25d614923b66c0a14a06f36b70e3ba11c974e1ba6c85", func := "descant/descantlaw10.FoldRow", spec := "foldRow", apart := false }
def FoldRowSaid : Prop := foldRowRow.holds Try.pinned (OpenSpec.ofChange foldRowSpec)

/-- ITS FALSE NEIGHBOUR: 'it returns false'. Refute it at one input. -/
def foldRowWrong : ChangeSpec := { name := "foldRow", fn := fun _ => fun
  | [d1, d2] => { results := [.lit (.bool false)], args := [d1, d2] }
  | _ => none }
def FoldRowWrongFalsely : Prop := foldRowRow.holds Try.pinned (OpenSpec.ofChange foldRowWrong)

/-- 'descantlaw10.FoldPairs': WHATEVER THE INPUT: true; the input reads as it did. -/
def foldPairsSpec : ChangeSpec := { name := "foldPairs", fn := fun _ => fun
  | [d] => { results := [.lit (.bool true)], args := [d] }
  | _ => none }
def foldPairsRow : OpenClaim := { program := "ytjdffodhbejnjaa", sum := "df9c762add9af74c0d0e25d614923b66c0a14a06f36b70e3ba11c974e1ba6c85", func := "descant/descantlaw10.FoldPairs", spec := "foldPairs", apart := false }
def FoldPairsSaid : Prop := foldPairsRow.holds Try.pinned (OpenSpec.ofChange foldPairsSpec)

/-- ITS FALSE NEIGHBOUR: 'it returns false'. Refute it at one input. -/
def foldPairsWrong : ChangeSpec := { name := "foldPairs", fn := fun _ => fun
  | [d] => { results := [.lit (.bool false)], args := [d] }
  | _ => none }
def FoldPairsWrongFalsely : Prop := foldPairsRow.holds Try.pinned (OpenSpec.ofChange foldPairsWrong)

/-- 'descantlaw1.Fields': WHATEVER THE INPUT: true; the input reads as it did. -/
def fieldsSpec : ChangeSpec := { name := "fields", fn := fun _ => fun
  | [d1, d2, d3] => { results := [.lit (.bool true)], args := [d1, d2, d3] }
  | _ => none }
def fieldsRow : OpenClaim := { program := "ytjdffodhbejnjaa", sum := "df9c762add9af74c0d0e25d614923b66c0a14a06f36b70e3ba11c974e1ba6c85", func := "descant/descantlaw1.Fields", spec := "fields", apart := false }
def FieldsSaid : Prop := fieldsRow.holds Try.pinned (OpenSpec.ofChange fieldsSpec)

/-- ITS FALSE NEIGHBOUR: 'it returns false'. Refute it at one input. -/
def fieldsWrong : ChangeSpec := { name := "fields", fn := fun _ => fun
  | [d1, d2, d3] => { results := [.lit (.bool false)], args := [d1, d2, d3] }
  | _ => none }
def FieldsWrongFalsely : Prop := fieldsRow.holds Try.pinned (OpenSpec.ofChange fieldsWrong)

/-- 'descantlaw1.FieldForms': WHATEVER THE INPUT: true; the input reads as it did. -/
def fieldFormsSpec : ChangeSpec := { name := "fieldForms", fn := fun _ => fun
  | [d1, d2] => { results := [.lit (.bool true)], args := [d1, d2] }
  | _ => none }
def fieldFormsRow : OpenClaim := { program := "ytjdffodhbejnjaa", sum := "df9c762add9af74c0d0e25d614923b66c0a14a06f36b70e3ba11c974e1ba6c85", func := "descant/descantlaw1.FieldForms", spec := "fieldForms", apart := false }
def FieldFormsSaid : Prop := fieldFormsRow.holds Try.pinned (OpenSpec.ofChange fieldFormsSpec)

/-- ITS FALSE NEIGHBOUR: 'it returns false'. Refute it at one input. -/
def fieldFormsWrong : ChangeSpec := { name := "fieldForms", fn := fun _ => fun
  | [d1, d2] => { results := [.lit (.bool false)], args := [d1, d2] }
  | _ => none }
def FieldFormsWrongFalsely : Prop := fieldFormsRow.holds Try.pinned (OpenSpec.ofChange fieldFormsWrong)

/-- 'descantlaw1.FieldBack': WHATEVER THE INPUT: true; the input reads as it did. -/
def fieldBackSpec : ChangeSpec := { name := "fieldBack", fn := fun _ => fun
  | [d1, d2, d3] => { results := [.lit (.bool true)], args := [d1, d2, d3] }
  | _ => none }
def fieldBackRow : OpenClaim := { program := "ytjdffodhbejnjaa", sum := "df9c762add9af74c0d0e25d614923b66c0a14a06f36b70e3ba11c974e1ba6c85", func := "descant/descantlaw1.FieldBack", spec := "fieldBack", apart := false }
def FieldBackSaid : Prop := fieldBackRow.holds Try.pinned (OpenSpec.ofChange fieldBackSpec)

/-- ITS FALSE NEIGHBOUR: 'it returns false'. Refute it at one input. -/
def fieldBackWrong : ChangeSpec := { name := "fieldBack", fn := fun _ => fun
  | [d1, d2, d3] => { results := [.lit (.bool false)], args := [d1, d2, d3] }
  | _ => none }
def FieldBackWrongFalsely : Prop := fieldBackRow.holds Try.pinned (OpenSpec.ofChange fieldBackWrong)

/-- 'descantlaw1.FieldWide': WHATEVER THE INPUT: true; the input reads as it did. -/
def fieldWideSpec : ChangeSpec := { name := "fieldWide", fn := fun _ => fun
  | [d1, d2, d3] => { results := [.lit (.bool true)], args := [d1, d2, d3] }
  | _ => none }
def fieldWideRow : OpenClaim := { program := "ytjdffodhbejnjaa", sum := "df9c762add9af74c0d0e25d614923b66c0a14a06f36b70e3ba11c974e1ba6c85", func := "descant/descantlaw1.FieldWide", spec := "fieldWide", apart := false }
def FieldWideSaid : Prop := fieldWideRow.holds Try.pinned (OpenSpec.ofChange fieldWideSpec)

/-- ITS FALSE NEIGHBOUR: 'it returns false'. Refute it at one input. -/
def fieldWideWrong : ChangeSpec := { name := "fieldWide", fn := fun _ => fun
  | [d1, d2, d3] => { results := [.lit (.bool false)], args := [d1, d2, d3] }
  | _ => none }
def FieldWideWrongFalsely : Prop := fieldWideRow.holds Try.pinned (OpenSpec.ofChange fieldWideWrong)

/-- 'descantlaw12.Contexts': WHATEVER THE INPUT: true; the input reads as it did. -/
def contextsSpec : ChangeSpec := { name := "contexts", fn := fun _ => fun
  | [d1, d2] => { results := [.lit (.bool true)], args := [d1, d2] }
  | _ => none }
def contextsRow : OpenClaim := { program := "ytjdffodhbejnjaa", sum := "df9c762add9af74c0d0e25d614923b66c0a14a06f36b70e3ba11c974e1ba6c85", func := "descant/descantlaw12.Contexts", spec := "contexts", unfollowed := true, recurses := true, apart := false }
def ContextsSaid : Prop := contextsRow.holds Try.pinned (OpenSpec.ofChange contextsSpec)

/-- ITS FALSE NEIGHBOUR: 'it returns false'. Refute it at one input. -/
def contextsWrong : ChangeSpec := { name := "contexts", fn := fun _ => fun
  | [d1, d2] => { results := [.lit (.bool false)], args := [d1, d2] }
  | _ => none }
def ContextsWrongFalsely : Prop := contextsRow.holds Try.pinned (OpenSpec.ofChange contextsWrong)

/-- 'descantlaw12.ContextForms': WHATEVER THE INPUT: true; the input reads as it did. -/
def contextFormsSpec : ChangeSpec := { name := "contextForms", fn := fun _ => fun
  | [d1, d2] => { results := [.lit (.bool true)], args := [d1, d2] }
  | _ => none }
def contextFormsRow : OpenClaim := { program := "ytjdffodhbejnjaa", sum := "df9c762add9af74c0d0e25d614923b66c0a14a06f36b70e3ba11c974e1ba6c85", func := "descant/descantlaw12.ContextForms", spec := "contextForms", unfollowed := true, recurses := true, apart := false }
def ContextFormsSaid : Prop := contextFormsRow.holds Try.pinned (OpenSpec.ofChange contextFormsSpec)

/-- ITS FALSE NEIGHBOUR: 'it returns false'. Refute it at one input. -/
def contextFormsWrong : ChangeSpec := { name := "contextForms", fn := fun _ => fun
  | [d1, d2] => { results := [.lit (.bool false)], args := [d1, d2] }
  | _ => none }
def ContextFormsWrongFalsely : Prop := contextFormsRow.holds Try.pinned (OpenSpec.ofChange contextFormsWrong)

/-- 'descantlaw12.ContextRanges': WHATEVER THE INPUT: true; the input reads as it did. -/
def contextRangesSpec : ChangeSpec := { name := "contextRanges", fn := fun _ => fun
  | [d1, d2, d3] => { results := [.lit (.bool true)], args := [d1, d2, d3] }
  | _ => none }
def contextRangesRow : OpenClaim := { program := "ytjdffodhbejnjaa", sum := "df9c762add9af74c0d0e25d614923b66c0a14a06f36b70e3ba11c974e1ba6c85", func := "descant/descantlaw12.ContextRanges", spec := "contextRanges", unfollowed := true, recurses := true, apart := false }
def ContextRangesSaid : Prop := contextRangesRow.holds Try.pinned (OpenSpec.ofChange contextRangesSpec)

/-- ITS FALSE NEIGHBOUR: 'it returns false'. Refute it at one input. -/
def contextRangesWrong : ChangeSpec := { name := "contextRanges", fn := fun _ => fun
  | [d1, d2, d3] => { results := [.lit (.bool false)], args := [d1, d2, d3] }
  | _ => none }
def ContextRangesWrongFalsely : Prop := contextRangesRow.holds Try.pinned (OpenSpec.ofChange contextRangesWrong)

/-- 'descantlaw12.ContextGrows': WHATEVER THE INPUT: true; the input reads as it did. -/
def contextGrowsSpec : ChangeSpec := { name := "contextGrows", fn := fun _ => fun
  | [d1, d2] => { results := [.lit (.bool true)], args := [d1, d2] }
  | _ => none }
def contextGrowsRow : OpenClaim := { program := "ytjdffodhbejnjaa", sum := "df9c762add9af74c0d0e25d614923b66c0a14a06f36b70e3ba11c974e1ba6c85", func := "descant/descantlaw12.ContextGrows", spec := "contextGrows", unfollowed := true, recurses := true, apart := false }
def ContextGrowsSaid : Prop := contextGrowsRow.holds Try.pinned (OpenSpec.ofChange contextGrowsSpec)

/-- ITS FALSE NEIGHBOUR: 'it returns false'. Refute it at one input. -/
def contextGrowsWrong : ChangeSpec := { name := "contextGrows", fn := fun _ => fun
  | [d1, d2] => { results := [.lit (.bool false)], args := [d1, d2] }
  | _ => none }
def ContextGrowsWrongFalsely : Prop := contextGrowsRow.holds Try.pinned (OpenSpec.ofChange contextGrowsWrong)

/- THE SECOND FORM. 'bulk': how many values and letters a reading holds, each counted each time it is reached (what is shared counts as often as it is met; a slice's spare places count too). A statement '..UptoSaid' is the law's where the arguments, and the package variables that the reading takes, are together of bulk at most 1048576: NARROWER than '..Said'. Prove '..Said' where nothing that the law and all that it calls make is longer than what came in: it says more and counts as full. Else prove '..UptoSaid'. A law counts once. -/
mutual
def uptoBulk {H : Type} : DataW H → Nat
  | .lit (.string bytes) => bytes.length + 1
  | .lit _ => 1
  | .nil => 1
  | .ptr d => uptoBulk d + 1
  | .slice elems spare => uptoBulkAll elems + uptoBulkAll spare + 1
  | .agg parts => uptoBulkAll parts + 1
  | .iface _ d => uptoBulk d + 1
  | .map entries => uptoBulkEntries entries + 1
  | .held _ => 1
def uptoBulkAll {H : Type} : List (DataW H) → Nat
  | [] => 0
  | d :: r => uptoBulk d + uptoBulkAll r
def uptoBulkEntries {H : Type} : List (Lit × DataW H) → Nat
  | [] => 0
  | x :: r => uptoBulkEntry x + uptoBulkEntries r
def uptoBulkEntry {H : Type} : Lit × DataW H → Nat
  | (.string bytes, d) => bytes.length + uptoBulk d + 1
  | (_, d) => uptoBulk d + 1
 end
def uptoSmall : (H : Type) → List (DataW H) → Bool := fun _ ds => decide (uptoBulkAll ds ≤ 1048576)
def OpenSpec.upto (s : _root_.Go.ChangeSpec) : _root_.Go.OpenSpec := { _root_.Go.OpenSpec.ofChange s with cond := some uptoSmall }

/-- 'descantlaw10.Folds', WHERE WHAT IT READS IS OF BULK AT MOST 1048576: true; the input reads as it did. -/
def foldsUptoRow : OpenClaim := { program := "ytjdffodhbejnjaa", sum := "df9c762add9af74c0d0e25d614923b66c0a14a06f36b70e3ba11c974e1ba6c85", func := "descant/descantlaw10.Folds", spec := "folds", apart := false, narrowed := true }
def FoldsUptoSaid : Prop := foldsUptoRow.holds Try.pinned (OpenSpec.upto foldsSpec)

/-- 'descantlaw10.FoldForms', WHERE WHAT IT READS IS OF BULK AT MOST 1048576: true; the input reads as it did. -/
def foldFormsUptoRow : OpenClaim := { program := "ytjdffodhbejnjaa", sum := "df9c762add9af74c0d0e25d614923b66c0a14a06f36b70e3ba11c974e1ba6c85", func := "descant/descantlaw10.FoldForms", spec := "foldForms", apart := false, narrowed := true }
def FoldFormsUptoSaid : Prop := foldFormsUptoRow.holds Try.pinned (OpenSpec.upto foldFormsSpec)

/-- 'descantlaw10.FoldRow', WHERE WHAT IT READS IS OF BULK AT MOST 1048576: true; the input reads as it did. -/
def foldRowUptoRow : OpenClaim := { program := "ytjdffodhbejnjaa", sum := "df9c762add9af74c0d0e25d614923b66c0a14a06f36b70e3ba11c974e1ba6c85", func := "descant/descantlaw10.FoldRow", spec := "foldRow", apart := false, narrowed := true }
def FoldRowUptoSaid : Prop := foldRowUptoRow.holds Try.pinned (OpenSpec.upto foldRowSpec)

/-- 'descantlaw10.FoldPairs', WHERE WHAT IT READS IS OF BULK AT MOST 1048576: true; the input reads as it did. -/
def foldPairsUptoRow : OpenClaim := { program := "ytjdffodhbejnjaa", sum := "df9c762add9af74c0d0e25d614923b66c0a14a06f36b70e3ba11c974e1ba6c85", func := "descant/descantlaw10.FoldPairs", spec := "foldPairs", apart := false, narrowed := true }
def FoldPairsUptoSaid : Prop := foldPairsUptoRow.holds Try.pinned (OpenSpec.upto foldPairsSpec)

/-- 'descantlaw1.Fields', WHERE WHAT IT READS IS OF BULK AT MOST 1048576: true; the input reads as it did. -/
def fieldsUptoRow : OpenClaim := { program := "ytjdffodhbejnjaa", sum := "df9c762add9af74c0d0e25d614923b66c0a14a06f36b70e3ba11c974e1ba6c85", func := "descant/descantlaw1.Fields", spec := "fields", apart := false, narrowed := true }
def FieldsUptoSaid : Prop := fieldsUptoRow.holds Try.pinned (OpenSpec.upto fieldsSpec)

/-- 'descantlaw1.FieldForms', WHERE WHAT IT READS IS OF BULK AT MOST 1048576: true; the input reads as it did. -/
def fieldFormsUptoRow : OpenClaim := { program := "ytjdffodhbejnjaa", sum := "df9c762add9af74c0d0e25d614923b66c0a14a06f36b70e3ba11c974e1ba6c85", func := "descant/descantlaw1.FieldForms", spec := "fieldForms", apart := false, narrowed := true }
def FieldFormsUptoSaid : Prop := fieldFormsUptoRow.holds Try.pinned (OpenSpec.upto fieldFormsSpec)

/-- 'descantlaw1.FieldBack', WHERE WHAT IT READS IS OF BULK AT MOST 1048576: true; the input reads as it did. -/
def fieldBackUptoRow : OpenClaim := { program := "ytjdffodhbejnjaa", sum := "df9c762add9af74c0d0e25d614923b66c0a14a06f36b70e3ba11c974e1ba6c85", func := "descant/descantlaw1.FieldBack", spec := "fieldBack", apart := false, narrowed := true }
def FieldBackUptoSaid : Prop := fieldBackUptoRow.holds Try.pinned (OpenSpec.upto fieldBackSpec)

/-- 'descantlaw1.FieldWide', WHERE WHAT IT READS IS OF BULK AT MOST 1048576: true; the input reads as it did. -/
def fieldWideUptoRow : OpenClaim := { program := "ytjdffodhbejnjaa", sum := "df9c762add9af74c0d0e25d614923b66c0a14a06f36b70e3ba11c974e1ba6c85", func := "descant/descantlaw1.FieldWide", spec := "fieldWide", apart := false, narrowed := true }
def FieldWideUptoSaid : Prop := fieldWideUptoRow.holds Try.pinned (OpenSpec.upto fieldWideSpec)

/-- 'descantlaw12.Contexts', WHERE WHAT IT READS IS OF BULK AT MOST 1048576: true; the input reads as it did. -/
def contextsUptoRow : OpenClaim := { program := "ytjdffodhbejnjaa", sum := "df9c762add9af74c0d0e25d614923b66c0a14a06f36b70e3ba11c974e1ba6c85", func := "descant/descantlaw12.Contexts", spec := "contexts", unfollowed := true, recurses := true, apart := false, narrowed := true }
def ContextsUptoSaid : Prop := contextsUptoRow.holds Try.pinned (OpenSpec.upto contextsSpec)

/-- 'descantlaw12.ContextForms', WHERE WHAT IT READS IS OF BULK AT MOST 1048576: true; the input reads as it did. -/
def contextFormsUptoRow : OpenClaim := { program := "ytjdffodhbejnjaa", sum := "df9c762add9af74c0d0e25d614923b66c0a14a06f36b70e3ba11c974e1ba6c85", func := "descant/descantlaw12.ContextForms", spec := "contextForms", unfollowed := true, recurses := true, apart := false, narrowed := true }
def ContextFormsUptoSaid : Prop := contextFormsUptoRow.holds Try.pinned (OpenSpec.upto contextFormsSpec)

/-- 'descantlaw12.ContextRanges', WHERE WHAT IT READS IS OF BULK AT MOST 1048576: true; the input reads as it did. -/
def contextRangesUptoRow : OpenClaim := { program := "ytjdffodhbejnjaa", sum := "df9c762add9af74c0d0e25d614923b66c0a14a06f36b70e3ba11c974e1ba6c85", func := "descant/descantlaw12.ContextRanges", spec := "contextRanges", unfollowed := true, recurses := true, apart := false, narrowed := true }
def ContextRangesUptoSaid : Prop := contextRangesUptoRow.holds Try.pinned (OpenSpec.upto contextRangesSpec)

/-- 'descantlaw12.ContextGrows', WHERE WHAT IT READS IS OF BULK AT MOST 1048576: true; the input reads as it did. -/
def contextGrowsUptoRow : OpenClaim := { program := "ytjdffodhbejnjaa", sum := "df9c762add9af74c0d0e25d614923b66c0a14a06f36b70e3ba11c974e1ba6c85", func := "descant/descantlaw12.ContextGrows", spec := "contextGrows", unfollowed := true, recurses := true, apart := false, narrowed := true }
def ContextGrowsUptoSaid : Prop := contextGrowsUptoRow.holds Try.pinned (OpenSpec.upto contextGrowsSpec)

end Rows
end Go.Proofs.Ytjdffodhbejnjaa
