/-
  No cell of these rows narrows 'for every input' (looked for: loops, veiled, ifaces, maps, wideKeys, modest, calm, conditions, laid).
  DERIVED. THE GIVEN ROWS OF THIS SEAT. 9 by the template 'for every input the law returns true; each argument reads behind the call as it read before'; 0 by the template 'total and deterministic' (their statements: YtpeecclmpbickaaTotals.lean).
  GIVEN WITH THE SEED: the statements are not yours to turn. If you find one false, say at which input.
  Laid BY PROGRAM, IN A SANDBOX (cutbox-rows.mjs): the forced cells as the released guide's own fill.sh prints them over the translation 573e5ac6a7b59962… (all of the seat's roots in one cut). By AI agents, Wed Nov 11 2026. No macro, syntax, notation, axiom, sorry.
-/
import Derived.Test.YtpeecclmpbickaaChecked
import GoSem.Claim
import GoSem.ClaimJoined
import GoSem.ClaimMapViews
import Derived.JoinedTies
import Derived.KernelRfl
namespace Go.Proofs.Ytpeecclmpbickaa
/- THE CELL 'sum', in the pinned program and in every row, IS THE sha256 OF THE DUMP (.gsa) THAT YtpeecclmpbickaaProg.lean LOADS. Nothing in Lean hashes anything: it is a label: what it is worth is what the hold of that sum in a sandbox is worth. -/
noncomputable def Try.pinned : Pinned := { name := "ytpeecclmpbickaa", sum := "573e5ac6a7b59962ab7676a84e1b9c6231a9c9bdd487e6ae58ee804829db7dbf", checked := Try.checked }
namespace Rows
def none {H : Type} : Left H := { results := [], args := [] }

/-- 'juratlaw02.VarintTakes': WHATEVER THE INPUT: true; the input reads as it did. -/
def varintTakesSpec : ChangeSpec := { name := "varintTakes", fn := fun _ => fun
  | [d] => { results := [.lit (.bool true)], args := [d] }
  | _ => none }
def varintTakesRow : OpenClaim := { program := "ytpeecclmpbickaa", sum := "573e5ac6a7b59962ab7676a84e1b9c6231a9c9bdd487e6ae58ee804829db7dbf", func := "jurat/juratlaw02.VarintTakes", spec := "varintTakes", apart := false }
def VarintTakesSaid : Prop := varintTakesRow.holds Try.pinned (OpenSpec.ofChange varintTakesSpec)

/-- ITS FALSE NEIGHBOUR: 'it returns false'. Refute it at one input. -/
def varintTakesWrong : ChangeSpec := { name := "varintTakes", fn := fun _ => fun
  | [d] => { results := [.lit (.bool false)], args := [d] }
  | _ => none }
def VarintTakesWrongFalsely : Prop := varintTakesRow.holds Try.pinned (OpenSpec.ofChange varintTakesWrong)

/-- 'juratlaw02.VarintBack': WHATEVER THE INPUT: true; the input reads as it did. -/
def varintBackSpec : ChangeSpec := { name := "varintBack", fn := fun _ => fun
  | [d1, d2, d3] => { results := [.lit (.bool true)], args := [d1, d2, d3] }
  | _ => none }
def varintBackRow : OpenClaim := { program := "ytpeecclmpbickaa", sum := "573e5ac6a7b59962ab7676a84e1b9c6231a9c9bdd487e6ae58ee804829db7dbf", func := "jurat/juratlaw02.VarintBack", spec := "varintBack", apart := false }
def VarintBackSaid : Prop := varintBackRow.holds Try.pinned (OpenSpec.ofChange varintBackSpec)

/-- ITS FALSE NEIGHBOUR: 'it returns false'. Refute it at one input. -/
def varintBackWrong : ChangeSpec := { name := "varintBack", fn := fun _ => fun
  | [d1, d2, d3] => { results := [.lit (.bool false)], args := [d1, d2, d3] }
  | _ => none }
def VarintBackWrongFalsely : Prop := varintBackRow.holds Try.pinned (OpenSpec.ofChange varintBackWrong)

/-- 'juratlaw02.VarintPuts': WHATEVER THE INPUT: true; the input reads as it did. -/
def varintPutsSpec : ChangeSpec := { name := "varintPuts", fn := fun _ => fun
  | [d1, d2] => { results := [.lit (.bool true)], args := [d1, d2] }
  | _ => none }
def varintPutsRow : OpenClaim := { program := "ytpeecclmpbickaa", sum := "573e5ac6a7b59962ab7676a84e1b9c6231a9c9bdd487e6ae58ee804829db7dbf", func := "jurat/juratlaw02.VarintPuts", spec := "varintPuts", recurses := true, apart := false }
def VarintPutsSaid : Prop := varintPutsRow.holds Try.pinned (OpenSpec.ofChange varintPutsSpec)

/-- ITS FALSE NEIGHBOUR: 'it returns false'. Refute it at one input. -/
def varintPutsWrong : ChangeSpec := { name := "varintPuts", fn := fun _ => fun
  | [d1, d2] => { results := [.lit (.bool false)], args := [d1, d2] }
  | _ => none }
def VarintPutsWrongFalsely : Prop := varintPutsRow.holds Try.pinned (OpenSpec.ofChange varintPutsWrong)

/-- 'juratlaw04.FrameTakes': WHATEVER THE INPUT: true; the input reads as it did. -/
def frameTakesSpec : ChangeSpec := { name := "frameTakes", fn := fun _ => fun
  | [d] => { results := [.lit (.bool true)], args := [d] }
  | _ => none }
def frameTakesRow : OpenClaim := { program := "ytpeecclmpbickaa", sum := "573e5ac6a7b59962ab7676a84e1b9c6231a9c9bdd487e6ae58ee804829db7dbf", func := "jurat/juratlaw04.FrameTakes", spec := "frameTakes", apart := false }
def FrameTakesSaid : Prop := frameTakesRow.holds Try.pinned (OpenSpec.ofChange frameTakesSpec)

/-- ITS FALSE NEIGHBOUR: 'it returns false'. Refute it at one input. -/
def frameTakesWrong : ChangeSpec := { name := "frameTakes", fn := fun _ => fun
  | [d] => { results := [.lit (.bool false)], args := [d] }
  | _ => none }
def FrameTakesWrongFalsely : Prop := frameTakesRow.holds Try.pinned (OpenSpec.ofChange frameTakesWrong)

/-- 'juratlaw03.ReckonSums': WHATEVER THE INPUT: true; the input reads as it did. -/
def reckonSumsSpec : ChangeSpec := { name := "reckonSums", fn := fun _ => fun
  | [d1, d2] => { results := [.lit (.bool true)], args := [d1, d2] }
  | _ => none }
def reckonSumsRow : OpenClaim := { program := "ytpeecclmpbickaa", sum := "573e5ac6a7b59962ab7676a84e1b9c6231a9c9bdd487e6ae58ee804829db7dbf", func := "jurat/juratlaw03.ReckonSums", spec := "reckonSums", apart := false }
def ReckonSumsSaid : Prop := reckonSumsRow.holds Try.pinned (OpenSpec.ofChange reckonSumsSpec)

/-- ITS FALSE NEIGHBOUR: 'it returns false'. Refute it at one input. -/
def reckonSumsWrong : ChangeSpec := { name := "reckonSums", fn := fun _ => fun
  | [d1, d2] => { results := [.lit (.bool false)], args := [d1, d2] }
  | _ => none }
def ReckonSumsWrongFalsely : Prop := reckonSumsRow.holds Try.pinned (OpenSpec.ofChange reckonSumsWrong)

/-- 'juratlaw03.ReckonWalks': WHATEVER THE INPUT: true; the input reads as it did. -/
def reckonWalksSpec : ChangeSpec := { name := "reckonWalks", fn := fun _ => fun
  | [d1, d2, d3] => { results := [.lit (.bool true)], args := [d1, d2, d3] }
  | _ => none }
def reckonWalksRow : OpenClaim := { program := "ytpeecclmpbickaa", sum := "573e5ac6a7b59962ab7676a84e1b9c6231a9c9bdd487e6ae58ee804829db7dbf", func := "jurat/juratlaw03.ReckonWalks", spec := "reckonWalks", apart := false }
def ReckonWalksSaid : Prop := reckonWalksRow.holds Try.pinned (OpenSpec.ofChange reckonWalksSpec)

/-- ITS FALSE NEIGHBOUR: 'it returns false'. Refute it at one input. -/
def reckonWalksWrong : ChangeSpec := { name := "reckonWalks", fn := fun _ => fun
  | [d1, d2, d3] => { results := [.lit (.bool false)], args := [d1, d2, d3] }
  | _ => none }
def ReckonWalksWrongFalsely : Prop := reckonWalksRow.holds Try.pinned (OpenSpec.ofChange reckonWalksWrong)

/-- 'juratlaw03.ReckonBack': WHATEVER THE INPUT: true; the input reads as it did. -/
def reckonBackSpec : ChangeSpec := { name := "reckonBack", fn := fun _ => fun
  | [d1, d2, d3] => { results := [.lit (.bool true)], args := [d1, d2, d3] }
  | _ => none }
def reckonBackRow : OpenClaim := { program := "ytpeecclmpbickaa", sum := "573e5ac6a7b59962ab7676a84e1b9c6231a9c9bdd487e6ae58ee804829db7dbf", func := "jurat/juratlaw03.ReckonBack", spec := "reckonBack", apart := false }
def ReckonBackSaid : Prop := reckonBackRow.holds Try.pinned (OpenSpec.ofChange reckonBackSpec)

/-- ITS FALSE NEIGHBOUR: 'it returns false'. Refute it at one input. -/
def reckonBackWrong : ChangeSpec := { name := "reckonBack", fn := fun _ => fun
  | [d1, d2, d3] => { results := [.lit (.bool false)], args := [d1, d2, d3] }
  | _ => none }
def ReckonBackWrongFalsely : Prop := reckonBackRow.holds Try.pinned (OpenSpec.ofChange reckonBackWrong)

/-- 'juratlaw04.FramePuts': WHATEVER THE INPUT: true; the input reads as it did. -/
def framePutsSpec : ChangeSpec := { name := "framePuts", fn := fun _ => fun
  | [d] => { results := [.lit (.bool true)], args := [d] }
  | _ => none }
def framePutsRow : OpenClaim := { program := "ytpeecclmpbickaa", sum := "573e5ac6a7b59962ab7676a84e1b9c6231a9c9bdd487e6ae58ee804829db7dbf", func := "jurat/juratlaw04.FramePuts", spec := "framePuts", inPlace := ["internal/abi.NoEscape"], recurses := true, apart := false }
def FramePutsSaid : Prop := framePutsRow.holds Try.pinned (OpenSpec.ofChange framePutsSpec)

/-- ITS FALSE NEIGHBOUR: 'it returns false'. Refute it at one input. -/
def framePutsWrong : ChangeSpec := { name := "framePuts", fn := fun _ => fun
  | [d] => { results := [.lit (.bool false)], args := [d] }
  | _ => none }
def FramePutsWrongFalsely : Prop := framePutsRow.holds Try.pinned (OpenSpec.ofChange framePutsWrong)

/-- 'juratlaw04.FrameBack': WHATEVER THE INPUT: true; the input reads as it did. -/
def frameBackSpec : ChangeSpec := { name := "frameBack", fn := fun _ => fun
  | [d1, d2, d3] => { results := [.lit (.bool true)], args := [d1, d2, d3] }
  | _ => none }
def frameBackRow : OpenClaim := { program := "ytpeecclmpbickaa", sum := "573e5ac6a7b59962ab7676a84e1b9c6231a9c9bdd487e6ae58ee804829db7dbf", func := "jurat/juratlaw04.FrameBack", spec := "frameBack", inPlace := ["internal/abi.NoEscape"], apart := false }
def FrameBackSaid : Prop := frameBackRow.holds Try.pinned (OpenSpec.ofChange frameBackSpec)

/-- ITS FALSE NEIGHBOUR: 'it returns false'. Refute it at one input. -/
def frameBackWrong : ChangeSpec := { name := "frameBack", fn := fun _ => fun
  | [d1, d2, d3] => { results := [.lit (.bool false)], args := [d1, d2, d3] }
  | _ => none }
def FrameBackWrongFalsely : Prop := frameBackRow.holds Try.pinned (OpenSpec.ofChange frameBackWrong)

/- THE SECOND FORM. 'bulk': how many values and letters a reading holds, each counted each time it is reached (what is shared counts as often as it is met; a slice's spare places count too). A statement '..UptoSaid' is the law's where the arguments, and the package variables that the reading takes, are together of bulk at most 1048576: NARROWER than '..Said'. Prove '..Said' where nothing that the law and all that it calls make is longer than what came in: it says more and counts as full. Else prove '..UptoSaid'. A law counts once. -/
mutual
def uptoBulk {H : Type} : DataW H → Nat
  | .lit (.string bytes) => bytes.length + 1
  | .lit _ => 1
  | .nil => 1
  | .ptr d => uptoBulk d + 1
  | .slice elems spare => uptoBulkAll elems + uptoBulkAll spare + 1
  | .agg parts => uptoBulkAll parts + 1
  | .iface _ d => uptoBulk d + 1
  | .map entries => uptoBulkEntries entries + 1
  | .held _ => 1
def uptoBulkAll {H : Type} : List (DataW H) → Nat
  | [] => 0
  | d :: r => uptoBulk d + uptoBulkAll r
def uptoBulkEntries {H : Type} : List (Lit × DataW H) → Nat
  | [] => 0
  | x :: r => uptoBulkEntry x + uptoBulkEntries r
def uptoBulkEntry {H : Type} : Lit × DataW H → Nat
  | (.string bytes, d) => bytes.length + uptoBulk d + 1
  | (_, d) => uptoBulk d + 1
 end
def uptoSmall : (H : Type) → List (DataW H) → Bool := fun _ ds => decide (uptoBulkAll ds ≤ 1048576)
def OpenSpec.upto (s : _root_.Go.ChangeSpec) : _root_.Go.OpenSpec := { _root_.Go.OpenSpec.ofChange s with cond := some uptoSmall }

/-- 'juratlaw02.VarintTakes', WHERE WHAT IT READS IS OF BULK AT MOST 1048576: true; the input reads as it did. -/
def varintTakesUptoRow : OpenClaim := { program := "ytpeecclmpbickaa", sum := "573e5ac6a7b59962ab7676a84e1b9c6231a9c9bdd487e6ae58ee804829db7dbf", func := "jurat/juratlaw02.VarintTakes", spec := "varintTakes", apart := false, narrowed := true }
def VarintTakesUptoSaid : Prop := varintTakesUptoRow.holds Try.pinned (OpenSpec.upto varintTakesSpec)

/-- 'juratlaw02.VarintBack', WHERE WHAT IT READS IS OF BULK AT MOST 1048576: true; the input reads as it did. -/
def varintBackUptoRow : OpenClaim := { program := "ytpeecclmpbickaa", sum := "573e5ac6a7b59962ab7676a84e1b9c6231a9c9bdd487e6ae58ee804829db7dbf", func := "jurat/juratlaw02.VarintBack", spec := "varintBack", apart := false, narrowed := true }
def VarintBackUptoSaid : Prop := varintBackUptoRow.holds Try.pinned (OpenSpec.upto varintBackSpec)

/-- 'juratlaw02.VarintPuts', WHERE WHAT IT READS IS OF BULK AT MOST 1048576: true; the input reads as it did. -/
def varintPutsUptoRow : OpenClaim := { program := "ytpeecclmpbickaa", sum := "573e5ac6a7b59962ab7676a84e1b9c6231a9c9bdd487e6ae58ee804829db7dbf", func := "jurat/juratlaw02.VarintPuts", spec := "varintPuts", recurses := true, apart := false, narrowed := true }
def VarintPutsUptoSaid : Prop := varintPutsUptoRow.holds Try.pinned (OpenSpec.upto varintPutsSpec)

/-- 'juratlaw04.FrameTakes', WHERE WHAT IT READS IS OF BULK AT MOST 1048576: true; the input reads as it did. -/
def frameTakesUptoRow : OpenClaim := { program := "ytpeecclmpbickaa", sum := "573e5ac6a7b59962ab7676a84e1b9c6231a9c9bdd487e6ae58ee804829db7dbf", func := "jurat/juratlaw04.FrameTakes", spec := "frameTakes", apart := false, narrowed := true }
def FrameTakesUptoSaid : Prop := frameTakesUptoRow.holds Try.pinned (OpenSpec.upto frameTakesSpec)

/-- 'juratlaw03.ReckonSums', WHERE WHAT IT READS IS OF BULK AT MOST 1048576: true; the input reads as it did. -/
def reckonSumsUptoRow : OpenClaim := { program := "ytpeecclmpbickaa", sum := "573e5ac6a7b59962ab7676a84e1b9c6231a9c9bdd487e6ae58ee804829db7dbf", func := "jurat/juratlaw03.ReckonSums", spec := "reckonSums", apart := false, narrowed := true }
def ReckonSumsUptoSaid : Prop := reckonSumsUptoRow.holds Try.pinned (OpenSpec.upto reckonSumsSpec)

/-- 'juratlaw03.ReckonWalks', WHERE WHAT IT READS IS OF BULK AT MOST 1048576: true; the input reads as it did. -/
def reckonWalksUptoRow : OpenClaim := { program := "ytpeecclmpbickaa", sum := "573e5ac6a7b59962ab7676a84e1b9c6231a9c9bdd487e6ae58ee804829db7dbf", func := "jurat/juratlaw03.ReckonWalks", spec := "reckonWalks", apart := false, narrowed := true }
def ReckonWalksUptoSaid : Prop := reckonWalksUptoRow.holds Try.pinned (OpenSpec.upto reckonWalksSpec)

/-- 'juratlaw03.ReckonBack', WHERE WHAT IT READS IS OF BULK AT MOST 1048576: true; the input reads as it did. -/
def reckonBackUptoRow : OpenClaim := { program := "ytpeecclmpbickaa", sum := "573e5ac6a7b59962ab7676a84e1b9c6231a9c9bdd487e6ae58ee804829db7dbf", func := "jurat/juratlaw03.ReckonBack", spec := "reckonBack", apart := false, narrowed := true }
def ReckonBackUptoSaid : Prop := reckonBackUptoRow.holds Try.pinned (OpenSpec.upto reckonBackSpec)

/-- 'juratlaw04.FramePuts', WHERE WHAT IT READS IS OF BULK AT MOST 1048576: true; the input reads as it did. -/
def framePutsUptoRow : OpenClaim := { program := "ytpeecclmpbickaa", sum := "573e5ac6a7b59962ab7676a84e1b9c6231a9c9bdd487e6ae58ee804829db7dbf", func := "jurat/juratlaw04.FramePuts", spec := "framePuts", inPlace := ["internal/abi.NoEscape"], recurses := true, apart := false, narrowed := true }
def FramePutsUptoSaid : Prop := framePutsUptoRow.holds Try.pinned (OpenSpec.upto framePutsSpec)

/-- 'juratlaw04.FrameBack', WHERE WHAT IT READS IS OF BULK AT MOST 1048576: true; the input reads as it did. -/
def frameBackUptoRow : OpenClaim := { program := "ytpeecclmpbickaa", sum := "573e5ac6a7b59962ab7676a84e1b9c6231a9c9bdd487e6ae58ee804829db7dbf", func := "jurat/juratlaw04.FrameBack", spec := "frameBack", inPlace := ["internal/abi.NoEscape"], apart := false, narrowed := true }
def FrameBackUptoSaid : Prop := frameBackUptoRow.holds Try.pinned (OpenSpec.upto frameBackSpec)

end Rows
end Go.Proofs.Ytpeecclmpbickaa
