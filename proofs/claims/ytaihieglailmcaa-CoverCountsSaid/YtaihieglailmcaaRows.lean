/-
  No cell of these rows narrows 'for every input' (looked for: loops, veiled, ifaces, maps, wideKeys, modest, calm, conditions, laid).
  DERIVED. THE GIVEN ROWS OF THIS SEAT. 6 by the template 'for every input the law returns true; each argument reads behind the call as it read before'; 0 by the template 'total and deterministic' (their statements: YtaihieglailmcaaTotals.lean).
  GIVEN WITH THE SEED: the statements are not yours to turn. If you find one false, say at which input.
  Laid BY PROGRAM, IN A SANDBOX (cutbox-rows.mjs): the forced cells as the released guide's own fill.sh prints them over the translation fd932e09aae6f932… (all of the seat's roots in one cut). By AI agents, Wed Nov 11 2026. No macro, syntax, notation, axiom, sorry.
-/
import Derived.Test.YtaihieglailmcaaChecked
import GoSem.Claim
import GoSem.ClaimJoined
import GoSem.ClaimMapViews
import Derived.JoinedTies
import Derived.KernelRfl
namespace Go.Proofs.Ytaihieglailmcaa
/- THE CELL 'sum', in the pinned program and in every row, IS THE sha256 OF THE DUMP (.gsa) THAT YtaihieglailmcaaProg.lean LOADS. Nothing in Lean hashes anything: it is a label: what it is worth is what the hold of that sum in a sandbox is worth. -/
noncomputable def Try.pinned : Pinned := { name := "ytaihieglailmcaa", sum := "fd932e09aae6f932f109f99cf80444665867cb428d43b32bd161eb1f8e9bc042", checked := Try.checked }
namespace Rows
def none {H : Type} : Left H := { results := [], args := [] }

/-- 'juratlaw27.MergeComes': WHATEVER THE INPUT: true; the input reads as it did. -/
def mergeComesSpec : ChangeSpec := { name := "mergeComes", fn := fun _ => fun
  | [d1, d2] => { results := [.lit (.bool true)], args := [d1, d2] }
  | _ => none }
def mergeComesRow : OpenClaim := { program := "ytaihieglailmcaa", sum := "fd932e09aae6f932f109f99cf80444665867cb428d43b32bd161eb1f8e9bc042", func := "jurat/juratlaw27.MergeComes", spec := "mergeComes", apart := false }
def MergeComesSaid : Prop := mergeComesRow.holds Try.pinned (OpenSpec.ofChange mergeComesSpec)

/-- ITS FALSE NEIGHBOUR: 'it returns false'. Refute it at one input. -/
def mergeComesWrong : ChangeSpec := { name := "mergeComes", fn := fun _ => fun
  | [d1, d2] => { results := [.lit (.bool false)], args := [d1, d2] }
  | _ => none }
def MergeComesWrongFalsely : Prop := mergeComesRow.holds Try.pinned (OpenSpec.ofChange mergeComesWrong)

/-- 'juratlaw27.MergeTells': WHATEVER THE INPUT: true; the input reads as it did. -/
def mergeTellsSpec : ChangeSpec := { name := "mergeTells", fn := fun _ => fun
  | [d1, d2, d3, d4] => { results := [.lit (.bool true)], args := [d1, d2, d3, d4] }
  | _ => none }
def mergeTellsRow : OpenClaim := { program := "ytaihieglailmcaa", sum := "fd932e09aae6f932f109f99cf80444665867cb428d43b32bd161eb1f8e9bc042", func := "jurat/juratlaw27.MergeTells", spec := "mergeTells", apart := false }
def MergeTellsSaid : Prop := mergeTellsRow.holds Try.pinned (OpenSpec.ofChange mergeTellsSpec)

/-- ITS FALSE NEIGHBOUR: 'it returns false'. Refute it at one input. -/
def mergeTellsWrong : ChangeSpec := { name := "mergeTells", fn := fun _ => fun
  | [d1, d2, d3, d4] => { results := [.lit (.bool false)], args := [d1, d2, d3, d4] }
  | _ => none }
def MergeTellsWrongFalsely : Prop := mergeTellsRow.holds Try.pinned (OpenSpec.ofChange mergeTellsWrong)

/-- 'juratlaw27.MergeKeeps': WHATEVER THE INPUT: true; the input reads as it did. -/
def mergeKeepsSpec : ChangeSpec := { name := "mergeKeeps", fn := fun _ => fun
  | [d1, d2] => { results := [.lit (.bool true)], args := [d1, d2] }
  | _ => none }
def mergeKeepsRow : OpenClaim := { program := "ytaihieglailmcaa", sum := "fd932e09aae6f932f109f99cf80444665867cb428d43b32bd161eb1f8e9bc042", func := "jurat/juratlaw27.MergeKeeps", spec := "mergeKeeps", apart := false }
def MergeKeepsSaid : Prop := mergeKeepsRow.holds Try.pinned (OpenSpec.ofChange mergeKeepsSpec)

/-- ITS FALSE NEIGHBOUR: 'it returns false'. Refute it at one input. -/
def mergeKeepsWrong : ChangeSpec := { name := "mergeKeeps", fn := fun _ => fun
  | [d1, d2] => { results := [.lit (.bool false)], args := [d1, d2] }
  | _ => none }
def MergeKeepsWrongFalsely : Prop := mergeKeepsRow.holds Try.pinned (OpenSpec.ofChange mergeKeepsWrong)

/-- 'juratlaw37.CoverCounts': WHATEVER THE INPUT: true; the input reads as it did. -/
def coverCountsSpec : ChangeSpec := { name := "coverCounts", fn := fun _ => fun
  | [d1, d2] => { results := [.lit (.bool true)], args := [d1, d2] }
  | _ => none }
def coverCountsRow : OpenClaim := { program := "ytaihieglailmcaa", sum := "fd932e09aae6f932f109f99cf80444665867cb428d43b32bd161eb1f8e9bc042", func := "jurat/juratlaw37.CoverCounts", spec := "coverCounts", apart := false }
def CoverCountsSaid : Prop := coverCountsRow.holds Try.pinned (OpenSpec.ofChange coverCountsSpec)

/-- ITS FALSE NEIGHBOUR: 'it returns false'. Refute it at one input. -/
def coverCountsWrong : ChangeSpec := { name := "coverCounts", fn := fun _ => fun
  | [d1, d2] => { results := [.lit (.bool false)], args := [d1, d2] }
  | _ => none }
def CoverCountsWrongFalsely : Prop := coverCountsRow.holds Try.pinned (OpenSpec.ofChange coverCountsWrong)

/-- 'juratlaw37.CoverOnce': WHATEVER THE INPUT: true; the input reads as it did. -/
def coverOnceSpec : ChangeSpec := { name := "coverOnce", fn := fun _ => fun
  | [d] => { results := [.lit (.bool true)], args := [d] }
  | _ => none }
def coverOnceRow : OpenClaim := { program := "ytaihieglailmcaa", sum := "fd932e09aae6f932f109f99cf80444665867cb428d43b32bd161eb1f8e9bc042", func := "jurat/juratlaw37.CoverOnce", spec := "coverOnce", apart := false }
def CoverOnceSaid : Prop := coverOnceRow.holds Try.pinned (OpenSpec.ofChange coverOnceSpec)

/-- ITS FALSE NEIGHBOUR: 'it returns false'. Refute it at one input. -/
def coverOnceWrong : ChangeSpec := { name := "coverOnce", fn := fun _ => fun
  | [d] => { results := [.lit (.bool false)], args := [d] }
  | _ => none }
def CoverOnceWrongFalsely : Prop := coverOnceRow.holds Try.pinned (OpenSpec.ofChange coverOnceWrong)

/-- 'juratlaw37.CoverNone': WHATEVER THE INPUT: true; the input reads as it did. -/
def coverNoneSpec : ChangeSpec := { name := "coverNone", fn := fun _ => fun
  | [d] => { results := [.lit (.bool true)], args := [d] }
  | _ => none }
def coverNoneRow : OpenClaim := { program := "ytaihieglailmcaa", sum := "fd932e09aae6f932f109f99cf80444665867cb428d43b32bd161eb1f8e9bc042", func := "jurat/juratlaw37.CoverNone", spec := "coverNone", apart := false }
def CoverNoneSaid : Prop := coverNoneRow.holds Try.pinned (OpenSpec.ofChange coverNoneSpec)

/-- ITS FALSE NEIGHBOUR: 'it returns false'. Refute it at one input. -/
def coverNoneWrong : ChangeSpec := { name := "coverNone", fn := fun _ => fun
  | [d] => { results := [.lit (.bool false)], args := [d] }
  | _ => none }
def CoverNoneWrongFalsely : Prop := coverNoneRow.holds Try.pinned (OpenSpec.ofChange coverNoneWrong)

/- THE SECOND FORM. 'bulk': how many values and letters a reading holds, each counted each time it is reached (what is shared counts as often as it is met; a slice's spare places count too). A statement '..UptoSaid' is the law's where the arguments, and the package variables that the reading takes, are together of bulk at most 1048576: NARROWER than '..Said'. Prove '..Said' where nothing that the law and all that it calls make is longer than what came in: it says more and counts as full. Else prove '..UptoSaid'. A law counts once. -/
mutual
def uptoBulk {H : Type} : DataW H → Nat
  | .lit (.string bytes) => bytes.length + 1
  | .lit _ => 1
  | .nil => 1
  | .ptr d => uptoBulk d + 1
  | .slice elems spare => uptoBulkAll elems + uptoBulkAll spare + 1
  | .agg parts => uptoBulkAll parts + 1
  | .iface _ d => uptoBulk d + 1
  | .map entries => uptoBulkEntries entries + 1
  | .held _ => 1
def uptoBulkAll {H : Type} : List (DataW H) → Nat
  | [] => 0
  | d :: r => uptoBulk d + uptoBulkAll r
def uptoBulkEntries {H : Type} : List (Lit × DataW H) → Nat
  | [] => 0
  | x :: r => uptoBulkEntry x + uptoBulkEntries r
def uptoBulkEntry {H : Type} : Lit × DataW H → Nat
  | (.string bytes, d) => bytes.length + uptoBulk d + 1
  | (_, d) => uptoBulk d + 1
 end
def uptoSmall : (H : Type) → List (DataW H) → Bool := fun _ ds => decide (uptoBulkAll ds ≤ 1048576)
def OpenSpec.upto (s : _root_.Go.ChangeSpec) : _root_.Go.OpenSpec := { _root_.Go.OpenSpec.ofChange s with cond := some uptoSmall }

/-- 'juratlaw27.MergeComes', WHERE WHAT IT READS IS OF BULK AT MOST 1048576: true; the input reads as it did. -/
def mergeComesUptoRow : OpenClaim := { program := "ytaihieglailmcaa", sum := "fd932e09aae6f932f109f99cf80444665867cb428d43b32bd161eb1f8e9bc042", func := "jurat/juratlaw27.MergeComes", spec := "mergeComes", apart := false, narrowed := true }
def MergeComesUptoSaid : Prop := mergeComesUptoRow.holds Try.pinned (OpenSpec.upto mergeComesSpec)

/-- 'juratlaw27.MergeTells', WHERE WHAT IT READS IS OF BULK AT MOST 1048576: true; the input reads as it did. -/
def mergeTellsUptoRow : OpenClaim := { program := "ytaihieglailmcaa", sum := "fd932e09aae6f932f109f99cf80444665867cb428d43b32bd161eb1f8e9bc042", func := "jurat/juratlaw27.MergeTells", spec := "mergeTells", apart := false, narrowed := true }
def MergeTellsUptoSaid : Prop := mergeTellsUptoRow.holds Try.pinned (OpenSpec.upto mergeTellsSpec)

/-- 'juratlaw27.MergeKeeps', WHERE WHAT IT READS IS OF BULK AT MOST 1048576: true; the input reads as it did. -/
def mergeKeepsUptoRow : OpenClaim := { program := "ytaihieglailmcaa", sum := "fd932e09aae6f932f109f99cf80444665867cb428d43b32bd161eb1f8e9bc042", func := "jurat/juratlaw27.MergeKeeps", spec := "mergeKeeps", apart := false, narrowed := true }
def MergeKeepsUptoSaid : Prop := mergeKeepsUptoRow.holds Try.pinned (OpenSpec.upto mergeKeepsSpec)

/-- 'juratlaw37.CoverCounts', WHERE WHAT IT READS IS OF BULK AT MOST 1048576: true; the input reads as it did. -/
def coverCountsUptoRow : OpenClaim := { program := "ytaihieglailmcaa", sum := "fd932e09aae6f932f109f99cf80444665867cb428d43b32bd161eb1f8e9bc042", func := "jurat/juratlaw37.CoverCounts", spec := "coverCounts", apart := false, narrowed := true }
def CoverCountsUptoSaid : Prop := coverCountsUptoRow.holds Try.pinned (OpenSpec.upto coverCountsSpec)

/-- 'juratlaw37.CoverOnce', WHERE WHAT IT READS IS OF BULK AT MOST 1048576: true; the input reads as it did. -/
def coverOnceUptoRow : OpenClaim := { program := "ytaihieglailmcaa", sum := "fd932e09aae6f932f109f99cf80444665867cb428d43b32bd161eb1f8e9bc042", func := "jurat/juratlaw37.CoverOnce", spec := "coverOnce", apart := false, narrowed := true }
def CoverOnceUptoSaid : Prop := coverOnceUptoRow.holds Try.pinned (OpenSpec.upto coverOnceSpec)

/-- 'juratlaw37.CoverNone', WHERE WHAT IT READS IS OF BULK AT MOST 1048576: true; the input reads as it did. -/
def coverNoneUptoRow : OpenClaim := { program := "ytaihieglailmcaa", sum := "fd932e09aae6f932f109f99cf80444665867cb428d43b32bd161eb1f8e9bc042", func := "jurat/juratlaw37.CoverNone", spec := "coverNone", apart := false, narrowed := true }
def CoverNoneUptoSaid : Prop := coverNoneUptoRow.holds Try.pinned (OpenSpec.upto coverNoneSpec)

end Rows
end Go.Proofs.Ytaihieglailmcaa
