/-
  No cell of these rows narrows 'for every input' (looked for: loops, veiled, ifaces, maps, wideKeys, modest, calm, conditions, laid).
  DERIVED. THE GIVEN ROWS OF THIS SEAT. 5 by the template 'for every input the law returns true; each argument reads behind the call as it read before'; 0 by the template 'total and deterministic' (their statements: YtejcopppchaneaaTotals.lean).
  GIVEN WITH THE SEED: the statements are not yours to turn. If you find one false, say at which input.
  Laid BY PROGRAM, IN A SANDBOX (cutbox-rows.mjs): the forced cells as the released guide's own fill.sh prints them over the translation d550046bb9a03929… (all of the seat's roots in one cut). By AI agents, Wed Nov 11 2026. No macro, syntax, notation, axiom, sorry.
-/
import Derived.Test.YtejcopppchaneaaChecked
import GoSem.Claim
import GoSem.ClaimJoined
import GoSem.ClaimMapViews
import Derived.JoinedTies
import Derived.KernelRfl
namespace Go.Proofs.Ytejcopppchaneaa
/- THE CELL 'sum', in the pinned program and in every row, IS THE sha256 OF THE DUMP (.gsa) THAT YtejcopppchaneaaProg.lean LOADS. Nothing in Lean hashes anything: it is a label: what it is worth is what the hold of that sum in a sandbox is worth. -/
noncomputable def Try.pinned : Pinned := { name := "ytejcopppchaneaa", sum := "d550046bb9a03929f042b2c695c45eb156753cc52bce48f481d57eb0e104f20c", checked := Try.checked }
namespace Rows
def none {H : Type} : Left H := { results := [], args := [] }

/-- 'juratlaw31.LensBack': WHATEVER THE INPUT: true; the input reads as it did. -/
def lensBackSpec : ChangeSpec := { name := "lensBack", fn := fun _ => fun
  | [d1, d2] => { results := [.lit (.bool true)], args := [d1, d2] }
  | _ => none }
def lensBackRow : OpenClaim := { program := "ytejcopppchaneaa", sum := "d550046bb9a03929f042b2c695c45eb156753cc52bce48f481d57eb0e104f20c", func := "jurat/juratlaw31.LensBack", spec := "lensBack", unfollowed := true, recurses := true, apart := false }
def LensBackSaid : Prop := lensBackRow.holds Try.pinned (OpenSpec.ofChange lensBackSpec)

/-- ITS FALSE NEIGHBOUR: 'it returns false'. Refute it at one input. -/
def lensBackWrong : ChangeSpec := { name := "lensBack", fn := fun _ => fun
  | [d1, d2] => { results := [.lit (.bool false)], args := [d1, d2] }
  | _ => none }
def LensBackWrongFalsely : Prop := lensBackRow.holds Try.pinned (OpenSpec.ofChange lensBackWrong)

/-- 'juratlaw31.LensNone': WHATEVER THE INPUT: true; the input reads as it did. -/
def lensNoneSpec : ChangeSpec := { name := "lensNone", fn := fun _ => fun
  | [d] => { results := [.lit (.bool true)], args := [d] }
  | _ => none }
def lensNoneRow : OpenClaim := { program := "ytejcopppchaneaa", sum := "d550046bb9a03929f042b2c695c45eb156753cc52bce48f481d57eb0e104f20c", func := "jurat/juratlaw31.LensNone", spec := "lensNone", unfollowed := true, recurses := true, apart := false }
def LensNoneSaid : Prop := lensNoneRow.holds Try.pinned (OpenSpec.ofChange lensNoneSpec)

/-- ITS FALSE NEIGHBOUR: 'it returns false'. Refute it at one input. -/
def lensNoneWrong : ChangeSpec := { name := "lensNone", fn := fun _ => fun
  | [d] => { results := [.lit (.bool false)], args := [d] }
  | _ => none }
def LensNoneWrongFalsely : Prop := lensNoneRow.holds Try.pinned (OpenSpec.ofChange lensNoneWrong)

/-- 'juratlaw31.LensReads': WHATEVER THE INPUT: true; the input reads as it did. -/
def lensReadsSpec : ChangeSpec := { name := "lensReads", fn := fun _ => fun
  | [d1, d2, d3] => { results := [.lit (.bool true)], args := [d1, d2, d3] }
  | _ => none }
def lensReadsRow : OpenClaim := { program := "ytejcopppchaneaa", sum := "d550046bb9a03929f042b2c695c45eb156753cc52bce48f481d57eb0e104f20c", func := "jurat/juratlaw31.LensReads", spec := "lensReads", unfollowed := true, recurses := true, apart := false }
def LensReadsSaid : Prop := lensReadsRow.holds Try.pinned (OpenSpec.ofChange lensReadsSpec)

/-- ITS FALSE NEIGHBOUR: 'it returns false'. Refute it at one input. -/
def lensReadsWrong : ChangeSpec := { name := "lensReads", fn := fun _ => fun
  | [d1, d2, d3] => { results := [.lit (.bool false)], args := [d1, d2, d3] }
  | _ => none }
def LensReadsWrongFalsely : Prop := lensReadsRow.holds Try.pinned (OpenSpec.ofChange lensReadsWrong)

/-- 'juratlaw30.PenAdds': WHATEVER THE INPUT: true; the input reads as it did. -/
def penAddsSpec : ChangeSpec := { name := "penAdds", fn := fun _ => fun
  | [d1, d2] => { results := [.lit (.bool true)], args := [d1, d2] }
  | _ => none }
def penAddsRow : OpenClaim := { program := "ytejcopppchaneaa", sum := "d550046bb9a03929f042b2c695c45eb156753cc52bce48f481d57eb0e104f20c", func := "jurat/juratlaw30.PenAdds", spec := "penAdds", inPlace := ["internal/abi.NoEscape"], recurses := true, apart := false }
def PenAddsSaid : Prop := penAddsRow.holds Try.pinned (OpenSpec.ofChange penAddsSpec)

/-- ITS FALSE NEIGHBOUR: 'it returns false'. Refute it at one input. -/
def penAddsWrong : ChangeSpec := { name := "penAdds", fn := fun _ => fun
  | [d1, d2] => { results := [.lit (.bool false)], args := [d1, d2] }
  | _ => none }
def PenAddsWrongFalsely : Prop := penAddsRow.holds Try.pinned (OpenSpec.ofChange penAddsWrong)

/-- 'juratlaw30.PenWhole': WHATEVER THE INPUT: true; the input reads as it did. -/
def penWholeSpec : ChangeSpec := { name := "penWhole", fn := fun _ => fun
  | [d1, d2] => { results := [.lit (.bool true)], args := [d1, d2] }
  | _ => none }
def penWholeRow : OpenClaim := { program := "ytejcopppchaneaa", sum := "d550046bb9a03929f042b2c695c45eb156753cc52bce48f481d57eb0e104f20c", func := "jurat/juratlaw30.PenWhole", spec := "penWhole", inPlace := ["internal/abi.NoEscape"], recurses := true, apart := false }
def PenWholeSaid : Prop := penWholeRow.holds Try.pinned (OpenSpec.ofChange penWholeSpec)

/-- ITS FALSE NEIGHBOUR: 'it returns false'. Refute it at one input. -/
def penWholeWrong : ChangeSpec := { name := "penWhole", fn := fun _ => fun
  | [d1, d2] => { results := [.lit (.bool false)], args := [d1, d2] }
  | _ => none }
def PenWholeWrongFalsely : Prop := penWholeRow.holds Try.pinned (OpenSpec.ofChange penWholeWrong)

/- THE SECOND FORM. 'bulk': how many values and letters a reading holds, each counted each time it is reached (what is shared counts as often as it is met; a slice's spare places count too). A statement '..UptoSaid' is the law's where the arguments, and the package variables that the reading takes, are together of bulk at most 1048576: NARROWER than '..Said'. Prove '..Said' where nothing that the law and all that it calls make is longer than what came in: it says more and counts as full. Else prove '..UptoSaid'. A law counts once. -/
mutual
def uptoBulk {H : Type} : DataW H → Nat
  | .lit (.string bytes) => bytes.length + 1
  | .lit _ => 1
  | .nil => 1
  | .ptr d => uptoBulk d + 1
  | .slice elems spare => uptoBulkAll elems + uptoBulkAll spare + 1
  | .agg parts => uptoBulkAll parts + 1
  | .iface _ d => uptoBulk d + 1
  | .map entries => uptoBulkEntries entries + 1
  | .held _ => 1
def uptoBulkAll {H : Type} : List (DataW H) → Nat
  | [] => 0
  | d :: r => uptoBulk d + uptoBulkAll r
def uptoBulkEntries {H : Type} : List (Lit × DataW H) → Nat
  | [] => 0
  | x :: r => uptoBulkEntry x + uptoBulkEntries r
def uptoBulkEntry {H : Type} : Lit × DataW H → Nat
  | (.string bytes, d) => bytes.length + uptoBulk d + 1
  | (_, d) => uptoBulk d + 1
 end
def uptoSmall : (H : Type) → List (DataW H) → Bool := fun _ ds => decide (uptoBulkAll ds ≤ 1048576)
def OpenSpec.upto (s : _root_.Go.ChangeSpec) : _root_.Go.OpenSpec := { _root_.Go.OpenSpec.ofChange s with cond := some uptoSmall }

/-- 'juratlaw31.LensBack', WHERE WHAT IT READS IS OF BULK AT MOST 1048576: true; the input reads as it did. -/
def lensBackUptoRow : OpenClaim := { program := "ytejcopppchaneaa", sum := "d550046bb9a03929f042b2c695c45eb156753cc52bce48f481d57eb0e104f20c", func := "jurat/juratlaw31.LensBack", spec := "lensBack", unfollowed := true, recurses := true, apart := false, narrowed := true }
def LensBackUptoSaid : Prop := lensBackUptoRow.holds Try.pinned (OpenSpec.upto lensBackSpec)

/-- 'juratlaw31.LensNone', WHERE WHAT IT READS IS OF BULK AT MOST 1048576: true; the input reads as it did. -/
def lensNoneUptoRow : OpenClaim := { program := "ytejcopppchaneaa", sum := "d550046bb9a03929f042b2c695c45eb156753cc52bce48f481d57eb0e104f20c", func := "jurat/juratlaw31.LensNone", spec := "lensNone", unfollowed := true, recurses := true, apart := false, narrowed := true }
def LensNoneUptoSaid : Prop := lensNoneUptoRow.holds Try.pinned (OpenSpec.upto lensNoneSpec)

/-- 'juratlaw31.LensReads', WHERE WHAT IT READS IS OF BULK AT MOST 1048576: true; the input reads as it did. -/
def lensReadsUptoRow : OpenClaim := { program := "ytejcopppchaneaa", sum := "d550046bb9a03929f042b2c695c45eb156753cc52bce48f481d57eb0e104f20c", func := "jurat/juratlaw31.LensReads", spec := "lensReads", unfollowed := true, recurses := true, apart := false, narrowed := true }
def LensReadsUptoSaid : Prop := lensReadsUptoRow.holds Try.pinned (OpenSpec.upto lensReadsSpec)

/-- 'juratlaw30.PenAdds', WHERE WHAT IT READS IS OF BULK AT MOST 1048576: true; the input reads as it did. -/
def penAddsUptoRow : OpenClaim := { program := "ytejcopppchaneaa", sum := "d550046bb9a03929f042b2c695c45eb156753cc52bce48f481d57eb0e104f20c", func := "jurat/juratlaw30.PenAdds", spec := "penAdds", inPlace := ["internal/abi.NoEscape"], recurses := true, apart := false, narrowed := true }
def PenAddsUptoSaid : Prop := penAddsUptoRow.holds Try.pinned (OpenSpec.upto penAddsSpec)

/-- 'juratlaw30.PenWhole', WHERE WHAT IT READS IS OF BULK AT MOST 1048576: true; the input reads as it did. -/
def penWholeUptoRow : OpenClaim := { program := "ytejcopppchaneaa", sum := "d550046bb9a03929f042b2c695c45eb156753cc52bce48f481d57eb0e104f20c", func := "jurat/juratlaw30.PenWhole", spec := "penWhole", inPlace := ["internal/abi.NoEscape"], recurses := true, apart := false, narrowed := true }
def PenWholeUptoSaid : Prop := penWholeUptoRow.holds Try.pinned (OpenSpec.upto penWholeSpec)

end Rows
end Go.Proofs.Ytejcopppchaneaa
