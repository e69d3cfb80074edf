/- Plain lemmas of this session (LRec): numbers, bytes and lists. -/
import Derived.Test.YtejcopppchaneaaHVarint
import Derived.Lib.Bytes
import Derived.Lib.Strings
import Derived.Test.YtejcopppchaneaaPFx2
namespace Go.Proofs.Ytejcopppchaneaa.Pure
open Go.RowKit Go.Proofs.YtejcopppchaneaaW.PrintWords Go.Proofs.YtejcopppchaneaaW.PrintLast Go.Proofs.YtejcopppchaneaaW.PrintMore Go.Proofs.Ytejcopppchaneaa.PF
def isR (n : Int) : Bool := decide (0 ≤ n ∧ n ≤ 4611686018427387903)
theorem rd_get (l : List Int) (i : Nat) (h : i < l.length) : rd l (i : Int) = l[i] := by simp [rd, List.getD_eq_getElem?_getD, List.getElem?_eq_getElem h]
theorem is_is (n : Int) : reckon_Is.f n = some (isR n) := by
  unfold reckon_Is.f isR
  by_cases h : n ≥ 0
  · rw [if_pos h]; congr 1; simp; omega
  · rw [if_neg h]; congr 1; simp; omega
theorem runs_is (n : Int) : record_runs.f n = some (decide (1 ≤ n ∧ n ≤ 3)) := by
  unfold record_runs.f
  by_cases h : n ≥ 1
  · rw [if_pos h]; congr 1; simp; omega
  · rw [if_neg h]; congr 1; simp; omega
end Go.Proofs.Ytejcopppchaneaa.Pure
