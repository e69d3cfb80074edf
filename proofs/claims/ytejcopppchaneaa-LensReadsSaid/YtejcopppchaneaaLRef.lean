/- Plain lemmas of this session (LRef): numbers, bytes and lists. -/
import Derived.Test.YtejcopppchaneaaLRec
import Derived.Test.YtejcopppchaneaaPFx4
namespace Go.Proofs.Ytejcopppchaneaa.Pure
open Go.RowKit Go.Proofs.YtejcopppchaneaaW.PrintWords Go.Proofs.YtejcopppchaneaaW.PrintLast Go.Proofs.YtejcopppchaneaaW.PrintMore Go.Proofs.Ytejcopppchaneaa.PF
theorem ris_is (n : Int) : juratref03_Is.f n = some (isR n) := by
  unfold juratref03_Is.f isR
  by_cases h : n ≥ 0
  · rw [if_pos h]; congr 1; simp; omega
  · rw [if_neg h]; congr 1; simp; omega
end Go.Proofs.Ytejcopppchaneaa.Pure
