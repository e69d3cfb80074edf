/- What is to be proved of MergeKeeps, over numbers and lists alone. -/
import Derived.Test.YtaihieglailmcaaPGx11
import Derived.Test.YtaihieglailmcaaOpensG
namespace Go.Proofs.Ytaihieglailmcaa.PG
open Go.RowKit Go.Proofs.YtaihieglailmcaaW.PrintWords Go.Proofs.YtaihieglailmcaaW.PrintLast Go.Proofs.YtaihieglailmcaaW.PrintMore
def juratlaw27_MergeKeeps.Pure : Prop := ∀ (l0 : (List S28)) (a1 : Int), (fun xs : List S28 => xs.length ≤ maxLen ∧ ∀ x ∈ xs, good28 x) l0 → (fun n : Int => (Lit.int .i64 n).wf = true) a1 → ∃ k, juratlaw27_MergeKeeps.f k l0 a1 = some true
end Go.Proofs.Ytaihieglailmcaa.PG
