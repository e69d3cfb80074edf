/- What is to be proved of FramePuts, over numbers and lists alone. -/
import Derived.Test.YtpeecclmpbickaaPFx7
import Derived.Test.YtpeecclmpbickaaOpensF
namespace Go.Proofs.Ytpeecclmpbickaa.PF
open Go.RowKit Go.Proofs.YtpeecclmpbickaaW.PrintWords Go.Proofs.YtpeecclmpbickaaW.PrintLast Go.Proofs.YtpeecclmpbickaaW.PrintMore
def juratlaw04_FramePuts.Pure : Prop := ∀ (l0 : (List S37)), (fun xs : List S37 => xs.length ≤ maxLen ∧ ∀ x ∈ xs, good37 x) l0 → ∃ k, juratlaw04_FramePuts.f k l0 = some true
end Go.Proofs.Ytpeecclmpbickaa.PF
