/- What is to be proved of FrameBack, over numbers and lists alone. -/
import Derived.Test.YtpeecclmpbickaaPFx8
import Derived.Test.YtpeecclmpbickaaOpensF
namespace Go.Proofs.Ytpeecclmpbickaa.PF
open Go.RowKit Go.Proofs.YtpeecclmpbickaaW.PrintWords Go.Proofs.YtpeecclmpbickaaW.PrintLast Go.Proofs.YtpeecclmpbickaaW.PrintMore
def juratlaw04_FrameBack.Pure : Prop := ∀ (l0 : (List S37)) (a1 : ByteArray) (a2 : Int), (fun xs : List S37 => xs.length ≤ maxLen ∧ ∀ x ∈ xs, good37 x) l0 → a1.size ≤ 140737488351232 → (fun n : Int => (Lit.int .i64 n).wf = true) a2 → ∃ k, juratlaw04_FrameBack.f k l0 a1 a2 = some true
end Go.Proofs.Ytpeecclmpbickaa.PF
