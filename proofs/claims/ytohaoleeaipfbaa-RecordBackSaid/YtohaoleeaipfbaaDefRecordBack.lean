/- What is to be proved of RecordBack, over numbers and lists alone. -/
import Derived.Test.YtohaoleeaipfbaaPFx8
import Derived.Test.YtohaoleeaipfbaaOpensF
namespace Go.Proofs.Ytohaoleeaipfbaa.PF
open Go.RowKit Go.Proofs.YtohaoleeaipfbaaW.PrintWords Go.Proofs.YtohaoleeaipfbaaW.PrintLast Go.Proofs.YtohaoleeaipfbaaW.PrintMore
def juratlaw28_RecordBack.Pure : Prop := ∀ (x0 : S24) (a1 : ByteArray) (a2 : Int), good24 x0 → a1.size ≤ 140737488351232 → (fun n : Int => (Lit.int .i64 n).wf = true) a2 → ∃ k, juratlaw28_RecordBack.f k x0.f0 x0.f1 x0.f2 x0.f3 a1 a2 = some true
end Go.Proofs.Ytohaoleeaipfbaa.PF
