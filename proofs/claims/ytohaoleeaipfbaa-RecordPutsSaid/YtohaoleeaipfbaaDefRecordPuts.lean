/- What is to be proved of RecordPuts, over numbers and lists alone. -/
import Derived.Test.YtohaoleeaipfbaaPFx4
import Derived.Test.YtohaoleeaipfbaaOpensF
namespace Go.Proofs.Ytohaoleeaipfbaa.PF
open Go.RowKit Go.Proofs.YtohaoleeaipfbaaW.PrintWords Go.Proofs.YtohaoleeaipfbaaW.PrintLast Go.Proofs.YtohaoleeaipfbaaW.PrintMore
def juratlaw28_RecordPuts.Pure : Prop := ∀ (x0 : S24), good24 x0 → ∃ k, juratlaw28_RecordPuts.f k x0.f0 x0.f1 x0.f2 x0.f3 = some true
end Go.Proofs.Ytohaoleeaipfbaa.PF
