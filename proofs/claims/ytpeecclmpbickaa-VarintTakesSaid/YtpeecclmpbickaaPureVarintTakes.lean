/- What is proved: varint.Take tells what the document's Take tells, of any bytes of at most 1,000 (of longer ones only the example of the chapter is asked). Conditions: none beyond the row's own. -/
import Derived.Test.YtpeecclmpbickaaVarref
import Derived.Test.YtpeecclmpbickaaPAx2
namespace Go.Proofs.Ytpeecclmpbickaa.Pure
open Go.RowKit Go.Proofs.YtpeecclmpbickaaW.PrintWords Go.Proofs.YtpeecclmpbickaaW.PrintLast Go.Proofs.YtpeecclmpbickaaW.PrintMore Go.Proofs.Ytpeecclmpbickaa.PA
theorem VarintTakes : juratlaw02_VarintTakes.Pure := by
  intro s hs
  refine Ev.rounds ?_
  unfold juratlaw02_VarintTakes.f
  by_cases h : (s.size : Int) > 1000
  · refine Ev.congr (fun k => by rw [if_pos h]) ?_
    exact Ev.bind awake02_ev (Ev.now _)
  · refine Ev.congr (fun k => by rw [if_neg h]) ?_
    refine Ev.bind (take_ev s) (Ev.bind (rtake_ev s hs) ?_)
    refine Ev.congr (fun k => by rw [if_pos rfl, if_pos rfl, if_pos rfl]) ?_
    exact Ev.bind awake02_ev (Ev.now _)
end Go.Proofs.Ytpeecclmpbickaa.Pure
