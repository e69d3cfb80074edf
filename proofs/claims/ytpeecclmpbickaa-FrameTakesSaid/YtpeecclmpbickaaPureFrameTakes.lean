/- What is proved: frame.Take and Split tell what the document's tell, of any bytes of at most 2,000 (of more only the chapter's example is asked). Conditions: none beyond the row's own. -/
import Derived.Test.YtpeecclmpbickaaFFrameR
import Derived.Test.YtpeecclmpbickaaPFx4
namespace Go.Proofs.Ytpeecclmpbickaa.Pure
open Go.RowKit Go.Proofs.YtpeecclmpbickaaW.PrintWords Go.Proofs.YtpeecclmpbickaaW.PrintLast Go.Proofs.YtpeecclmpbickaaW.PrintMore Go.Proofs.Ytpeecclmpbickaa.PF
theorem FrameTakes : juratlaw04_FrameTakes.Pure := by
  intro s hs
  refine Ev.rounds ?_
  unfold juratlaw04_FrameTakes.f
  by_cases h : (s.size : Int) > 2000
  · refine Ev.congr (fun k => by rw [if_pos h]) ?_
    exact Ev.bind awake04_ev (Ev.now _)
  · refine Ev.congr (fun k => by rw [if_neg h]) ?_
    refine Ev.bind (ftake_ev s hs) (Ev.bind (rftake_ev s hs) (Ev.bind (fsplit_ev s (by omega)) (Ev.bind (rfsplit_ev s (by omega)) ?_)))
    refine Ev.bind (same_ev [((ft s).1, (ft s).2.1)] (by simp)) ?_
    refine Ev.congr (fun k => by rw [if_pos rfl, if_pos rfl, if_pos rfl]) ?_
    have := spl_len s (s.size + 1) [] 0 (by simp) (by omega)
    refine Ev.bind (same_ev (spl (s.size + 1) s [] 0).1 (by omega)) ?_
    refine Ev.congr (fun k => by rw [if_pos rfl, if_pos rfl, if_pos rfl]) ?_
    exact Ev.bind awake04_ev (Ev.now _)
end Go.Proofs.Ytpeecclmpbickaa.Pure
