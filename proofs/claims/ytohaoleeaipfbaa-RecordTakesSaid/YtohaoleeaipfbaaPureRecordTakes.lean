/- What is proved: of at most 500 bytes, the record with which they begin, or what is wrong with them first, is as the document says (of more only the chapter's example is asked). Conditions: none beyond the row's own. -/
import Derived.Test.YtohaoleeaipfbaaHRTake
import Derived.Test.YtohaoleeaipfbaaPFx7
namespace Go.Proofs.Ytohaoleeaipfbaa.Pure
open Go.RowKit Go.Proofs.YtohaoleeaipfbaaW.PrintWords Go.Proofs.YtohaoleeaipfbaaW.PrintLast Go.Proofs.YtohaoleeaipfbaaW.PrintMore Go.Proofs.Ytohaoleeaipfbaa.PF
theorem RecordTakes : juratlaw28_RecordTakes.Pure := by
  intro s _
  refine Ev.rounds ?_
  unfold juratlaw28_RecordTakes.f
  by_cases h : (s.size : Int) > 500
  · exact Ev.congr (fun k => by rw [if_pos h]) (Ev.bind awake28_ev (Ev.now _))
  · refine Ev.congr (fun k => by rw [if_neg h]) ?_
    refine Ev.bind (rec_take_ev s (by omega)) (Ev.bind (rrec_take_ev s (by omega)) ?_)
    have hl := rt_ids_len s
    have hsame := rsame_ev (rt s) (rt s) (by omega)
    rw [decide_eq_true ⟨rfl, rfl, rfl, rfl⟩] at hsame
    refine Ev.bind hsame ?_
    refine Ev.congr (fun k => by rw [if_pos rfl, if_pos rfl, if_pos rfl]) ?_
    exact Ev.bind awake28_ev (Ev.now _)
end Go.Proofs.Ytohaoleeaipfbaa.Pure
