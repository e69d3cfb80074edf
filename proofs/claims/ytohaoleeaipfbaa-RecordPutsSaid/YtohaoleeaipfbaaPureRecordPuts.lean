/- What is proved: whether any record of at most 100 Ids may be written, and its bytes, are as the document says (of others only the chapter's example is asked). Conditions: none beyond the row's own. -/
import Derived.Test.YtohaoleeaipfbaaHRec
import Derived.Test.YtohaoleeaipfbaaDefRecordPuts
namespace Go.Proofs.Ytohaoleeaipfbaa.Pure
open Go.RowKit Go.Proofs.YtohaoleeaipfbaaW.PrintWords Go.Proofs.YtohaoleeaipfbaaW.PrintLast Go.Proofs.YtohaoleeaipfbaaW.PrintMore Go.Proofs.Ytohaoleeaipfbaa.PF
theorem RecordPuts : juratlaw28_RecordPuts.Pure := by
  intro r _
  obtain ⟨a, b, c, l⟩ := r
  refine Ev.rounds ?_
  simp only
  unfold juratlaw28_RecordPuts.f
  by_cases h : (l.length : Int) > 100
  · exact Ev.congr (fun k => by rw [if_pos h]) (Ev.bind awake28_ev (Ev.now _))
  · refine Ev.congr (fun k => by rw [if_neg h]) ?_
    refine Ev.bind (rec_put_ev a b c l (by omega)) (Ev.bind (rrec_put_ev a b c l (by omega)) ?_)
    refine Ev.congr (fun k => by rw [if_pos rfl, if_pos rfl]) ?_
    refine Ev.bind (chk_ev a b c l (by omega)) (Ev.bind (rchk_ev a b c l (by omega)) ?_)
    refine Ev.congr (fun k => by rw [if_pos (beq_self_eq_true _)]) ?_
    exact Ev.bind awake28_ev (Ev.now _)
end Go.Proofs.Ytohaoleeaipfbaa.Pure
