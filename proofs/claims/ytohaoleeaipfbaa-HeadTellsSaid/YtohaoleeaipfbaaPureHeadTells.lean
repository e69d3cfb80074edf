/- What is proved: of at most 500 bytes each, the head of any file, and the file of any head, or what is wrong first, are as the document says (of more only the chapter's example is asked). Conditions: none beyond the row's own. -/
import Derived.Test.YtohaoleeaipfbaaHHead
import Derived.Test.YtohaoleeaipfbaaPFx13
namespace Go.Proofs.Ytohaoleeaipfbaa.Pure
open Go.RowKit Go.Proofs.YtohaoleeaipfbaaW.PrintWords Go.Proofs.YtohaoleeaipfbaaW.PrintLast Go.Proofs.YtohaoleeaipfbaaW.PrintMore Go.Proofs.Ytohaoleeaipfbaa.PF
theorem HeadTells : juratlaw29_HeadTells.Pure := by
  intro a s _ _
  refine Ev.rounds ?_
  unfold juratlaw29_HeadTells.f
  have hj : ∀ b : Bool, b = true → Ev (fun k => juratlaw29_HeadTells.j0 k a s b) true := by
    rintro b rfl
    exact Ev.step (fun k => by rw [juratlaw29_HeadTells.j0, if_pos rfl]) (Ev.bind awake29_ev (Ev.now _))
  by_cases ha : (a.size : Int) > 500
  · exact Ev.congr (fun k => by rw [if_pos ha]) (hj true rfl)
  · refine Ev.congr (fun k => by rw [if_neg ha]) ?_
    by_cases hs : (s.size : Int) > 500
    · exact hj _ (decide_eq_true hs)
    · rw [decide_eq_false hs]
      refine Ev.step (fun k => by rw [juratlaw29_HeadTells.j0, if_neg (by decide)]) ?_
      refine Ev.bind (hput_ev a (by omega)) (Ev.bind (rhput_ev a (by omega)) (Ev.bind (htake_ev s (by omega)) (Ev.bind (rhtake_ev s (by omega)) ?_)))
      refine Ev.congr (fun k => by rw [if_pos rfl, if_pos rfl, if_pos rfl, if_pos rfl, if_pos rfl]) ?_
      exact Ev.bind awake29_ev (Ev.now _)
end Go.Proofs.Ytohaoleeaipfbaa.Pure
