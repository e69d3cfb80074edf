/- What is proved: varint.Put, Size and All tell what the document's Put tells, of any number and of at most 100 numbers (of more only the chapter's example is asked). Conditions: none beyond the row's own. -/
import Derived.Test.YtpeecclmpbickaaVarputs
import Derived.Test.YtpeecclmpbickaaPAx4
namespace Go.Proofs.Ytpeecclmpbickaa.Pure
open Go.RowKit Go.Proofs.YtpeecclmpbickaaW.PrintWords Go.Proofs.YtpeecclmpbickaaW.PrintLast Go.Proofs.YtpeecclmpbickaaW.PrintMore Go.Proofs.Ytpeecclmpbickaa.PA
theorem puts_go (n : Int) (l : List Int) (hn : n < 9223372036854775808) (hl : l.length ≤ 100) (hx : ∀ x ∈ l, x < 9223372036854775808) : ∀ (d i : Nat), i + d = l.length → Ev (fun k => juratlaw02_VarintPuts.l0 k n l (strOfNums (vps (l.take i))) (i : Int)) true := by
  intro d
  induction d with
  | zero =>
    intro i hi
    refine Ev.step (fun k => by rw [juratlaw02_VarintPuts.l0, if_neg (by omega), List.take_of_length_le (by omega)]) ?_
    refine Ev.bind (put_ev hn) (Ev.bind (rput_ev hn) ?_)
    refine Ev.congr (fun k => by rw [if_pos rfl]) ?_
    refine Ev.bind (size_ev hn) (Ev.bind (rput_ev hn) ?_)
    refine Ev.congr (fun k => by rw [if_pos (by rw [strOfNums_size])]) ?_
    refine Ev.bind (all_ev2 l (by omega) hx) ?_
    refine Ev.congr (fun k => by rw [if_pos rfl]) ?_
    exact Ev.bind awake02_ev (Ev.now _)
  | succ d ih =>
    intro i hi
    have hlt : i < l.length := by omega
    have e : rd l (i : Int) = l[i] := by simp [rd, List.getD_eq_getElem?_getD, List.getElem?_eq_getElem hlt]
    have hm := hx l[i] (List.getElem_mem hlt)
    refine Ev.step (fun k => by rw [juratlaw02_VarintPuts.l0, if_pos (by omega), if_pos (by omega), e]) ?_
    refine Ev.bind (rput_ev hm) ?_
    have h9 := vp_nine hm
    have hln := vps_len (l.take i) (fun x h => hx x (List.mem_of_mem_take h))
    rw [List.length_take] at hln
    refine Ev.congr (fun k => by rw [if_pos (by rw [strOfNums_size, strOfNums_size]; omega), ← strOfNums_append (isB_vps _) (isB_vp _), ← vps_snoc l i hlt, jw64 (n := (i : Int) + 1) (by omega) (by omega), show (i : Int) + 1 = ((i + 1 : Nat) : Int) from rfl]) ?_
    exact ih (i + 1) (by omega)
theorem VarintPuts : juratlaw02_VarintPuts.Pure := by
  intro n l hn _ _ hx
  have hn := jwf64 hn
  have hx : ∀ x ∈ l, x < 9223372036854775808 := fun x h => (jwf64 (hx x h)).2
  refine Ev.rounds ?_
  unfold juratlaw02_VarintPuts.f
  by_cases h : (l.length : Int) > 100
  · refine Ev.congr (fun k => by rw [if_pos h]) ?_
    exact Ev.bind awake02_ev (Ev.now _)
  · refine Ev.congr (fun k => by rw [if_neg h]) ?_
    exact puts_go n l hn.2 (by omega) hx l.length 0 (by omega)
end Go.Proofs.Ytpeecclmpbickaa.Pure
