/- What is proved: frame.Put and Join tell what the document's tell, of at most 20 frames of at most 500 bytes each (of others only the chapter's example is asked). Conditions: none beyond the row's own. -/
import Derived.Test.YtpeecclmpbickaaFJoinR
import Derived.Test.YtpeecclmpbickaaDefFramePuts
namespace Go.Proofs.Ytpeecclmpbickaa.Pure
open Go.RowKit Go.Proofs.YtpeecclmpbickaaW.PrintWords Go.Proofs.YtpeecclmpbickaaW.PrintLast Go.Proofs.YtpeecclmpbickaaW.PrintMore Go.Proofs.Ytpeecclmpbickaa.PF
theorem puts_go (m : List (Int × ByteArray)) (hm : ∀ x ∈ m, x.2.size ≤ 500) (hl : m.length ≤ 20) : ∀ (d i : Nat), i + d = m.length → Ev (fun k => juratlaw04_FramePuts.l0 k (m.map toR) (m.map toF) (i : Int)) true := by
  intro d
  induction d with
  | zero =>
    intro i hi
    refine Ev.step (fun k => by rw [juratlaw04_FramePuts.l0, if_neg (by rw [List.length_map]; omega)]) ?_
    exact Ev.bind awake04_ev (Ev.now _)
  | succ d ih =>
    intro i hi
    have hlt : i < m.length := by omega
    have hx := hm m[i] (List.getElem_mem hlt)
    refine Ev.step (fun k => by rw [juratlaw04_FramePuts.l0, if_pos (by rw [List.length_map]; omega), if_pos (by omega), if_pos (by rw [List.length_map]; omega), rdR m i hlt, rdF m i hlt]) ?_
    refine Ev.bind (fput_ev m[i].1 m[i].2 (by omega)) (Ev.bind (rfput_ev m[i].1 m[i].2 (by omega)) ?_)
    refine Ev.congr (fun k => by rw [if_pos rfl, if_pos rfl, jw64 (n := (i : Int) + 1) (by omega) (by omega), show (i : Int) + 1 = ((i + 1 : Nat) : Int) from rfl]) ?_
    exact ih (i + 1) (by omega)
theorem FramePuts : juratlaw04_FramePuts.Pure := by
  intro l _
  refine Ev.rounds ?_
  unfold juratlaw04_FramePuts.f
  obtain ⟨m, hm⟩ : ∃ m, m = l.map ofR := ⟨_, rfl⟩
  have hl : l = m.map toR := by rw [hm, map_ofR]
  rw [hl]
  obtain ⟨b, hb, hq⟩ := few_ev m
  refine Ev.bind hb ?_
  cases b with
  | false =>
    refine Ev.congr (fun k => by rw [if_neg (by decide)]) ?_
    exact Ev.bind awake04_ev (Ev.now _)
  | true =>
    obtain ⟨h1, h2⟩ := hq rfl
    refine Ev.congr (fun k => by rw [if_pos rfl]) ?_
    have h3 : ∀ x ∈ m, x.2.size ≤ 3000 := fun x hx => by have := h2 x hx; omega
    refine Ev.bind (mine_ev m h1) (Ev.bind (join_ev m h3 (by omega)) (Ev.bind (rjoin_ev m h3 (by omega)) ?_))
    refine Ev.congr (fun k => by rw [if_pos rfl]) ?_
    have e1 : ((jn m []).2 != (jn m []).2) = false := by simp
    rw [e1]
    refine Ev.step (fun k => by rw [juratlaw04_FramePuts.j0, if_neg (by decide)]) ?_
    exact puts_go m h2 h1 m.length 0 (by omega)
end Go.Proofs.Ytpeecclmpbickaa.Pure
