/- Plain lemmas of this session (LRTwo): numbers, bytes and lists. -/
import Derived.Test.YtejcopppchaneaaLMer
import Derived.Test.YtejcopppchaneaaPFx6
namespace Go.Proofs.Ytejcopppchaneaa.Pure
open Go.RowKit Go.Proofs.YtejcopppchaneaaW.PrintWords Go.Proofs.YtejcopppchaneaaW.PrintLast Go.Proofs.YtejcopppchaneaaW.PrintMore Go.Proofs.Ytejcopppchaneaa.PF
theorem rtwo_false (k : Nat) (a b c : Int) (d : List Int) (a' b' c' : Int) (d' : List Int) : juratref27_Two.j0 (k + 1) true a b c d a' b' c' d' = some (0, 0, 0, [], false) := by rw [juratref27_Two.j0, if_pos rfl]
theorem rtwo_ev (a b : S30) (ha : okR a) (hb : okR b) : Ev (fun k => juratref27_Two.f k a.f0 a.f1 a.f2 a.f3 b.f0 b.f1 b.f2 b.f3) (twoS a b) := by
  obtain ⟨_, _, h2, h3⟩ := ha
  obtain ⟨_, _, g2, g3⟩ := hb
  unfold juratref27_Two.f
  have neg : cmb a b = false → twoS a b = (0, 0, 0, [], false) := fun h => by unfold twoS; rw [if_neg (by rw [h]; decide)]
  by_cases c1 : a.f0 < 1
  · rw [neg (by unfold cmb; rw [decide_eq_false_iff_not]; omega)]
    exact Ev.congr (fun k => by rw [if_pos c1]) (ev_add 1 (fun k => rtwo_false ..))
  refine Ev.congr (fun k => by rw [if_neg c1]) ?_
  by_cases c2 : a.f0 > 3
  · rw [neg (by unfold cmb; rw [decide_eq_false_iff_not]; omega)]
    exact Ev.congr (fun k => by rw [if_pos c2]) (ev_add 1 (fun k => rtwo_false ..))
  refine Ev.congr (fun k => by rw [if_neg c2]) ?_
  by_cases c3 : b.f0 ≠ a.f0
  · rw [neg (by unfold cmb; rw [decide_eq_false_iff_not]; rintro ⟨_, _, h, _⟩; exact c3 h.symm)]
    exact Ev.congr (fun k => by rw [if_neg c3]) (ev_add 1 (fun k => rtwo_false ..))
  replace c3 : b.f0 = a.f0 := by omega
  refine Ev.congr (fun k => by rw [if_pos c3]) ?_
  by_cases c4 : b.f1 ≠ a.f1
  · rw [neg (by unfold cmb; rw [decide_eq_false_iff_not]; rintro ⟨_, _, _, h, _⟩; exact c4 h.symm)]
    exact Ev.congr (fun k => by rw [if_neg c4]) (ev_add 1 (fun k => rtwo_false ..))
  replace c4 : b.f1 = a.f1 := by omega
  refine Ev.congr (fun k => by rw [if_pos c4]) ?_
  by_cases c5 : (a.f3.length : Int) > 0
  · rw [neg (by unfold cmb; rw [decide_eq_false_iff_not]; rintro ⟨_, _, _, _, h, _⟩; rw [h] at c5; simp at c5)]
    exact Ev.congr (fun k => by rw [if_pos c5]) (ev_add 1 (fun k => rtwo_false ..))
  refine Ev.congr (fun k => by rw [if_neg c5]) ?_
  by_cases c6 : (b.f3.length : Int) > 0
  · rw [neg (by unfold cmb; rw [decide_eq_false_iff_not]; rintro ⟨_, _, _, _, _, h, _⟩; rw [h] at c6; simp at c6)]
    exact Ev.congr (fun k => by rw [decide_eq_true c6]) (ev_add 1 (fun k => rtwo_false ..))
  refine Ev.congr (fun k => by rw [decide_eq_false c6]) ?_
  have e1 : a.f3 = [] := nil_len (by omega)
  have e2 : b.f3 = [] := nil_len (by omega)
  refine Ev.step (fun k => by rw [juratref27_Two.j0, if_neg (by decide)]) ?_
  by_cases c7 : a.f2 < 1
  · rw [neg (by unfold cmb; rw [decide_eq_false_iff_not]; omega)]
    exact Ev.congr (fun k => by rw [if_pos c7]) (Ev.now _)
  refine Ev.congr (fun k => by rw [if_neg c7]) ?_
  by_cases c8 : b.f2 < 1
  · rw [neg (by unfold cmb; rw [decide_eq_false_iff_not]; omega)]
    exact Ev.congr (fun k => by rw [if_pos c8]) (Ev.now _)
  refine Ev.congr (fun k => by rw [if_neg c8]) ?_
  by_cases c9 : a.f2 > 4611686018427387903
  · rw [neg (by unfold cmb; rw [decide_eq_false_iff_not]; omega)]
    exact Ev.congr (fun k => by rw [if_pos c9]) (Ev.now _)
  refine Ev.congr (fun k => by rw [if_neg c9, jw64 (by omega) (by omega)]) ?_
  by_cases c10 : b.f2 > 4611686018427387903 - a.f2
  · rw [neg (by unfold cmb; rw [decide_eq_false_iff_not]; omega)]
    exact Ev.congr (fun k => by rw [if_pos c10]) (Ev.now _)
  have hc : cmb a b = true := by unfold cmb; rw [decide_eq_true_iff]; exact ⟨by omega, by omega, c3.symm, c4.symm, e1, e2, by omega, by omega, by omega⟩
  unfold twoS
  rw [if_pos hc]
  exact Ev.congr (fun k => by rw [if_neg c10, jw64 (by omega) (by omega)]) (Ev.now _)
end Go.Proofs.Ytejcopppchaneaa.Pure
