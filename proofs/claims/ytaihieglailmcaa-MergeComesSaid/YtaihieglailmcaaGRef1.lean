/- Plain lemmas of this session (GRef1): numbers, bytes and lists. -/
import Derived.Test.YtaihieglailmcaaGBase1
import Derived.Test.YtaihieglailmcaaPGx5
namespace Go.Proofs.Ytaihieglailmcaa.Pure
open Go.RowKit Go.Proofs.YtaihieglailmcaaW.PrintWords Go.Proofs.YtaihieglailmcaaW.PrintLast Go.Proofs.YtaihieglailmcaaW.PrintMore Go.Proofs.Ytaihieglailmcaa.PG
theorem rtwo_false (k : Nat) (a b c : Int) (d : List Int) (a' b' c' : Int) (d' : List Int) : juratref27_Two.j0 (k + 1) true a b c d a' b' c' d' = some (0, 0, 0, [], false) := by rw [juratref27_Two.j0, if_pos rfl]
theorem rtwo_ev (a b : S28) (ha : okR a) (hb : okR b) : Ev (fun k => juratref27_Two.f k a.f0 a.f1 a.f2 a.f3 b.f0 b.f1 b.f2 b.f3) (twoS a b) := by
  obtain ⟨_, _, h2, h3⟩ := ha
  obtain ⟨_, _, g2, g3⟩ := hb
  unfold juratref27_Two.f
  have neg : cmb a b = false → twoS a b = (0, 0, 0, [], false) := fun h => by unfold twoS; rw [if_neg (by rw [h]; decide)]
  by_cases c1 : a.f0 < 1
  · rw [neg (by unfold cmb; rw [decide_eq_false_iff_not]; omega)]
    exact Ev.congr (fun k => by rw [if_pos c1]) (ev_add 1 (fun k => rtwo_false ..))
  refine Ev.congr (fun k => by rw [if_neg c1]) ?_
  by_cases c2 : a.f0 > 3
  · rw [neg (by unfold cmb; rw [decide_eq_false_iff_not]; omega)]
    exact Ev.congr (fun k => by rw [if_pos c2]) (ev_add 1 (fun k => rtwo_false ..))
  refine Ev.congr (fun k => by rw [if_neg c2]) ?_
  by_cases c3 : b.f0 ≠ a.f0
  · rw [neg (by unfold cmb; rw [decide_eq_false_iff_not]; rintro ⟨_, _, h, _⟩; exact c3 h.symm)]
    exact Ev.congr (fun k => by rw [if_neg c3]) (ev_add 1 (fun k => rtwo_false ..))
  replace c3 : b.f0 = a.f0 := by omega
  refine Ev.congr (fun k => by rw [if_pos c3]) ?_
  by_cases c4 : b.f1 ≠ a.f1
  · rw [neg (by unfold cmb; rw [decide_eq_false_iff_not]; rintro ⟨_, _, _, h, _⟩; exact c4 h.symm)]
    exact Ev.congr (fun k => by rw [if_neg c4]) (ev_add 1 (fun k => rtwo_false ..))
  replace c4 : b.f1 = a.f1 := by omega
  refine Ev.congr (fun k => by rw [if_pos c4]) ?_
  by_cases c5 : (a.f3.length : Int) > 0
  · rw [neg (by unfold cmb; rw [decide_eq_false_iff_not]; rintro ⟨_, _, _, _, h, _⟩; rw [h] at c5; simp at c5)]
    exact Ev.congr (fun k => by rw [if_pos c5]) (ev_add 1 (fun k => rtwo_false ..))
  refine Ev.congr (fun k => by rw [if_neg c5]) ?_
  by_cases c6 : (b.f3.length : Int) > 0
  · rw [neg (by unfold cmb; rw [decide_eq_false_iff_not]; rintro ⟨_, _, _, _, _, h, _⟩; rw [h] at c6; simp at c6)]
    exact Ev.congr (fun k => by rw [decide_eq_true c6]) (ev_add 1 (fun k => rtwo_false ..))
  refine Ev.congr (fun k => by rw [decide_eq_false c6]) ?_
  have e1 : a.f3 = [] := nil_len (by omega)
  have e2 : b.f3 = [] := nil_len (by omega)
  refine Ev.step (fun k => by rw [juratref27_Two.j0, if_neg (by decide)]) ?_
  by_cases c7 : a.f2 < 1
  · rw [neg (by unfold cmb; rw [decide_eq_false_iff_not]; omega)]
    exact Ev.congr (fun k => by rw [if_pos c7]) (Ev.now _)
  refine Ev.congr (fun k => by rw [if_neg c7]) ?_
  by_cases c8 : b.f2 < 1
  · rw [neg (by unfold cmb; rw [decide_eq_false_iff_not]; omega)]
    exact Ev.congr (fun k => by rw [if_pos c8]) (Ev.now _)
  refine Ev.congr (fun k => by rw [if_neg c8]) ?_
  by_cases c9 : a.f2 > 4611686018427387903
  · rw [neg (by unfold cmb; rw [decide_eq_false_iff_not]; omega)]
    exact Ev.congr (fun k => by rw [if_pos c9]) (Ev.now _)
  refine Ev.congr (fun k => by rw [if_neg c9, jw64 (by omega) (by omega)]) ?_
  by_cases c10 : b.f2 > 4611686018427387903 - a.f2
  · rw [neg (by unfold cmb; rw [decide_eq_false_iff_not]; omega)]
    exact Ev.congr (fun k => by rw [if_pos c10]) (Ev.now _)
  have hc : cmb a b = true := by unfold cmb; rw [decide_eq_true_iff]; exact ⟨by omega, by omega, c3.symm, c4.symm, e1, e2, by omega, by omega, by omega⟩
  unfold twoS
  rw [if_pos hc]
  exact Ev.congr (fun k => by rw [if_neg c10, jw64 (by omega) (by omega)]) (Ev.now _)
theorem rd_last (acc : List S28) (m : S28) : rd_T28 (acc ++ [m]) ((acc.length : Nat) : Int) = m := by
  rw [rdT_get _ _ (by simp)]
  simp
theorem S28_eta (x : S28) : (⟨x.f0, x.f1, x.f2, x.f3⟩ : S28) = x := rfl
theorem rall_go (l : List S28) (hx : ∀ x ∈ l, okR x) (hl : l.length ≤ 1000) : ∀ (d i : Nat) (acc : List S28) (m : S28), i + d = l.length → acc.length ≤ i → okR m → Ev (fun k => juratref27_All.l0 k l (acc ++ [m]) (i : Int)) (acc ++ allGo (l.drop i) m) := by
  intro d
  induction d with
  | zero =>
    intro i acc m h ha hm
    rw [List.drop_eq_nil_of_le (by omega)]
    exact ev_add 1 (fun k => by rw [juratref27_All.l0, if_neg (by omega)]; rfl)
  | succ d ih =>
    intro i acc m h ha hm
    have h1 : i < l.length := by omega
    have hlen : ((acc ++ [m]).length : Int) = (acc.length : Int) + 1 := by simp
    have w1 : wrap64 (((acc ++ [m]).length : Int) - 1) = (acc.length : Int) := by rw [hlen, jw64 (by omega) (by omega)]; omega
    rw [List.drop_eq_getElem_cons h1, allGo]
    refine Ev.step (fun k => by rw [juratref27_All.l0, if_pos (by omega), if_pos (by omega), w1, if_pos (by omega), if_pos (by omega), if_pos (by omega), rd_last, rdT_get l i h1]) ?_
    refine Ev.bind (rtwo_ev _ _ hm (hx _ (List.getElem_mem h1))) ?_
    unfold twoS
    by_cases hc : cmb m l[i] = true
    · rw [if_pos hc, if_pos hc]
      have e : (acc ++ [m]).set ((acc.length : Int)).toNat (⟨m.f0, m.f1, m.f2 + l[i].f2, []⟩ : S28) = acc ++ [jn2 m l[i]] := by
        rw [Int.toNat_natCast, List.set_append_right _ _ (by omega)]
        simp [jn2]
      refine Ev.congr (fun k => by simp only [if_true]; rw [e, jw64 (by omega) (by omega)]) ?_
      exact_mod_cast ih (i + 1) acc _ (by omega) (by omega) (okR_jn hm hc)
    · rw [if_neg hc, if_neg hc]
      refine Ev.congr (fun k => by simp only [Bool.false_eq_true, if_false]; rw [if_pos (by rw [List.length_append, List.length_singleton]; omega), S28_eta, jw64 (by omega) (by omega)]) ?_
      have := ih (i + 1) (acc ++ [m]) l[i] (by omega) (by simp; omega) (hx _ (List.getElem_mem h1))
      rw [show acc ++ m :: allGo (l.drop (i + 1)) l[i] = (acc ++ [m]) ++ allGo (l.drop (i + 1)) l[i] by simp]
      exact_mod_cast this
theorem rall_ev (l : List S28) (hx : ∀ x ∈ l, okR x) (hl : l.length ≤ 1000) : Ev (fun k => juratref27_All.f k l) (allS l) := by
  unfold juratref27_All.f
  cases l with
  | nil => exact ev_add 1 (fun k => by rw [juratref27_All.l0, if_neg (by simp)]; rfl)
  | cons r rs =>
    refine Ev.step (fun k => by rw [juratref27_All.l0, if_pos (by simp), if_neg (by simp), if_pos (by omega), if_pos (by simp), show ((0 : Int)) = ((0 : Nat) : Int) from rfl, rdT_get _ 0 (by simp), jw64 (by omega) (by omega)]) ?_
    have := rall_go (r :: rs) hx hl rs.length 1 [] r (by simp; omega) (by simp) (hx r (List.mem_cons_self ..))
    simp only [List.nil_append, List.drop_succ_cons, List.drop_zero] at this
    exact this
end Go.Proofs.Ytaihieglailmcaa.Pure
