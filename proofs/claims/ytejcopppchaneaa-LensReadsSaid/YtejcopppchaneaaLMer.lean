/- Plain lemmas of this session (LMer): numbers, bytes and lists. -/
import Derived.Test.YtejcopppchaneaaHTake
import Derived.Test.YtejcopppchaneaaPFx3
namespace Go.Proofs.Ytejcopppchaneaa.Pure
open Go.RowKit Go.Proofs.YtejcopppchaneaaW.PrintWords Go.Proofs.YtejcopppchaneaaW.PrintLast Go.Proofs.YtejcopppchaneaaW.PrintMore Go.Proofs.Ytejcopppchaneaa.PF
abbrev In (n : Int) : Prop := 0 ≤ n ∧ n ≤ 4611686018427387903
def addS (a b : Int) : Int × Int := if In a ∧ In b then (if 4611686018427387903 < a + b then (0, 10) else (a + b, 0)) else (0, 2)
theorem is_eq (n : Int) : reckon_Is.f n = some (decide (In n)) := by
  unfold reckon_Is.f
  by_cases h : n ≥ 0
  · rw [if_pos h]; congr 1; rw [decide_eq_decide]; omega
  · rw [if_neg h]; congr 1; symm; rw [decide_eq_false_iff_not]; omega
theorem all_go (l : List Int) (hl : l.length ≤ 1000) : ∀ (d k i : Nat), i + d = l.length → d < k → reckon_all.l0 k l l.length i = some ((l.drop i).all fun n => decide (In n)) := by
  intro d
  induction d with
  | zero =>
    intro k i h hk
    obtain ⟨k, rfl⟩ : ∃ m, k = m + 1 := ⟨k - 1, by omega⟩
    simp only [reckon_all.l0]
    rw [if_neg (by omega), List.drop_eq_nil_of_le (by omega)]; rfl
  | succ d ih =>
    intro k i h hk
    obtain ⟨k, rfl⟩ : ∃ m, k = m + 1 := ⟨k - 1, by omega⟩
    simp only [reckon_all.l0]
    rw [if_pos (by omega), if_pos (by omega), if_pos (by omega), is_eq]
    simp only [Option.bind_some]
    have hi : i < l.length := by omega
    have e : rd l (i : Int) = l[i] := by simp [rd, List.getD_eq_getElem?_getD, List.getElem?_eq_getElem hi]
    rw [List.drop_eq_getElem_cons hi, List.all_cons, e]
    by_cases hc : In l[i]
    · rw [decide_eq_true hc, if_pos rfl, jw64 (by omega) (by omega), Bool.true_and]
      have := ih k (i + 1) (by omega) (by omega)
      rw [← this]; congr 1
    · rw [decide_eq_false hc, if_neg (by decide), Bool.false_and]
theorem all_ev (l : List Int) (hl : l.length ≤ 1000) : Ev (fun k => reckon_all.f k l) (l.all fun n => decide (In n)) :=
  ⟨l.length + 1, fun k hk => by have := all_go l hl l.length k 0 (by omega) (by omega); rw [List.drop_zero] at this; exact this⟩
theorem all2 (a b : Int) : Ev (fun k => reckon_all.f k [a, b]) (decide (In a ∧ In b)) := by
  have := all_ev [a, b] (by simp)
  simpa using this
theorem add_ev (a b : Int) : Ev (fun k => reckon_Add.f k a b) (addS a b) := by
  refine Ev.bind (all2 a b) ⟨0, fun k _ => ?_⟩
  unfold addS
  by_cases h : In a ∧ In b
  · rw [decide_eq_true h, if_pos rfl, if_pos h]
    rw [jw64 (by omega) (by omega)]
    by_cases h2 : 4611686018427387903 < a + b
    · rw [if_pos (by omega), if_pos h2]
    · rw [if_neg (by omega), if_neg h2, jw64 (by omega) (by omega)]
  · rw [decide_eq_false h, if_neg (by decide), if_neg h]
def cmb (a b : S30) : Bool := decide (1 ≤ a.f0 ∧ a.f0 ≤ 3 ∧ a.f0 = b.f0 ∧ a.f1 = b.f1 ∧ a.f3 = [] ∧ b.f3 = [] ∧ 1 ≤ a.f2 ∧ 1 ≤ b.f2 ∧ a.f2 + b.f2 ≤ 4611686018427387903)
def jn2 (a b : S30) : S30 := ⟨a.f0, a.f1, a.f2 + b.f2, []⟩
def twoS (a b : S30) : Int × Int × Int × List Int × Bool := if cmb a b = true then (a.f0, a.f1, a.f2 + b.f2, [], true) else (0, 0, 0, [], false)
def okR (x : S30) : Prop := (-9223372036854775808 ≤ x.f0 ∧ x.f0 < 9223372036854775808) ∧ (-9223372036854775808 ≤ x.f1 ∧ x.f1 < 9223372036854775808) ∧ (-9223372036854775808 ≤ x.f2 ∧ x.f2 < 9223372036854775808) ∧ x.f3.length ≤ 1000
theorem rdT_get (l : List S30) (i : Nat) (h : i < l.length) : rd_T30 l (i : Int) = l[i] := by simp [rd_T30, List.getD_eq_getElem?_getD, List.getElem?_eq_getElem h]
theorem nil_len {l : List Int} (h : ¬ (0 < (l.length : Int))) : l = [] := List.eq_nil_of_length_eq_zero (by omega)
theorem two_false (k : Nat) (a b c : Int) (d : List Int) (a' b' c' : Int) (d' : List Int) : merge_Two.j0 (k + 1) true a b c d a' b' c' d' = some (0, 0, 0, [], false) := by rw [merge_Two.j0, if_pos rfl]
theorem runs27_is (n : Int) : merge_runs.f n = some (decide (1 ≤ n ∧ n ≤ 3)) := by
  unfold merge_runs.f
  by_cases h : n ≥ 1
  · rw [if_pos h]; congr 1; rw [decide_eq_decide]; omega
  · rw [if_neg h]; congr 1; symm; rw [decide_eq_false_iff_not]; omega
theorem two_ev (a b : S30) (ha : okR a) (hb : okR b) : Ev (fun k => merge_Two.f k a.f0 a.f1 a.f2 a.f3 b.f0 b.f1 b.f2 b.f3) (twoS a b) := by
  obtain ⟨_, _, h2, h3⟩ := ha
  obtain ⟨_, _, g2, g3⟩ := hb
  unfold merge_Two.f
  refine Ev.congr (fun k => by rw [runs27_is, Option.bind_some]) ?_
  have neg : cmb a b = false → twoS a b = (0, 0, 0, [], false) := fun h => by unfold twoS; rw [if_neg (by rw [h]; decide)]
  have hw : wrap64 ((a.f3.length : Int) + (b.f3.length : Int)) = (a.f3.length : Int) + (b.f3.length : Int) := jw64 (by omega) (by omega)
  by_cases c1 : 1 ≤ a.f0 ∧ a.f0 ≤ 3
  · refine Ev.congr (fun k => by rw [decide_eq_true c1, if_pos rfl]) ?_
    by_cases c2 : a.f0 = b.f0
    · refine Ev.congr (fun k => by rw [if_pos c2]) ?_
      by_cases c3 : a.f1 = b.f1
      · refine Ev.congr (fun k => by rw [if_pos c3, hw]) ?_
        by_cases c4 : (a.f3.length : Int) + (b.f3.length : Int) > 0
        · rw [neg (by unfold cmb; rw [decide_eq_false_iff_not]; rintro ⟨_, _, _, _, e1, e2, _⟩; rw [e1, e2] at c4; simp at c4)]
          refine Ev.congr (fun k => by rw [if_pos c4]) (ev_add 1 (fun k => two_false ..))
        · refine Ev.congr (fun k => by rw [if_neg c4]) ?_
          have e1 : a.f3 = [] := nil_len (by omega)
          have e2 : b.f3 = [] := nil_len (by omega)
          by_cases c5 : a.f2 < 1
          · rw [neg (by unfold cmb; rw [decide_eq_false_iff_not]; omega)]
            exact Ev.congr (fun k => by rw [if_pos c5]) (ev_add 1 (fun k => two_false ..))
          · refine Ev.congr (fun k => by rw [if_neg c5]) ?_
            by_cases c6 : b.f2 < 1
            · rw [neg (by unfold cmb; rw [decide_eq_false_iff_not]; omega)]
              refine Ev.congr (fun k => by rw [decide_eq_true c6]) (ev_add 1 (fun k => two_false ..))
            · refine Ev.congr (fun k => by rw [decide_eq_false c6]) ?_
              refine Ev.step (fun k => by rw [merge_Two.j0, if_neg (by decide)]) ?_
              refine Ev.bind (add_ev _ _) ?_
              unfold twoS
              by_cases c7 : a.f2 + b.f2 ≤ 4611686018427387903
              · have hc : cmb a b = true := by unfold cmb; rw [decide_eq_true_iff]; exact ⟨c1.1, c1.2, c2, c3, e1, e2, by omega, by omega, c7⟩
                have ha : addS a.f2 b.f2 = (a.f2 + b.f2, 0) := by unfold addS; rw [if_pos (show In a.f2 ∧ In b.f2 by constructor <;> constructor <;> omega), if_neg (by omega)]
                rw [if_pos hc, ha]
                exact ⟨0, fun k _ => by rw [if_pos rfl]⟩
              · have hc : cmb a b = false := by unfold cmb; rw [decide_eq_false_iff_not]; omega
                have ha : (addS a.f2 b.f2).2 ≠ 0 := by
                  unfold addS
                  split
                  · rw [if_pos (by omega)]; decide
                  · decide
                refine Ev.congr (fun k => by rw [if_neg ha]) ?_
                rw [hc]
                exact Ev.now _
      · rw [neg (by unfold cmb; rw [decide_eq_false_iff_not]; rintro ⟨_, _, _, h, _⟩; exact c3 h)]
        exact Ev.congr (fun k => by rw [if_neg c3]) (ev_add 1 (fun k => two_false ..))
    · rw [neg (by unfold cmb; rw [decide_eq_false_iff_not]; rintro ⟨_, _, h, _⟩; exact c2 h)]
      exact Ev.congr (fun k => by rw [if_neg c2]) (ev_add 1 (fun k => two_false ..))
  · rw [neg (by unfold cmb; rw [decide_eq_false_iff_not]; rintro ⟨h1, h2, _⟩; exact c1 ⟨h1, h2⟩)]
    refine Ev.congr (fun k => by rw [decide_eq_false c1, if_neg (by decide)]) (ev_add 1 (fun k => two_false ..))
end Go.Proofs.Ytejcopppchaneaa.Pure
