/- Plain lemmas of this session (CPlain): numbers, bytes and lists. -/
import Derived.Test.YtaihieglailmcaaCBase
import Derived.Test.YtaihieglailmcaaCover
import Derived.Test.YtaihieglailmcaaPCx6
namespace Go.Proofs.Ytaihieglailmcaa.Pure
open Go.RowKit Go.Proofs.YtaihieglailmcaaW.PrintWords Go.Proofs.YtaihieglailmcaaW.PrintLast Go.Proofs.YtaihieglailmcaaW.PrintMore Go.Proofs.Ytaihieglailmcaa.PC
/-! ### covers -/
structure CS where
  a : Int
  h : Int
  R : S28
  left : Int
  ended : Bool
def oft (r : S28) : Int := if r.f0 = 4 then 1 else r.f2
theorem often_is (r : S28) : cover_often.f r.f0 r.f1 r.f2 r.f3 = some (oft r) := by
  unfold cover_often.f oft
  split <;> rfl
def beginS (s : CS) (r : S28) : CS × Int :=
  if s.ended = true ∨ 0 < s.left then (s, 12)
  else if r.f0 = 5 then (s, if r.f1 = s.a ∧ r.f2 = s.h then 0 else 18)
  else if r.f0 = 6 then (if r.f1 = s.a ∧ r.f2 = s.h then (⟨s.a, s.h, s.R, s.left, true⟩, 0) else (s, 19))
  else if cov1 r < 1 ∨ oft r < 1 then (s, 2)
  else if (walkS s.a (cov1 r) (oft r)).2 = 0 then (⟨s.a, s.h, r, oft r, s.ended⟩, 0) else (s, (walkS s.a (cov1 r) (oft r)).2)
def passS (s : CS) : CS × List S76 × Int :=
  if s.left = 0 then (s, [], 12) else (⟨wrap64 (s.a + cov1 s.R), wrap64 (s.h + (s.R.f3.length : Int)), s.R, wrap64 (s.left - 1), s.ended⟩, hitsOf (wrap64 (s.a + cov1 s.R)) s.R.f3, 0)
def goodS (s : CS) : Prop := (0 ≤ s.a ∧ s.a ≤ 4611686018427387903) ∧ (0 ≤ s.left ∧ s.left ≤ 4611686018427387903) ∧ (0 < s.left → 1 ≤ cov1 s.R ∧ s.a + cov1 s.R * s.left ≤ 4611686018427387903) ∧ s.R.f3.length ≤ 30
theorem walk_ok {a n t : Int} (h : (walkS a n t).2 = 0) : In t ∧ a + n * t ≤ 4611686018427387903 := by
  unfold walkS at h
  split at h
  · rename_i h1
    split at h
    · rename_i h2
      have hm : mulS n t = (n * t, 0) := by
        unfold mulS at h2 ⊢
        split at h2
        · split at h2
          · cases h2
          · rename_i h3 h4
            rw [if_pos h3, if_neg h4]
        · cases h2
      rw [hm] at h
      unfold addS at h
      split at h
      · split at h
        · cases h
        · rename_i h3 h4
          exact ⟨h1.2.2, by simpa using h4⟩
      · cases h
    · rename_i h2
      exact absurd h h2
  · cases h
theorem good_begin {s : CS} {r : S28} (hs : goodS s) (hr : r.f3.length ≤ 30) : goodS (beginS s r).1 := by
  unfold beginS
  split
  · exact hs
  · split
    · exact hs
    · split
      · split <;> exact hs
      · split
        · exact hs
        · rename_i h1 _ _ h2
          split
          · rename_i h3
            obtain ⟨ht, hw⟩ := walk_ok h3
            exact ⟨hs.1, ⟨by simp only; omega, ht.2⟩, fun _ => ⟨by simp only; omega, hw⟩, hr⟩
          · exact hs
theorem pass_is {s : CS} (hs : goodS s) (h0 : s.left ≠ 0) : passS s = (⟨s.a + cov1 s.R, wrap64 (s.h + (s.R.f3.length : Int)), s.R, s.left - 1, s.ended⟩, hitsOf (s.a + cov1 s.R) s.R.f3, 0) ∧ 1 ≤ cov1 s.R ∧ goodS ⟨s.a + cov1 s.R, wrap64 (s.h + (s.R.f3.length : Int)), s.R, s.left - 1, s.ended⟩ := by
  obtain ⟨⟨a0, a1⟩, ⟨l0, l1⟩, hn, hl⟩ := hs
  obtain ⟨n0, n1⟩ := hn (by omega)
  have h2 : cov1 s.R * 1 ≤ cov1 s.R * s.left := Int.mul_le_mul_of_nonneg_left (by omega) (by omega)
  have e1 : wrap64 (s.a + cov1 s.R) = s.a + cov1 s.R := jw64 (by omega) (by omega)
  have e2 : wrap64 (s.left - 1) = s.left - 1 := jw64 (by omega) (by omega)
  have e3 : cov1 s.R * (s.left - 1) = cov1 s.R * s.left - cov1 s.R := by rw [Int.mul_sub, Int.mul_one]
  refine ⟨by unfold passS; rw [if_neg h0, e1, e2], n0, ⟨by simp only; omega, by simp only; omega⟩, ⟨by simp only; omega, by simp only; omega⟩, fun _ => ⟨n0, by simp only; rw [e3]; omega⟩, hl⟩
def aheadP (x y : S76) : Prop := x.f0 < y.f0 ∨ x.f0 = y.f0 ∧ x.f1 < y.f1
def risP (l : List S76) : Prop := ∀ i (h : i + 1 < l.length), aheadP (l[i]'(by omega)) l[i + 1]
def ascP (l : List Int) : Prop := ∀ i (h : i + 1 < l.length), (l[i]'(by omega)) < l[i + 1]
theorem hits_len (a : Int) (l : List Int) : (hitsOf a l).length = l.length := by simp [hitsOf]
theorem ris_more {l : List S76} {a b : Int} {ids : List Int} (h : risP l) (ha : ∀ x ∈ l, x.f0 ≤ a) (hb : a < b) (hi : ascP ids) : risP (l ++ hitsOf b ids) := by
  intro i hlt
  have hlen : (l ++ hitsOf b ids).length = l.length + ids.length := by simp [hitsOf]
  by_cases h1 : i + 1 < l.length
  · rw [List.getElem_append_left (by omega), List.getElem_append_left h1]
    exact h i h1
  · by_cases h2 : i < l.length
    · rw [List.getElem_append_left h2, List.getElem_append_right (by omega)]
      left
      have := ha _ (List.getElem_mem h2)
      simp only [hitsOf, List.getElem_map]
      omega
    · rw [List.getElem_append_right (by omega), List.getElem_append_right (by omega)]
      right
      simp only [hitsOf, List.getElem_map]
      refine ⟨trivial, ?_⟩
      have h3 := hi (i - l.length) (by omega)
      simpa [show i + 1 - l.length = i - l.length + 1 by omega] using h3
theorem below_more {l : List S76} {a b : Int} {ids : List Int} (ha : ∀ x ∈ l, x.f0 ≤ a) (hb : a ≤ b) : ∀ x ∈ l ++ hitsOf b ids, x.f0 ≤ b := by
  intro x hx
  rcases List.mem_append.1 hx with hx | hx
  · exact Int.le_trans (ha x hx) hb
  · obtain ⟨y, _, rfl⟩ := List.mem_map.1 hx
    exact Int.le_refl _
theorem rdT76_get (l : List S76) (i : Nat) (h : i < l.length) : rd_T76 l (i : Int) = l[i] := by simp [rd_T76, List.getD_eq_getElem?_getD, List.getElem?_eq_getElem h]
theorem rising_go (l : List S76) (hl : l.length ≤ 1000000) (h : risP l) : ∀ (d i : Nat), i + 1 + d = l.length → Ev (fun k => juratref15_Rising.l0 k l ((i + 1 : Nat) : Int)) true
  | 0, i, hd => ev_add 1 (fun k => by rw [juratref15_Rising.l0, if_neg (by omega)])
  | d + 1, i, hd => by
    have ih := rising_go l hl h d (i + 1) (by omega)
    obtain ⟨k, hk⟩ := ih
    refine ⟨k + 1, fun q hq => ?_⟩
    obtain ⟨q, rfl⟩ : ∃ q', q = q' + 1 := ⟨q - 1, by omega⟩
    have e1 : wrap64 (((i + 1 : Nat) : Int) - 1) = (i : Int) := by rw [jw64 (by omega) (by omega)]; omega
    have e2 : wrap64 (((i + 1 : Nat) : Int) + 1) = ((i + 1 + 1 : Nat) : Int) := by rw [jw64 (by omega) (by omega)]; omega
    show juratref15_Rising.l0 (q + 1) l ((i + 1 : Nat) : Int) = some true
    rw [juratref15_Rising.l0, if_pos (by omega), e1, if_pos (by omega), if_pos (by omega), if_pos (by omega), rdT76_get l i (by omega), rdT76_get l (i + 1) (by omega), e2]
    have ha := h i (by omega)
    have e3 : juratref15_Ahead.f (l[i]'(by omega)).f0 (l[i]'(by omega)).f1 (l[i + 1]'(by omega)).f0 (l[i + 1]'(by omega)).f1 = some true := by
      unfold juratref15_Ahead.f
      rcases ha with ha | ⟨ha, hb⟩
      · rw [if_pos ha]
      · rw [if_neg (by omega), if_pos ha, decide_eq_true hb]
    rw [e3]
    simp only [Option.bind_some, if_true]
    exact hk q (by omega)
theorem rising_ev (l : List S76) (hl : l.length ≤ 1000000) (h : risP l) : Ev (fun k => juratref15_Rising.f k l) true := by
  by_cases h0 : l.length = 0
  · exact ev_add 1 (fun k => by unfold juratref15_Rising.f; rw [juratref15_Rising.l0, if_neg (by omega)])
  · exact rising_go l hl h (l.length - 1) 0 (by omega)
end Go.Proofs.Ytaihieglailmcaa.Pure
