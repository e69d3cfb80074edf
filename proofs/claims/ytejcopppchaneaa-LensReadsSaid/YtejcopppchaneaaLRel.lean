/- The lens and its reference: how they stand to each other. -/
import Derived.Test.YtejcopppchaneaaRNextW
set_option linter.unusedVariables false
set_option linter.unusedSimpArgs false
namespace Go.Proofs.Ytejcopppchaneaa.PF
open Go.RowKit Go.Proofs.YtejcopppchaneaaW.PrintWords Go.Proofs.YtejcopppchaneaaW.PrintLast Go.Proofs.YtejcopppchaneaaW.PrintMore Go.Proofs.Ytejcopppchaneaa.Pure
theorem rt_kind (s : ByteArray) (h : (rt s).2.2.2.2.2 = 0) : 1 ≤ (rt s).1 ∧ (rt s).1 ≤ 6 ∧ ((rt s).2.2.2.1 = [] ∨ (rt s).1 = 4) := by
  unfold rt at h ⊢
  by_cases h0 : s.size = 0
  · rw [if_pos h0] at h; exact absurd h (by decide)
  · rw [if_neg h0] at h ⊢
    by_cases h1 : bt s 0 < 1 ∨ 6 < bt s 0
    · rw [if_pos h1] at h; exact absurd h (by decide)
    · rw [if_neg h1] at h ⊢
      generalize (bytesOf s).drop 1 = r at h ⊢
      by_cases h4 : bt s 0 = 4
      · rw [if_pos h4] at h ⊢
        unfold rtI at h ⊢
        by_cases hv : (vt 9 r).2.2 = 0
        · rw [if_pos hv] at h ⊢
          by_cases h2 : 65535 < (vt 9 r).1
          · rw [if_pos h2] at h; exact absurd h (by decide)
          · rw [if_neg h2] at h ⊢
            by_cases h3 : (idsL (vt 9 r).1.toNat 0 true (r.drop (vt 9 r).2.1.toNat)).2.2 = 0
            · rw [if_pos h3] at h ⊢
              exact ⟨by simp, by simp, .inr rfl⟩
            · rw [if_neg h3] at h; exact absurd h h3
        · rw [if_neg hv] at h; exact absurd h hv
      · rw [if_neg h4] at h ⊢
        unfold rtN at h ⊢
        by_cases hv : (vt 9 r).2.2 = 0
        · rw [if_pos hv] at h ⊢
          by_cases hg : goodN (bt s 0) (vt 9 r).1 = true
          · rw [if_pos hg] at h ⊢
            by_cases hv2 : (vt 9 (r.drop (vt 9 r).2.1.toNat)).2.2 = 0
            · rw [if_pos hv2] at h ⊢
              by_cases hg2 : goodN (bt s 0) (vt 9 (r.drop (vt 9 r).2.1.toNat)).1 = true
              · rw [if_pos hg2] at h ⊢
                exact ⟨by simp only; omega, by simp only; omega, .inl rfl⟩
              · rw [if_neg hg2] at h; exact absurd h (by decide)
            · rw [if_neg hv2] at h; exact absurd h hv2
          · rw [if_neg hg] at h; exact absurd h (by decide)
        · rw [if_neg hv] at h; exact absurd h hv
theorem lastOf_nil : lastOf [] = ⟨0, 0, 0, []⟩ := rfl
theorem lastOf_snoc (R : List S30) (x : S30) : lastOf (R ++ [x]) = x := by
  unfold lastOf
  rw [if_neg (by simp)]
  simp [rd_T30, List.getD_eq_getElem?_getD]
structure Rel (s : LS) (q : RS) : Prop where
  rest : s.rest = q.rest
  closed : s.closed = q.closed
  e : s.e = q.e
  k : s.k = (lastOf q.R).f0
  n : s.n = (lastOf q.R).f1
  r : s.r = (lastOf q.R).f2
  ended : s.ended = ((lastOf q.R).f0 == 6)
  ids : (lastOf q.R).f3 = [] ∨ (lastOf q.R).f0 = 4
  none : q.R.length = 0 ↔ (lastOf q.R).f0 = 0
  ok : okR (lastOf q.R)
theorem two_cmb (a b : S30) : (twoS a b).2.2.2.2 = cmb a b := by
  unfold twoS
  cases h : cmb a b <;> simp [h]
theorem rel_cmb {s : LS} {q : RS} (h : Rel s q) (x : S30) : cmb (lastR s) x = cmb (lastOf q.R) x := by
  unfold cmb lastR
  simp only [decide_eq_decide]
  rw [h.k, h.n, h.r]
  rcases h.ids with h1 | h1
  · rw [h1]
    simp
  · constructor
    · rintro ⟨a, b, _⟩; omega
    · rintro ⟨a, b, _⟩; omega
theorem rel_bad {s : LS} {q : RS} (h : Rel s q) (x : S30) : fitsB s x = !rbad q.R x := by
  unfold fitsB rbad
  rw [two_cmb, two_cmb, rel_cmb h, h.k]
  have h0 : (q.R.length == 0) = ((lastOf q.R).f0 == 0) := by
    by_cases h1 : q.R.length = 0
    · rw [beq_iff_eq.mpr h1, beq_iff_eq.mpr (h.none.1 h1)]
    · rw [beq_eq_false_iff_ne.mpr h1, beq_eq_false_iff_ne.mpr (fun e => h1 (h.none.2 e))]
  rw [h0]
  simp only [bne]
  cases cmb (lastOf q.R) x <;> cases (x.f0 == 5) <;> cases ((lastOf q.R).f0 == 5) <;> cases ((lastOf q.R).f0 == 0) <;> rfl
theorem rel_lastR {s : LS} {q : RS} (h : Rel s q) : okR (lastR s) := by
  have := h.ok
  refine ⟨?_, ?_, ?_, by simp [lastR]⟩
  · show _ ≤ s.k ∧ s.k < _; rw [h.k]; exact this.1
  · show _ ≤ s.n ∧ s.n < _; rw [h.n]; exact this.2.1
  · show _ ≤ s.r ∧ s.r < _; rw [h.r]; exact this.2.2.1
/-- One ask. -/
theorem rel_step {s : LS} {q : RS} (h : Rel s q) (hz : s.rest.size ≤ 900) :
    ((takeS s).2.2.2.2.2 = 0 ∧ (takeS s).2.2.2.2.1 ≠ 0 ∧ rNextS q = (⟨q.R ++ [xOf (takeS s)], (nextL s).rest, s.closed, 0⟩, true) ∧ Rel (nextL s) (rNextS q).1) ∨
    (((takeS s).2.2.2.2.2 ≠ 0 ∨ (takeS s).2.2.2.2.1 = 0) ∧ rNextS q = ({ q with e := (takeS s).2.2.2.2.2 }, false) ∧ Rel { s with e := (takeS s).2.2.2.2.2 } (rNextS q).1) := by
  have hst : ∀ e : Int, rNextS q = ({ q with e := e }, false) → (takeS s).2.2.2.2.2 = e → Rel { s with e := (takeS s).2.2.2.2.2 } (rNextS q).1 := by
    intro e h1 h2
    rw [h1, h2]
    exact ⟨h.rest, h.closed, rfl, h.k, h.n, h.r, h.ended, h.ids, h.none, h.ok⟩
  have hq : ∀ e : Int, e = q.e → ({ q with e := e } : RS) = q := fun e he => by rw [he]
  by_cases he : s.e = 0
  · have heq : q.e = 0 := by rw [← h.e]; exact he
    by_cases h6 : (lastOf q.R).f0 = 6
    · have hen : s.ended = true := by rw [h.ended]; exact beq_iff_eq.mpr h6
      right
      by_cases hr : s.rest.size = 0
      · have ht : takeS s = er 0 := by unfold takeS; rw [if_neg (by simp [he]), if_pos hen, if_pos hr]
        have hn : rNextS q = ({ q with e := 0 }, false) := by unfold rNextS; rw [if_neg (by simp [heq]), if_pos h6, if_pos (by rw [← h.rest]; exact hr), hq 0 heq.symm]
        exact ⟨.inr (by rw [ht]; rfl), by rw [ht]; exact hn, hst 0 hn (by rw [ht]; rfl)⟩
      · have ht : takeS s = er 20 := by unfold takeS; rw [if_neg (by simp [he]), if_pos hen, if_neg hr]
        have hn : rNextS q = ({ q with e := 20 }, false) := by unfold rNextS; rw [if_neg (by simp [heq]), if_pos h6, if_neg (by rw [← h.rest]; exact hr)]
        exact ⟨.inl (by rw [ht]; decide), by rw [ht]; exact hn, hst 20 hn (by rw [ht]; rfl)⟩
    · have hen : ¬ s.ended = true := by rw [h.ended]; simpa using h6
      have ht0 : takeS s = takeQ s.closed (fitsB s (xOf (rt s.rest))) (rt s.rest) := by unfold takeS; rw [if_neg (by simp [he]), if_neg hen]
      have hn0 : rNextS q = (if ((rt q.rest).2.2.2.2.2 == 4 && !q.closed) = true then (q, false) else if (rt q.rest).2.2.2.2.2 ≠ 0 then ({ q with e := (rt q.rest).2.2.2.2.2 }, false) else rStep (rbad q.R (xOf (rt q.rest))) q (rt q.rest)) := by
        unfold rNextS
        rw [if_neg (by simp [heq]), if_neg h6]
      have hr := h.rest
      have hc := h.closed
      rw [← hr, ← hc] at hn0
      unfold takeQ at ht0
      by_cases h4 : ((rt s.rest).2.2.2.2.2 == 4 && !s.closed) = true
      · rw [if_pos h4] at ht0 hn0
        right
        have hn : rNextS q = ({ q with e := 0 }, false) := by rw [hn0, hq 0 heq.symm]
        exact ⟨.inr (by rw [ht0]; rfl), by rw [ht0]; exact hn, hst 0 hn (by rw [ht0]; rfl)⟩
      · rw [if_neg h4] at ht0 hn0
        by_cases h5 : (rt s.rest).2.2.2.2.2 = 0
        · rw [if_neg (by simp [h5])] at hn0
          have hb := rel_bad h (xOf (rt s.rest))
          cases hbad : rbad q.R (xOf (rt s.rest)) with
          | true =>
            rw [hbad] at hb hn0
            rw [if_pos (by rw [hb]; simp [h5])] at ht0
            have hn : rNextS q = ({ q with e := 9 }, false) := by rw [hn0]; rfl
            right
            exact ⟨.inl (by rw [ht0]; decide), by rw [ht0]; exact hn, hst 9 hn (by rw [ht0]; rfl)⟩
          | false =>
            rw [hbad] at hb hn0
            rw [if_neg (by rw [hb]; simp)] at ht0
            obtain ⟨g1, g2, g3⟩ := rt_good s.rest hz h5
            obtain ⟨k1, k2, k3⟩ := rt_kind s.rest h5
            left
            have hn : rNextS q = (⟨q.R ++ [xOf (takeS s)], (nextL s).rest, s.closed, 0⟩, true) := by
              rw [hn0, ht0]
              show ((⟨q.R ++ [xOf (rt s.rest)], q.rest.extract (rt s.rest).2.2.2.2.1.toNat q.rest.size, q.closed, q.e⟩, true) : RS × Bool) = _
              rw [← h.rest, ← h.closed, heq]
              rfl
            refine ⟨by rw [ht0]; exact h5, by rw [ht0]; omega, hn, ?_⟩
            rw [hn, ht0]
            refine ⟨rfl, rfl, rfl, ?_, ?_, ?_, ?_, ?_, ?_, ?_⟩
            · show (rt s.rest).1 = _; rw [lastOf_snoc]; rfl
            · show (rt s.rest).2.1 = _; rw [lastOf_snoc]; rfl
            · show (rt s.rest).2.2.1 = _; rw [lastOf_snoc]; rfl
            · show ((rt s.rest).1 == 6) = _; rw [lastOf_snoc]; rfl
            · rw [lastOf_snoc]; exact k3
            · rw [lastOf_snoc]
              constructor
              · intro hh; simp at hh
              · intro hh; exact absurd (show (rt s.rest).1 = 0 from hh) (by omega)
            · rw [lastOf_snoc]; exact g1
        · rw [if_pos h5] at hn0
          replace hn0 : rNextS q = ({ q with e := (rt s.rest).2.2.2.2.2 }, false) := by rw [hn0, ← hr, ← hc]
          rw [if_neg (by simp [h5])] at ht0
          right
          exact ⟨.inl (by rw [ht0]; exact h5), by rw [ht0]; exact hn0, hst _ hn0 (by rw [ht0])⟩
  · right
    have ht : takeS s = er s.e := by unfold takeS; rw [if_pos he]
    have hn : rNextS q = ({ q with e := s.e }, false) := by unfold rNextS; rw [if_pos (by rw [← h.e]; exact he), hq s.e h.e]
    exact ⟨.inl (by rw [ht]; exact he), by rw [ht]; exact hn, hst s.e hn (by rw [ht]; rfl)⟩
end Go.Proofs.Ytejcopppchaneaa.PF
