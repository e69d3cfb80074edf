/- The lens: what is taken, in plain terms; all of it. -/
import Derived.Test.YtejcopppchaneaaLMeth
set_option linter.unusedVariables false
set_option linter.unusedSimpArgs false
namespace Go.Proofs.Ytejcopppchaneaa.PF
open Go.RowKit Go.Proofs.YtejcopppchaneaaW.PrintWords Go.Proofs.YtejcopppchaneaaW.PrintLast Go.Proofs.YtejcopppchaneaaW.PrintMore Go.Proofs.Ytejcopppchaneaa.Pure
theorem idsL_short : ∀ (m : Nat) (ah : Int) (b : Bool) (l : List Int), IsB l → (idsL m ah b l).2.2 = 0 → ((idsL m ah b l).1.length : Int) ≤ (idsL m ah b l).2.1 ∧ (idsL m ah b l).2.1 ≤ l.length := by
  intro m
  induction m with
  | zero => intro ah b l _ _; simp [idsL]
  | succ m ih =>
    intro ah b l hB h
    unfold idsL at h ⊢
    by_cases hv : (vt 9 l).2.2 = 0
    · rw [if_pos hv] at h ⊢
      have hk := vt_ok 9 l hB hv
      by_cases h1 : (vt 9 l).1 = 0 ∧ b = false
      · rw [if_pos h1] at h; exact absurd h (by decide)
      · rw [if_neg h1] at h ⊢
        by_cases h2 : 65534 - ah < (vt 9 l).1
        · rw [if_pos h2] at h; exact absurd h (by decide)
        · rw [if_neg h2] at h ⊢
          by_cases h3 : (idsL m (ah + (vt 9 l).1) false (l.drop (vt 9 l).2.1.toNat)).2.2 = 0
          · rw [if_pos h3] at h ⊢
            have hi := ih (ah + (vt 9 l).1) false _ (isB_drop hB (vt 9 l).2.1.toNat) h3
            rw [List.length_drop] at hi
            simp only [List.length_cons]
            omega
          · rw [if_neg h3] at h; exact absurd h h3
    · rw [if_neg hv] at h; exact absurd h hv
theorem okR_small {a b c : Int} {l : List Int} (ha : 0 ≤ a ∧ a < 9223372036854775808) (hb : 0 ≤ b ∧ b < 9223372036854775808) (hc : 0 ≤ c ∧ c < 9223372036854775808) (hl : l.length ≤ 1000) : okR ⟨a, b, c, l⟩ := ⟨⟨by simp only; omega, ha.2⟩, ⟨by simp only; omega, hb.2⟩, ⟨by simp only; omega, hc.2⟩, hl⟩
theorem rt_good (s : ByteArray) (hs : s.size ≤ 900) (h : (rt s).2.2.2.2.2 = 0) : okR (xOf (rt s)) ∧ 1 ≤ (rt s).2.2.2.2.1 ∧ (rt s).2.2.2.2.1 ≤ s.size := by
  unfold rt at h ⊢
  by_cases h0 : s.size = 0
  · rw [if_pos h0] at h; exact absurd h (by decide)
  · rw [if_neg h0] at h ⊢
    by_cases h1 : bt s 0 < 1 ∨ 6 < bt s 0
    · rw [if_pos h1] at h; exact absurd h (by decide)
    · rw [if_neg h1] at h ⊢
      have hB := isB_drop (isB_bytesOf s) 1
      have hl : ((bytesOf s).drop 1).length = s.size - 1 := by rw [List.length_drop, bytesOf_length]
      generalize (bytesOf s).drop 1 = r at h hB hl ⊢
      by_cases h4 : bt s 0 = 4
      · rw [if_pos h4] at h ⊢
        unfold rtI at h ⊢
        by_cases hv : (vt 9 r).2.2 = 0
        · rw [if_pos hv] at h ⊢
          have hk := vt_ok 9 r hB hv
          by_cases h2 : 65535 < (vt 9 r).1
          · rw [if_pos h2] at h; exact absurd h (by decide)
          · rw [if_neg h2] at h ⊢
            by_cases h3 : (idsL (vt 9 r).1.toNat 0 true (r.drop (vt 9 r).2.1.toNat)).2.2 = 0
            · rw [if_pos h3] at h ⊢
              have hi := idsL_short _ 0 true _ (isB_drop hB (vt 9 r).2.1.toNat) h3
              rw [List.length_drop] at hi
              refine ⟨okR_small (by simp only; omega) (by simp only; omega) (by simp only; omega) (by simp only; omega), ?_⟩
              simp only
              omega
            · rw [if_neg h3] at h; exact absurd h h3
        · rw [if_neg hv] at h; exact absurd h hv
      · rw [if_neg h4] at h ⊢
        unfold rtN at h ⊢
        by_cases hv : (vt 9 r).2.2 = 0
        · rw [if_pos hv] at h ⊢
          have hk := vt_ok 9 r hB hv
          by_cases hg : goodN (bt s 0) (vt 9 r).1 = true
          · rw [if_pos hg] at h ⊢
            by_cases hv2 : (vt 9 (r.drop (vt 9 r).2.1.toNat)).2.2 = 0
            · rw [if_pos hv2] at h ⊢
              have hk2 := vt_ok 9 _ (isB_drop hB (vt 9 r).2.1.toNat) hv2
              rw [List.length_drop] at hk2
              by_cases hg2 : goodN (bt s 0) (vt 9 (r.drop (vt 9 r).2.1.toNat)).1 = true
              · rw [if_pos hg2] at h ⊢
                have h9 : (128 : Int) ^ 9 = 9223372036854775808 := by decide
                rw [h9] at hk hk2
                refine ⟨okR_small (by simp only; omega) (by simp only; omega) (by simp only; omega) (by simp), ?_⟩
                simp only
                omega
              · rw [if_neg hg2] at h; exact absurd h (by decide)
            · rw [if_neg hv2] at h; exact absurd h hv2
          · rw [if_neg hg] at h; exact absurd h (by decide)
        · rw [if_neg hv] at h; exact absurd h hv
/-- What is taken without an error, and is not nothing, is what stands there. -/
theorem takeS_good (s : LS) (h : (takeS s).2.2.2.2.2 = 0) (hn : (takeS s).2.2.2.2.1 ≠ 0) : takeS s = rt s.rest ∧ (rt s.rest).2.2.2.2.2 = 0 := by
  unfold takeS at h hn ⊢
  by_cases h0 : s.e ≠ 0
  · rw [if_pos h0] at h; exact absurd h h0
  · rw [if_neg h0] at h hn ⊢
    by_cases h1 : s.ended = true
    · rw [if_pos h1] at h hn
      exfalso
      by_cases h2 : s.rest.size = 0
      · rw [if_pos h2] at hn; exact hn rfl
      · rw [if_neg h2] at hn; exact hn rfl
    · rw [if_neg h1] at h hn ⊢
      unfold takeQ at h hn ⊢
      by_cases h2 : ((rt s.rest).2.2.2.2.2 == 4 && !s.closed) = true
      · rw [if_pos h2] at hn; exact absurd rfl hn
      · rw [if_neg h2] at h hn ⊢
        by_cases h3 : ((rt s.rest).2.2.2.2.2 == 0 && !fitsB s (xOf (rt s.rest))) = true
        · rw [if_pos h3] at hn; exact absurd rfl hn
        · rw [if_neg h3] at h hn ⊢
          exact ⟨rfl, h⟩
/-- The lens behind a record that was read. -/
def nextL (s : LS) : LS := ⟨s.rest.extract (rt s.rest).2.2.2.2.1.toNat s.rest.size, (rt s.rest).1, (rt s.rest).2.1, (rt s.rest).2.2.1, s.closed, (rt s.rest).1 == 6, 0⟩
def LOk (s : LS) : Prop := s.rest.size ≤ 600 ∧ okR (lastR s)
theorem nextL_ok (s : LS) (h : LOk s) (he : (takeS s).2.2.2.2.2 = 0) (hn : (takeS s).2.2.2.2.1 ≠ 0) : LOk (nextL s) ∧ (nextL s).rest.size < s.rest.size ∧ 1 ≤ (rt s.rest).2.2.2.2.1 ∧ (rt s.rest).2.2.2.2.1 ≤ s.rest.size := by
  obtain ⟨_, h0⟩ := takeS_good s he hn
  obtain ⟨hk, h1, h2⟩ := rt_good s.rest (by have := h.1; omega) h0
  have hz : (nextL s).rest.size = s.rest.size - (rt s.rest).2.2.2.2.1.toNat := by
    show (s.rest.extract _ _).size = _
    rw [ByteArray.size_extract]
    omega
  refine ⟨⟨by rw [hz]; have := h.1; omega, hk.1, hk.2.1, hk.2.2.1, by simp [lastR]⟩, by rw [hz]; omega, h1, h2⟩
/-- All records; the number bears the rounds. -/
def allL : Nat → LS → List S30 → List S30 × Int
  | 0, _, acc => (acc, 0)
  | f + 1, s, acc => if (takeS s).2.2.2.2.2 ≠ 0 then ([], (takeS s).2.2.2.2.2) else if (takeS s).2.2.2.2.1 = 0 then (acc, 0) else allL f (nextL s) (acc ++ [xOf (rt s.rest)])
def allS (s : ByteArray) : List S30 × Int := allL (s.size + 1) ⟨s, 0, 0, 0, true, false, 0⟩ []
end Go.Proofs.Ytejcopppchaneaa.PF
