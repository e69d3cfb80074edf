/- What the document's cover does, as one contract each. -/
import Derived.Test.YtaihieglailmcaaCRefw
import Derived.Test.YtaihieglailmcaaCoverRef
set_option linter.unusedVariables false
set_option linter.unusedSimpArgs false
namespace Go.Proofs.Ytaihieglailmcaa.PC
open Go.RowKit Go.Proofs.YtaihieglailmcaaW.PrintWords Go.Proofs.YtaihieglailmcaaW.PrintLast Go.Proofs.YtaihieglailmcaaW.PrintMore Go.Proofs.Ytaihieglailmcaa.Pure
/-- The document's cover as a value; the Ids lie at A. -/
def cval (s : CS) (A : Option Addr) (c : Nat) : Value := .agg #[.int .i64 s.a, .int .i64 s.h, .int .i64 s.R.f0, .int .i64 s.R.f1, .int .i64 s.R.f2, .slice A s.R.f3.length c, .int .i64 s.left, .bool s.ended]
theorem cref_Begin.all (s : CS) (B : Option Addr) (d : Nat) (r : S28) (A : Option Addr) (c : Nat) (w : World) (hB : Kd.C (Kd.int .i64) w B s.R.f3.length s.R.f3) (hd : s.R.f3.length ≤ d) (hr : Kd.C (Kd.int .i64) w A r.f3.length r.f3) (hc : r.f3.length ≤ c) :
    Calls Try.prog 27 #[cval s B d, .agg #[.int .i64 r.f0, .int .i64 r.f1, .int .i64 r.f2, .slice A r.f3.length c]] w fun e w' => ∃ (A' : Option Addr) (c' : Nat), e = .returned (.tuple #[cval (beginS s r).1 A' c', .int .i64 (beginS s r).2]) ∧ ((A' = B ∧ c' = d ∧ (beginS s r).1.R = s.R) ∨ (A' = A ∧ c' = c ∧ (beginS s r).1.R = r)) ∧ Below w.heap.size w w' := by
  obtain ⟨kn, hn⟩ := (rcov1_ev r).rounds
  obtain ⟨kw, hw⟩ := (rwalk_ev s.a (cov1 r) (oft r)).rounds
  have ht : juratref37_often.f r.f0 r.f1 r.f2 r.f3 = some (oft r) := often_is r
  obtain ⟨a, h, R, left, ended⟩ := s
  unfold beginS
  simp only [cval] at hw hB hd ⊢
  cases ended with
  | true =>
    rw [if_pos (Or.inl rfl)]
    exact (cref_Begin.over a h R left B d r A c w hr hc).mono (fun e w' h => ⟨B, d, h.1, Or.inl ⟨rfl, rfl, rfl⟩, h.2⟩)
  | false =>
    by_cases h1 : 0 < left
    · rw [if_pos (Or.inr h1)]
      exact (cref_Begin.busy a h R left B d r A c w hr hc (decide_eq_true h1)).mono (fun e w' h => ⟨B, d, h.1, Or.inl ⟨rfl, rfl, rfl⟩, h.2⟩)
    · rw [if_neg (by simp [h1])]
      have hl' : decide (left > 0) = false := decide_eq_false h1
      by_cases h5 : r.f0 = 5
      · rw [if_pos h5]
        have h5' : (r.f0 == 5) = true := beq_iff_eq.2 h5
        by_cases hN : r.f1 = a
        · by_cases hR : r.f2 = h
          · rw [if_pos ⟨hN, hR⟩]
            exact (cref_Begin.check_ok a h R left B d r A c w hr hc hl' h5' (beq_iff_eq.2 hN) (beq_iff_eq.2 hR)).mono (fun e w' h => ⟨B, d, h.1, Or.inl ⟨rfl, rfl, rfl⟩, h.2⟩)
          · rw [if_neg (fun q => hR q.2)]
            exact (cref_Begin.check_h a h R left B d r A c w hr hc hl' h5' (beq_iff_eq.2 hN) (beq_false_of_ne hR)).mono (fun e w' h => ⟨B, d, h.1, Or.inl ⟨rfl, rfl, rfl⟩, h.2⟩)
        · rw [if_neg (fun q => hN q.1)]
          exact (cref_Begin.check_n a h R left B d r A c w hr hc hl' h5' (beq_false_of_ne hN)).mono (fun e w' h => ⟨B, d, h.1, Or.inl ⟨rfl, rfl, rfl⟩, h.2⟩)
      · rw [if_neg h5]
        have h5' : (r.f0 == 5) = false := beq_false_of_ne h5
        by_cases h6 : r.f0 = 6
        · rw [if_pos h6]
          have h6' : (r.f0 == 6) = true := beq_iff_eq.2 h6
          by_cases hN : r.f1 = a
          · by_cases hR : r.f2 = h
            · rw [if_pos ⟨hN, hR⟩]
              exact (cref_Begin.end_ok a h R left B d r A c w hr hc hl' h5' h6' (beq_iff_eq.2 hN) (beq_iff_eq.2 hR)).mono (fun e w' h => ⟨B, d, h.1, Or.inl ⟨rfl, rfl, rfl⟩, h.2⟩)
            · rw [if_neg (fun q => hR q.2)]
              exact (cref_Begin.end_h a h R left B d r A c w hr hc hl' h5' h6' (beq_iff_eq.2 hN) (beq_false_of_ne hR)).mono (fun e w' h => ⟨B, d, h.1, Or.inl ⟨rfl, rfl, rfl⟩, h.2⟩)
          · rw [if_neg (fun q => hN q.1)]
            exact (cref_Begin.end_n a h R left B d r A c w hr hc hl' h5' h6' (beq_false_of_ne hN)).mono (fun e w' h => ⟨B, d, h.1, Or.inl ⟨rfl, rfl, rfl⟩, h.2⟩)
        · rw [if_neg h6]
          have h6' : (r.f0 == 6) = false := beq_false_of_ne h6
          by_cases hc1 : cov1 r < 1
          · rw [if_pos (Or.inl hc1)]
            by_cases hN : r.f1 = a
            · exact (cref_Begin.few_h a h R left B d r A c w hr hc hl' _ h5' h6' kn (cov1 r) (oft r) hn ht (beq_iff_eq.2 hN) rfl (decide_eq_true hc1)).mono (fun e w' h => ⟨B, d, h.1, Or.inl ⟨rfl, rfl, rfl⟩, h.2⟩)
            · exact (cref_Begin.few_n a h R left B d r A c w hr hc hl' h5' h6' kn (cov1 r) (oft r) hn ht (beq_false_of_ne hN) (decide_eq_true hc1)).mono (fun e w' h => ⟨B, d, h.1, Or.inl ⟨rfl, rfl, rfl⟩, h.2⟩)
          · by_cases hc2 : oft r < 1
            · rw [if_pos (Or.inr hc2)]
              by_cases hN : r.f1 = a
              · exact (cref_Begin.few2_h a h R left B d r A c w hr hc hl' _ h5' h6' kn (cov1 r) (oft r) hn ht (beq_iff_eq.2 hN) rfl (decide_eq_false hc1) (decide_eq_true hc2)).mono (fun e w' h => ⟨B, d, h.1, Or.inl ⟨rfl, rfl, rfl⟩, h.2⟩)
              · exact (cref_Begin.few2_n a h R left B d r A c w hr hc hl' h5' h6' kn (cov1 r) (oft r) hn ht (beq_false_of_ne hN) (decide_eq_false hc1) (decide_eq_true hc2)).mono (fun e w' h => ⟨B, d, h.1, Or.inl ⟨rfl, rfl, rfl⟩, h.2⟩)
            · rw [if_neg (by simp only [not_or]; exact ⟨hc1, hc2⟩)]
              obtain ⟨x, e0, hx⟩ : ∃ x e0, walkS a (cov1 r) (oft r) = (x, e0) := ⟨_, _, rfl⟩
              rw [hx] at hw ⊢
              simp only
              by_cases he : e0 = 0
              · rw [if_pos he]
                subst he
                by_cases hN : r.f1 = a
                · exact (cref_Begin.ok_h a h R left B d r A c w hr hc hl' _ h5' h6' kn (cov1 r) (oft r) hn ht (beq_iff_eq.2 hN) rfl (decide_eq_false hc1) (decide_eq_false hc2) kw x hw).mono (fun e w' h => ⟨A, c, h.1, Or.inr ⟨rfl, rfl, rfl⟩, h.2⟩)
                · exact (cref_Begin.ok_n a h R left B d r A c w hr hc hl' h5' h6' kn (cov1 r) (oft r) hn ht (beq_false_of_ne hN) (decide_eq_false hc1) (decide_eq_false hc2) kw x hw).mono (fun e w' h => ⟨A, c, h.1, Or.inr ⟨rfl, rfl, rfl⟩, h.2⟩)
              · rw [if_neg he]
                by_cases hN : r.f1 = a
                · exact (cref_Begin.far_h a h R left B d r A c w hr hc hl' _ h5' h6' kn (cov1 r) (oft r) hn ht (beq_iff_eq.2 hN) rfl (decide_eq_false hc1) (decide_eq_false hc2) kw x e0 hw (bne_iff_ne.2 he)).mono (fun e w' h => ⟨B, d, h.1, Or.inl ⟨rfl, rfl, rfl⟩, h.2⟩)
                · exact (cref_Begin.far_n a h R left B d r A c w hr hc hl' h5' h6' kn (cov1 r) (oft r) hn ht (beq_false_of_ne hN) (decide_eq_false hc1) (decide_eq_false hc2) kw x e0 hw (bne_iff_ne.2 he)).mono (fun e w' h => ⟨B, d, h.1, Or.inl ⟨rfl, rfl, rfl⟩, h.2⟩)
end Go.Proofs.Ytaihieglailmcaa.PC
