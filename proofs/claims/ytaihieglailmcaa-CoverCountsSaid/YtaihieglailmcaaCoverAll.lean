/- What a cover's methods do, as one contract each. -/
import Derived.Test.YtaihieglailmcaaCPlain
import Derived.Test.YtaihieglailmcaaCoverAwake
set_option linter.unusedVariables false
set_option linter.unusedSimpArgs false
namespace Go.Proofs.Ytaihieglailmcaa.PC
open Go.RowKit Go.Proofs.YtaihieglailmcaaW.PrintWords Go.Proofs.YtaihieglailmcaaW.PrintLast Go.Proofs.YtaihieglailmcaaW.PrintMore Go.Proofs.Ytaihieglailmcaa.Pure
def CSt (W : World) (base g : Nat) (s : CS) : Prop := CAt W base g s.a s.h s.R s.left s.ended
theorem CSt.below {W W' : World} {base g : Nat} {s : CS} (hc : CSt W base g s) (hb : Below W.heap.size W W') : CSt W' base g s := CAt.below hc hb
theorem CSt.lt {W : World} {base g : Nat} {s : CS} (hc : CSt W base g s) : base ≤ g ∧ g < W.heap.size := by
  obtain ⟨h1, v, h2, _⟩ := hc
  exact ⟨h1, blk_lt h2⟩
/-- A row that is not of covers stays. -/
theorem CSt.rkeep {W W' : World} {base g base' : Nat} {s : CS} {α : Type} {d : Kd α} {e : Nat} {ok : Nat → Prop} {v : Value} {xs : List α} (hc : CSt W base g s) (hr : d.R e W base' ok v xs) (ht : ∀ q, q ∈ e :: d.E → q ≠ 73) (hk : KeepBut W W' g none) : d.R e W' base' ok v xs := by
  obtain ⟨h1, v, h2, _⟩ := hc
  exact Kd.R_mono (Kd.R_keep (Kd.R_types hr h2 ht) hk (fun k hk => hk.2)) (fun _ hk => hk.1)
theorem cover_Begin.all (w0 : World) (g : Nat) (s : CS) (r : S28) (A : Option Addr) (c : Nat) (w : World) (hb0 : Below w0.heap.size w0 w) (hC : CSt w w0.heap.size g s) (hr : Kd.C (Kd.int .i64) w0 A r.f3.length r.f3) (hc : r.f3.length ≤ c) (hl : 0 ≤ s.left) (hlr : r.f3.length ≤ 1000) :
    Calls Try.prog 28 #[.pointer (some ⟨g, 0, none⟩), .agg #[.int .i64 r.f0, .int .i64 r.f1, .int .i64 r.f2, .slice A r.f3.length c]] w fun e w' => e = .returned (.int .i64 (beginS s r).2) ∧ CSt w' w0.heap.size g (beginS s r).1 ∧ KeepBut w w' g none ∧ Below w0.heap.size w0 w' := by
  obtain ⟨kn, hn⟩ := (cov1_ev r).rounds
  obtain ⟨kw, hw⟩ := (walk_ev s.a (cov1 r) (oft r)).rounds
  have ht := often_is r
  obtain ⟨a, h, R, left, ended⟩ := s
  have keep : ∀ w', Below w.heap.size w w' → CSt w' w0.heap.size g ⟨a, h, R, left, ended⟩ ∧ KeepBut w w' g none ∧ Below w0.heap.size w0 w' := fun w' hb => ⟨hC.below hb, KeepBut.of_below hb g none, below_step hb0 hb⟩
  unfold beginS
  simp only at hl hw ⊢
  cases ended with
  | true =>
    rw [if_pos (Or.inl rfl)]
    exact (cover_Begin.over w0 g a h R left r A c w hb0 hC hr hc).mono (fun e w' h => ⟨h.1, keep w' h.2⟩)
  | false =>
    by_cases h1 : 0 < left
    · rw [if_pos (Or.inr h1)]
      exact (cover_Begin.busy w0 g a h R left r A c w hb0 hC hr hc (decide_eq_true h1)).mono (fun e w' h => ⟨h.1, keep w' h.2⟩)
    · rw [if_neg (by simp [h1])]
      have hl' : decide (left > 0) = false := decide_eq_false h1
      by_cases h5 : r.f0 = 5
      · rw [if_pos h5]
        have h5' : (r.f0 == 5) = true := beq_iff_eq.2 h5
        by_cases hN : r.f1 = a
        · have hN' : (r.f1 != a) = false := bne_eq_false_iff_eq.2 hN
          by_cases hR : r.f2 = h
          · rw [if_pos ⟨hN, hR⟩]
            exact (cover_Begin.check_ok w0 g a h R left r A c w hb0 hC hr hc hl' h5' hN' (bne_eq_false_iff_eq.2 hR)).mono (fun e w' h => ⟨h.1, keep w' h.2⟩)
          · rw [if_neg (fun q => hR q.2)]
            exact (cover_Begin.check_h w0 g a h R left r A c w hb0 hC hr hc hl' h5' hN' (bne_iff_ne.2 hR)).mono (fun e w' h => ⟨h.1, keep w' h.2⟩)
        · rw [if_neg (fun q => hN q.1)]
          exact (cover_Begin.check_n w0 g a h R left r A c w hb0 hC hr hc hl' h5' (bne_iff_ne.2 hN)).mono (fun e w' h => ⟨h.1, keep w' h.2⟩)
      · rw [if_neg h5]
        have h5' : (r.f0 == 5) = false := beq_false_of_ne h5
        by_cases h6 : r.f0 = 6
        · rw [if_pos h6]
          have h6' : (r.f0 == 6) = true := beq_iff_eq.2 h6
          by_cases hN : r.f1 = a
          · have hN' : (r.f1 != a) = false := bne_eq_false_iff_eq.2 hN
            by_cases hR : r.f2 = h
            · rw [if_pos ⟨hN, hR⟩]
              exact cover_Begin.end_ok w0 g a h R left r A c w hb0 hC hr hc hl' h5' h6' hN' (bne_eq_false_iff_eq.2 hR)
            · rw [if_neg (fun q => hR q.2)]
              exact (cover_Begin.end_h w0 g a h R left r A c w hb0 hC hr hc hl' h5' h6' hN' (bne_iff_ne.2 hR)).mono (fun e w' h => ⟨h.1, keep w' h.2⟩)
          · rw [if_neg (fun q => hN q.1)]
            exact (cover_Begin.end_n w0 g a h R left r A c w hb0 hC hr hc hl' h5' h6' (bne_iff_ne.2 hN)).mono (fun e w' h => ⟨h.1, keep w' h.2⟩)
        · rw [if_neg h6]
          have h6' : (r.f0 == 6) = false := beq_false_of_ne h6
          by_cases hc1 : cov1 r < 1
          · rw [if_pos (Or.inl hc1)]
            exact (cover_Begin.few w0 g a h R left r A c w hb0 hC hr hc hl' h5' h6' kn (cov1 r) (oft r) hn ht (decide_eq_true hc1)).mono (fun e w' h => ⟨h.1, keep w' h.2⟩)
          · by_cases hc2 : oft r < 1
            · rw [if_pos (Or.inr hc2)]
              exact (cover_Begin.few2 w0 g a h R left r A c w hb0 hC hr hc hl' h5' h6' kn (cov1 r) (oft r) hn ht (decide_eq_false hc1) (decide_eq_true hc2)).mono (fun e w' h => ⟨h.1, keep w' h.2⟩)
            · rw [if_neg (by simp only [not_or]; exact ⟨hc1, hc2⟩)]
              obtain ⟨x, e0, hx⟩ : ∃ x e0, walkS a (cov1 r) (oft r) = (x, e0) := ⟨_, _, rfl⟩
              rw [hx] at hw ⊢
              simp only
              by_cases he : e0 = 0
              · rw [if_pos he]
                subst he
                exact cover_Begin.ok w0 g a h R left r A c w hb0 hC hr hc hl' h5' h6' kn (cov1 r) (oft r) hn ht (decide_eq_false hc1) (decide_eq_false hc2) kw x hw hlr
              · rw [if_neg he]
                exact (cover_Begin.far w0 g a h R left r A c w hb0 hC hr hc hl' h5' h6' kn (cov1 r) (oft r) hn ht (decide_eq_false hc1) (decide_eq_false hc2) kw x e0 hw (bne_iff_ne.2 he)).mono (fun e w' h => ⟨h.1, keep w' h.2⟩)
theorem cover_Pass.all (base g : Nat) (s : CS) (w : World) (hC : CSt w base g s) (hbw : base ≤ w.heap.size) (hlr : s.R.f3.length ≤ 1000) :
    Calls Try.prog 30 #[.pointer (some ⟨g, 0, none⟩)] w fun e w' => ∃ u : Value, e = .returned (.tuple #[u, .int .i64 (passS s).2.2]) ∧ Kd.R k76 76 w' w.heap.size (fun _ => True) u (passS s).2.1 ∧ CSt w' base g (passS s).1 ∧ KeepBut w w' g none ∧ (∀ B w0, B ≤ base → Below B w0 w → Below B w0 w') := by
  obtain ⟨kn, hn⟩ := (cov1_ev s.R).rounds
  obtain ⟨a, h, R, left, ended⟩ := s
  unfold passS
  simp only at hlr hn ⊢
  by_cases h0 : left = 0
  · rw [if_pos h0]
    subst h0
    refine (cover_Pass.zero base g a h R ended w hC).mono ?_
    rintro e w' ⟨rfl, rfl⟩
    exact ⟨_, rfl, Kd.R_nil _ _ _ _ _, hC, KeepBut.refl _ _ _, fun _ _ _ h => h⟩
  · rw [if_neg h0]
    refine (cover_Pass.some_ base g a h R left ended w hC hbw h0 hlr _ _ _ rfl rfl kn hn).mono ?_
    rintro e w' ⟨u, rfl, hR, hM, hK, hB⟩
    exact ⟨u, rfl, hR, hM, hK, fun B w0 hle h => h.trans (hB.mono hle)⟩
end Go.Proofs.Ytaihieglailmcaa.PC
