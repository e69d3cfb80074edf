/- Plain lemmas of this session (COnce): numbers, bytes and lists. -/
import Derived.Test.YtaihieglailmcaaCPlain
namespace Go.Proofs.Ytaihieglailmcaa.Pure
open Go.RowKit Go.Proofs.YtaihieglailmcaaW.PrintWords Go.Proofs.YtaihieglailmcaaW.PrintLast Go.Proofs.YtaihieglailmcaaW.PrintMore Go.Proofs.Ytaihieglailmcaa.PC
/-! ### CoverOnce: what holds along the rounds -/
def OInv (m : Nat) (s : CS) (all : List S76) (b : Bool) : Prop := goodS s ∧ s.h = (all.length : Int) ∧ all.length ≤ 30 * m ∧ (b = true → risP all ∧ (∀ x ∈ all, x.f0 ≤ s.a) ∧ ascP s.R.f3)
theorem once_start : OInv 0 ⟨0, 0, z28, 0, false⟩ [] true :=
  ⟨⟨⟨by simp, by simp⟩, ⟨by simp, by simp⟩, fun h => absurd h (by simp), by simp [z28]⟩, rfl, by simp, fun _ => ⟨fun i h => by simp at h, fun x h => by simp at h, fun i h => by simp [z28] at h⟩⟩
theorem begin_a (s : CS) (r : S28) : (beginS s r).1.a = s.a ∧ (beginS s r).1.h = s.h ∧ ((beginS s r).1.R = s.R ∨ (beginS s r).1.R = r) := by
  unfold beginS
  repeat' split
  all_goals first | exact ⟨rfl, rfl, Or.inl rfl⟩ | exact ⟨rfl, rfl, Or.inr rfl⟩
theorem begin_over (s : CS) (r : S28) (h : s.ended = true) : (beginS s r).2 = 12 := by unfold beginS; rw [if_pos (Or.inl h)]
theorem once_begin {m : Nat} {s : CS} {all : List S76} {b b2 : Bool} {y : S28} (h : OInv m s all b) (hy : y.f3.length ≤ 30) (hb : b2 = true → b = true ∧ ascP y.f3) : OInv m (beginS s y).1 all b2 := by
  obtain ⟨h1, h2, h3, h4⟩ := h
  obtain ⟨e1, e2, e3⟩ := begin_a s y
  refine ⟨good_begin h1 hy, by rw [e2]; exact h2, h3, fun hb2 => ?_⟩
  obtain ⟨hbt, hya⟩ := hb hb2
  obtain ⟨r1, r2, r3⟩ := h4 hbt
  refine ⟨r1, by rw [e1]; exact r2, ?_⟩
  rcases e3 with e3 | e3
  · rw [e3]; exact r3
  · rw [e3]; exact hya
theorem once_pass0 {m : Nat} {s : CS} {all : List S76} {b : Bool} (h : OInv m s all b) : OInv (m + 1) s all b := ⟨h.1, h.2.1, Nat.le_trans h.2.2.1 (by omega), h.2.2.2⟩
theorem once_pass {m : Nat} {s : CS} {all : List S76} {b : Bool} (h : OInv m s all b) (h0 : s.left ≠ 0) (hm : m ≤ 1000) : OInv (m + 1) (passS s).1 (all ++ (passS s).2.1) b := by
  obtain ⟨h1, h2, h3, h4⟩ := h
  obtain ⟨e, n1, hg⟩ := pass_is h1 h0
  rw [e]
  have hl := h1.2.2.2
  have hlen : (all ++ hitsOf (s.a + cov1 s.R) s.R.f3).length = all.length + s.R.f3.length := by rw [List.length_append, hits_len]
  refine ⟨hg, ?_, ?_, fun hb => ?_⟩
  · simp only
    rw [hlen, h2, jw64 (by omega) (by omega)]
    omega
  · simp only
    rw [hlen]
    omega
  · obtain ⟨r1, r2, r3⟩ := h4 hb
    exact ⟨ris_more r1 r2 (by omega) r3, below_more r2 (by omega), r3⟩
end Go.Proofs.Ytaihieglailmcaa.Pure
