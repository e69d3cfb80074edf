/- Plain lemmas of this session (CCounts): numbers, bytes and lists. -/
import Derived.Test.YtaihieglailmcaaCPlain
import Derived.Test.YtaihieglailmcaaPCx5
namespace Go.Proofs.Ytaihieglailmcaa.Pure
open Go.RowKit Go.Proofs.YtaihieglailmcaaW.PrintWords Go.Proofs.YtaihieglailmcaaW.PrintLast Go.Proofs.YtaihieglailmcaaW.PrintMore Go.Proofs.Ytaihieglailmcaa.PC
/-! ### CoverCounts: equal hits are the same -/
theorem same76_go (l : List S76) (hl : l.length ≤ 1000000) : ∀ (d i : Nat), i + d = l.length → Ev (fun k => juratref15_Same.l0 k l l (i : Int)) true
  | 0, i, hd => ev_add 1 (fun k => by rw [juratref15_Same.l0, if_neg (by omega)])
  | d + 1, i, hd => by
    have ih := same76_go l hl d (i + 1) (by omega)
    obtain ⟨k, hk⟩ := ih
    refine ⟨k + 1, fun q hq => ?_⟩
    obtain ⟨q, rfl⟩ : ∃ q', q = q' + 1 := ⟨q - 1, by omega⟩
    have e2 : wrap64 ((i : Int) + 1) = ((i + 1 : Nat) : Int) := by rw [jw64 (by omega) (by omega)]; omega
    show juratref15_Same.l0 (q + 1) l l (i : Int) = some true
    rw [juratref15_Same.l0, if_pos (by omega), if_pos (by omega), if_pos (by omega), if_neg (by simp), e2]
    exact hk q (by omega)
theorem same76_ev (l : List S76) (hl : l.length ≤ 1000000) : Ev (fun k => juratref15_Same.f k l l) true := by
  obtain ⟨k, hk⟩ := same76_go l hl l.length 0 (by omega)
  refine ⟨k, fun q hq => ?_⟩
  show juratref15_Same.f q l l = some true
  unfold juratref15_Same.f
  rw [if_pos rfl]
  exact hk q hq
theorem good_start : goodS ⟨0, 0, z28, 0, false⟩ := ⟨⟨by simp, by simp⟩, ⟨by simp, by simp⟩, fun h => absurd h (by simp), by simp [z28]⟩
theorem good_pass {s : CS} (h : goodS s) : goodS (passS s).1 := by
  by_cases h0 : s.left = 0
  · unfold passS; rw [if_pos h0]; exact h
  · obtain ⟨e, _, hg⟩ := pass_is h h0
    rw [e]
    exact hg
theorem pass_R (s : CS) : (passS s).1.R = s.R := by unfold passS; split <;> rfl
theorem pass_len {s : CS} (h : goodS s) : (passS s).2.1.length ≤ 30 := by
  unfold passS
  split
  · simp
  · simp only [hits_len]; exact h.2.2.2
end Go.Proofs.Ytaihieglailmcaa.Pure
