/- The cover and the document's, step by step together. -/
import Derived.Test.YtaihieglailmcaaCoverRefPass
import Derived.Test.YtaihieglailmcaaCoverTells
import Derived.Test.YtaihieglailmcaaCCounts
set_option linter.unusedVariables false
set_option linter.unusedSimpArgs false
namespace Go.Proofs.Ytaihieglailmcaa.PC
open Go.RowKit Go.Proofs.YtaihieglailmcaaW.PrintWords Go.Proofs.YtaihieglailmcaaW.PrintLast Go.Proofs.YtaihieglailmcaaW.PrintMore Go.Proofs.Ytaihieglailmcaa.Pure
theorem cref_Pass.all (s : CS) (B : Option Addr) (d : Nat) (w : World) (hB : Kd.C (Kd.int .i64) w B s.R.f3.length s.R.f3) (hd : s.R.f3.length ≤ d) (hr : s.R.f3.length ≤ 1000) :
    Calls Try.prog 29 #[cval s B d] w fun e w' => ∃ u : Value, e = .returned (.tuple #[cval (passS s).1 B d, u, .int .i64 (passS s).2.2]) ∧ Kd.R k76 76 w' w.heap.size (fun _ => True) u (passS s).2.1 ∧ Below w.heap.size w w' := by
  obtain ⟨kn, hn⟩ := (rcov1_ev s.R).rounds
  obtain ⟨a, h, R, left, ended⟩ := s
  unfold passS
  simp only [cval] at hB hd hr hn ⊢
  by_cases h0 : left = 0
  · rw [if_pos h0]
    subst h0
    refine (cref_Pass.zero a h R ended B d w).mono ?_
    rintro e w' ⟨rfl, hb⟩
    exact ⟨_, rfl, Kd.R_nil _ _ _ _ _, hb⟩
  · rw [if_neg h0]
    refine (cref_Pass.some_ a h R left ended B d w hB hd h0 hr _ _ _ rfl rfl kn hn).mono ?_
    rintro e w' ⟨u, rfl, hR, hb⟩
    exact ⟨u, rfl, hR, hb⟩
theorem tells.all (base g : Nat) (s : CS) (A : Option Addr) (c : Nat) (w : World) (hC : CSt w base g s) (hA : Kd.C (Kd.int .i64) w A s.R.f3.length s.R.f3) (hc : s.R.f3.length ≤ c) (hl : 0 ≤ s.left) (hr : s.R.f3.length ≤ 1000) :
    Calls Try.prog 32 #[.pointer (some ⟨g, 0, none⟩), cval s A c] w fun e w' => e = .returned (.bool true) ∧ Below w.heap.size w w' := by
  by_cases h0 : s.left = 0
  · exact tells.zero base g s A c w hC hA hc h0
  · exact tells.some_ base g s A c w hC hA hc (by omega) hr
end Go.Proofs.Ytaihieglailmcaa.PC
