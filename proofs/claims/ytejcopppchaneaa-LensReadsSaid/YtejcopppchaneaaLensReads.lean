/- LensReads over this seat's program: it returns true. -/
import Derived.Test.YtejcopppchaneaaLReadsW
import Derived.Test.YtejcopppchaneaaOpensF
set_option linter.unusedVariables false
set_option linter.unusedSimpArgs false
namespace Go.Proofs.Ytejcopppchaneaa.PF
open Go.RowKit Go.Proofs.YtejcopppchaneaaW.PrintWords Go.Proofs.YtejcopppchaneaaW.PrintLast Go.Proofs.YtejcopppchaneaaW.PrintMore Go.Proofs.Ytejcopppchaneaa.Pure
set_option maxHeartbeats 8000000 in
set_option maxRecDepth 100000 in
theorem reads_off1 (parts : List ByteArray) (asks : List Int) (closed : Bool) (P A : Option Addr) (cp ca : Nat) (w : World) (hP : Kd.C Kd.string w P parts.length parts) (hcp : parts.length ≤ cp) (kf : Nat) (hf : juratref09_Few.f kf parts 10 60 = some false) :
    Calls Try.prog 5 #[.slice P parts.length cp, .slice A asks.length ca, .bool closed] w fun e w' => e = .returned (.bool true) ∧ Below w.heap.size w w' := by
  have HP := Aside0.mk hP
  have HCP := Aside0.mk hcp
  have HF := Aside0.mk hf
  clear hP hcp hf
  go_enter Try.func5, Try.ntmps5
  go_wp2_with (first
    | (go_at_call 19; (refine (juratref09_Few.calls kf P cp parts 10 60 false _ HP.out HCP.out HF.out).mono ?_); rintro e wf ⟨rfl, hdr⟩; obtain ⟨mr, rfl⟩ := hdr)
    | (go_at_call 8; (refine (juratlaw31_awake.calls_ _).mono ?_); rintro e w6 ⟨rfl, hb⟩; have B6 := Aside0.mk (below_step (pw_below_drewN (Below.refl w.heap.size w) mr) hb); clear hb)
    | fail)
  go_ret
  exact ⟨rfl, B6.out⟩
set_option maxHeartbeats 8000000 in
set_option maxRecDepth 100000 in
theorem reads_off2 (parts : List ByteArray) (asks : List Int) (closed : Bool) (P A : Option Addr) (cp ca : Nat) (w : World) (hP : Kd.C Kd.string w P parts.length parts) (hcp : parts.length ≤ cp) (kf : Nat) (hf : juratref09_Few.f kf parts 10 60 = some true) (hl : 10 < asks.length) :
    Calls Try.prog 5 #[.slice P parts.length cp, .slice A asks.length ca, .bool closed] w fun e w' => e = .returned (.bool true) ∧ Below w.heap.size w w' := by
  have HP := Aside0.mk hP
  have HCP := Aside0.mk hcp
  have HF := Aside0.mk hf
  have d0 : decide ((asks.length : Int) > 10) = true := decide_eq_true (by omega)
  have d1 : decide (10 < asks.length) = true := decide_eq_true hl
  clear hP hcp hf hl
  go_enter Try.func5, Try.ntmps5
  go_wp2_with (first
    | (go_at_call 19; (refine (juratref09_Few.calls kf P cp parts 10 60 true _ HP.out HCP.out HF.out).mono ?_); rintro e wf ⟨rfl, hdr⟩; obtain ⟨mr, rfl⟩ := hdr)
    | (go_at_call 8; (refine (juratlaw31_awake.calls_ _).mono ?_); rintro e w6 ⟨rfl, hb⟩; have B6 := Aside0.mk (below_step (pw_below_drewN (Below.refl w.heap.size w) mr) hb); clear hb)
    | fail)
  go_ret
  exact ⟨rfl, B6.out⟩
/-- LensReads returns true. -/
theorem juratlaw31_LensReads.holds (parts : List ByteArray) (asks : List Int) (closed : Bool) (P : Option Addr) (cp : Nat) (A : Option Addr) (ca : Nat) (w : World) (hP : Kd.C Kd.string w P parts.length parts) (hcp : parts.length ≤ cp) (hA : Kd.C (Kd.int .i64) w A asks.length asks) (hca : asks.length ≤ ca) (_g0 : parts.length ≤ maxLen ∧ ∀ x ∈ parts, x.size ≤ maxLen) (_g1 : asks.length ≤ maxLen ∧ ∀ x ∈ asks, (Lit.int .i64 x).wf = true) (_g2 : True) :
    Calls Try.prog 5 #[.slice P parts.length cp, .slice A asks.length ca, .bool closed] w fun e w' => e = .returned (.bool true) ∧ Below w.heap.size w w' := by
  obtain ⟨b, hb, hq⟩ := few09_ev parts
  obtain ⟨kf, hk⟩ := hb.rounds
  cases b with
  | false => exact reads_off1 parts asks closed P A cp ca w hP hcp kf hk
  | true =>
    obtain ⟨h1, h2⟩ := hq rfl
    by_cases h3 : asks.length ≤ 10
    · exact reads_main parts asks closed P A cp ca w hP hcp hA hca h1 h2 h3 kf hk
    · exact reads_off2 parts asks closed P A cp ca w hP hcp kf hk (by omega)
end Go.Proofs.Ytejcopppchaneaa.PF
