/- CoverNone over this seat's program, by walking its text: it returns true. -/
import Derived.Test.YtaihieglailmcaaCoverAwake
import Derived.Test.YtaihieglailmcaaPGx2
import Derived.Test.YtaihieglailmcaaOpensG
set_option linter.unusedVariables false
set_option linter.unusedSimpArgs false
namespace Go.Proofs.Ytaihieglailmcaa.PG
open Go.RowKit Go.Proofs.YtaihieglailmcaaW.PrintWords Go.Proofs.YtaihieglailmcaaW.PrintLast Go.Proofs.YtaihieglailmcaaW.PrintMore
set_option maxHeartbeats 8000000 in
set_option maxRecDepth 100000 in
/-- CoverNone returns true. -/
theorem juratlaw37_CoverNone.holds (a : S28) (A : Option Addr) (ca : Nat) (w : World) (hA : Kd.C (Kd.int .i64) w A a.f3.length a.f3) (hca : a.f3.length ≤ ca) (ga : good28 a) :
    Calls Try.prog 8 #[.agg #[.int .i64 a.f0, .int .i64 a.f1, .int .i64 a.f2, .slice A a.f3.length ca]] w fun e w' => e = .returned (.bool true) ∧ Below w.heap.size w w' := by
  have hu := Try.underlying28
  clear hA
  by_cases hl : (a.f3.length : Int) > 30
  · have hd : decide ((a.f3.length : Int) > 30) = true := decide_eq_true hl
    clear hl
    go_enter Try.func8, Try.ntmps8
    go_wp2_with (first | (go_at_call 25; (refine (juratlaw37_awake.calls_ _).mono ?_); rintro e w1 ⟨rfl, hb1⟩; have B := Aside0.mk hb1; clear hb1) | fail)
    go_ret
    exact ⟨rfl, below_step (below_alloc (Below.refl _ _) _) B.out⟩
  · have hd : decide ((a.f3.length : Int) > 30) = false := decide_eq_false hl
    clear hl
    have HS := Aside0.mk (show juratref24_Same.f 20 0 0 0 [] 0 0 0 [] = some true by kernel_rfl)
    go_enter Try.func8, Try.ntmps8
    go_upto_region 5 with (first | (go_at_call 28; (refine (cover_Begin.nil_ a A ca _).mono ?_); rintro e w1 ⟨rfl, hb1⟩; have B := Aside0.mk (below_step (below_alloc (Below.refl w.heap.size w) _) hb1); clear hb1) | fail)
    go_upto_region 7 with (first | (go_at_call 35; (refine (cover_Next.nil_ _).mono ?_); rintro e w2 ⟨rfl, hb2⟩; have BN := Aside0.mk (below_step B.out hb2); clear hb2 B; have B := BN; clear BN) | (go_at_call 30; (refine (cover_Pass.nil_ _).mono ?_); rintro e w3 ⟨rfl, rfl⟩) | fail)
    go_wp2_with (first | (go_at_call 13; (refine (juratref24_Same.calls 20 0 0 0 none 0 [] 0 0 0 none 0 [] true _ (Kd.C_nil _ _) (Nat.le_refl _) (Kd.C_nil _ _) (Nat.le_refl _) HS.out).mono ?_); rintro e w4 ⟨rfl, hb4⟩; have BN := Aside0.mk (below_step (below_alloc B.out _) hb4); clear hb4 B; have B := BN; clear BN) | (go_at_call 34; (refine (cover_At.nil_ _).mono ?_); rintro e w5 ⟨rfl, rfl⟩) | (go_at_call 38; (refine (cover_Hits.nil_ _).mono ?_); rintro e w5 ⟨rfl, rfl⟩) | (go_at_call 33; (refine (cover_Ended.nil_ _).mono ?_); rintro e w5 ⟨rfl, rfl⟩) | (go_at_call 25; (refine (juratlaw37_awake.calls_ _).mono ?_); rintro e w6 ⟨rfl, hb6⟩; have BN := Aside0.mk (below_step B.out hb6); clear hb6 B; have B := BN; clear BN) | fail)
    go_ret
    exact ⟨rfl, B.out⟩
end Go.Proofs.Ytaihieglailmcaa.PG
