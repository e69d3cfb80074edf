/- LensNone over this seat's program, by walking its text: it returns true. -/
import Derived.Test.YtejcopppchaneaaLAwake
import Derived.Test.YtejcopppchaneaaOpensF
set_option linter.unusedVariables false
set_option linter.unusedSimpArgs false
namespace Go.Proofs.Ytejcopppchaneaa.PF
open Go.RowKit Go.Proofs.YtejcopppchaneaaW.PrintWords Go.Proofs.YtejcopppchaneaaW.PrintLast Go.Proofs.YtejcopppchaneaaW.PrintMore Go.Proofs.Ytejcopppchaneaa.Pure
theorem same_zero : juratref24_Same.f 3 0 0 0 [] 0 0 0 [] = some true := by kernel_rfl
set_option maxHeartbeats 16000000 in
set_option maxRecDepth 100000 in
theorem lensNone_long (s : ByteArray) (w : World) (hl : (s.size : Int) > 50) : Calls Try.prog 4 #[.string s] w fun e w' => e = .returned (.bool true) ∧ Below w.heap.size w w' := by
  have h1 : decide ((s.size : Int) > 50) = true := decide_eq_true hl
  clear hl
  go_enter Try.func4, Try.ntmps4
  go_wp2_with (first | (go_at_call 8; (refine (juratlaw31_awake.calls_ _).mono ?_); rintro e w3 ⟨rfl, hb3⟩; have B3 := Aside0.mk hb3; clear hb3) | fail)
  go_ret
  exact ⟨rfl, B3.out⟩
set_option maxHeartbeats 16000000 in
set_option maxRecDepth 100000 in
theorem lensNone_short (s : ByteArray) (w : World) (hl : ¬ (s.size : Int) > 50) : Calls Try.prog 4 #[.string s] w fun e w' => e = .returned (.bool true) ∧ Below w.heap.size w w' := by
  have h1 : decide ((s.size : Int) > 50) = false := decide_eq_false hl
  have hu30 := Try.underlying30
  clear hl
  go_enter Try.func4, Try.ntmps4
  go_upto_region 6 with (first
    | (go_at_call 13; (refine (lens_Feed.nil s _).mono ?_); rintro e w1 ⟨rfl, rfl⟩)
    | (go_at_call 14; (refine (lens_Close.nil _).mono ?_); rintro e w1 ⟨rfl, rfl⟩)
    | fail)
  go_upto_region 7 with (first
    | (go_at_call 15; (refine (lens_Next.nil _).mono ?_); rintro e w2 ⟨rfl, hb⟩; have B2 := Aside0.mk (below_alloc hb (.cells #[.int .i64 0, .int .i64 0, .int .i64 0, .slice none 0 0] 30)); have X2 := Aside0.mk (blk_new w2 (.cells #[.int .i64 0, .int .i64 0, .int .i64 0, .slice none 0 0] 30)); clear hb)
    | fail)
  generalize w2.alloc (.cells #[.int .i64 0, .int .i64 0, .int .i64 0, .slice none 0 0] 30) = w3 at B2 X2 ⊢
  generalize w2.heap.size = b5 at X2 ⊢
  obtain ⟨⟨k0, k1, k2, k3⟩, z0, z1, z2, z3⟩ := cell4 X2.out
  go_wp2_with (first
    | (go_at_call 16; (refine (juratref24_Same.calls 3 0 0 0 none 0 [] 0 0 0 none 0 [] true _ (Kd.C_nil _ _) (Nat.le_refl _) (Kd.C_nil _ _) (Nat.le_refl _) same_zero).mono ?_); rintro e w4 ⟨rfl, hb⟩; have B4 := Aside0.mk (below_step B2.out hb); clear hb k0 k1 k2 k3 z0 z1 z2 z3)
    | (go_at_call 17; (refine (lens_Ended.nil _).mono ?_); rintro e w5 ⟨rfl, rfl⟩)
    | (go_at_call 18; (refine (lens_Held.nil _).mono ?_); rintro e w5 ⟨rfl, rfl⟩)
    | (go_at_call 8; (refine (juratlaw31_awake.calls_ _).mono ?_); rintro e w6 ⟨rfl, hb⟩; have B6 := Aside0.mk (below_step B4.out hb); clear hb)
    | fail)
  go_ret
  exact ⟨rfl, B6.out⟩
/-- LensNone returns true. -/
theorem juratlaw31_LensNone.holds (s : ByteArray) (w : World) (gs : s.size ≤ 140737488351232) : Calls Try.prog 4 #[.string s] w fun e w' => e = .returned (.bool true) ∧ Below w.heap.size w w' := by
  by_cases hl : (s.size : Int) > 50
  · exact lensNone_long s w hl
  · exact lensNone_short s w hl
end Go.Proofs.Ytejcopppchaneaa.PF
