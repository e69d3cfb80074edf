/- QueueNone over this seat's program, by walking its text: it returns true. -/
import Derived.Test.YtphmeljhfbahoaaQLoops
import Derived.Test.YtphmeljhfbahoaaOpensQ
set_option linter.unusedVariables false
set_option linter.unusedSimpArgs false
namespace Go.Proofs.Ytphmeljhfbahoaa.PQ
open Go.Conc Go.RowKit Go.Proofs.YtphmeljhfbahoaaW.PrintWords Go.Proofs.YtphmeljhfbahoaaW.PrintLast Go.Proofs.YtphmeljhfbahoaaW.PrintMore
set_option maxHeartbeats 8000000 in
set_option maxRecDepth 100000 in
theorem none_many (x : S34) (l : List S34) (A : Option Addr) (c : Nat) (w : World) (hl : (l.length : Int) > 30) : Calls Try.prog 4 #[.agg #[.int .i64 x.f0, .int .i64 x.f1], .slice A l.length c] w fun e w' => e = .returned (.bool true) ∧ Below w.heap.size w w' := by
  have h1 : decide ((l.length : Int) > 30) = true := decide_eq_true hl
  clear hl
  go_enter Try.func4, Try.ntmps4
  go_wp2_with (first | (go_at_call 6; (refine (juratlaw33_awake.calls_ _).mono ?_); rintro e w3 ⟨rfl, hb3⟩; have B3 := Aside0.mk hb3; clear hb3) | fail)
  go_ret
  exact ⟨rfl, below_step (below_alloc (Below.refl _ _) _) B3.out⟩
set_option maxHeartbeats 8000000 in
set_option maxRecDepth 100000 in
theorem none_few (x : S34) (l : List S34) (A : Option Addr) (c : Nat) (w : World) (hr : Kd.C k34 w A l.length l) (hc : l.length ≤ c) (hl : ¬ (l.length : Int) > 30) : Calls Try.prog 4 #[.agg #[.int .i64 x.f0, .int .i64 x.f1], .slice A l.length c] w fun e w' => e = .returned (.bool true) ∧ Below w.heap.size w w' := by
  have h1 : decide ((l.length : Int) > 30) = false := decide_eq_false hl
  have hu34 := Try.underlying34
  have HR := Aside0.mk hr
  have HC := Aside0.mk hc
  have HL := Aside0.mk (show l.length ≤ 5000 by omega)
  clear hr hc hl
  go_enter Try.func4, Try.ntmps4
  go_upto_region 4 with fail
  have X := Aside0.mk (blk_new w (.cells #[.int .i64 x.f0, .int .i64 x.f1] 34))
  have B := Aside0.mk (below_alloc (Below.refl w.heap.size w) (.cells #[.int .i64 x.f0, .int .i64 x.f1] 34))
  generalize w.alloc (.cells #[.int .i64 x.f0, .int .i64 x.f1] 34) = w1 at X B ⊢
  generalize w.heap.size = b2 at X ⊢
  go_upto_region 5 with (first | (go_at_call 13; (refine (nil_Take _).mono ?_); rintro e w2 ⟨rfl, hb⟩; have B2 := Aside0.mk (below_alloc (below_step B.out hb) (.cells #[.int .i64 0, .int .i64 0] 34)); have X2 := Aside0.mk (blk_below (blk_below X.out hb) (below_alloc (Below.refl _ _) (.cells #[.int .i64 0, .int .i64 0] 34))); have Y2 := Aside0.mk (blk_new w2 (.cells #[.int .i64 0, .int .i64 0] 34)); clear hb X B) | fail)
  generalize w2.alloc (.cells #[.int .i64 0, .int .i64 0] 34) = w3 at B2 X2 Y2 ⊢
  generalize w2.heap.size = b6 at Y2 ⊢
  obtain ⟨⟨i0, i1⟩, u0, u1⟩ := cell2 X2.out
  go_wp2_with (first
    | (go_at_call 14; (refine (nil_Put x _).mono ?_); rintro e w4 ⟨rfl, hb⟩; have B := Aside0.mk (below_step B2.out hb); have Y := Aside0.mk (blk_below Y2.out hb); clear hb X2 Y2 B2 i0 i1 u0 u1; obtain ⟨⟨i0, i1⟩, u0, u1⟩ := cell2 Y.out)
    | (go_at_call 15; (refine (nil_Close _).mono ?_); rintro e w5 ⟨rfl, rfl⟩)
    | (go_at_call 9; (refine (nil_Len _).mono ?_); rintro e w5 ⟨rfl, rfl⟩)
    | (go_at_call 10; (refine (nil_Room _).mono ?_); rintro e w5 ⟨rfl, rfl⟩)
    | (go_at_call 12; (refine (nil_Over _).mono ?_); rintro e w5 ⟨rfl, rfl⟩)
    | (go_at_call 16; (refine (nil_Fill A c l _ (Kd.C_below HR.out B.out) HC.out HL.out).mono ?_); rintro e w5 ⟨rfl, hb⟩; have BN := Aside0.mk (below_step B.out hb); clear hb B Y i0 i1 u0 u1; have B := BN; clear BN)
    | (go_at_call 17; (refine (nil_Drain _).mono ?_); rintro e w5 ⟨rfl, rfl⟩)
    | (go_at_call 6; (refine (juratlaw33_awake.calls_ _).mono ?_); rintro e w5 ⟨rfl, hb⟩; have BE := Aside0.mk (below_step B.out hb); clear hb)
    | fail)
  go_ret
  exact ⟨rfl, BE.out⟩
/-- QueueNone returns true. -/
theorem juratlaw33_QueueNone.holds (x : S34) (l : List S34) (A : Option Addr) (c : Nat) (w : World) (hr : Kd.C k34 w A l.length l) (hc : l.length ≤ c) (gx : good34 x) (gl : l.length ≤ maxLen ∧ ∀ x ∈ l, good34 x) :
    Calls Try.prog 4 #[.agg #[.int .i64 x.f0, .int .i64 x.f1], .slice A l.length c] w fun e w' => e = .returned (.bool true) ∧ Below w.heap.size w w' := by
  by_cases hl : (l.length : Int) > 30
  · exact none_many x l A c w hl
  · exact none_few x l A c w hr hc hl
end Go.Proofs.Ytphmeljhfbahoaa.PQ
