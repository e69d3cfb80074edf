/- The examples of the lens's chapter. -/
import Derived.Test.YtejcopppchaneaaLAll
set_option linter.unusedVariables false
set_option linter.unusedSimpArgs false
namespace Go.Proofs.Ytejcopppchaneaa.PF
open Go.RowKit Go.Proofs.YtejcopppchaneaaW.PrintWords Go.Proofs.YtejcopppchaneaaW.PrintLast Go.Proofs.YtejcopppchaneaaW.PrintMore Go.Proofs.Ytejcopppchaneaa.Pure
theorem all_ex1 : allS (⟨#[1, 2, 2, 6, 4, 0]⟩ : ByteArray) = ([(⟨1, 2, 2, []⟩ : S30), ⟨6, 4, 0, []⟩], 0) := by kernel_rfl
theorem all_ex2 : allS (⟨#[1, 2, 1, 1, 2, 1]⟩ : ByteArray) = ([], 9) := by kernel_rfl
theorem same_ex : juratref26_Same.f 9 [(⟨1, 2, 2, []⟩ : S30), ⟨6, 4, 0, []⟩] [(⟨1, 2, 2, []⟩ : S30), ⟨6, 4, 0, []⟩] = some true := by kernel_rfl
set_option maxHeartbeats 16000000 in
set_option maxRecDepth 100000 in
theorem juratlaw31_awake.calls_ (w : World) : Calls Try.prog 8 #[] w fun e w' => e = .returned (.bool true) ∧ Below w.heap.size w w' := by
  have hu30 := Try.underlying30
  go_enter Try.func8, Try.ntmps8
  go_upto_region 2 with (first | (go_at_call 9; (refine (lens_All.calls_ (⟨#[1, 2, 2, 6, 4, 0]⟩ : ByteArray) (by decide) _ all_ex1 _).mono ?_); rintro e w1 ⟨v, rfl, hR, hb⟩; obtain ⟨A, c, rfl⟩ := Kd.R_slice hR; have HR := Aside0.mk hR; have HB := Aside0.mk hb; clear hR hb) | fail)
  go_upto_region 3 with (first | (go_at_call 9; (refine (lens_All.calls_ (⟨#[1, 2, 1, 1, 2, 1]⟩ : ByteArray) (by decide) _ all_ex2 _).mono ?_); rintro e w2 ⟨v, rfl, hR, hb⟩; obtain ⟨A2, c2, rfl⟩ := Kd.R_slice hR; have RN := Aside0.mk (Kd.R_below HR.out hb); have BN := Aside0.mk (below_step HB.out hb); clear hR hb HR HB; have HR := RN; have HB := BN; clear RN BN) | fail)
  go_wp2_with (first
    | ((with_reducible refine gate_dst (N := 16) rfl ?_); refine Kd.R_lit k30 _ 30 ?hg (N := 16) ?hd (xs := [(⟨1, 2, 2, []⟩ : S30), ⟨6, 4, 0, []⟩]) (inner := [.int .i64 1, .int .i64 2, .int .i64 2, .slice none 0 0, .int .i64 6, .int .i64 4, .int .i64 0, .slice none 0 0]) (ok := fun _ => True) (okp := fun _ => True) ?hr ?hp (fun _ hk => hk) trivial (Below.refl _ _) (Nat.le_refl _) (by simp) ?_; (case hd => rfl); (case hg => rfl); (case hr => first | (go_simp; done) | (go_simp; rfl)); (case hp => exact (Reps.c4 (k30_mkM _ _ _ ⟨1, 2, 2, []⟩ (Kd.R_nil _ _ _ _ _)) (Reps.c4 (k30_mkM _ _ _ ⟨6, 4, 0, []⟩ (Kd.R_nil _ _ _ _ _)) (Reps.none _ _)))); intro u5 w5 ho5 hb5 hg_ hnew_; clear hg_ hnew_; obtain ⟨A5, c5, rfl⟩ := Kd.R_slice ho5; have R5 := Aside0.mk ho5; have B5 := Aside0.mk (below_step HB.out hb5); have H5 := Aside0.mk (Kd.R_below HR.out hb5); clear ho5 hb5)
    | (go_at_call 11; (refine (juratref26_Same.calls 9 A c [(⟨1, 2, 2, []⟩ : S30), ⟨6, 4, 0, []⟩] A5 c5 [(⟨1, 2, 2, []⟩ : S30), ⟨6, 4, 0, []⟩] true _ (Kd.R_reads' H5.out).2.2 (Kd.R_reads' H5.out).2.1 (Kd.R_reads' R5.out).2.2 (Kd.R_reads' R5.out).2.1 same_ex).mono ?_); rintro e w6 ⟨rfl, hb⟩; have B6 := Aside0.mk (below_step B5.out hb); clear hb)
    | fail)
  go_ret
  exact ⟨rfl, B6.out⟩
end Go.Proofs.Ytejcopppchaneaa.PF
