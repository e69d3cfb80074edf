/- The example of the chapter on covers, by walking its text. -/
import Derived.Test.YtaihieglailmcaaCover
set_option linter.unusedVariables false
set_option linter.unusedSimpArgs false
namespace Go.Proofs.Ytaihieglailmcaa.PC
open Go.RowKit Go.Proofs.YtaihieglailmcaaW.PrintWords Go.Proofs.YtaihieglailmcaaW.PrintLast Go.Proofs.YtaihieglailmcaaW.PrintMore
theorem CAt.alloc {W : World} {base g : Nat} {a h : Int} {r : S28} {left : Int} {ended : Bool} (hc : CAt W base g a h r left ended) (o : Obj) : CAt (W.alloc o) base g a h r left ended := hc.below (below_alloc (Below.refl _ _) o)
set_option maxHeartbeats 8000000 in
set_option maxRecDepth 100000 in
theorem juratlaw37_awake.calls_ (w : World) : Calls Try.prog 25 #[] w fun e w' => e = .returned (.bool true) ∧ Below w.heap.size w w' := by
  have hn : probe_Covers.f 60 1 2 2 [] = some 2 := by kernel_rfl
  have ht : cover_often.f 1 2 2 [] = some 2 := by kernel_rfl
  have hw : reckon_Walk.f 60 0 2 2 = some (4, 0) := by kernel_rfl
  have e1 : wrap64 (0 + 1) = 1 := by unfold wrap64; omega
  have e2 : wrap64 (0 + 2) = 2 := by unfold wrap64; omega
  have e3 : wrap64 (2 - 1) = 1 := by unfold wrap64; omega
  have e4 : wrap64 (2 + 1) = 3 := by unfold wrap64; omega
  have e5 : wrap64 (2 + 2) = 4 := by unfold wrap64; omega
  have e6 : wrap64 (1 - 1) = 0 := by unfold wrap64; omega
  have HN := Aside0.mk hn
  have E0 := Aside0.mk (show wrap64 0 = 0 by unfold wrap64; omega)
  have HT := Aside0.mk ht
  have HW := Aside0.mk hw
  have E1 := Aside0.mk e1
  have E2 := Aside0.mk e2
  have E3 := Aside0.mk e3
  have E4 := Aside0.mk e4
  have E5 := Aside0.mk e5
  have E6 := Aside0.mk e6
  clear hn ht hw e1 e2 e3 e4 e5 e6
  have hu := Try.underlying28
  go_enter Try.func25, Try.ntmps25
  go_upto_region 2 with (first | (go_at_call 26; (refine (cover_New.calls_ _).mono ?_); rintro e w1 ⟨g, rfl, hM, hb⟩; have M := Aside0.mk hM; have B := Aside0.mk hb; clear hM hb) | fail)
  go_upto_region 3 with (first | (go_at_call 28; (refine (cover_Begin.ok w g 0 0 z28 0 ⟨1, 2, 2, []⟩ none 0 _ B.out M.out (Kd.C_nil _ _) (Nat.le_refl 0) rfl rfl rfl 60 2 2 HN.out HT.out rfl rfl 60 4 HW.out (Nat.zero_le _)).mono ?_); rintro e w2 ⟨rfl, hM, hK, hB⟩; clear M B; have M := Aside0.mk hM; have B := Aside0.mk hB; clear hM hB hK) | fail)
  go_upto_region 4 with (first | (go_at_call 35; (refine (cover_Next.some_ w.heap.size g 0 0 ⟨1, 2, 2, []⟩ 2 false _ M.out (by decide) (Nat.zero_le _)).mono ?_); rintro e w3 ⟨u3, rfl, hR3, hb3⟩; obtain ⟨A3, c3, rfl⟩ := Kd.R_slice hR3; rw [E1.out]; have MN := Aside0.mk (M.out.below hb3); have BN := Aside0.mk (below_step B.out hb3); clear M B hR3 hb3; have M := MN; have B := BN; clear MN BN) | fail)
  have MN := Aside0.mk (M.out.alloc (Obj.cells #[.int .i64 1, .int .i64 2, .int .i64 2, .slice A3 0 c3] 28))
  have BN := Aside0.mk (below_alloc B.out (Obj.cells #[.int .i64 1, .int .i64 2, .int .i64 2, .slice A3 0 c3] 28))
  clear M B
  have M := MN
  have B := BN
  clear MN BN
  generalize w3.alloc (Obj.cells #[.int .i64 1, .int .i64 2, .int .i64 2, .slice A3 0 c3] 28) = v3 at M B ⊢
  go_upto_region 5 with (first | (go_at_call 30; (refine (cover_Pass.some_ w.heap.size g 0 0 ⟨1, 2, 2, []⟩ 2 false _ M.out B.out.size (by decide) (Nat.zero_le _) 2 2 1 E2.out E3.out 60 HN.out).mono ?_); rintro e w4 ⟨u3, rfl, hR3, hM3, hK3, hB3⟩; obtain ⟨A4, c4, rfl⟩ := Kd.R_slice hR3; have MN : Aside0 (CAt w4 w.heap.size g 2 0 ⟨1, 2, 2, []⟩ 1 false) := ⟨by simpa [E0.out] using hM3⟩; have BN := Aside0.mk (B.out.trans hB3); clear M B hR3 hM3 hK3 hB3; have M := MN; have B := BN; clear MN BN) | fail)
  go_upto_region 6 with (first | (go_at_call 35; (refine (cover_Next.some_ w.heap.size g 2 0 ⟨1, 2, 2, []⟩ 1 false _ M.out (by decide) (Nat.zero_le _)).mono ?_); rintro e w5 ⟨u3, rfl, hR3, hb3⟩; obtain ⟨A5, c5, rfl⟩ := Kd.R_slice hR3; rw [E4.out]; have MN := Aside0.mk (M.out.below hb3); have BN := Aside0.mk (below_step B.out hb3); clear M B hR3 hb3; have M := MN; have B := BN; clear MN BN) | fail)
  have MN := Aside0.mk (M.out.alloc (Obj.cells #[.int .i64 1, .int .i64 2, .int .i64 2, .slice A5 0 c5] 28))
  have BN := Aside0.mk (below_alloc B.out (Obj.cells #[.int .i64 1, .int .i64 2, .int .i64 2, .slice A5 0 c5] 28))
  clear M B
  have M := MN
  have B := BN
  clear MN BN
  generalize w5.alloc (Obj.cells #[.int .i64 1, .int .i64 2, .int .i64 2, .slice A5 0 c5] 28) = v5 at M B ⊢
  go_upto_region 7 with (first | (go_at_call 30; (refine (cover_Pass.some_ w.heap.size g 2 0 ⟨1, 2, 2, []⟩ 1 false _ M.out B.out.size (by decide) (Nat.zero_le _) 2 4 0 E5.out E6.out 60 HN.out).mono ?_); rintro e w6 ⟨u3, rfl, hR3, hM3, hK3, hB3⟩; obtain ⟨A6, c6, rfl⟩ := Kd.R_slice hR3; have MN : Aside0 (CAt w6 w.heap.size g 4 0 ⟨1, 2, 2, []⟩ 0 false) := ⟨by simpa [E0.out] using hM3⟩; have BN := Aside0.mk (B.out.trans hB3); clear M B hR3 hM3 hK3 hB3; have M := MN; have B := BN; clear MN BN) | fail)
  go_upto_region 8 with (first | (go_at_call 28; (refine (cover_Begin.check_ok w g 4 0 ⟨1, 2, 2, []⟩ 0 ⟨5, 4, 0, []⟩ none 0 _ B.out M.out (Kd.C_nil _ _) (Nat.le_refl 0) rfl rfl rfl rfl).mono ?_); rintro e w7 ⟨rfl, hb7⟩; have MN := Aside0.mk (M.out.below hb7); have BN := Aside0.mk (below_step B.out hb7); clear M B hb7; have M := MN; have B := BN; clear MN BN) | fail)
  go_upto_region 9 with (first | (go_at_call 28; (refine (cover_Begin.end_h w g 4 0 ⟨1, 2, 2, []⟩ 0 ⟨6, 4, 1, []⟩ none 0 _ B.out M.out (Kd.C_nil _ _) (Nat.le_refl 0) rfl rfl rfl rfl rfl).mono ?_); rintro e w8 ⟨rfl, hb8⟩; have MN := Aside0.mk (M.out.below hb8); have BN := Aside0.mk (below_step B.out hb8); clear M B hb8; have M := MN; have B := BN; clear MN BN) | fail)
  go_wp2_with (first | (go_at_call 34; (refine (cover_At.calls_ w.heap.size g 4 0 ⟨1, 2, 2, []⟩ 0 false _ M.out).mono ?_); rintro e w9 ⟨rfl, rfl⟩) | fail)
  go_ret
  exact ⟨rfl, B.out⟩
end Go.Proofs.Ytaihieglailmcaa.PC
