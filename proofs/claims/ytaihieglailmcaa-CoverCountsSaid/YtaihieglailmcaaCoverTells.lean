/- tells: what a cover tells is the document's, by walking its text. -/
import Derived.Test.YtaihieglailmcaaCoverRefAll
import Derived.Test.YtaihieglailmcaaCoverAll
import Derived.Test.YtaihieglailmcaaPCx6
set_option linter.unusedVariables false
set_option linter.unusedSimpArgs false
namespace Go.Proofs.Ytaihieglailmcaa.PC
open Go.RowKit Go.Proofs.YtaihieglailmcaaW.PrintWords Go.Proofs.YtaihieglailmcaaW.PrintLast Go.Proofs.YtaihieglailmcaaW.PrintMore Go.Proofs.Ytaihieglailmcaa.Pure
theorem tell_At (base g : Nat) (s : CS) (w : World) (hC : CSt w base g s) : Calls Try.prog 34 #[.pointer (some ⟨g, 0, none⟩)] w fun e w' => e = .returned (.int .i64 s.a) ∧ Below w.heap.size w w' :=
  (cover_At.calls_ base g _ _ _ _ _ w hC).mono (fun e w' h => ⟨h.1, by rw [h.2]; exact Below.refl _ _⟩)
theorem tell_Hits (base g : Nat) (s : CS) (w : World) (hC : CSt w base g s) : Calls Try.prog 38 #[.pointer (some ⟨g, 0, none⟩)] w fun e w' => e = .returned (.int .i64 s.h) ∧ Below w.heap.size w w' :=
  (cover_Hits.calls_ base g _ _ _ _ _ w hC).mono (fun e w' h => ⟨h.1, by rw [h.2]; exact Below.refl _ _⟩)
theorem tell_Ended (base g : Nat) (s : CS) (w : World) (hC : CSt w base g s) : Calls Try.prog 33 #[.pointer (some ⟨g, 0, none⟩)] w fun e w' => e = .returned (.bool s.ended) ∧ Below w.heap.size w w' :=
  (cover_Ended.calls_ base g _ _ _ _ _ w hC).mono (fun e w' h => ⟨h.1, by rw [h.2]; exact Below.refl _ _⟩)
def tellsR4.T : Bool × List (List Nat × List Nat) := (true, [([], []), ([0], [0]), ([], []), ([2], [2]), ([1, 3], [1, 3]), ([4, 1], [4]), ([5], [5]), ([6, 5, 5], [5, 6]), ([5], [5]), ([8, 5], [5, 8]), ([7, 9, 5], [5, 7, 9]), ([5, 10], [5, 10]), ([11, 7], [11]), ([12], [12]), ([13, 12, 12], [12, 13]), ([12], [12]), ([15, 12], [12, 15]), ([14, 16, 12], [12, 14, 16]), ([12, 17], [12, 17]), ([18, 14, 0, 1, 2, 3, 4, 5, 6, 7, 8, 9, 10, 11, 12, 13, 14, 15, 16, 17, 18], [18])])
def tellsR4.B : List Nat := [0, 1, 0, 4, 15, 31, 63, 127, 63, 319, 1023, 2047, 4095, 8191, 16383, 8191, 40959, 131071, 262143, 524287]
theorem tellsR4.tab : rtab .any (opsOf Try.f32 4) = tellsR4.T := by kernel_rfl
theorem tellsR4.bits : waitsOk tellsR4.T.2 tellsR4.B = true := by kernel_rfl
set_option maxHeartbeats 8000000 in
set_option maxRecDepth 100000 in
theorem tells.zero (base g : Nat) (s : CS) (A : Option Addr) (c : Nat) (w : World) (hC : CSt w base g s) (hA : Kd.C (Kd.int .i64) w A s.R.f3.length s.R.f3) (hc : s.R.f3.length ≤ c) (hl : s.left = 0) : Calls Try.prog 32 #[.pointer (some ⟨g, 0, none⟩), .agg #[.int .i64 s.a, .int .i64 s.h, .int .i64 s.R.f0, .int .i64 s.R.f1, .int .i64 s.R.f2, .slice A s.R.f3.length c, .int .i64 s.left, .bool s.ended]] w fun e w' => e = .returned (.bool true) ∧ Below w.heap.size w w' := by
  have HD := Aside0.mk (show decide (s.left > 0) = false by rw [hl]; rfl)
  have HZ := Aside0.mk hl
  have HS := Aside0.mk (show juratref24_Same.f 20 0 0 0 [] 0 0 0 [] = some true by kernel_rfl)
  clear hl
  have hu := Try.underlying28
  have hu49 := Try.underlying49
  have M := Aside0.mk hC
  have HA := Aside0.mk hA
  clear hC hA
  go_enter Try.func32, Try.ntmps32
  go_upto_region 1 with fail
  have BK := Aside0.mk (blk_new w (Obj.cells #[.int .i64 s.a, .int .i64 s.h, .int .i64 s.R.f0, .int .i64 s.R.f1, .int .i64 s.R.f2, .slice A s.R.f3.length c, .int .i64 s.left, .bool s.ended] 49))
  have B := Aside0.mk (below_alloc (Below.refl w.heap.size w) (Obj.cells #[.int .i64 s.a, .int .i64 s.h, .int .i64 s.R.f0, .int .i64 s.R.f1, .int .i64 s.R.f2, .slice A s.R.f3.length c, .int .i64 s.left, .bool s.ended] 49))
  have MN := Aside0.mk (M.out.below (below_alloc (Below.refl _ _) (Obj.cells #[.int .i64 s.a, .int .i64 s.h, .int .i64 s.R.f0, .int .i64 s.R.f1, .int .i64 s.R.f2, .slice A s.R.f3.length c, .int .i64 s.left, .bool s.ended] 49)))
  clear M
  have M := MN
  clear MN
  generalize w.alloc (Obj.cells #[.int .i64 s.a, .int .i64 s.h, .int .i64 s.R.f0, .int .i64 s.R.f1, .int .i64 s.R.f2, .slice A s.R.f3.length c, .int .i64 s.left, .bool s.ended] 49) = w1 at BK B M ⊢
  obtain ⟨⟨j0, j1, j2, j3, j4, j5, j6, j7⟩, y0, y1, y2, y3, y4, y5, y6, y7⟩ := cell8 BK.out
  have MZ : Aside0 (CAt w1 base g s.a s.h s.R 0 s.ended) := ⟨by have h := M.out; unfold CSt at h; rw [HZ.out] at h; exact h⟩
  go_upto_region 2 with (first | (go_at_call 35; (refine (cover_Next.zero base g s.a s.h s.R s.ended _ MZ.out).mono ?_); rintro e w8 ⟨rfl, hb8⟩; have MN := Aside0.mk (M.out.below hb8); have BKN := Aside0.mk (blk_below BK.out hb8); have BN := Aside0.mk (below_step B.out hb8); clear M BK B; have M := MN; have BK := BKN; have B := BN; clear MN BKN BN; clear j0 j1 j2 j3 j4 j5 j6 j7 y0 y1 y2 y3 y4 y5 y6 y7; obtain ⟨⟨j0, j1, j2, j3, j4, j5, j6, j7⟩, y0, y1, y2, y3, y4, y5, y6, y7⟩ := cell8 BK.out; clear hb8 MZ) | fail)
  have hba := below_alloc (Below.refl w8.heap.size w8) (Obj.cells #[.int .i64 0, .int .i64 0, .int .i64 0, .slice none 0 0] 28)
  have KZ := Aside0.mk (blk_new w8 (Obj.cells #[.int .i64 0, .int .i64 0, .int .i64 0, .slice none 0 0] 28))
  have MN := Aside0.mk (M.out.below hba); have BKN := Aside0.mk (blk_below BK.out hba); have BN := Aside0.mk (below_step B.out hba); clear M BK B; have M := MN; have BK := BKN; have B := BN; clear MN BKN BN; clear j0 j1 j2 j3 j4 j5 j6 j7 y0 y1 y2 y3 y4 y5 y6 y7; obtain ⟨⟨j0, j1, j2, j3, j4, j5, j6, j7⟩, y0, y1, y2, y3, y4, y5, y6, y7⟩ := cell8 BK.out
  clear hba
  generalize w8.alloc (Obj.cells #[.int .i64 0, .int .i64 0, .int .i64 0, .slice none 0 0] 28) = w8' at M BK B KZ ⊢
  generalize w8.heap.size = b6 at KZ ⊢
  clear j0 j1 j2 j3 j4 j5 j6 j7 y0 y1 y2 y3 y4 y5 y6 y7
  obtain ⟨⟨j0, j1, j2, j3, j4, j5, j6, j7⟩, y0, y1, y2, y3, y4, y5, y6, y7⟩ := cell8 BK.out
  obtain ⟨⟨k0, k1, k2, k3⟩, _⟩ := cell4_ KZ.out
  have hd := HD.out
  go_upto_region 4 with (first | (go_at_call 13; (refine (juratref24_Same.calls 20 0 0 0 none 0 [] 0 0 0 none 0 [] true _ (Kd.C_nil _ _) (Nat.le_refl _) (Kd.C_nil _ _) (Nat.le_refl _) HS.out).mono ?_); rintro e w9 ⟨rfl, hb9⟩; have MN := Aside0.mk (M.out.below hb9); have BKN := Aside0.mk (blk_below BK.out hb9); have BN := Aside0.mk (below_step B.out hb9); clear M BK B; have M := MN; have BK := BKN; have B := BN; clear MN BKN BN; clear j0 j1 j2 j3 j4 j5 j6 j7 y0 y1 y2 y3 y4 y5 y6 y7; obtain ⟨⟨j0, j1, j2, j3, j4, j5, j6, j7⟩, y0, y1, y2, y3, y4, y5, y6, y7⟩ := cell8 BK.out; clear hb9 k0 k1 k2 k3 KZ) | fail)
  refine start_ (n := 20) (S := (fun w' => w'.cell? ⟨w.heap.size, 0, none⟩ = some (.int .i64 s.a) ∧ w'.cell? ⟨w.heap.size, 1, none⟩ = some (.int .i64 s.h) ∧ w'.cell? ⟨w.heap.size, 2, none⟩ = some (.int .i64 s.R.f0) ∧ w'.cell? ⟨w.heap.size, 3, none⟩ = some (.int .i64 s.R.f1) ∧ w'.cell? ⟨w.heap.size, 4, none⟩ = some (.int .i64 s.R.f2) ∧ w'.cell? ⟨w.heap.size, 5, none⟩ = some (.slice A s.R.f3.length c) ∧ w'.cell? ⟨w.heap.size, 6, none⟩ = some (.int .i64 s.left) ∧ w'.cell? ⟨w.heap.size, 7, none⟩ = some (.bool s.ended))) (ds := []) #[false, false, false, false, false, false, false, false, false, false, false, false, false, false, false, false, false, false, false, false] (by kernel_rfl) rfl rfl ⟨j0, j1, j2, j3, j4, j5, j6, j7⟩ (fun hHeld => ?_); refine with_tabW tellsR4.tab tellsR4.bits (fun HT_ HW_ => ?_)
  have hdr := below_drew1 (Below.refl w9.heap.size w9)
  have MN := Aside0.mk (M.out.below hdr)
  have BKN := Aside0.mk (blk_below BK.out hdr)
  have BN := Aside0.mk (below_step B.out hdr)
  clear M BK B
  have M := MN
  have BK := BKN
  have B := BN
  clear MN BKN BN
  clear hdr j0 j1 j2 j3 j4 j5 j6 j7 y0 y1 y2 y3 y4 y5 y6 y7
  generalize w9.drew = w10 at M BK B hHeld ⊢
  obtain ⟨⟨j0, j1, j2, j3, j4, j5, j6, j7⟩, y0, y1, y2, y3, y4, y5, y6, y7⟩ := cell8 BK.out
  refine pure_ (i := 0) (N := some 50) (v := ?_) (a' := ?_) #[true, false, false, false, false, false, false, false, false, false, false, false, false, false, false, false, false, false, false, false] rfl rfl (any_of HT_.out (by kernel_rfl)) (fun _ _ _ h => h) (Or.inl ⟨by rfl, ?_⟩) ?_ ?_
  rotate_left
  · intro w'
    go_simp
    with_reducible rfl
  rotate_left
  · simp only [Act.put, List.setIfInBounds_toArray, List.set_cons_zero, List.set_cons_succ, i64_w, i32_w]
    rfl
  refine pure_ (i := 2) (N := some 52) (v := ?_) (a' := ?_) #[true, false, true, false, false, false, false, false, false, false, false, false, false, false, false, false, false, false, false, false] rfl rfl (any_of HT_.out (by kernel_rfl)) (fun _ _ _ h => h) (Or.inl ⟨by rfl, ?_⟩) ?_ ?_
  rotate_left
  · intro w'
    go_simp
    with_reducible rfl
  rotate_left
  · simp only [Act.put, List.setIfInBounds_toArray, List.set_cons_zero, List.set_cons_succ, i64_w, i32_w]
    rfl
  refine take_ (i := 3) (N := some 53) (v := ?_) (a' := ?_) #[true, false, true, true, false, false, false, false, false, false, false, false, false, false, false, false, false, false, false, false] rfl rfl (take_ofW HT_.out HW_.out (by kernel_rfl)) (fun _ _ _ h => h) (Or.inl ⟨by rfl, ?_⟩) hHeld ?_ ?_
  rotate_left
  · rintro w' ⟨s0, s1, s2, s3, s4, s5, s6, s7⟩
    go_simp
    with_reducible rfl
  rotate_left
  · simp only [Act.put, List.setIfInBounds_toArray, List.set_cons_zero, List.set_cons_succ, i64_w, i32_w]
    rfl
  refine one_ (i := 1) (N := some 51) #[true, true, true, true, false, false, false, false, false, false, false, false, false, false, false, false, false, false, false, false] rfl rfl (one_of HT_.out (by kernel_rfl)) (by decide) (fun K hK => ?_)
  refine goes_ Try.func34 (by kernel_rfl) rfl #[.pointer (some ⟨g, 0, none⟩)] (by rfl) rfl rfl (by (try simp only [List.map_toArray, List.map_cons, List.map_nil]); first | done | rfl) ?_
  refine (tell_At base g s _ M.out).mono ?_
  rintro e w12 ⟨rfl, hb12⟩
  refine ⟨_, rfl, ?_⟩
  have MN := Aside0.mk (M.out.below hb12)
  have BKN := Aside0.mk (blk_below BK.out hb12)
  have BN := Aside0.mk (below_step B.out hb12)
  clear M BK B
  have M := MN
  have BK := BKN
  have B := BN
  clear MN BKN BN
  clear j0 j1 j2 j3 j4 j5 j6 j7 y0 y1 y2 y3 y4 y5 y6 y7
  obtain ⟨⟨j0, j1, j2, j3, j4, j5, j6, j7⟩, y0, y1, y2, y3, y4, y5, y6, y7⟩ := cell8 BK.out
  clear hb12
  refine hK.out _ _ ⟨j0, j1, j2, j3, j4, j5, j6, j7⟩ (fun hHeld => ?_)
  clear hK K
  refine norm_ (a' := ?_) ?_ ?_
  rotate_left
  · show Act.put _ (some 51) _ = _
    simp only [Act.put, List.setIfInBounds_toArray, List.set_cons_zero, List.set_cons_succ, i64_w, i32_w]
    rfl
  refine pure_ (i := 4) (N := some 54) (v := ?_) (a' := ?_) #[true, true, true, true, true, false, false, false, false, false, false, false, false, false, false, false, false, false, false, false] rfl rfl (any_of HT_.out (by kernel_rfl)) (fun _ _ _ h => h) (Or.inl ⟨by rfl, ?_⟩) ?_ ?_
  rotate_left
  · intro w'
    go_simp
    with_reducible rfl
  rotate_left
  · simp only [Act.put, List.setIfInBounds_toArray, List.set_cons_zero, List.set_cons_succ, i64_w, i32_w]
    rfl
  refine pure_ (i := 5) (N := some 55) (v := ?_) (a' := ?_) #[true, true, true, true, true, true, false, false, false, false, false, false, false, false, false, false, false, false, false, false] rfl rfl (any_of HT_.out (by kernel_rfl)) (fun _ _ _ h => h) (Or.inl ⟨by rfl, ?_⟩) ?_ ?_
  rotate_left
  · intro w'
    go_simp
    with_reducible rfl
  rotate_left
  · simp only [Act.put, List.setIfInBounds_toArray, List.set_cons_zero, List.set_cons_succ, i64_w, i32_w]
    rfl
  refine pure_ (i := 6) (N := some 56) (v := ?_) (a' := ?_) #[true, true, true, true, true, true, true, false, false, false, false, false, false, false, false, false, false, false, false, false] rfl rfl (any_of HT_.out (by kernel_rfl)) (fun _ _ _ h => h) (Or.inl ⟨by rfl, ?_⟩) ?_ ?_
  rotate_left
  · intro w'
    go_simp
    with_reducible rfl
  rotate_left
  · simp only [Act.put, List.setIfInBounds_toArray, List.set_cons_zero, List.set_cons_succ, i64_w, i32_w]
    rfl
  refine pure_ (i := 8) (N := some 58) (v := ?_) (a' := ?_) #[true, true, true, true, true, true, true, false, true, false, false, false, false, false, false, false, false, false, false, false] rfl rfl (any_of HT_.out (by kernel_rfl)) (fun _ _ _ h => h) (Or.inl ⟨by rfl, ?_⟩) ?_ ?_
  rotate_left
  · intro w'
    go_simp
    with_reducible rfl
  rotate_left
  · simp only [Act.put, List.setIfInBounds_toArray, List.set_cons_zero, List.set_cons_succ, i64_w, i32_w]
    rfl
  refine take_ (i := 9) (N := some 59) (v := ?_) (a' := ?_) #[true, true, true, true, true, true, true, false, true, true, false, false, false, false, false, false, false, false, false, false] rfl rfl (take_ofW HT_.out HW_.out (by kernel_rfl)) (fun _ _ _ h => h) (Or.inl ⟨by rfl, ?_⟩) hHeld ?_ ?_
  rotate_left
  · rintro w' ⟨s0, s1, s2, s3, s4, s5, s6, s7⟩
    go_simp
    with_reducible rfl
  rotate_left
  · simp only [Act.put, List.setIfInBounds_toArray, List.set_cons_zero, List.set_cons_succ, i64_w, i32_w]
    rfl
  refine one_ (i := 7) (N := some 57) #[true, true, true, true, true, true, true, true, true, true, false, false, false, false, false, false, false, false, false, false] rfl rfl (one_of HT_.out (by kernel_rfl)) (by decide) (fun K hK => ?_)
  refine goes_ Try.func38 (by kernel_rfl) rfl #[.pointer (some ⟨g, 0, none⟩)] (by rfl) rfl rfl (by (try simp only [List.map_toArray, List.map_cons, List.map_nil]); first | done | rfl) ?_
  refine (tell_Hits base g s _ M.out).mono ?_
  rintro e w12 ⟨rfl, hb12⟩
  refine ⟨_, rfl, ?_⟩
  have MN := Aside0.mk (M.out.below hb12)
  have BKN := Aside0.mk (blk_below BK.out hb12)
  have BN := Aside0.mk (below_step B.out hb12)
  clear M BK B
  have M := MN
  have BK := BKN
  have B := BN
  clear MN BKN BN
  clear j0 j1 j2 j3 j4 j5 j6 j7 y0 y1 y2 y3 y4 y5 y6 y7
  obtain ⟨⟨j0, j1, j2, j3, j4, j5, j6, j7⟩, y0, y1, y2, y3, y4, y5, y6, y7⟩ := cell8 BK.out
  clear hb12
  refine hK.out _ _ ⟨j0, j1, j2, j3, j4, j5, j6, j7⟩ (fun hHeld => ?_)
  clear hK K
  refine norm_ (a' := ?_) ?_ ?_
  rotate_left
  · show Act.put _ (some 57) _ = _
    simp only [Act.put, List.setIfInBounds_toArray, List.set_cons_zero, List.set_cons_succ, i64_w, i32_w]
    rfl
  refine pure_ (i := 10) (N := some 60) (v := ?_) (a' := ?_) #[true, true, true, true, true, true, true, true, true, true, true, false, false, false, false, false, false, false, false, false] rfl rfl (any_of HT_.out (by kernel_rfl)) (fun _ _ _ h => h) (Or.inl ⟨by rfl, ?_⟩) ?_ ?_
  rotate_left
  · intro w'
    go_simp
    with_reducible rfl
  rotate_left
  · simp only [Act.put, List.setIfInBounds_toArray, List.set_cons_zero, List.set_cons_succ, i64_w, i32_w]
    rfl
  refine pure_ (i := 11) (N := some 61) (v := ?_) (a' := ?_) #[true, true, true, true, true, true, true, true, true, true, true, true, false, false, false, false, false, false, false, false] rfl rfl (any_of HT_.out (by kernel_rfl)) (fun _ _ _ h => h) (Or.inl ⟨by rfl, ?_⟩) ?_ ?_
  rotate_left
  · intro w'
    go_simp
    with_reducible rfl
  rotate_left
  · simp only [Act.put, List.setIfInBounds_toArray, List.set_cons_zero, List.set_cons_succ, i64_w, i32_w]
    rfl
  refine pure_ (i := 12) (N := some 62) (v := ?_) (a' := ?_) #[true, true, true, true, true, true, true, true, true, true, true, true, true, false, false, false, false, false, false, false] rfl rfl (any_of HT_.out (by kernel_rfl)) (fun _ _ _ h => h) (Or.inl ⟨by rfl, ?_⟩) ?_ ?_
  rotate_left
  · intro w'
    go_simp
    with_reducible rfl
  rotate_left
  · simp only [Act.put, List.setIfInBounds_toArray, List.set_cons_zero, List.set_cons_succ, i64_w, i32_w]
    rfl
  refine pure_ (i := 13) (N := some 63) (v := ?_) (a' := ?_) #[true, true, true, true, true, true, true, true, true, true, true, true, true, true, false, false, false, false, false, false] rfl rfl (any_of HT_.out (by kernel_rfl)) (fun _ _ _ h => h) (Or.inl ⟨by rfl, ?_⟩) ?_ ?_
  rotate_left
  · intro w'
    go_simp
    with_reducible rfl
  rotate_left
  · simp only [Act.put, List.setIfInBounds_toArray, List.set_cons_zero, List.set_cons_succ, i64_w, i32_w]
    rfl
  refine pure_ (i := 15) (N := some 65) (v := ?_) (a' := ?_) #[true, true, true, true, true, true, true, true, true, true, true, true, true, true, false, true, false, false, false, false] rfl rfl (any_of HT_.out (by kernel_rfl)) (fun _ _ _ h => h) (Or.inl ⟨by rfl, ?_⟩) ?_ ?_
  rotate_left
  · intro w'
    go_simp
    with_reducible rfl
  rotate_left
  · simp only [Act.put, List.setIfInBounds_toArray, List.set_cons_zero, List.set_cons_succ, i64_w, i32_w]
    rfl
  refine take_ (i := 16) (N := some 66) (v := ?_) (a' := ?_) #[true, true, true, true, true, true, true, true, true, true, true, true, true, true, false, true, true, false, false, false] rfl rfl (take_ofW HT_.out HW_.out (by kernel_rfl)) (fun _ _ _ h => h) (Or.inl ⟨by rfl, ?_⟩) hHeld ?_ ?_
  rotate_left
  · rintro w' ⟨s0, s1, s2, s3, s4, s5, s6, s7⟩
    go_simp
    with_reducible rfl
  rotate_left
  · simp only [Act.put, List.setIfInBounds_toArray, List.set_cons_zero, List.set_cons_succ, i64_w, i32_w]
    rfl
  refine one_ (i := 14) (N := some 64) #[true, true, true, true, true, true, true, true, true, true, true, true, true, true, true, true, true, false, false, false] rfl rfl (one_of HT_.out (by kernel_rfl)) (by decide) (fun K hK => ?_)
  refine goes_ Try.func33 (by kernel_rfl) rfl #[.pointer (some ⟨g, 0, none⟩)] (by rfl) rfl rfl (by (try simp only [List.map_toArray, List.map_cons, List.map_nil]); first | done | rfl) ?_
  refine (tell_Ended base g s _ M.out).mono ?_
  rintro e w12 ⟨rfl, hb12⟩
  refine ⟨_, rfl, ?_⟩
  have MN := Aside0.mk (M.out.below hb12)
  have BKN := Aside0.mk (blk_below BK.out hb12)
  have BN := Aside0.mk (below_step B.out hb12)
  clear M BK B
  have M := MN
  have BK := BKN
  have B := BN
  clear MN BKN BN
  clear j0 j1 j2 j3 j4 j5 j6 j7 y0 y1 y2 y3 y4 y5 y6 y7
  obtain ⟨⟨j0, j1, j2, j3, j4, j5, j6, j7⟩, y0, y1, y2, y3, y4, y5, y6, y7⟩ := cell8 BK.out
  clear hb12
  refine hK.out _ _ ⟨j0, j1, j2, j3, j4, j5, j6, j7⟩ (fun hHeld => ?_)
  clear hK K
  refine norm_ (a' := ?_) ?_ ?_
  rotate_left
  · show Act.put _ (some 64) _ = _
    simp only [Act.put, List.setIfInBounds_toArray, List.set_cons_zero, List.set_cons_succ, i64_w, i32_w]
    rfl
  refine pure_ (i := 17) (N := some 67) (v := ?_) (a' := ?_) #[true, true, true, true, true, true, true, true, true, true, true, true, true, true, true, true, true, true, false, false] rfl rfl (any_of HT_.out (by kernel_rfl)) (fun _ _ _ h => h) (Or.inl ⟨by rfl, ?_⟩) ?_ ?_
  rotate_left
  · intro w'
    go_simp
    with_reducible rfl
  rotate_left
  · simp only [Act.put, List.setIfInBounds_toArray, List.set_cons_zero, List.set_cons_succ, i64_w, i32_w]
    rfl
  refine pure_ (i := 18) (N := some 68) (v := ?_) (a' := ?_) #[true, true, true, true, true, true, true, true, true, true, true, true, true, true, true, true, true, true, true, false] rfl rfl (any_of HT_.out (by kernel_rfl)) (fun _ _ _ h => h) (Or.inl ⟨by rfl, ?_⟩) ?_ ?_
  rotate_left
  · intro w'
    go_simp
    with_reducible rfl
  rotate_left
  · simp only [Act.put, List.setIfInBounds_toArray, List.set_cons_zero, List.set_cons_succ, i64_w, i32_w]
    rfl
  refine pure_ (i := 19) (N := some 4) (v := ?_) (a' := ?_) #[true, true, true, true, true, true, true, true, true, true, true, true, true, true, true, true, true, true, true, true] rfl rfl (any_of HT_.out (by kernel_rfl)) (fun _ _ _ h => h) (Or.inl ⟨by rfl, ?_⟩) ?_ ?_
  rotate_left
  · intro w'
    go_simp
    with_reducible rfl
  rotate_left
  · simp only [Act.put, List.setIfInBounds_toArray, List.set_cons_zero, List.set_cons_succ, i64_w, i32_w]
    rfl
  refine done_ (done_of HT_.out (by kernel_rfl)) ?_
  go_wp2
  go_ret
  exact ⟨rfl, B.out⟩
set_option maxHeartbeats 8000000 in
set_option maxRecDepth 100000 in
theorem tells.some_ (base g : Nat) (s : CS) (A : Option Addr) (c : Nat) (w : World) (hC : CSt w base g s) (hA : Kd.C (Kd.int .i64) w A s.R.f3.length s.R.f3) (hc : s.R.f3.length ≤ c) (hl : 0 < s.left) (hlr : s.R.f3.length ≤ 1000) : Calls Try.prog 32 #[.pointer (some ⟨g, 0, none⟩), .agg #[.int .i64 s.a, .int .i64 s.h, .int .i64 s.R.f0, .int .i64 s.R.f1, .int .i64 s.R.f2, .slice A s.R.f3.length c, .int .i64 s.left, .bool s.ended]] w fun e w' => e = .returned (.bool true) ∧ Below w.heap.size w w' := by
  have HD := Aside0.mk (show decide (s.left > 0) = true from decide_eq_true hl)
  have HZ := Aside0.mk (show s.left ≠ 0 by omega)
  have HLR := Aside0.mk hlr
  obtain ⟨ks, hks⟩ := (same24_ev s.R s.R (by omega)).rounds
  rw [eqR_self] at hks
  have HS := Aside0.mk hks
  clear hl hlr hks
  have hu := Try.underlying28
  have hu49 := Try.underlying49
  have M := Aside0.mk hC
  have HA := Aside0.mk hA
  clear hC hA
  go_enter Try.func32, Try.ntmps32
  go_upto_region 1 with fail
  have BK := Aside0.mk (blk_new w (Obj.cells #[.int .i64 s.a, .int .i64 s.h, .int .i64 s.R.f0, .int .i64 s.R.f1, .int .i64 s.R.f2, .slice A s.R.f3.length c, .int .i64 s.left, .bool s.ended] 49))
  have B := Aside0.mk (below_alloc (Below.refl w.heap.size w) (Obj.cells #[.int .i64 s.a, .int .i64 s.h, .int .i64 s.R.f0, .int .i64 s.R.f1, .int .i64 s.R.f2, .slice A s.R.f3.length c, .int .i64 s.left, .bool s.ended] 49))
  have MN := Aside0.mk (M.out.below (below_alloc (Below.refl _ _) (Obj.cells #[.int .i64 s.a, .int .i64 s.h, .int .i64 s.R.f0, .int .i64 s.R.f1, .int .i64 s.R.f2, .slice A s.R.f3.length c, .int .i64 s.left, .bool s.ended] 49)))
  clear M
  have M := MN
  clear MN
  generalize w.alloc (Obj.cells #[.int .i64 s.a, .int .i64 s.h, .int .i64 s.R.f0, .int .i64 s.R.f1, .int .i64 s.R.f2, .slice A s.R.f3.length c, .int .i64 s.left, .bool s.ended] 49) = w1 at BK B M ⊢
  obtain ⟨⟨j0, j1, j2, j3, j4, j5, j6, j7⟩, y0, y1, y2, y3, y4, y5, y6, y7⟩ := cell8 BK.out
  go_upto_region 2 with (first | (go_at_call 35; (refine (cover_Next.some_ base g s.a s.h s.R s.left s.ended _ M.out HZ.out HLR.out).mono ?_); rintro e w8 ⟨u, rfl, hRu, hb8⟩; obtain ⟨Au, cu, rfl⟩ := Kd.R_slice hRu; have U := Aside0.mk hRu; have MN := Aside0.mk (M.out.below hb8); have BKN := Aside0.mk (blk_below BK.out hb8); have BN := Aside0.mk (below_step B.out hb8); clear M BK B; have M := MN; have BK := BKN; have B := BN; clear MN BKN BN; clear j0 j1 j2 j3 j4 j5 j6 j7 y0 y1 y2 y3 y4 y5 y6 y7; obtain ⟨⟨j0, j1, j2, j3, j4, j5, j6, j7⟩, y0, y1, y2, y3, y4, y5, y6, y7⟩ := cell8 BK.out; clear hb8 hRu) | fail)
  have hba := below_alloc (Below.refl w8.heap.size w8) (Obj.cells #[.int .i64 s.R.f0, .int .i64 s.R.f1, .int .i64 s.R.f2, .slice Au s.R.f3.length cu] 28)
  have KZ := Aside0.mk (blk_new w8 (Obj.cells #[.int .i64 s.R.f0, .int .i64 s.R.f1, .int .i64 s.R.f2, .slice Au s.R.f3.length cu] 28))
  have MN := Aside0.mk (M.out.below hba); have BKN := Aside0.mk (blk_below BK.out hba); have BN := Aside0.mk (below_step B.out hba); have UN := Aside0.mk (Kd.R_below U.out hba); clear M BK B U; have M := MN; have BK := BKN; have B := BN; have U := UN; clear MN BKN BN UN; clear j0 j1 j2 j3 j4 j5 j6 j7 y0 y1 y2 y3 y4 y5 y6 y7; obtain ⟨⟨j0, j1, j2, j3, j4, j5, j6, j7⟩, y0, y1, y2, y3, y4, y5, y6, y7⟩ := cell8 BK.out
  clear hba
  generalize w8.alloc (Obj.cells #[.int .i64 s.R.f0, .int .i64 s.R.f1, .int .i64 s.R.f2, .slice Au s.R.f3.length cu] 28) = w8' at M BK B KZ U ⊢
  generalize w8.heap.size = b6 at KZ ⊢
  clear j0 j1 j2 j3 j4 j5 j6 j7 y0 y1 y2 y3 y4 y5 y6 y7
  obtain ⟨⟨j0, j1, j2, j3, j4, j5, j6, j7⟩, y0, y1, y2, y3, y4, y5, y6, y7⟩ := cell8 BK.out
  obtain ⟨⟨k0, k1, k2, k3⟩, _⟩ := cell4_ KZ.out
  have hd := HD.out
  go_upto_region 4 with (first | (go_at_call 13; (refine (juratref24_Same.calls ks s.R.f0 s.R.f1 s.R.f2 Au cu s.R.f3 s.R.f0 s.R.f1 s.R.f2 A c s.R.f3 true _ (Kd.R_reads' U.out).2.2 (Kd.R_reads' U.out).2.1 (Kd.C_below HA.out B.out) hc HS.out).mono ?_); rintro e w9 ⟨rfl, hb9⟩; have MN := Aside0.mk (M.out.below hb9); have BKN := Aside0.mk (blk_below BK.out hb9); have BN := Aside0.mk (below_step B.out hb9); clear M BK B; have M := MN; have BK := BKN; have B := BN; clear MN BKN BN; clear j0 j1 j2 j3 j4 j5 j6 j7 y0 y1 y2 y3 y4 y5 y6 y7; obtain ⟨⟨j0, j1, j2, j3, j4, j5, j6, j7⟩, y0, y1, y2, y3, y4, y5, y6, y7⟩ := cell8 BK.out; clear hb9 k0 k1 k2 k3 KZ U) | fail)
  refine start_ (n := 20) (S := (fun w' => w'.cell? ⟨w.heap.size, 0, none⟩ = some (.int .i64 s.a) ∧ w'.cell? ⟨w.heap.size, 1, none⟩ = some (.int .i64 s.h) ∧ w'.cell? ⟨w.heap.size, 2, none⟩ = some (.int .i64 s.R.f0) ∧ w'.cell? ⟨w.heap.size, 3, none⟩ = some (.int .i64 s.R.f1) ∧ w'.cell? ⟨w.heap.size, 4, none⟩ = some (.int .i64 s.R.f2) ∧ w'.cell? ⟨w.heap.size, 5, none⟩ = some (.slice A s.R.f3.length c) ∧ w'.cell? ⟨w.heap.size, 6, none⟩ = some (.int .i64 s.left) ∧ w'.cell? ⟨w.heap.size, 7, none⟩ = some (.bool s.ended))) (ds := []) #[false, false, false, false, false, false, false, false, false, false, false, false, false, false, false, false, false, false, false, false] (by kernel_rfl) rfl rfl ⟨j0, j1, j2, j3, j4, j5, j6, j7⟩ (fun hHeld => ?_); refine with_tabW tellsR4.tab tellsR4.bits (fun HT_ HW_ => ?_)
  have hdr := below_drew1 (Below.refl w9.heap.size w9)
  have MN := Aside0.mk (M.out.below hdr)
  have BKN := Aside0.mk (blk_below BK.out hdr)
  have BN := Aside0.mk (below_step B.out hdr)
  clear M BK B
  have M := MN
  have BK := BKN
  have B := BN
  clear MN BKN BN
  clear hdr j0 j1 j2 j3 j4 j5 j6 j7 y0 y1 y2 y3 y4 y5 y6 y7
  generalize w9.drew = w10 at M BK B hHeld ⊢
  obtain ⟨⟨j0, j1, j2, j3, j4, j5, j6, j7⟩, y0, y1, y2, y3, y4, y5, y6, y7⟩ := cell8 BK.out
  refine pure_ (i := 0) (N := some 50) (v := ?_) (a' := ?_) #[true, false, false, false, false, false, false, false, false, false, false, false, false, false, false, false, false, false, false, false] rfl rfl (any_of HT_.out (by kernel_rfl)) (fun _ _ _ h => h) (Or.inl ⟨by rfl, ?_⟩) ?_ ?_
  rotate_left
  · intro w'
    go_simp
    with_reducible rfl
  rotate_left
  · simp only [Act.put, List.setIfInBounds_toArray, List.set_cons_zero, List.set_cons_succ, i64_w, i32_w]
    rfl
  refine pure_ (i := 2) (N := some 52) (v := ?_) (a' := ?_) #[true, false, true, false, false, false, false, false, false, false, false, false, false, false, false, false, false, false, false, false] rfl rfl (any_of HT_.out (by kernel_rfl)) (fun _ _ _ h => h) (Or.inl ⟨by rfl, ?_⟩) ?_ ?_
  rotate_left
  · intro w'
    go_simp
    with_reducible rfl
  rotate_left
  · simp only [Act.put, List.setIfInBounds_toArray, List.set_cons_zero, List.set_cons_succ, i64_w, i32_w]
    rfl
  refine take_ (i := 3) (N := some 53) (v := ?_) (a' := ?_) #[true, false, true, true, false, false, false, false, false, false, false, false, false, false, false, false, false, false, false, false] rfl rfl (take_ofW HT_.out HW_.out (by kernel_rfl)) (fun _ _ _ h => h) (Or.inl ⟨by rfl, ?_⟩) hHeld ?_ ?_
  rotate_left
  · rintro w' ⟨s0, s1, s2, s3, s4, s5, s6, s7⟩
    go_simp
    with_reducible rfl
  rotate_left
  · simp only [Act.put, List.setIfInBounds_toArray, List.set_cons_zero, List.set_cons_succ, i64_w, i32_w]
    rfl
  refine one_ (i := 1) (N := some 51) #[true, true, true, true, false, false, false, false, false, false, false, false, false, false, false, false, false, false, false, false] rfl rfl (one_of HT_.out (by kernel_rfl)) (by decide) (fun K hK => ?_)
  refine goes_ Try.func34 (by kernel_rfl) rfl #[.pointer (some ⟨g, 0, none⟩)] (by rfl) rfl rfl (by (try simp only [List.map_toArray, List.map_cons, List.map_nil]); first | done | rfl) ?_
  refine (tell_At base g s _ M.out).mono ?_
  rintro e w12 ⟨rfl, hb12⟩
  refine ⟨_, rfl, ?_⟩
  have MN := Aside0.mk (M.out.below hb12)
  have BKN := Aside0.mk (blk_below BK.out hb12)
  have BN := Aside0.mk (below_step B.out hb12)
  clear M BK B
  have M := MN
  have BK := BKN
  have B := BN
  clear MN BKN BN
  clear j0 j1 j2 j3 j4 j5 j6 j7 y0 y1 y2 y3 y4 y5 y6 y7
  obtain ⟨⟨j0, j1, j2, j3, j4, j5, j6, j7⟩, y0, y1, y2, y3, y4, y5, y6, y7⟩ := cell8 BK.out
  clear hb12
  refine hK.out _ _ ⟨j0, j1, j2, j3, j4, j5, j6, j7⟩ (fun hHeld => ?_)
  clear hK K
  refine norm_ (a' := ?_) ?_ ?_
  rotate_left
  · show Act.put _ (some 51) _ = _
    simp only [Act.put, List.setIfInBounds_toArray, List.set_cons_zero, List.set_cons_succ, i64_w, i32_w]
    rfl
  refine pure_ (i := 4) (N := some 54) (v := ?_) (a' := ?_) #[true, true, true, true, true, false, false, false, false, false, false, false, false, false, false, false, false, false, false, false] rfl rfl (any_of HT_.out (by kernel_rfl)) (fun _ _ _ h => h) (Or.inl ⟨by rfl, ?_⟩) ?_ ?_
  rotate_left
  · intro w'
    go_simp
    with_reducible rfl
  rotate_left
  · simp only [Act.put, List.setIfInBounds_toArray, List.set_cons_zero, List.set_cons_succ, i64_w, i32_w]
    rfl
  refine pure_ (i := 5) (N := some 55) (v := ?_) (a' := ?_) #[true, true, true, true, true, true, false, false, false, false, false, false, false, false, false, false, false, false, false, false] rfl rfl (any_of HT_.out (by kernel_rfl)) (fun _ _ _ h => h) (Or.inl ⟨by rfl, ?_⟩) ?_ ?_
  rotate_left
  · intro w'
    go_simp
    with_reducible rfl
  rotate_left
  · simp only [Act.put, List.setIfInBounds_toArray, List.set_cons_zero, List.set_cons_succ, i64_w, i32_w]
    rfl
  refine pure_ (i := 6) (N := some 56) (v := ?_) (a' := ?_) #[true, true, true, true, true, true, true, false, false, false, false, false, false, false, false, false, false, false, false, false] rfl rfl (any_of HT_.out (by kernel_rfl)) (fun _ _ _ h => h) (Or.inl ⟨by rfl, ?_⟩) ?_ ?_
  rotate_left
  · intro w'
    go_simp
    with_reducible rfl
  rotate_left
  · simp only [Act.put, List.setIfInBounds_toArray, List.set_cons_zero, List.set_cons_succ, i64_w, i32_w]
    rfl
  refine pure_ (i := 8) (N := some 58) (v := ?_) (a' := ?_) #[true, true, true, true, true, true, true, false, true, false, false, false, false, false, false, false, false, false, false, false] rfl rfl (any_of HT_.out (by kernel_rfl)) (fun _ _ _ h => h) (Or.inl ⟨by rfl, ?_⟩) ?_ ?_
  rotate_left
  · intro w'
    go_simp
    with_reducible rfl
  rotate_left
  · simp only [Act.put, List.setIfInBounds_toArray, List.set_cons_zero, List.set_cons_succ, i64_w, i32_w]
    rfl
  refine take_ (i := 9) (N := some 59) (v := ?_) (a' := ?_) #[true, true, true, true, true, true, true, false, true, true, false, false, false, false, false, false, false, false, false, false] rfl rfl (take_ofW HT_.out HW_.out (by kernel_rfl)) (fun _ _ _ h => h) (Or.inl ⟨by rfl, ?_⟩) hHeld ?_ ?_
  rotate_left
  · rintro w' ⟨s0, s1, s2, s3, s4, s5, s6, s7⟩
    go_simp
    with_reducible rfl
  rotate_left
  · simp only [Act.put, List.setIfInBounds_toArray, List.set_cons_zero, List.set_cons_succ, i64_w, i32_w]
    rfl
  refine one_ (i := 7) (N := some 57) #[true, true, true, true, true, true, true, true, true, true, false, false, false, false, false, false, false, false, false, false] rfl rfl (one_of HT_.out (by kernel_rfl)) (by decide) (fun K hK => ?_)
  refine goes_ Try.func38 (by kernel_rfl) rfl #[.pointer (some ⟨g, 0, none⟩)] (by rfl) rfl rfl (by (try simp only [List.map_toArray, List.map_cons, List.map_nil]); first | done | rfl) ?_
  refine (tell_Hits base g s _ M.out).mono ?_
  rintro e w12 ⟨rfl, hb12⟩
  refine ⟨_, rfl, ?_⟩
  have MN := Aside0.mk (M.out.below hb12)
  have BKN := Aside0.mk (blk_below BK.out hb12)
  have BN := Aside0.mk (below_step B.out hb12)
  clear M BK B
  have M := MN
  have BK := BKN
  have B := BN
  clear MN BKN BN
  clear j0 j1 j2 j3 j4 j5 j6 j7 y0 y1 y2 y3 y4 y5 y6 y7
  obtain ⟨⟨j0, j1, j2, j3, j4, j5, j6, j7⟩, y0, y1, y2, y3, y4, y5, y6, y7⟩ := cell8 BK.out
  clear hb12
  refine hK.out _ _ ⟨j0, j1, j2, j3, j4, j5, j6, j7⟩ (fun hHeld => ?_)
  clear hK K
  refine norm_ (a' := ?_) ?_ ?_
  rotate_left
  · show Act.put _ (some 57) _ = _
    simp only [Act.put, List.setIfInBounds_toArray, List.set_cons_zero, List.set_cons_succ, i64_w, i32_w]
    rfl
  refine pure_ (i := 10) (N := some 60) (v := ?_) (a' := ?_) #[true, true, true, true, true, true, true, true, true, true, true, false, false, false, false, false, false, false, false, false] rfl rfl (any_of HT_.out (by kernel_rfl)) (fun _ _ _ h => h) (Or.inl ⟨by rfl, ?_⟩) ?_ ?_
  rotate_left
  · intro w'
    go_simp
    with_reducible rfl
  rotate_left
  · simp only [Act.put, List.setIfInBounds_toArray, List.set_cons_zero, List.set_cons_succ, i64_w, i32_w]
    rfl
  refine pure_ (i := 11) (N := some 61) (v := ?_) (a' := ?_) #[true, true, true, true, true, true, true, true, true, true, true, true, false, false, false, false, false, false, false, false] rfl rfl (any_of HT_.out (by kernel_rfl)) (fun _ _ _ h => h) (Or.inl ⟨by rfl, ?_⟩) ?_ ?_
  rotate_left
  · intro w'
    go_simp
    with_reducible rfl
  rotate_left
  · simp only [Act.put, List.setIfInBounds_toArray, List.set_cons_zero, List.set_cons_succ, i64_w, i32_w]
    rfl
  refine pure_ (i := 12) (N := some 62) (v := ?_) (a' := ?_) #[true, true, true, true, true, true, true, true, true, true, true, true, true, false, false, false, false, false, false, false] rfl rfl (any_of HT_.out (by kernel_rfl)) (fun _ _ _ h => h) (Or.inl ⟨by rfl, ?_⟩) ?_ ?_
  rotate_left
  · intro w'
    go_simp
    with_reducible rfl
  rotate_left
  · simp only [Act.put, List.setIfInBounds_toArray, List.set_cons_zero, List.set_cons_succ, i64_w, i32_w]
    rfl
  refine pure_ (i := 13) (N := some 63) (v := ?_) (a' := ?_) #[true, true, true, true, true, true, true, true, true, true, true, true, true, true, false, false, false, false, false, false] rfl rfl (any_of HT_.out (by kernel_rfl)) (fun _ _ _ h => h) (Or.inl ⟨by rfl, ?_⟩) ?_ ?_
  rotate_left
  · intro w'
    go_simp
    with_reducible rfl
  rotate_left
  · simp only [Act.put, List.setIfInBounds_toArray, List.set_cons_zero, List.set_cons_succ, i64_w, i32_w]
    rfl
  refine pure_ (i := 15) (N := some 65) (v := ?_) (a' := ?_) #[true, true, true, true, true, true, true, true, true, true, true, true, true, true, false, true, false, false, false, false] rfl rfl (any_of HT_.out (by kernel_rfl)) (fun _ _ _ h => h) (Or.inl ⟨by rfl, ?_⟩) ?_ ?_
  rotate_left
  · intro w'
    go_simp
    with_reducible rfl
  rotate_left
  · simp only [Act.put, List.setIfInBounds_toArray, List.set_cons_zero, List.set_cons_succ, i64_w, i32_w]
    rfl
  refine take_ (i := 16) (N := some 66) (v := ?_) (a' := ?_) #[true, true, true, true, true, true, true, true, true, true, true, true, true, true, false, true, true, false, false, false] rfl rfl (take_ofW HT_.out HW_.out (by kernel_rfl)) (fun _ _ _ h => h) (Or.inl ⟨by rfl, ?_⟩) hHeld ?_ ?_
  rotate_left
  · rintro w' ⟨s0, s1, s2, s3, s4, s5, s6, s7⟩
    go_simp
    with_reducible rfl
  rotate_left
  · simp only [Act.put, List.setIfInBounds_toArray, List.set_cons_zero, List.set_cons_succ, i64_w, i32_w]
    rfl
  refine one_ (i := 14) (N := some 64) #[true, true, true, true, true, true, true, true, true, true, true, true, true, true, true, true, true, false, false, false] rfl rfl (one_of HT_.out (by kernel_rfl)) (by decide) (fun K hK => ?_)
  refine goes_ Try.func33 (by kernel_rfl) rfl #[.pointer (some ⟨g, 0, none⟩)] (by rfl) rfl rfl (by (try simp only [List.map_toArray, List.map_cons, List.map_nil]); first | done | rfl) ?_
  refine (tell_Ended base g s _ M.out).mono ?_
  rintro e w12 ⟨rfl, hb12⟩
  refine ⟨_, rfl, ?_⟩
  have MN := Aside0.mk (M.out.below hb12)
  have BKN := Aside0.mk (blk_below BK.out hb12)
  have BN := Aside0.mk (below_step B.out hb12)
  clear M BK B
  have M := MN
  have BK := BKN
  have B := BN
  clear MN BKN BN
  clear j0 j1 j2 j3 j4 j5 j6 j7 y0 y1 y2 y3 y4 y5 y6 y7
  obtain ⟨⟨j0, j1, j2, j3, j4, j5, j6, j7⟩, y0, y1, y2, y3, y4, y5, y6, y7⟩ := cell8 BK.out
  clear hb12
  refine hK.out _ _ ⟨j0, j1, j2, j3, j4, j5, j6, j7⟩ (fun hHeld => ?_)
  clear hK K
  refine norm_ (a' := ?_) ?_ ?_
  rotate_left
  · show Act.put _ (some 64) _ = _
    simp only [Act.put, List.setIfInBounds_toArray, List.set_cons_zero, List.set_cons_succ, i64_w, i32_w]
    rfl
  refine pure_ (i := 17) (N := some 67) (v := ?_) (a' := ?_) #[true, true, true, true, true, true, true, true, true, true, true, true, true, true, true, true, true, true, false, false] rfl rfl (any_of HT_.out (by kernel_rfl)) (fun _ _ _ h => h) (Or.inl ⟨by rfl, ?_⟩) ?_ ?_
  rotate_left
  · intro w'
    go_simp
    with_reducible rfl
  rotate_left
  · simp only [Act.put, List.setIfInBounds_toArray, List.set_cons_zero, List.set_cons_succ, i64_w, i32_w]
    rfl
  refine pure_ (i := 18) (N := some 68) (v := ?_) (a' := ?_) #[true, true, true, true, true, true, true, true, true, true, true, true, true, true, true, true, true, true, true, false] rfl rfl (any_of HT_.out (by kernel_rfl)) (fun _ _ _ h => h) (Or.inl ⟨by rfl, ?_⟩) ?_ ?_
  rotate_left
  · intro w'
    go_simp
    with_reducible rfl
  rotate_left
  · simp only [Act.put, List.setIfInBounds_toArray, List.set_cons_zero, List.set_cons_succ, i64_w, i32_w]
    rfl
  refine pure_ (i := 19) (N := some 4) (v := ?_) (a' := ?_) #[true, true, true, true, true, true, true, true, true, true, true, true, true, true, true, true, true, true, true, true] rfl rfl (any_of HT_.out (by kernel_rfl)) (fun _ _ _ h => h) (Or.inl ⟨by rfl, ?_⟩) ?_ ?_
  rotate_left
  · intro w'
    go_simp
    with_reducible rfl
  rotate_left
  · simp only [Act.put, List.setIfInBounds_toArray, List.set_cons_zero, List.set_cons_succ, i64_w, i32_w]
    rfl
  refine done_ (done_of HT_.out (by kernel_rfl)) ?_
  go_wp2
  go_ret
  exact ⟨rfl, B.out⟩
end Go.Proofs.Ytaihieglailmcaa.PC
