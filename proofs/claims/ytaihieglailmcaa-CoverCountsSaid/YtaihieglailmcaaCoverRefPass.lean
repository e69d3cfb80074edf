/- The document's pass, over records that are read, by walking its text. -/
import Derived.Test.YtaihieglailmcaaCoverRefAll
set_option linter.unusedVariables false
set_option linter.unusedSimpArgs false
namespace Go.Proofs.Ytaihieglailmcaa.PC
open Go.RowKit Go.Proofs.YtaihieglailmcaaW.PrintWords Go.Proofs.YtaihieglailmcaaW.PrintLast Go.Proofs.YtaihieglailmcaaW.PrintMore Go.Proofs.Ytaihieglailmcaa.Pure
set_option maxHeartbeats 8000000 in
set_option maxRecDepth 100000 in
theorem cref_Pass.zero (a h : Int) (R : S28) (ended : Bool) (B : Option Addr) (d : Nat) (w : World) : Calls Try.prog 29 #[.agg #[.int .i64 a, .int .i64 h, .int .i64 R.f0, .int .i64 R.f1, .int .i64 R.f2, .slice B R.f3.length d, .int .i64 0, .bool ended]] w fun e w' => e = .returned (.tuple #[.agg #[.int .i64 a, .int .i64 h, .int .i64 R.f0, .int .i64 R.f1, .int .i64 R.f2, .slice B R.f3.length d, .int .i64 0, .bool ended], .slice none 0 0, .int .i64 12]) ∧ Below w.heap.size w w' := by
  have hu := Try.underlying28
  have hu49 := Try.underlying49
  go_enter Try.func29, Try.ntmps29
  go_wp2
  refine bodyPost_ret (results_ctt rfl _ _ (w.heap.size + 1) 49 #[.int .i64 a, .int .i64 h, .int .i64 R.f0, .int .i64 R.f1, .int .i64 R.f2, .slice B R.f3.length d, .int .i64 0, .bool ended] (0, 0) _ rfl (by have h := blk_new (w.alloc (Obj.cells #[.int .i64 a, .int .i64 h, .int .i64 R.f0, .int .i64 R.f1, .int .i64 R.f2, .slice B R.f3.length d, .int .i64 0, .bool ended] 49)) (Obj.cells #[.int .i64 a, .int .i64 h, .int .i64 R.f0, .int .i64 R.f1, .int .i64 R.f2, .slice B R.f3.length d, .int .i64 0, .bool ended] 49); simpa using h) Try.underlying49 rfl (by kernel_rfl)) rfl ?_
  exact ⟨rfl, below_alloc (below_alloc (Below.refl _ _) _) _⟩
def crefP3.T : Bool × List (List Nat × List Nat) := (true, [([], []), ([0], [0]), ([], []), ([2], [2]), ([3], [3]), ([1, 4], [1, 4]), ([0, 1, 2, 3, 4, 5], []), ([6, 5, 4, 0, 1, 2, 3, 4, 5], [5, 6])])
def crefP3.B : List Nat := [0, 1, 0, 4, 12, 31, 63, 127]
theorem crefP3.tab : rtab .any (opsOf Try.f29 3) = crefP3.T := by kernel_rfl
theorem crefP3.bits : waitsOk crefP3.T.2 crefP3.B = true := by kernel_rfl
def crefP9.T : Bool × List (List Nat × List Nat) := (true, [([], []), ([], []), ([1], [1]), ([], []), ([3], [3]), ([4], [4]), ([], []), ([5, 6], [5, 6]), ([7], [7]), ([2, 8], [2, 8]), ([9], [9]), ([0, 10], [0, 10]), ([11, 11, 0, 1, 2, 3, 4, 5, 6, 7, 8, 9, 10, 11], [0, 11])])
def crefP9.B : List Nat := [0, 0, 2, 0, 8, 24, 0, 120, 248, 510, 1022, 2047, 4095]
theorem crefP9.tab : rtab .any (opsOf Try.f29 9) = crefP9.T := by kernel_rfl
theorem crefP9.bits : waitsOk crefP9.T.2 crefP9.B = true := by kernel_rfl
set_option maxHeartbeats 8000000 in
set_option maxRecDepth 100000 in
theorem cref_Pass.some_ (a h : Int) (R : S28) (left : Int) (ended : Bool) (B : Option Addr) (d : Nat) (w : World) (hB : Kd.C (Kd.int .i64) w B R.f3.length R.f3) (hd : R.f3.length ≤ d) (hl : left ≠ 0) (hr : R.f3.length ≤ 1000) (n a1 l1 : Int) (ha : wrap64 (a + n) = a1) (hl1 : wrap64 (left - 1) = l1) (kn : Nat) (hn : juratref24_Covers.f kn R.f0 R.f1 R.f2 R.f3 = some n) : Calls Try.prog 29 #[.agg #[.int .i64 a, .int .i64 h, .int .i64 R.f0, .int .i64 R.f1, .int .i64 R.f2, .slice B R.f3.length d, .int .i64 left, .bool ended]] w fun e w' => ∃ u : Value, e = .returned (.tuple #[.agg #[.int .i64 a1, .int .i64 (wrap64 (h + (R.f3.length : Int))), .int .i64 R.f0, .int .i64 R.f1, .int .i64 R.f2, .slice B R.f3.length d, .int .i64 l1, .bool ended], u, .int .i64 0]) ∧ Kd.R k76 76 w' w.heap.size (fun _ => True) u (hitsOf a1 R.f3) ∧ Below w.heap.size w w' := by
  have hu := Try.underlying28
  have hu49 := Try.underlying49
  have hl' : (left == 0) = false := beq_false_of_ne hl
  have HL := Aside0.mk hr
  have HN := Aside0.mk hn
  have HA1 := Aside0.mk ha
  have HL1 := Aside0.mk hl1
  have HBB := Aside0.mk hB
  have HD := Aside0.mk hd
  clear hB hd hl hr hn ha hl1
  go_enter Try.func29, Try.ntmps29
  go_upto_region 1 with fail
  have X1 := Aside0.mk ((((Cx.start (fun _ => False) w (fun _ h => h.elim)).came (Kd.heap_int _) HBB.out).new #[.int .i64 a, .int .i64 h, .int .i64 R.f0, .int .i64 R.f1, .int .i64 R.f2, .slice B R.f3.length d, .int .i64 left, .bool ended] 49 (fun h => h)).new #[.int .i64 0, .int .i64 0, .int .i64 0, .int .i64 0, .int .i64 0, .slice none 0 0, .int .i64 0, .bool false] 49 (fun h => h))
  have XC : Aside0 (Cx (fun _ => False) w ((w.alloc (Obj.cells #[.int .i64 a, .int .i64 h, .int .i64 R.f0, .int .i64 R.f1, .int .i64 R.f2, .slice B R.f3.length d, .int .i64 left, .bool ended] 49)).alloc (Obj.cells #[.int .i64 0, .int .i64 0, .int .i64 0, .int .i64 0, .int .i64 0, .slice none 0 0, .int .i64 0, .bool false] 49)) [Blk (w.heap.size + 1) #[.int .i64 0, .int .i64 0, .int .i64 0, .int .i64 0, .int .i64 0, .slice none 0 0, .int .i64 0, .bool false] 49, Blk w.heap.size #[.int .i64 a, .int .i64 h, .int .i64 R.f0, .int .i64 R.f1, .int .i64 R.f2, .slice B R.f3.length d, .int .i64 left, .bool ended] 49, Row (Kd.int .i64) B R.f3]) := ⟨by have h := X1.out; simpa using h⟩
  clear X1
  have n1 : w.heap.size ≠ w.heap.size + 1 := by omega
  generalize (w.alloc (Obj.cells #[.int .i64 a, .int .i64 h, .int .i64 R.f0, .int .i64 R.f1, .int .i64 R.f2, .slice B R.f3.length d, .int .i64 left, .bool ended] 49)).alloc (Obj.cells #[.int .i64 0, .int .i64 0, .int .i64 0, .int .i64 0, .int .i64 0, .slice none 0 0, .int .i64 0, .bool false] 49) = w1 at XC ⊢
  obtain ⟨⟨j0, j1, j2, j3, j4, j5, j6, j7⟩, y0, y1, y2, y3, y4, y5, y6, y7⟩ := cell8 (XC.out.get 1 rfl)
  obtain ⟨⟨d0, d1, d2, d3, d4, d5, d6, d7⟩, v0, v1, v2, v3, v4, v5, v6, v7⟩ := cell8 (XC.out.get 0 rfl)
  go_upto_region 3 with fail
  refine start_ (n := 8) (S := (fun w' => w'.cell? ⟨w.heap.size, 0, none⟩ = some (.int .i64 a) ∧ w'.cell? ⟨w.heap.size, 1, none⟩ = some (.int .i64 h) ∧ w'.cell? ⟨w.heap.size, 2, none⟩ = some (.int .i64 R.f0) ∧ w'.cell? ⟨w.heap.size, 3, none⟩ = some (.int .i64 R.f1) ∧ w'.cell? ⟨w.heap.size, 4, none⟩ = some (.int .i64 R.f2) ∧ w'.cell? ⟨w.heap.size, 5, none⟩ = some (.slice B R.f3.length d) ∧ w'.cell? ⟨w.heap.size, 6, none⟩ = some (.int .i64 left) ∧ w'.cell? ⟨w.heap.size, 7, none⟩ = some (.bool ended))) (ds := [7]) #[false, false, false, false, false, false, false, false] (by kernel_rfl) rfl rfl ⟨j0, j1, j2, j3, j4, j5, j6, j7⟩ (fun hHeld => ?_); refine with_tabW crefP3.tab crefP3.bits (fun HT_ HW_ => ?_)
  have XN := Aside0.mk XC.out.drew
  clear XC
  have XC := XN
  clear XN
  clear j0 j1 j2 j3 j4 j5 j6 j7 y0 y1 y2 y3 y4 y5 y6 y7 d0 d1 d2 d3 d4 d5 d6 d7 v0 v1 v2 v3 v4 v5 v6 v7
  generalize w1.drew = w2 at XC hHeld ⊢
  obtain ⟨⟨j0, j1, j2, j3, j4, j5, j6, j7⟩, y0, y1, y2, y3, y4, y5, y6, y7⟩ := cell8 (XC.out.get 1 rfl)
  obtain ⟨⟨d0, d1, d2, d3, d4, d5, d6, d7⟩, v0, v1, v2, v3, v4, v5, v6, v7⟩ := cell8 (XC.out.get 0 rfl)
  refine pure_ (i := 0) (N := some 11) (v := ?_) (a' := ?_) #[true, false, false, false, false, false, false, false] rfl rfl (any_of HT_.out (by kernel_rfl)) (fun _ _ _ h => h) (Or.inl ⟨by rfl, ?_⟩) ?_ ?_
  rotate_left
  · intro w'
    go_simp
    with_reducible rfl
  rotate_left
  · simp only [Act.put, List.setIfInBounds_toArray, List.set_cons_zero, List.set_cons_succ, i64_w, i32_w]
    rfl
  refine take_ (i := 1) (N := some 12) (v := ?_) (a' := ?_) #[true, true, false, false, false, false, false, false] rfl rfl (take_ofW HT_.out HW_.out (by kernel_rfl)) (fun _ _ _ h => h) (Or.inl ⟨by rfl, ?_⟩) hHeld ?_ ?_
  rotate_left
  · rintro w' ⟨s0, s1, s2, s3, s4, s5, s6, s7⟩
    go_simp
    with_reducible rfl
  rotate_left
  · simp only [Act.put, List.setIfInBounds_toArray, List.set_cons_zero, List.set_cons_succ, i64_w, i32_w]
    rfl
  refine pure_ (i := 2) (N := some 13) (v := ?_) (a' := ?_) #[true, true, true, false, false, false, false, false] rfl rfl (any_of HT_.out (by kernel_rfl)) (fun _ _ _ h => h) (Or.inl ⟨by rfl, ?_⟩) ?_ ?_
  rotate_left
  · intro w'
    go_simp
    with_reducible rfl
  rotate_left
  · simp only [Act.put, List.setIfInBounds_toArray, List.set_cons_zero, List.set_cons_succ, i64_w, i32_w]
    rfl
  refine take_ (i := 3) (N := some 14) (v := ?_) (a' := ?_) #[true, true, true, true, false, false, false, false] rfl rfl (take_ofW HT_.out HW_.out (by kernel_rfl)) (fun _ _ _ h => h) (Or.inl ⟨by rfl, ?_⟩) hHeld ?_ ?_
  rotate_left
  · rintro w' ⟨s0, s1, s2, s3, s4, s5, s6, s7⟩
    go_simp
    with_reducible rfl
  rotate_left
  · simp only [Act.put, List.setIfInBounds_toArray, List.set_cons_zero, List.set_cons_succ, i64_w, i32_w]
    rfl
  refine one_ (i := 4) (N := some 15) #[true, true, true, true, true, false, false, false] rfl rfl (one_of HT_.out (by kernel_rfl)) (by decide) (fun K hK => ?_)
  refine goes_ Try.func36 (by kernel_rfl) rfl #[.agg #[.int .i64 R.f0, .int .i64 R.f1, .int .i64 R.f2, .slice B R.f3.length d]] (by rfl) rfl rfl (by (try simp only [List.map_toArray, List.map_cons, List.map_nil]); first | done | rfl) ?_
  refine (juratref24_Covers.calls kn R.f0 R.f1 R.f2 B d R.f3 n _ (XC.out.get 2 rfl) HD.out HN.out).mono ?_
  rintro e w9 ⟨rfl, hb9⟩
  refine ⟨_, rfl, ?_⟩
  have XN := Aside0.mk (XC.out.step hb9)
  clear hb9 XC
  have XC := XN
  clear XN
  clear j0 j1 j2 j3 j4 j5 j6 j7 y0 y1 y2 y3 y4 y5 y6 y7 d0 d1 d2 d3 d4 d5 d6 d7 v0 v1 v2 v3 v4 v5 v6 v7
  obtain ⟨⟨j0, j1, j2, j3, j4, j5, j6, j7⟩, y0, y1, y2, y3, y4, y5, y6, y7⟩ := cell8 (XC.out.get 1 rfl)
  obtain ⟨⟨d0, d1, d2, d3, d4, d5, d6, d7⟩, v0, v1, v2, v3, v4, v5, v6, v7⟩ := cell8 (XC.out.get 0 rfl)
  refine hK.out _ _ ⟨j0, j1, j2, j3, j4, j5, j6, j7⟩ (fun hHeld => ?_)
  clear hK K
  refine norm_ (a' := ?_) ?_ ?_
  rotate_left
  · show Act.put _ (some 15) _ = _
    simp only [Act.put, List.setIfInBounds_toArray, List.set_cons_zero, List.set_cons_succ, i64_w, i32_w]
    rfl
  refine pure_ (i := 5) (N := some 16) (v := ?_) (a' := ?_) #[true, true, true, true, true, true, false, false] rfl rfl (any_of HT_.out (by kernel_rfl)) (fun _ _ _ h => h) (Or.inl ⟨by rfl, ?_⟩) ?_ ?_
  rotate_left
  · intro w'
    go_simp
    with_reducible rfl
  rotate_left
  · simp only [Act.put, List.setIfInBounds_toArray, List.set_cons_zero, List.set_cons_succ, i64_w, i32_w]
    rfl
  refine pure_ (i := 6) (N := some 17) (v := ?_) (a' := ?_) #[true, true, true, true, true, true, true, false] rfl rfl (any_of HT_.out (by kernel_rfl)) (fun _ _ _ h => h) (Or.inl ⟨by rfl, ?_⟩) ?_ ?_
  rotate_left
  · intro w'
    go_simp
    with_reducible rfl
  rotate_left
  · simp only [Act.put, List.setIfInBounds_toArray, List.set_cons_zero, List.set_cons_succ, i64_w, i32_w]
    rfl
  refine last_ (i := 7) (N := none) #[true, true, true, true, true, true, true, true] rfl rfl (one_of HT_.out (by kernel_rfl)) (by decide) (fun K hK => ?_)
  refine skip_ (w1 := ?_) (by rfl) rfl ?_ ?_
  rotate_left
  · go_simp
    rfl
  refine hK.out _ _ ?_
  clear hK K
  refine done_ (done_of HT_.out (by kernel_rfl)) ?_
  clear hHeld
  rw [HA1.out]
  go_upto_region 5 with fail
  rw [HL1.out]
  have K1 : Aside0 (((w9.setCell ⟨w.heap.size, 0, none⟩ (.int .i64 a1)).setCell ⟨w.heap.size, 6, none⟩ (.int .i64 l1)).heap[w.heap.size]? = some (.cells #[.int .i64 a1, .int .i64 h, .int .i64 R.f0, .int .i64 R.f1, .int .i64 R.f2, .slice B R.f3.length d, .int .i64 l1, .bool ended] 49 (0, 0))) := ⟨blk_put (cs := #[.int .i64 a1, .int .i64 h, .int .i64 R.f0, .int .i64 R.f1, .int .i64 R.f2, .slice B R.f3.length d, .int .i64 left, .bool ended]) (blk_put (cs := #[.int .i64 a, .int .i64 h, .int .i64 R.f0, .int .i64 R.f1, .int .i64 R.f2, .slice B R.f3.length d, .int .i64 left, .bool ended]) (XC.out.get 1 rfl) 0 _ rfl) 6 _ rfl⟩
  have K2 : Aside0 (((w9.setCell ⟨w.heap.size, 0, none⟩ (.int .i64 a1)).setCell ⟨w.heap.size, 6, none⟩ (.int .i64 l1)).heap[w.heap.size + 1]? = some (.cells #[.int .i64 0, .int .i64 0, .int .i64 0, .int .i64 0, .int .i64 0, .slice none 0 0, .int .i64 0, .bool false] 49 (0, 0))) := ⟨blk_far (p := ⟨w.heap.size, 6, none⟩) (blk_far (p := ⟨w.heap.size, 0, none⟩) (XC.out.get 0 rfl) (Ne.symm n1) _) (Ne.symm n1) _⟩
  have B4 : Aside0 (Below w.heap.size w ((w9.setCell ⟨w.heap.size, 0, none⟩ (.int .i64 a1)).setCell ⟨w.heap.size, 6, none⟩ (.int .i64 l1))) := ⟨(XC.out.hb.setCell (p := ⟨w.heap.size, 0, none⟩) (Nat.le_refl _) _).setCell (p := ⟨w.heap.size, 6, none⟩) (Nat.le_refl _) _⟩
  clear XC j0 j1 j2 j3 j4 j5 j6 j7 y0 y1 y2 y3 y4 y5 y6 y7 d0 d1 d2 d3 d4 d5 d6 d7 v0 v1 v2 v3 v4 v5 v6 v7
  generalize ((w9.setCell ⟨w.heap.size, 0, none⟩ (.int .i64 a1)).setCell ⟨w.heap.size, 6, none⟩ (.int .i64 l1)) = w4 at K1 K2 B4 ⊢
  have L1 := Aside0.mk (show w.heap.size + 1 < w4.heap.size from blk_lt K2.out)
  go_upto_region 7 with (first | ((with_reducible refine gate_dst (N := 22) rfl ?_); refine Kd.R_lit k76 _ 76 ?hg (N := 22) ?hd (xs := ([] : List (S76))) (inner := []) (ok := fun _ => True) (okp := fun _ => True) ?hr ?hp (fun _ hk => hk) trivial (Below.refl _ _) (Nat.le_refl _) (by simp) ?_; (case hd => rfl); (case hg => rfl); (case hr => first | (go_simp; done) | (go_simp; rfl)); (case hp => exact (Reps.none _ _)); intro u5 w5 ho5 hb5 hg_ hnew_; clear hg_ hnew_; have HO5 := Aside0.mk ho5; have HB5 := Aside0.mk hb5; clear ho5 hb5) | fail)
  have hm0 : R.f3.length ≤ 1000 := HL.out
  go_loopw [6, 5] (fun v6 v5 wr => ∃ (j : Nat) (acc : List S76), j ≤ R.f3.length ∧ v6 = .int .i64 (j : Int) ∧ Aside0 (acc = hitsOf a1 (R.f3.take j)) ∧ Aside0 (Kd.R k76 76 wr w4.heap.size (fun _ => True) v5 acc) ∧ Aside0 (Below w4.heap.size w4 wr)) (fun i _ _ => R.f3.length - (intOf i).toNat)
  case atStart => exact ⟨0, [], Nat.zero_le _, rfl, ⟨rfl⟩, HO5, HB5⟩
  case round =>
    obtain ⟨j, acc, hj, rfl, HA, HO, HB⟩ := hrel
    have K1r := Aside0.mk (blk_below K1.out HB.out)
    have K2r := Aside0.mk (blk_below K2.out HB.out)
    obtain ⟨⟨j0, j1, j2, j3, j4, j5, j6, j7⟩, y0, y1, y2, y3, y4, y5, y6, y7⟩ := cell8 K1r.out
    obtain ⟨⟨d0, d1, d2, d3, d4, d5, d6, d7⟩, v0, v1, v2, v3, v4, v5, v6, v7⟩ := cell8 K2r.out
    have hlen := Aside0.mk (show acc.length = j by rw [HA.out, hitsOf, List.length_map, List.length_take]; omega)
    obtain ⟨Ao, co, rfl⟩ := Kd.R_slice HO.out
    by_cases hlt2 : j < R.f3.length
    · obtain ⟨ad, eA, hx⟩ := Kd.at_int HBB.out (j : Int) (by omega) (by omega)
      subst eA
      have hrd := Aside0.mk (show rd R.f3 (j : Int) = R.f3[j] by simp [rd, List.getD_eq_getElem?_getD, List.getElem?_eq_getElem hlt2])
      generalize rd R.f3 (j : Int) = y at hx hrd
      replace hx := pw_cell_below (below_step B4.out HB.out) hx
      simp only [Int.toNat_natCast] at hx
      go_upto_region 9 with fail
      refine start_ (n := 13) (S := (fun w' => w'.cell? ⟨w.heap.size, 0, none⟩ = some (.int .i64 a1) ∧ w'.cell? ⟨w.heap.size, 5, none⟩ = some (.slice (some ad) R.f3.length d) ∧ w'.cell? (ad.add j) = some (.int .i64 y))) (ds := [10, 11]) #[false, false, false, false, false, false, false, false, false, false, false, false, false] (by kernel_rfl) rfl rfl ⟨j0, j5, hx⟩ (fun hHeld => ?_); refine with_tabW crefP9.tab crefP9.bits (fun HT_ HW_ => ?_)
      clear hx j0 j1 j2 j3 j4 j5 j6 j7 y0 y1 y2 y3 y4 y5 y6 y7 d0 d1 d2 d3 d4 d5 d6 d7 v0 v1 v2 v3 v4 v5 v6 v7
      have HOd := Aside0.mk (Kd.R_drew HO.out)
      have HBd := Aside0.mk (below_drew1 HB.out)
      clear HO HB K1r K2r
      generalize wr.drew = wd at HOd HBd hHeld ⊢
      refine pure_ (i := 0) (N := some 31) (v := ?_) (a' := ?_) #[true, false, false, false, false, false, false, false, false, false, false, false, false] rfl rfl (any_of HT_.out (by kernel_rfl)) (fun _ _ _ h => h) (Or.inl ⟨by rfl, ?_⟩) ?_ ?_
      rotate_left
      · intro w'
        go_simp
        with_reducible rfl
      rotate_left
      · simp only [Act.put, List.setIfInBounds_toArray, List.set_cons_zero, List.set_cons_succ, i64_w, i32_w]
        rfl
      refine pure_ (i := 1) (N := some 32) (v := ?_) (a' := ?_) #[true, true, false, false, false, false, false, false, false, false, false, false, false] rfl rfl (any_of HT_.out (by kernel_rfl)) (fun _ _ _ h => h) (Or.inl ⟨by rfl, ?_⟩) ?_ ?_
      rotate_left
      · intro w'
        go_simp
        with_reducible rfl
      rotate_left
      · simp only [Act.put, List.setIfInBounds_toArray, List.set_cons_zero, List.set_cons_succ, i64_w, i32_w]
        rfl
      refine take_ (i := 2) (N := some 33) (v := ?_) (a' := ?_) #[true, true, true, false, false, false, false, false, false, false, false, false, false] rfl rfl (take_ofW HT_.out HW_.out (by kernel_rfl)) (fun _ _ _ h => h) (Or.inl ⟨by rfl, ?_⟩) hHeld ?_ ?_
      rotate_left
      · rintro w' ⟨s0, s1, s2⟩
        go_simp
        with_reducible rfl
      rotate_left
      · simp only [Act.put, List.setIfInBounds_toArray, List.set_cons_zero, List.set_cons_succ, i64_w, i32_w]
        rfl
      refine pure_ (i := 3) (N := some 34) (v := ?_) (a' := ?_) #[true, true, true, true, false, false, false, false, false, false, false, false, false] rfl rfl (any_of HT_.out (by kernel_rfl)) (fun _ _ _ h => h) (Or.inl ⟨by rfl, ?_⟩) ?_ ?_
      rotate_left
      · intro w'
        go_simp
        with_reducible rfl
      rotate_left
      · simp only [Act.put, List.setIfInBounds_toArray, List.set_cons_zero, List.set_cons_succ, i64_w, i32_w]
        rfl
      refine pure_ (i := 4) (N := some 35) (v := ?_) (a' := ?_) #[true, true, true, true, true, false, false, false, false, false, false, false, false] rfl rfl (any_of HT_.out (by kernel_rfl)) (fun _ _ _ h => h) (Or.inl ⟨by rfl, ?_⟩) ?_ ?_
      rotate_left
      · intro w'
        go_simp
        with_reducible rfl
      rotate_left
      · simp only [Act.put, List.setIfInBounds_toArray, List.set_cons_zero, List.set_cons_succ, i64_w, i32_w]
        rfl
      refine take_ (i := 5) (N := some 36) (v := ?_) (a' := ?_) #[true, true, true, true, true, true, false, false, false, false, false, false, false] rfl rfl (take_ofW HT_.out HW_.out (by kernel_rfl)) (fun _ _ _ h => h) (Or.inl ⟨by rfl, ?_⟩) hHeld ?_ ?_
      rotate_left
      · rintro w' ⟨s0, s1, s2⟩
        go_simp
        with_reducible rfl
      rotate_left
      · simp only [Act.put, List.setIfInBounds_toArray, List.set_cons_zero, List.set_cons_succ, i64_w, i32_w]
        rfl
      refine pure_ (i := 6) (N := some 37) (v := ?_) (a' := ?_) #[true, true, true, true, true, true, true, false, false, false, false, false, false] rfl rfl (any_of HT_.out (by kernel_rfl)) (fun _ _ _ h => h) (Or.inl ⟨by rfl, ?_⟩) ?_ ?_
      rotate_left
      · intro w'
        go_simp
        with_reducible rfl
      rotate_left
      · simp only [Act.put, List.setIfInBounds_toArray, List.set_cons_zero, List.set_cons_succ, i64_w, i32_w]
        rfl
      refine pure_ (i := 7) (N := some 38) (v := ?_) (a' := ?_) #[true, true, true, true, true, true, true, true, false, false, false, false, false] rfl rfl (any_of HT_.out (by kernel_rfl)) (fun _ _ _ h => h) (Or.inl ⟨by rfl, ?_⟩) ?_ ?_
      rotate_left
      · intro w'
        go_simp
        with_reducible rfl
      rotate_left
      · simp only [Act.put, List.setIfInBounds_toArray, List.set_cons_zero, List.set_cons_succ, i64_w, i32_w]
        rfl
      refine take_ (i := 8) (N := some 39) (v := ?_) (a' := ?_) #[true, true, true, true, true, true, true, true, true, false, false, false, false] rfl rfl (take_ofW HT_.out HW_.out (by kernel_rfl)) (fun _ _ _ h => h) (Or.inl ⟨by rfl, ?_⟩) hHeld ?_ ?_
      rotate_left
      · rintro w' ⟨s0, s1, s2⟩
        go_simp
        with_reducible rfl
      rotate_left
      · simp only [Act.put, List.setIfInBounds_toArray, List.set_cons_zero, List.set_cons_succ, i64_w, i32_w]
        rfl
      refine pure_ (i := 9) (N := some 40) (v := ?_) (a' := ?_) #[true, true, true, true, true, true, true, true, true, true, false, false, false] rfl rfl (any_of HT_.out (by kernel_rfl)) (fun _ _ _ h => h) (Or.inl ⟨by rfl, ?_⟩) ?_ ?_
      rotate_left
      · intro w'
        go_simp
        with_reducible rfl
      rotate_left
      · simp only [Act.put, List.setIfInBounds_toArray, List.set_cons_zero, List.set_cons_succ, i64_w, i32_w]
        rfl
      refine last_ (i := 10) (N := some 41) #[true, true, true, true, true, true, true, true, true, true, true, false, false] rfl rfl (one_of HT_.out (by kernel_rfl)) (by decide) (fun K hK => ?_)
      refine value_ (w1 := ?_) (v := ?_) (by rfl) rfl ?_ ?_
      rotate_left 2
      · go_simp
        constructor
        · rfl
        · rfl
      refine hK.out _ _ ?_
      clear hK K
      refine norm_ (a' := ?_) ?_ ?_
      rotate_left
      · show Act.put _ (some 41) _ = _
        simp only [Act.put, List.setIfInBounds_toArray, List.set_cons_zero, List.set_cons_succ, i64_w, i32_w]
        rfl
      refine last_ (i := 11) (N := some 42) #[true, true, true, true, true, true, true, true, true, true, true, true, false] rfl rfl (one_of HT_.out (by kernel_rfl)) (by decide) (fun K hK => ?_)
      refine Kd.R_append_step k76 (w0 := w4) w4.heap.size (by rfl) (.tmp 31) (.tmp 41) 53 76 (.agg #[(.int .i64 0), (.int .i64 0)]) 16 rfl Try.underlying53 info76 rfl (by decide) (by omega) (.slice Ao acc.length co) acc (⟨a1, y⟩ : S76) [.int .i64 a1, .int .i64 y] (fun _ => True) (fun _ => False) rfl rfl ?aP (fun _ hk => hk.elim) ?aF ?aO ?aB ?aS ?aL ?_
      (case aP => exact k76_mkM _ _ _ (⟨a1, y⟩ : S76))
      (case aB => exact HBd.out)
      (case aF => exact fun _ _ => trivial)
      (case aO => exact HOd.out)
      (case aS => exact HBd.out.size)
      (case aL => have := hlen.out; have := HL.out; omega)
      intro v1 w6 ho hb hg hat
      obtain ⟨A6, c6, rfl⟩ := Kd.R_slice ho
      have HO6 := Aside0.mk ho
      have HB6 := Aside0.mk hb
      clear ho hb hg hat
      refine hK.out _ _ ?_
      clear hK K
      refine norm_ (a' := ?_) ?_ ?_
      rotate_left
      · show Act.put _ (some 42) _ = _
        simp only [Act.put, List.setIfInBounds_toArray, List.set_cons_zero, List.set_cons_succ, i64_w, i32_w]
        rfl
      refine pure_ (i := 12) (N := some 5) (v := ?_) (a' := ?_) #[true, true, true, true, true, true, true, true, true, true, true, true, true] rfl rfl (any_of HT_.out (by kernel_rfl)) (fun _ _ _ h => h) (Or.inl ⟨by rfl, ?_⟩) ?_ ?_
      rotate_left
      · intro w'
        go_simp
        with_reducible rfl
      rotate_left
      · simp only [Act.put, List.setIfInBounds_toArray, List.set_cons_zero, List.set_cons_succ, i64_w, i32_w]
        rfl
      refine done_ (done_of HT_.out (by kernel_rfl)) ?_
      go_wp2_with fail
      exact ⟨⟨j + 1, acc ++ [⟨a1, y⟩], by omega, by go_num, ⟨by rw [HA.out, hrd.out, hitsOf, hitsOf, List.take_succ_eq_append_getElem hlt2, List.map_append]; rfl⟩, ⟨by have h := HO6.out; rw [List.length_append, List.length_singleton] at h; exact h⟩, HB6⟩, by simp [intOf]; omega⟩
    · have hje : j = R.f3.length := by omega
      subst hje
      have hacc := Aside0.mk (show acc = hitsOf a1 R.f3 by rw [HA.out, List.take_length])
      go_wp2
      have hl3 := hlen.out
      rw [hl3]
      have hL1 := L1.out
      refine bodyPost_ret (results_ctt rfl _ _ (w.heap.size + 1) 49 #[.int .i64 a1, .int .i64 (wrap64 (h + (R.f3.length : Int))), .int .i64 R.f0, .int .i64 R.f1, .int .i64 R.f2, .slice B R.f3.length d, .int .i64 l1, .bool ended] (0, 0) _ rfl (by exact cput8 (blk_far (p := ⟨w.heap.size, 1, none⟩) K2r.out (Ne.symm n1) _)) Try.underlying49 rfl (by kernel_rfl)) rfl ⟨_, rfl, ?_, cbel8 ((B4.out.trans (HB.out.mono (by omega))).setCell (p := ⟨w.heap.size, 1, none⟩) (Nat.le_refl _) _) (Nat.le_succ _)⟩
      have HO7 := HO.out
      rw [hl3, hacc.out] at HO7
      have hq : ∀ (q : Nat) k, w4.heap.size ≤ k → k ≠ w.heap.size + 1 := fun q k hk => by omega
      refine Kd.R_lower (Kd.R_mono (ok := fun k => w4.heap.size ≤ k) ?_ (fun _ _ => trivial)) (show w.heap.size ≤ w4.heap.size by omega)
      exact Kd.R_far (p := ⟨w.heap.size + 1, 7, none⟩) (Kd.R_far (p := ⟨w.heap.size + 1, 6, none⟩) (Kd.R_far (p := ⟨w.heap.size + 1, 5, none⟩) (Kd.R_far (p := ⟨w.heap.size + 1, 4, none⟩) (Kd.R_far (p := ⟨w.heap.size + 1, 3, none⟩) (Kd.R_far (p := ⟨w.heap.size + 1, 2, none⟩) (Kd.R_far (p := ⟨w.heap.size + 1, 1, none⟩) (Kd.R_far (p := ⟨w.heap.size + 1, 0, none⟩) (Kd.R_far (p := ⟨w.heap.size, 1, none⟩) (Kd.R_mono (Kd.R_bound HO7) (fun k hk => hk.2.1)) (fun k hk => by show k ≠ w.heap.size; omega) _) (hq 0) _) (hq 1) _) (hq 2) _) (hq 3) _) (hq 4) _) (hq 5) _) (hq 6) _) (hq 7) _
end Go.Proofs.Ytaihieglailmcaa.PC
