/- What is proved: records that are read are, written, the same bytes; what was written is read as it was put together (of at most 300 bytes; of at most 20 records, of at most 30 Ids each; of others only the chapter's example is asked). Conditions: none beyond the row's own. -/
import Derived.ChangeArms
import Derived.DataReads
import Derived.Test.YtejcopppchaneaaRows
import Derived.ProofKit
import Derived.OpenShut
import Derived.ShutString
import Derived.ChangeOld
import Derived.SizedLaws
import Derived.Carry
import Derived.Test.YtejcopppchaneaaSLB4
section
namespace Go.Proofs.Ytejcopppchaneaa.PF
open Go.RowKit Go.Proofs.YtejcopppchaneaaW.PrintWords Go.Proofs.YtejcopppchaneaaW.PrintLast Go.Proofs.YtejcopppchaneaaW.PrintMore
attribute [local go_sem] max2_int min2_int max_two min_two max_three min_three max_four min_four   -- for this text's walks alone
set_option linter.unusedVariables false
set_option linter.unusedSimpArgs false
def juratref30_Whole.l0 : Nat → List (S30) → ByteArray → Int → Option (ByteArray × Int)
  | 0, _, _, _ => none
  | k + 1, x1, x6, x8 => if x8 < (x1.length : Int) then (if 0 ≤ x8 then (if x8 ≤ (x1.length : Int) then ((juratref30_May.f k (x1.take (x8 : Int).toNat) ((rd_T30 x1 x8).f0) ((rd_T30 x1 x8).f1) ((rd_T30 x1 x8).f2) ((rd_T30 x1 x8).f3)).bind fun t399 => (if t399 = 0 then (juratref30_Whole.l0 k x1 x6 (wrap64 (x8 + 1))) else (some ((⟨#[]⟩ : ByteArray), t399)))) else (none)) else (none)) else (if (x1.length : Int) = 0 then (some ((⟨#[]⟩ : ByteArray), 19)) else (if 0 ≤ (wrap64 ((x1.length : Int) - 1)) then (if (wrap64 ((x1.length : Int) - 1)) < (x1.length : Int) then (if ((rd_T30 x1 (wrap64 ((x1.length : Int) - 1))).f0) = 6 then ((juratref30_Told.f k x1).bind fun t401 => (if x6.size + t401.size ≤ 9223372036854775807 then (some (x6 ++ t401, 0)) else (none))) else (some ((⟨#[]⟩ : ByteArray), 19))) else (none)) else (none)))
def juratref30_Whole.f (k : Nat) (a0 : ByteArray) (l1 : List (S30)) : Option (ByteArray × Int) := (juratref29_Put.f k a0).bind fun bt392 => (if bt392.2 = 0 then (juratref30_Whole.l0 k l1 bt392.1 0) else (some ((⟨#[]⟩ : ByteArray), bt392.2)))
def juratref30_Whole.T7 : Bool × List (List Nat × List Nat) := (true, [([], []), ([], []), ([0, 1], [0, 1]), ([], []), ([], []), ([3, 4], [3, 4]), ([5], [5]), ([2, 6], [2, 6]), ([7, 7, 0, 1, 2, 3, 4, 5, 6, 7], [7])])
def juratref30_Whole.B7 : List Nat := [0, 0, 3, 0, 0, 24, 56, 127, 255]
theorem juratref30_Whole.tab7 : rtab .any (opsOf Try.f12 7) = juratref30_Whole.T7 := by kernel_rfl
theorem juratref30_Whole.bits7 : waitsOk juratref30_Whole.T7.2 juratref30_Whole.B7 = true := by kernel_rfl
set_option maxHeartbeats 8000000 in
set_option maxRecDepth 100000 in
theorem juratref30_Whole.calls (k : Nat) (a0 : ByteArray) (A1 : Option Addr) (c1 : Nat) (l1 : List (S30)) (r1 : ByteArray) (r2 : Int) (w : World) (hr1 : Kd.C k30 w A1 l1.length l1) (hc1 : l1.length ≤ c1) (h : juratref30_Whole.f k a0 l1 = some (r1, r2)) :
    Calls Try.prog 12 #[.string a0, .slice A1 l1.length c1] w fun e w' => e = .returned (.tuple #[.string r1, .int .i64 r2]) ∧ Below w.heap.size w w' := by
  have hu30 := Try.underlying30
  have HR1 := Aside0.mk hr1
  have HC1 := Aside0.mk hc1
  clear hr1 hc1
  have HB := Aside0.mk (Below.refl w.heap.size w)
  have H : ((juratref29_Put.f k a0).bind fun bt392 => (if bt392.2 = 0 then (juratref30_Whole.l0 k l1 bt392.1 0) else (some ((⟨#[]⟩ : ByteArray), bt392.2)))) = some (r1, r2) := h
  clear h
  replace H := Option.bind_eq_some_iff.mp H
  obtain ⟨⟨t392, t393⟩, A30, H⟩ := H
  replace H : (if t393 = 0 then (juratref30_Whole.l0 k l1 t392 0) else (some ((⟨#[]⟩ : ByteArray), t393))) = some (r1, r2) := H
  have A3 := Aside0.mk A30
  clear A30
  by_cases c4 : t393 = 0
  · rw [if_pos c4] at H
    have c4b0 : (t393 == 0) = true := beq_iff_eq.mpr c4
    have c4b1 : (t393 != 0) = false := bne_eq_false_iff_eq.mpr c4
    clear c4
    have H' := Aside0.mk H
    clear H
    go_enter Try.func12, Try.ntmps12
    go_wp2_with (first | ((with_reducible refine gate_callee (f := 26) rfl ?_); refine goesL_ (some 12) rfl rfl Try.func26 (by kernel_rfl) rfl #[.string a0] rfl (by (try simp only [List.map_toArray, List.map_cons, List.map_nil]); first | done | rfl | (simp only [List.length_drop, List.length_take]; rfl)) ?_; (with_reducible refine (juratref29_Put.calls k a0 t392 t393 _ A3.out).mono ?_); rintro e w5 ⟨rfl, hb⟩; refine ⟨_, rfl, ?_⟩; have n0_ := Aside0.mk (below_step (by repeat (first | (with_reducible first | exact HB.out | apply below_alloc | apply pw_below_drewN | apply below_drew1) | exact HB.out)) hb); clear HB; have HB := n0_; clear n0_; (try clear hb); (try clear hb2); (try clear hk); (try clear hi)))
    go_loopg [8] k (fun kq v8 w' => ∃ (x8_1 : Int), v8 = .int .i64 x8_1 ∧ Aside0 (juratref30_Whole.l0 kq l1 t392 x8_1 = some (r1, r2)) ∧ Aside0 (kq ≤ k) ∧ Aside0 (Below w.heap.size w w'))
    case atStart => exact ⟨(0), (by first | rfl | (simp; done) | (simp [*]; done)), H', ⟨Nat.le_refl _⟩, ⟨by repeat (first | (with_reducible first | exact HB.out | apply below_alloc | apply pw_below_drewN | apply below_drew1) | exact HB.out)⟩⟩
    case round =>
      clear H'
      try clear c1
      try clear c2
      try clear p2
      try clear c4
      try clear c4b0
      try clear c4b1
      obtain ⟨x8_1, rfl, HA, HK1, HB⟩ := hrel
      cases gk with
      | zero => exact absurd HA.out (by simp [juratref30_Whole.l0])
      | succ k1 =>
        have H := HA.out
        clear HA
        simp only [juratref30_Whole.l0] at H
        by_cases c6 : x8_1 < (l1.length : Int)
        · rw [if_pos c6] at H
          have c6b0 : decide (x8_1 < (l1.length : Int)) = true := decide_eq_true c6
          clear c6
          by_cases c7 : 0 ≤ x8_1
          · rw [if_pos c7] at H
            have c7b0 := eq_true c7
            have c7b1 : decide (0 ≤ x8_1) = true := decide_eq_true c7
            clear c7
            by_cases c8 : x8_1 ≤ (l1.length : Int)
            · rw [if_pos c8] at H
              have c8b0 := eq_true c8
              have c8b1 : decide (x8_1 ≤ (l1.length : Int)) = true := decide_eq_true c8
              clear c8
              obtain ⟨y394, hy394⟩ : ∃ y_ : List (S30), y_ = (l1.take (x8_1 : Int).toNat) := ⟨_, rfl⟩
              replace H : ((juratref30_May.f k1 y394 ((rd_T30 l1 x8_1).f0) ((rd_T30 l1 x8_1).f1) ((rd_T30 l1 x8_1).f2) ((rd_T30 l1 x8_1).f3)).bind fun t399 => (if t399 = 0 then (juratref30_Whole.l0 k1 l1 t392 (wrap64 (x8_1 + 1))) else (some ((⟨#[]⟩ : ByteArray), t399)))) = some (r1, r2) := by first | (rw [hy394]; with_reducible exact H) | (have H2_ := (Option.bind_some _ _).symm.trans H; rw [hy394]; with_reducible exact H2_) | (have H2_ := (Option.bind_some _ _).symm.trans H; with_reducible exact H2_) | with_reducible exact H | (rw [hy394]; exact H) | exact H
              have Ny394 := Aside0.mk hy394
              clear hy394
              replace H := Option.bind_eq_some_iff.mp H
              obtain ⟨t399, A90, H⟩ := H
              replace H : (if t399 = 0 then (juratref30_Whole.l0 k1 l1 t392 (wrap64 (x8_1 + 1))) else (some ((⟨#[]⟩ : ByteArray), t399))) = some (r1, r2) := H
              have A9 := Aside0.mk A90
              clear A90
              by_cases c10 : t399 = 0
              · rw [if_pos c10] at H
                have c10b0 : (t399 == 0) = true := beq_iff_eq.mpr c10
                have c10b1 : (t399 != 0) = false := bne_eq_false_iff_eq.mpr c10
                clear c10
                have H' := Aside0.mk H
                clear H
                try go_wp2
                (try (rw [drewN_self wr]; generalize hq_ : World.drewN wr _ = wr; have n0_ : Aside0 (Below w.heap.size w wr) := ⟨by rw [← hq_]; exact (by repeat (first | (with_reducible first | exact HB.out | apply below_alloc | apply pw_below_drewN | apply below_drew1) | exact HB.out))⟩; clear HB hq_; have HB := n0_; clear n0_))
                have n0_ := Aside0.mk (below_drew1 HB.out)
                clear HB
                have HB := n0_
                clear n0_
                have q12 : (x8_1 : Int) ≤ ((l1.length : Int) : Int) := of_decide_eq_true (by first | (with_reducible assumption) | assumption)
                obtain ⟨i012, hi012, _, hsz12, _⟩ := info_parts info30
                have hroom12 : l1.length ≤ c1 := HC1.out
                have hC12 : Kd.C k30 _ A1 l1.length l1 := HR1.out
                have hcut12 := cut_to (P := Try.prog) 22 30 .i64 Try.underlying22 hi012 A1 l1.length c1 x8_1 (of_decide_eq_true (by first | (with_reducible assumption) | assumption)) q12 hroom12
                have hr12 := Kd.C_take (m := (x8_1 : Int).toNat) hC12 (by omega)
                have hy12 : y394.length = (x8_1 : Int).toNat := (by rw [Ny394.out, List.length_take]; omega)
                rw [← Ny394.out] at hr12
                rw [← hy12] at hcut12
                have HR397 := Aside0.mk hr12
                have HC397 := Aside0.mk (show y394.length ≤ c1 from by omega)
                clear hr12 hC12 hroom12 hi012 hsz12
                have KY12 := Aside0.mk hy12
                clear hy12
                replace q12 := eq_true q12
                have p398 : 0 ≤ (x8_1 : Int) := of_decide_eq_true (by first | (with_reducible assumption) | assumption)
                have q398 : x8_1 < (l1.length : Int) := of_decide_eq_true (by first | (with_reducible assumption) | assumption)
                obtain ⟨ad398, A398_3, c398_3, e398, hx398_0, hx398_1, hx398_2, hx398_3, hl398_3, hi398_3⟩ := at_T30 HR1.out x8_1 p398 q398
                have hw398_3 := hx398_3
                have hw398_2 := hx398_2
                have hw398_1 := hx398_1
                have hw398_0 := hx398_0
                cases e398
                replace hx398_0 := (HB.out.cell (World.block_lt_of_cell? w _ hx398_0)).trans hx398_0
                replace hx398_1 := (HB.out.cell (World.block_lt_of_cell? w _ hx398_1)).trans hx398_1
                replace hx398_2 := (HB.out.cell (World.block_lt_of_cell? w _ hx398_2)).trans hx398_2
                replace hx398_3 := (HB.out.cell (World.block_lt_of_cell? w _ hx398_3)).trans hx398_3
                have HR398_3 := Aside0.mk hi398_3
                have HC398_3 := Aside0.mk hl398_3
                clear hi398_3 hl398_3
                replace p398 := eq_true p398
                replace q398 := eq_true q398
                refine start_ (n := 9) (S := fun w' => w'.cell? (ad398.add ((x8_1).toNat * 4)) = some (.int .i64 ((rd_T30 l1 x8_1).f0)) ∧ w'.cell? ⟨(ad398.add ((x8_1).toNat * 4)).block, (ad398.add ((x8_1).toNat * 4)).off + 1, none⟩ = some (.int .i64 ((rd_T30 l1 x8_1).f1)) ∧ w'.cell? ⟨(ad398.add ((x8_1).toNat * 4)).block, (ad398.add ((x8_1).toNat * 4)).off + 2, none⟩ = some (.int .i64 ((rd_T30 l1 x8_1).f2)) ∧ w'.cell? ⟨(ad398.add ((x8_1).toNat * 4)).block, (ad398.add ((x8_1).toNat * 4)).off + 3, none⟩ = some (.slice A398_3 ((rd_T30 l1 x8_1).f3).length c398_3)) (ds := []) #[false, false, false, false, false, false, false, false, false] (by kernel_rfl) rfl rfl ⟨((HB.out.cell (World.block_lt_of_cell? w _ hw398_0)).trans hw398_0), ((HB.out.cell (World.block_lt_of_cell? w _ hw398_1)).trans hw398_1), ((HB.out.cell (World.block_lt_of_cell? w _ hw398_2)).trans hw398_2), ((HB.out.cell (World.block_lt_of_cell? w _ hw398_3)).trans hw398_3)⟩ (fun hHeld => ?_); refine with_tabW juratref30_Whole.tab7 juratref30_Whole.bits7 (fun HT_ HW_ => ?_)
                generalize wr.drew = w11 at HB HR397 HR398_3 hx398_0 hx398_1 hx398_2 hx398_3 hHeld ⊢
                refine pure_ (i := 0) (N := some 24) (v := ?_) (a' := ?_) #[true, false, false, false, false, false, false, false, false] rfl rfl (any_of HT_.out (by kernel_rfl)) (fun _ _ _ h => h) (Or.inl ⟨by rfl, ?_⟩) ?_ ?_
                rotate_left
                · intro w'
                  go_simp
                  with_reducible rfl
                rotate_left
                · simp only [Act.put, List.setIfInBounds_toArray, List.set_cons_zero, List.set_cons_succ, i64_w, i32_w]
                  rfl
                refine pure_ (i := 1) (N := some 25) (v := ?_) (a' := ?_) #[true, true, false, false, false, false, false, false, false] rfl rfl (any_of HT_.out (by kernel_rfl)) (fun _ _ _ h => h) (Or.inl ⟨by rfl, ?_⟩) ?_ ?_
                rotate_left
                · intro w'
                  go_simp
                  with_reducible rfl
                rotate_left
                · simp only [Act.put, List.setIfInBounds_toArray, List.set_cons_zero, List.set_cons_succ, i64_w, i32_w]
                  rfl
                refine pure_ (i := 2) (N := some 26) (v := ?_) (a' := ?_) #[true, true, true, false, false, false, false, false, false] rfl rfl (any_of HT_.out (by kernel_rfl)) (fun _ _ _ h => h) (Or.inl ⟨by rfl, ?_⟩) ?_ ?_
                rotate_left
                · intro w'
                  go_simp
                  with_reducible rfl
                rotate_left
                · simp only [Act.put, List.setIfInBounds_toArray, List.set_cons_zero, List.set_cons_succ, i64_w, i32_w]
                  rfl
                refine pure_ (i := 3) (N := some 27) (v := ?_) (a' := ?_) #[true, true, true, true, false, false, false, false, false] rfl rfl (any_of HT_.out (by kernel_rfl)) (fun _ _ _ h => h) (Or.inl ⟨by rfl, ?_⟩) ?_ ?_
                rotate_left
                · intro w'
                  go_simp
                  with_reducible rfl
                rotate_left
                · simp only [Act.put, List.setIfInBounds_toArray, List.set_cons_zero, List.set_cons_succ, i64_w, i32_w]
                  rfl
                refine pure_ (i := 4) (N := some 28) (v := ?_) (a' := ?_) #[true, true, true, true, true, false, false, false, false] rfl rfl (any_of HT_.out (by kernel_rfl)) (fun _ _ _ h => h) (Or.inl ⟨by rfl, ?_⟩) ?_ ?_
                rotate_left
                · intro w'
                  go_simp
                  with_reducible rfl
                rotate_left
                · simp only [Act.put, List.setIfInBounds_toArray, List.set_cons_zero, List.set_cons_succ, i64_w, i32_w]
                  rfl
                refine pure_ (i := 5) (N := some 29) (v := ?_) (a' := ?_) #[true, true, true, true, true, true, false, false, false] rfl rfl (any_of HT_.out (by kernel_rfl)) (fun _ _ _ h => h) (Or.inl ⟨by rfl, ?_⟩) ?_ ?_
                rotate_left
                · intro w'
                  go_simp
                  with_reducible rfl
                rotate_left
                · simp only [Act.put, List.setIfInBounds_toArray, List.set_cons_zero, List.set_cons_succ, i64_w, i32_w]
                  rfl
                refine take_ (i := 6) (N := some 30) (v := ?_) (a' := ?_) #[true, true, true, true, true, true, true, false, false] rfl rfl (take_ofW HT_.out HW_.out (by kernel_rfl)) (fun _ _ _ h => h) (Or.inl ⟨by rfl, ?_⟩) hHeld ?_ ?_
                rotate_left
                · rintro w' ⟨s0, s1, s2, s3⟩
                  go_simp
                  with_reducible rfl
                rotate_left
                · simp only [Act.put, List.setIfInBounds_toArray, List.set_cons_zero, List.set_cons_succ, i64_w, i32_w]
                  rfl
                refine one_ (i := 7) (N := some 31) #[true, true, true, true, true, true, true, true, false] rfl rfl (one_of HT_.out (by kernel_rfl)) (by decide) (fun K hK => ?_)
                refine goes_ Try.func28 (by kernel_rfl) rfl #[.slice (some ad398) y394.length c1, .agg #[.int .i64 ((rd_T30 l1 x8_1).f0), .int .i64 ((rd_T30 l1 x8_1).f1), .int .i64 ((rd_T30 l1 x8_1).f2), .slice A398_3 ((rd_T30 l1 x8_1).f3).length c398_3]] (by rfl) rfl rfl (by (try simp only [List.map_toArray, List.map_cons, List.map_nil]); first | done | rfl | (simp only [List.length_drop, List.length_take]; rfl)) ?_
                with_reducible refine (juratref30_May.calls k1 _ _ y394 ((rd_T30 l1 x8_1).f0) ((rd_T30 l1 x8_1).f1) ((rd_T30 l1 x8_1).f2) _ _ ((rd_T30 l1 x8_1).f3) t399 _ ?side1 ?side2 ?side3 ?side4 A9.out).mono ?_
                (case side1 => repeat (first | exact (Kd.C_below HR397.out HB.out) | (with_reducible refine Kd.C_alloc ?_ _) | (with_reducible refine Kd.C_drewN ?_ _) | (with_reducible refine Kd.C_drew ?_)))
                (case side2 => exact HC397.out)
                (case side3 => repeat (first | exact (Kd.C_below HR398_3.out HB.out) | (with_reducible refine Kd.C_alloc ?_ _) | (with_reducible refine Kd.C_drewN ?_ _) | (with_reducible refine Kd.C_drew ?_)))
                (case side4 => exact HC398_3.out)
                rintro e w13 ⟨rfl, hb⟩
                refine ⟨_, rfl, ?_⟩
                have n0_ := Aside0.mk (below_step (by repeat (first | (with_reducible first | exact HB.out | apply below_alloc | apply pw_below_drewN | apply below_drew1) | exact HB.out)) hb)
                clear HB
                have HB := n0_
                clear n0_
                (try clear hb)
                (try clear hb2)
                (try clear hk)
                (try clear hi)
                refine hK.out _ _ ⟨((HB.out.cell (World.block_lt_of_cell? w _ hw398_0)).trans hw398_0), ((HB.out.cell (World.block_lt_of_cell? w _ hw398_1)).trans hw398_1), ((HB.out.cell (World.block_lt_of_cell? w _ hw398_2)).trans hw398_2), ((HB.out.cell (World.block_lt_of_cell? w _ hw398_3)).trans hw398_3)⟩ (fun hHeld => ?_)
                clear hK K
                refine norm_ (a' := ?_) ?_ ?_
                rotate_left
                · show Act.put _ (some 31) _ = _
                  simp only [Act.put, List.setIfInBounds_toArray, List.set_cons_zero, List.set_cons_succ, i64_w, i32_w]
                  rfl
                refine pure_ (i := 8) (N := some 9) (v := ?_) (a' := ?_) #[true, true, true, true, true, true, true, true, true] rfl rfl (any_of HT_.out (by kernel_rfl)) (fun _ _ _ h => h) (Or.inl ⟨by rfl, ?_⟩) ?_ ?_
                rotate_left
                · intro w'
                  go_simp
                  with_reducible rfl
                rotate_left
                · simp only [Act.put, List.setIfInBounds_toArray, List.set_cons_zero, List.set_cons_succ, i64_w, i32_w]
                  rfl
                refine done_ (done_of HT_.out (by kernel_rfl)) ?_
                try go_wp2
                go_roundg k1
                case measure => have := HK1.out; omega
                case rel => exact ⟨(wrap64 (x8_1 + 1)), (by first | rfl | (simp; done) | (simp [*]; done)), H', ⟨by have := HK1.out; omega⟩, ⟨by repeat (first | (with_reducible first | exact HB.out | apply below_alloc | apply pw_below_drewN | apply below_drew1) | exact HB.out)⟩⟩
              · rw [if_neg c10] at H
                have c10b0 : (t399 == 0) = false := beq_eq_false_iff_ne.mpr c10
                have c10b1 : (t399 != 0) = true := bne_iff_ne.mpr c10
                simp only [Option.some.injEq, Prod.mk.injEq] at H
                obtain ⟨rfl, rfl⟩ := H
                try go_wp2
                (try (rw [drewN_self wr]; generalize hq_ : World.drewN wr _ = wr; have n0_ : Aside0 (Below w.heap.size w wr) := ⟨by rw [← hq_]; exact (by repeat (first | (with_reducible first | exact HB.out | apply below_alloc | apply pw_below_drewN | apply below_drew1) | exact HB.out))⟩; clear HB hq_; have HB := n0_; clear n0_))
                have n0_ := Aside0.mk (below_drew1 HB.out)
                clear HB
                have HB := n0_
                clear n0_
                have q15 : (x8_1 : Int) ≤ ((l1.length : Int) : Int) := of_decide_eq_true (by first | (with_reducible assumption) | assumption)
                obtain ⟨i015, hi015, _, hsz15, _⟩ := info_parts info30
                have hroom15 : l1.length ≤ c1 := HC1.out
                have hC15 : Kd.C k30 _ A1 l1.length l1 := HR1.out
                have hcut15 := cut_to (P := Try.prog) 22 30 .i64 Try.underlying22 hi015 A1 l1.length c1 x8_1 (of_decide_eq_true (by first | (with_reducible assumption) | assumption)) q15 hroom15
                have hr15 := Kd.C_take (m := (x8_1 : Int).toNat) hC15 (by omega)
                have hy15 : y394.length = (x8_1 : Int).toNat := (by rw [Ny394.out, List.length_take]; omega)
                rw [← Ny394.out] at hr15
                rw [← hy15] at hcut15
                have HR397 := Aside0.mk hr15
                have HC397 := Aside0.mk (show y394.length ≤ c1 from by omega)
                clear hr15 hC15 hroom15 hi015 hsz15
                have KY15 := Aside0.mk hy15
                clear hy15
                replace q15 := eq_true q15
                have p398 : 0 ≤ (x8_1 : Int) := of_decide_eq_true (by first | (with_reducible assumption) | assumption)
                have q398 : x8_1 < (l1.length : Int) := of_decide_eq_true (by first | (with_reducible assumption) | assumption)
                obtain ⟨ad398, A398_3, c398_3, e398, hx398_0, hx398_1, hx398_2, hx398_3, hl398_3, hi398_3⟩ := at_T30 HR1.out x8_1 p398 q398
                have hw398_3 := hx398_3
                have hw398_2 := hx398_2
                have hw398_1 := hx398_1
                have hw398_0 := hx398_0
                cases e398
                replace hx398_0 := (HB.out.cell (World.block_lt_of_cell? w _ hx398_0)).trans hx398_0
                replace hx398_1 := (HB.out.cell (World.block_lt_of_cell? w _ hx398_1)).trans hx398_1
                replace hx398_2 := (HB.out.cell (World.block_lt_of_cell? w _ hx398_2)).trans hx398_2
                replace hx398_3 := (HB.out.cell (World.block_lt_of_cell? w _ hx398_3)).trans hx398_3
                have HR398_3 := Aside0.mk hi398_3
                have HC398_3 := Aside0.mk hl398_3
                clear hi398_3 hl398_3
                replace p398 := eq_true p398
                replace q398 := eq_true q398
                refine start_ (n := 9) (S := fun w' => w'.cell? (ad398.add ((x8_1).toNat * 4)) = some (.int .i64 ((rd_T30 l1 x8_1).f0)) ∧ w'.cell? ⟨(ad398.add ((x8_1).toNat * 4)).block, (ad398.add ((x8_1).toNat * 4)).off + 1, none⟩ = some (.int .i64 ((rd_T30 l1 x8_1).f1)) ∧ w'.cell? ⟨(ad398.add ((x8_1).toNat * 4)).block, (ad398.add ((x8_1).toNat * 4)).off + 2, none⟩ = some (.int .i64 ((rd_T30 l1 x8_1).f2)) ∧ w'.cell? ⟨(ad398.add ((x8_1).toNat * 4)).block, (ad398.add ((x8_1).toNat * 4)).off + 3, none⟩ = some (.slice A398_3 ((rd_T30 l1 x8_1).f3).length c398_3)) (ds := []) #[false, false, false, false, false, false, false, false, false] (by kernel_rfl) rfl rfl ⟨((HB.out.cell (World.block_lt_of_cell? w _ hw398_0)).trans hw398_0), ((HB.out.cell (World.block_lt_of_cell? w _ hw398_1)).trans hw398_1), ((HB.out.cell (World.block_lt_of_cell? w _ hw398_2)).trans hw398_2), ((HB.out.cell (World.block_lt_of_cell? w _ hw398_3)).trans hw398_3)⟩ (fun hHeld => ?_); refine with_tabW juratref30_Whole.tab7 juratref30_Whole.bits7 (fun HT_ HW_ => ?_)
                generalize wr.drew = w14 at HB HR397 HR398_3 hx398_0 hx398_1 hx398_2 hx398_3 hHeld ⊢
                refine pure_ (i := 0) (N := some 24) (v := ?_) (a' := ?_) #[true, false, false, false, false, false, false, false, false] rfl rfl (any_of HT_.out (by kernel_rfl)) (fun _ _ _ h => h) (Or.inl ⟨by rfl, ?_⟩) ?_ ?_
                rotate_left
                · intro w'
                  go_simp
                  with_reducible rfl
                rotate_left
                · simp only [Act.put, List.setIfInBounds_toArray, List.set_cons_zero, List.set_cons_succ, i64_w, i32_w]
                  rfl
                refine pure_ (i := 1) (N := some 25) (v := ?_) (a' := ?_) #[true, true, false, false, false, false, false, false, false] rfl rfl (any_of HT_.out (by kernel_rfl)) (fun _ _ _ h => h) (Or.inl ⟨by rfl, ?_⟩) ?_ ?_
                rotate_left
                · intro w'
                  go_simp
                  with_reducible rfl
                rotate_left
                · simp only [Act.put, List.setIfInBounds_toArray, List.set_cons_zero, List.set_cons_succ, i64_w, i32_w]
                  rfl
                refine pure_ (i := 2) (N := some 26) (v := ?_) (a' := ?_) #[true, true, true, false, false, false, false, false, false] rfl rfl (any_of HT_.out (by kernel_rfl)) (fun _ _ _ h => h) (Or.inl ⟨by rfl, ?_⟩) ?_ ?_
                rotate_left
                · intro w'
                  go_simp
                  with_reducible rfl
                rotate_left
                · simp only [Act.put, List.setIfInBounds_toArray, List.set_cons_zero, List.set_cons_succ, i64_w, i32_w]
                  rfl
                refine pure_ (i := 3) (N := some 27) (v := ?_) (a' := ?_) #[true, true, true, true, false, false, false, false, false] rfl rfl (any_of HT_.out (by kernel_rfl)) (fun _ _ _ h => h) (Or.inl ⟨by rfl, ?_⟩) ?_ ?_
                rotate_left
                · intro w'
                  go_simp
                  with_reducible rfl
                rotate_left
                · simp only [Act.put, List.setIfInBounds_toArray, List.set_cons_zero, List.set_cons_succ, i64_w, i32_w]
                  rfl
                refine pure_ (i := 4) (N := some 28) (v := ?_) (a' := ?_) #[true, true, true, true, true, false, false, false, false] rfl rfl (any_of HT_.out (by kernel_rfl)) (fun _ _ _ h => h) (Or.inl ⟨by rfl, ?_⟩) ?_ ?_
                rotate_left
                · intro w'
                  go_simp
                  with_reducible rfl
                rotate_left
                · simp only [Act.put, List.setIfInBounds_toArray, List.set_cons_zero, List.set_cons_succ, i64_w, i32_w]
                  rfl
                refine pure_ (i := 5) (N := some 29) (v := ?_) (a' := ?_) #[true, true, true, true, true, true, false, false, false] rfl rfl (any_of HT_.out (by kernel_rfl)) (fun _ _ _ h => h) (Or.inl ⟨by rfl, ?_⟩) ?_ ?_
                rotate_left
                · intro w'
                  go_simp
                  with_reducible rfl
                rotate_left
                · simp only [Act.put, List.setIfInBounds_toArray, List.set_cons_zero, List.set_cons_succ, i64_w, i32_w]
                  rfl
                refine take_ (i := 6) (N := some 30) (v := ?_) (a' := ?_) #[true, true, true, true, true, true, true, false, false] rfl rfl (take_ofW HT_.out HW_.out (by kernel_rfl)) (fun _ _ _ h => h) (Or.inl ⟨by rfl, ?_⟩) hHeld ?_ ?_
                rotate_left
                · rintro w' ⟨s0, s1, s2, s3⟩
                  go_simp
                  with_reducible rfl
                rotate_left
                · simp only [Act.put, List.setIfInBounds_toArray, List.set_cons_zero, List.set_cons_succ, i64_w, i32_w]
                  rfl
                refine one_ (i := 7) (N := some 31) #[true, true, true, true, true, true, true, true, false] rfl rfl (one_of HT_.out (by kernel_rfl)) (by decide) (fun K hK => ?_)
                refine goes_ Try.func28 (by kernel_rfl) rfl #[.slice (some ad398) y394.length c1, .agg #[.int .i64 ((rd_T30 l1 x8_1).f0), .int .i64 ((rd_T30 l1 x8_1).f1), .int .i64 ((rd_T30 l1 x8_1).f2), .slice A398_3 ((rd_T30 l1 x8_1).f3).length c398_3]] (by rfl) rfl rfl (by (try simp only [List.map_toArray, List.map_cons, List.map_nil]); first | done | rfl | (simp only [List.length_drop, List.length_take]; rfl)) ?_
                with_reducible refine (juratref30_May.calls k1 _ _ y394 ((rd_T30 l1 x8_1).f0) ((rd_T30 l1 x8_1).f1) ((rd_T30 l1 x8_1).f2) _ _ ((rd_T30 l1 x8_1).f3) t399 _ ?side1 ?side2 ?side3 ?side4 A9.out).mono ?_
                (case side1 => repeat (first | exact (Kd.C_below HR397.out HB.out) | (with_reducible refine Kd.C_alloc ?_ _) | (with_reducible refine Kd.C_drewN ?_ _) | (with_reducible refine Kd.C_drew ?_)))
                (case side2 => exact HC397.out)
                (case side3 => repeat (first | exact (Kd.C_below HR398_3.out HB.out) | (with_reducible refine Kd.C_alloc ?_ _) | (with_reducible refine Kd.C_drewN ?_ _) | (with_reducible refine Kd.C_drew ?_)))
                (case side4 => exact HC398_3.out)
                rintro e w16 ⟨rfl, hb⟩
                refine ⟨_, rfl, ?_⟩
                have n0_ := Aside0.mk (below_step (by repeat (first | (with_reducible first | exact HB.out | apply below_alloc | apply pw_below_drewN | apply below_drew1) | exact HB.out)) hb)
                clear HB
                have HB := n0_
                clear n0_
                (try clear hb)
                (try clear hb2)
                (try clear hk)
                (try clear hi)
                refine hK.out _ _ ⟨((HB.out.cell (World.block_lt_of_cell? w _ hw398_0)).trans hw398_0), ((HB.out.cell (World.block_lt_of_cell? w _ hw398_1)).trans hw398_1), ((HB.out.cell (World.block_lt_of_cell? w _ hw398_2)).trans hw398_2), ((HB.out.cell (World.block_lt_of_cell? w _ hw398_3)).trans hw398_3)⟩ (fun hHeld => ?_)
                clear hK K
                refine norm_ (a' := ?_) ?_ ?_
                rotate_left
                · show Act.put _ (some 31) _ = _
                  simp only [Act.put, List.setIfInBounds_toArray, List.set_cons_zero, List.set_cons_succ, i64_w, i32_w]
                  rfl
                refine pure_ (i := 8) (N := some 9) (v := ?_) (a' := ?_) #[true, true, true, true, true, true, true, true, true] rfl rfl (any_of HT_.out (by kernel_rfl)) (fun _ _ _ h => h) (Or.inl ⟨by rfl, ?_⟩) ?_ ?_
                rotate_left
                · intro w'
                  go_simp
                  with_reducible rfl
                rotate_left
                · simp only [Act.put, List.setIfInBounds_toArray, List.set_cons_zero, List.set_cons_succ, i64_w, i32_w]
                  rfl
                refine done_ (done_of HT_.out (by kernel_rfl)) ?_
                try go_wp2
                go_ret2
                exact ⟨by first | rfl | (simp [errW_none, errW_some] <;> rfl) | (simp [*, errW_none, errW_some] <;> rfl), by repeat (first | (with_reducible first | exact HB.out | apply below_alloc | apply pw_below_drewN | apply below_drew1) | exact HB.out)⟩
            · rw [if_neg c8] at H
              exact absurd H (by simp)
          · rw [if_neg c7] at H
            exact absurd H (by simp)
        · rw [if_neg c6] at H
          have c6b0 : decide (x8_1 < (l1.length : Int)) = false := decide_eq_false c6
          clear c6
          by_cases c17 : (l1.length : Int) = 0
          · rw [if_pos c17] at H
            have c17b0 : ((l1.length : Int) == 0) = true := beq_iff_eq.mpr c17
            have c17b1 : ((l1.length : Int) != 0) = false := bne_eq_false_iff_eq.mpr c17
            clear c17
            simp only [Option.some.injEq, Prod.mk.injEq] at H
            obtain ⟨rfl, rfl⟩ := H
            go_wp2
            go_ret2
            exact ⟨by first | rfl | (simp [errW_none, errW_some] <;> rfl) | (simp [*, errW_none, errW_some] <;> rfl), by repeat (first | (with_reducible first | exact HB.out | apply below_alloc | apply pw_below_drewN | apply below_drew1) | exact HB.out)⟩
          · rw [if_neg c17] at H
            have c17b0 : ((l1.length : Int) == 0) = false := beq_eq_false_iff_ne.mpr c17
            have c17b1 : ((l1.length : Int) != 0) = true := bne_iff_ne.mpr c17
            have c17b2 : ¬ (l1 = []) := fun h_ => c17 (by rw [h_]; rfl)
            obtain ⟨ji18, hji18⟩ : ∃ j_ : Int, (wrap64 ((l1.length : Int) - 1)) = j_ := ⟨_, rfl⟩
            replace H : (if 0 ≤ (ji18) then (if (ji18) < (l1.length : Int) then (if ((rd_T30 l1 (ji18)).f0) = 6 then ((juratref30_Told.f k1 l1).bind fun t401 => (if t392.size + t401.size ≤ 9223372036854775807 then (some (t392 ++ t401, 0)) else (none))) else (some ((⟨#[]⟩ : ByteArray), 19))) else (none)) else (none)) = some (r1, r2) := by first | (rw [hji18] at H; exact H) | (simp only [hji18] at H ⊢; exact H)
            have hji18w : (IntKind.i64.wrap ((l1.length : Int) - 1)) = ji18 := (i64_w _).trans hji18
            by_cases c19 : 0 ≤ (ji18)
            · rw [if_pos c19] at H
              have c19b0 : decide (0 ≤ (ji18)) = true := decide_eq_true c19
              clear c19
              by_cases c20 : (ji18) < (l1.length : Int)
              · rw [if_pos c20] at H
                have c20b0 : decide ((ji18) < (l1.length : Int)) = true := decide_eq_true c20
                clear c20
                by_cases c21 : ((rd_T30 l1 (ji18)).f0) = 6
                · rw [if_pos c21] at H
                  have c21b0 : (((rd_T30 l1 (ji18)).f0) == 6) = true := beq_iff_eq.mpr c21
                  have c21b1 : (((rd_T30 l1 (ji18)).f0) != 6) = false := bne_eq_false_iff_eq.mpr c21
                  clear c21
                  replace H := Option.bind_eq_some_iff.mp H
                  obtain ⟨t401, A220, H⟩ := H
                  replace H : (if t392.size + t401.size ≤ 9223372036854775807 then (some (t392 ++ t401, 0)) else (none)) = some (r1, r2) := H
                  have A22 := Aside0.mk A220
                  clear A220
                  by_cases c23 : t392.size + t401.size ≤ 9223372036854775807
                  · rw [if_pos c23] at H
                    have c23b0 := eq_true c23
                    have c23b1 : decide (t392.size + t401.size ≤ 9223372036854775807) = true := decide_eq_true c23
                    try have c23b2 : (9223372036854775807 < t392.size + t401.size) = False := eq_false (Nat.not_lt.2 c23)
                    simp only [Option.some.injEq, Prod.mk.injEq] at H
                    obtain ⟨rfl, rfl⟩ := H
                    have p400 : 0 ≤ ((ji18) : Int) := of_decide_eq_true (by first | (with_reducible assumption) | assumption)
                    have q400 : (ji18) < (l1.length : Int) := of_decide_eq_true (by first | (with_reducible assumption) | assumption)
                    obtain ⟨ad400, A400_3, c400_3, e400, hx400_0, hx400_1, hx400_2, hx400_3, hl400_3, hi400_3⟩ := at_T30 HR1.out (ji18) p400 q400
                    cases e400
                    replace hx400_0 := (HB.out.cell (World.block_lt_of_cell? w _ hx400_0)).trans hx400_0
                    replace hx400_1 := (HB.out.cell (World.block_lt_of_cell? w _ hx400_1)).trans hx400_1
                    replace hx400_2 := (HB.out.cell (World.block_lt_of_cell? w _ hx400_2)).trans hx400_2
                    replace hx400_3 := (HB.out.cell (World.block_lt_of_cell? w _ hx400_3)).trans hx400_3
                    have HR400_3 := Aside0.mk hi400_3
                    have HC400_3 := Aside0.mk hl400_3
                    clear hi400_3 hl400_3
                    replace p400 := eq_true p400
                    replace q400 := eq_true q400
                    go_wp2_with (first | ((with_reducible refine gate_callee (f := 29) rfl ?_); refine goesL_ (some 50) rfl rfl Try.func29 (by kernel_rfl) rfl #[.slice (some ad400) l1.length c1] rfl (by (try simp only [List.map_toArray, List.map_cons, List.map_nil]); first | done | rfl | (simp only [List.length_drop, List.length_take]; rfl)) ?_; (with_reducible refine (juratref30_Told.calls k1 _ _ l1 t401 _ ?side1 ?side2 A22.out).mono ?_); (case side1 => repeat (first | exact (Kd.C_below HR1.out HB.out) | (with_reducible refine Kd.C_alloc ?_ _) | (with_reducible refine Kd.C_drewN ?_ _) | (with_reducible refine Kd.C_drew ?_))); (case side2 => exact HC1.out); rintro e w24 ⟨rfl, hb⟩; refine ⟨_, rfl, ?_⟩; have n0_ := Aside0.mk (below_step (by repeat (first | (with_reducible first | exact HB.out | apply below_alloc | apply pw_below_drewN | apply below_drew1) | exact HB.out)) hb); clear HB; have HB := n0_; clear n0_; (try clear hb); (try clear hb2); (try clear hk); (try clear hi)))
                    go_ret2
                    exact ⟨by first | rfl | (simp [errW_none, errW_some] <;> rfl) | (simp only [← hji18]; first | rfl | (simp [errW_none, errW_some] <;> rfl)) | (simp [*, errW_none, errW_some] <;> rfl), by repeat (first | (with_reducible first | exact HB.out | apply below_alloc | apply pw_below_drewN | apply below_drew1) | exact HB.out)⟩
                  · rw [if_neg c23] at H
                    exact absurd H (by simp)
                · rw [if_neg c21] at H
                  have c21b0 : (((rd_T30 l1 (ji18)).f0) == 6) = false := beq_eq_false_iff_ne.mpr c21
                  have c21b1 : (((rd_T30 l1 (ji18)).f0) != 6) = true := bne_iff_ne.mpr c21
                  simp only [Option.some.injEq, Prod.mk.injEq] at H
                  obtain ⟨rfl, rfl⟩ := H
                  have p400 : 0 ≤ ((ji18) : Int) := of_decide_eq_true (by first | (with_reducible assumption) | assumption)
                  have q400 : (ji18) < (l1.length : Int) := of_decide_eq_true (by first | (with_reducible assumption) | assumption)
                  obtain ⟨ad400, A400_3, c400_3, e400, hx400_0, hx400_1, hx400_2, hx400_3, hl400_3, hi400_3⟩ := at_T30 HR1.out (ji18) p400 q400
                  cases e400
                  replace hx400_0 := (HB.out.cell (World.block_lt_of_cell? w _ hx400_0)).trans hx400_0
                  replace hx400_1 := (HB.out.cell (World.block_lt_of_cell? w _ hx400_1)).trans hx400_1
                  replace hx400_2 := (HB.out.cell (World.block_lt_of_cell? w _ hx400_2)).trans hx400_2
                  replace hx400_3 := (HB.out.cell (World.block_lt_of_cell? w _ hx400_3)).trans hx400_3
                  have HR400_3 := Aside0.mk hi400_3
                  have HC400_3 := Aside0.mk hl400_3
                  clear hi400_3 hl400_3
                  replace p400 := eq_true p400
                  replace q400 := eq_true q400
                  go_wp2
                  go_ret2
                  exact ⟨by first | rfl | (simp [errW_none, errW_some] <;> rfl) | (simp only [← hji18]; first | rfl | (simp [errW_none, errW_some] <;> rfl)) | (simp [*, errW_none, errW_some] <;> rfl), by repeat (first | (with_reducible first | exact HB.out | apply below_alloc | apply pw_below_drewN | apply below_drew1) | exact HB.out)⟩
              · rw [if_neg c20] at H
                exact absurd H (by simp)
            · rw [if_neg c19] at H
              exact absurd H (by simp)
  · rw [if_neg c4] at H
    have c4b0 : (t393 == 0) = false := beq_eq_false_iff_ne.mpr c4
    have c4b1 : (t393 != 0) = true := bne_iff_ne.mpr c4
    simp only [Option.some.injEq, Prod.mk.injEq] at H
    obtain ⟨rfl, rfl⟩ := H
    go_enter Try.func12, Try.ntmps12
    go_wp2_with (first | ((with_reducible refine gate_callee (f := 26) rfl ?_); refine goesL_ (some 12) rfl rfl Try.func26 (by kernel_rfl) rfl #[.string a0] rfl (by (try simp only [List.map_toArray, List.map_cons, List.map_nil]); first | done | rfl | (simp only [List.length_drop, List.length_take]; rfl)) ?_; (with_reducible refine (juratref29_Put.calls k a0 t392 t393 _ A3.out).mono ?_); rintro e w25 ⟨rfl, hb⟩; refine ⟨_, rfl, ?_⟩; have n0_ := Aside0.mk (below_step (by repeat (first | (with_reducible first | exact HB.out | apply below_alloc | apply pw_below_drewN | apply below_drew1) | exact HB.out)) hb); clear HB; have HB := n0_; clear n0_; (try clear hb); (try clear hb2); (try clear hk); (try clear hi)))
    go_ret2
    exact ⟨by first | rfl | (simp [errW_none, errW_some] <;> rfl) | (simp [*, errW_none, errW_some] <;> rfl), by repeat (first | (with_reducible first | exact HB.out | apply below_alloc | apply pw_below_drewN | apply below_drew1) | exact HB.out)⟩
end Go.Proofs.Ytejcopppchaneaa.PF
end
section
namespace Go.Proofs.Ytejcopppchaneaa.Pure
open Go.RowKit Go.Proofs.YtejcopppchaneaaW.PrintWords Go.Proofs.YtejcopppchaneaaW.PrintLast Go.Proofs.YtejcopppchaneaaW.PrintMore Go.Proofs.Ytejcopppchaneaa.PF
theorem rput_go : ∀ (n : Nat), n < 9223372036854775808 → Ev (fun k => juratref02_Put.f k (n : Int)) (strOfNums (vput n)) := by
  intro n
  induction n using Nat.strongRecOn with
  | _ n ih =>
    intro hn
    by_cases h : n < 128
    · refine ev_add 1 (fun k => ?_)
      rw [juratref02_Put.f, if_neg (by omega), if_pos (by omega), vput_small h, show (n : Int) % 256 = (n : Int) by omega]
    · have h9 := vput_nine (n := n / 128) (by omega)
      have hB : IsB [((n % 128 + 128 : Nat) : Int)] := by intro x hx; rw [List.mem_singleton] at hx; omega
      refine Ev.step (fun k => by rw [juratref02_Put.f, if_neg (by omega), if_neg (by omega), Option.bind_some, Int.tmod_eq_emod_of_nonneg (by omega), Int.tdiv_eq_ediv_of_nonneg (by omega), jw64 (n := (n : Int) / 128) (by omega) (by omega), jw64 (n := (n : Int) % 128 + 128) (by omega) (by omega), show (n : Int) / 128 = ((n / 128 : Nat) : Int) from rfl, show ((n : Int) % 128 + 128) % 256 = ((n % 128 + 128 : Nat) : Int) by omega]) ?_
      refine Ev.bind (ih (n / 128) (by omega) (by omega)) ?_
      have hsz : (strOfNums [((n % 128 + 128 : Nat) : Int)]).size + (strOfNums (vput (n / 128))).size ≤ 9223372036854775807 := by
        rw [strOfNums_size, strOfNums_size]; simp; omega
      exact ev_is (fun k => by rw [if_pos hsz, ← strOfNums_append hB (isB_vput _), List.singleton_append, ← vput_big h])
theorem rput_ev {n : Int} (h : n < 9223372036854775808) : Ev (fun k => juratref02_Put.f k n) (strOfNums (vp n)) := by
  unfold vp
  by_cases h0 : n < 0
  · rw [if_pos h0]
    exact ev_add 1 (fun k => by rw [juratref02_Put.f, if_pos h0]; rfl)
  · rw [if_neg h0]
    obtain ⟨m, rfl⟩ := Int.eq_ofNat_of_zero_le (by omega : 0 ≤ n)
    rw [Int.toNat_natCast]
    exact rput_go m (by omega)
def rises : Int → List Int → Bool
  | _, [] => true
  | ah, x :: r => decide (ah < x ∧ x < 65535) && rises x r
def chk (a b c : Int) (l : List Int) : Bool :=
  if a = 4 then (decide (b = 0 ∧ c = 0) && rises (-1) l) else (decide (l = []) && (isR b && (isR c && decide (1 ≤ a ∧ a ≤ 6 ∧ (a < 4 → 0 < b ∧ 0 < c)))))
def gaps : Int → List Int → List Int
  | _, [] => []
  | ah, x :: r => vp (x - ah) ++ gaps x r
def rp (a b c : Int) (l : List Int) : List Int := if a = 4 then 4 :: (vp (l.length : Int) ++ gaps 0 l) else a :: (vp b ++ vp c)
def rput (a b c : Int) (l : List Int) : ByteArray × Int := if chk a b c l = true then (strOfNums (rp a b c l), 0) else ((⟨#[]⟩ : ByteArray), 2)
theorem rchk_go (a b c : Int) (l : List Int) (hl : l.length ≤ 1000000) : ∀ (d i : Nat) (ah : Int), i + d = l.length → (i = 0 ∧ ah = -1 ∨ ∃ h : i - 1 < l.length, 0 < i ∧ ah = l[i - 1] ∧ 0 ≤ ah) → Ev (fun k => juratref28_Check.l0 k (i : Int) a b c l) (decide (b = 0 ∧ c = 0) && rises ah (l.drop i)) := by
  intro d
  induction d with
  | zero =>
    intro i ah hi _
    rw [List.drop_eq_nil_of_le (by omega)]
    refine Ev.step (fun k => by rw [juratref28_Check.l0, if_neg (by omega)]) ?_
    simp only [rises, Bool.and_true]
    by_cases hb : b = 0
    · by_cases hc : c = 0
      · rw [decide_eq_true ⟨hb, hc⟩]
        exact ev_is (fun k => by rw [if_pos hb, hc]; rfl)
      · rw [decide_eq_false (fun h => hc h.2)]
        exact ev_is (fun k => by rw [if_pos hb]; congr 1; exact beq_eq_false_iff_ne.mpr hc)
    · rw [decide_eq_false (fun h => hb h.1)]
      exact ev_is (fun k => by rw [if_neg hb])
  | succ d ih =>
    intro i ah hi hah
    have hlt : i < l.length := by omega
    rw [List.drop_eq_getElem_cons hlt]
    simp only [rises]
    refine Ev.step (fun k => by rw [juratref28_Check.l0, if_pos (by omega), if_pos (by omega), rd_get l i hlt]) ?_
    by_cases h0 : l[i] < 0
    · rw [decide_eq_false (show ¬ (ah < l[i] ∧ l[i] < 65535) by rcases hah with h | ⟨_, _, _, h⟩ <;> omega), Bool.false_and, Bool.and_false]
      exact ev_is (fun k => by rw [if_pos h0])
    by_cases h1 : l[i] > 65534
    · rw [decide_eq_false (show ¬ (ah < l[i] ∧ l[i] < 65535) by omega), Bool.false_and, Bool.and_false]
      exact ev_is (fun k => by rw [if_neg h0, if_pos h1])
    refine Ev.congr (fun k => by rw [if_neg h0, if_neg h1]) ?_
    have hnext := ih (i + 1) l[i] (by omega) (.inr ⟨by omega, by omega, by simp, by omega⟩)
    have e1 : wrap64 ((i : Int) + 1) = ((i + 1 : Nat) : Int) := by rw [jw64 (by omega) (by omega)]; rfl
    by_cases hi0 : (i : Int) > 0
    · rcases hah with ⟨h, _⟩ | ⟨hx, _, he, _⟩
      · omega
      · have e2 : wrap64 ((i : Int) - 1) = ((i - 1 : Nat) : Int) := by rw [jw64 (by omega) (by omega)]; omega
        refine Ev.congr (fun k => by rw [if_pos hi0, e2, if_pos (by omega), if_pos (by omega), rd_get l (i - 1) hx, ← he]) ?_
        by_cases h2 : l[i] ≤ ah
        · rw [decide_eq_false (show ¬ (ah < l[i] ∧ l[i] < 65535) by omega), Bool.false_and, Bool.and_false]
          exact ev_is (fun k => by rw [if_pos h2])
        · rw [decide_eq_true (show (ah < l[i] ∧ l[i] < 65535) by omega), Bool.true_and]
          exact Ev.congr (fun k => by rw [if_neg h2, e1]) hnext
    · rcases hah with ⟨_, h⟩ | ⟨_, _, _, _⟩
      · rw [decide_eq_true (show (ah < l[i] ∧ l[i] < 65535) by omega), Bool.true_and]
        exact Ev.congr (fun k => by rw [if_neg hi0, e1]) hnext
      · omega
theorem rchk_ev (a b c : Int) (l : List Int) (hl : l.length ≤ 1000000) : Ev (fun k => juratref28_Check.f k a b c l) (chk a b c l) := by
  unfold juratref28_Check.f chk
  by_cases h4 : a = 4
  · simp only [if_pos h4]
    exact rchk_go a b c l hl l.length 0 (-1) (by omega) (.inl ⟨rfl, rfl⟩)
  · simp only [if_neg h4]
    by_cases h1 : a < 1
    · rw [decide_eq_false (fun h => by omega : ¬ (1 ≤ a ∧ a ≤ 6 ∧ (a < 4 → 0 < b ∧ 0 < c))), Bool.and_false, Bool.and_false, Bool.and_false]
      exact ev_is (fun k => by rw [if_pos h1])
    by_cases h6 : a > 6
    · rw [decide_eq_false (fun h => by omega : ¬ (1 ≤ a ∧ a ≤ 6 ∧ (a < 4 → 0 < b ∧ 0 < c))), Bool.and_false, Bool.and_false, Bool.and_false]
      exact ev_is (fun k => by rw [if_neg h1, if_pos h6])
    refine Ev.congr (fun k => by rw [if_neg h1, if_neg h6]) ?_
    by_cases hn : (l.length : Int) > 0
    · have : l ≠ [] := by intro h; rw [h] at hn; simp at hn
      rw [decide_eq_false this, Bool.false_and]
      exact ev_is (fun k => by rw [if_pos hn])
    · have : l = [] := List.eq_nil_of_length_eq_zero (by omega)
      rw [decide_eq_true this, Bool.true_and]
      refine Ev.congr (fun k => by rw [if_neg hn, ris_is, Option.bind_some]) ?_
      cases isR b with
      | false => exact ev_is (fun k => by rw [if_neg (by decide)]; rfl)
      | true =>
        refine Ev.congr (fun k => by rw [if_pos rfl, ris_is, Option.bind_some]) ?_
        cases isR c with
        | false => exact ev_is (fun k => by rw [if_neg (by decide)]; rfl)
        | true =>
          rw [Bool.true_and, Bool.true_and]
          refine Ev.congr (fun k => by rw [if_pos rfl]) ?_
          by_cases h3 : a > 3
          · rw [decide_eq_true (show 1 ≤ a ∧ a ≤ 6 ∧ (a < 4 → 0 < b ∧ 0 < c) from ⟨by omega, by omega, fun h => by omega⟩)]
            exact ev_is (fun k => by rw [if_pos h3])
          · refine Ev.congr (fun k => by rw [if_neg h3]) ?_
            by_cases hb : b > 0
            · by_cases hc : c > 0
              · rw [decide_eq_true (show 1 ≤ a ∧ a ≤ 6 ∧ (a < 4 → 0 < b ∧ 0 < c) from ⟨by omega, by omega, fun _ => ⟨hb, hc⟩⟩)]
                exact ev_is (fun k => by rw [if_pos hb, decide_eq_true hc])
              · rw [decide_eq_false (show ¬ (1 ≤ a ∧ a ≤ 6 ∧ (a < 4 → 0 < b ∧ 0 < c)) from fun h => hc (h.2.2 (by omega)).2)]
                exact ev_is (fun k => by rw [if_pos hb, decide_eq_false hc])
            · rw [decide_eq_false (show ¬ (1 ≤ a ∧ a ≤ 6 ∧ (a < 4 → 0 < b ∧ 0 < c)) from fun h => hb (h.2.2 (by omega)).1)]
              exact ev_is (fun k => by rw [if_neg hb])
theorem isB_gaps : ∀ (l : List Int) (ah : Int), IsB (gaps ah l)
  | [], _ => fun x hx => by cases hx
  | x :: r, ah => isB_append (isB_vp _) (isB_gaps r x)
theorem rises_bound : ∀ (l : List Int) (ah : Int), -1 ≤ ah → rises ah l = true → ∀ x ∈ l, 0 ≤ x ∧ x < 65535
  | [], _, _, _ => fun x hx => by cases hx
  | y :: r, ah, h0, h => by
    simp only [rises, Bool.and_eq_true, decide_eq_true_eq] at h
    intro x hx
    rcases List.mem_cons.1 hx with e | e
    · rw [e]; omega
    · exact rises_bound r y (by omega) h.2 x e
theorem rput_rec_go (a b c : Int) (l : List Int) (hl : l.length ≤ 100000) (hx : ∀ x ∈ l, 0 ≤ x ∧ x < 65535) : ∀ (d i : Nat) (ah : Int) (acc : List Int), i + d = l.length → IsB acc → acc.length ≤ 20 + 9 * i → (i = 0 ∧ ah = 0 ∨ ∃ h : i - 1 < l.length, 0 < i ∧ ah = l[i - 1]) →
    Ev (fun k => juratref28_Put.l0 k (strOfNums acc) (i : Int) a b c l) (strOfNums (acc ++ gaps ah (l.drop i)), 0) := by
  intro d
  induction d with
  | zero =>
    intro i ah acc hi _ _ _
    rw [List.drop_eq_nil_of_le (by omega)]
    exact ev_add 1 (fun k => by rw [juratref28_Put.l0, if_neg (by omega)]; simp only [gaps, List.append_nil])
  | succ d ih =>
    intro i ah acc hi hB hal hah
    have hlt : i < l.length := by omega
    have hxi := hx l[i] (List.getElem_mem hlt)
    rw [List.drop_eq_getElem_cons hlt]
    simp only [gaps]
    rw [← List.append_assoc]
    have e1 : wrap64 ((i : Int) + 1) = ((i + 1 : Nat) : Int) := by rw [jw64 (by omega) (by omega)]; rfl
    refine Ev.step (fun k => by rw [juratref28_Put.l0, if_pos (by omega)]) ?_
    rcases hah with ⟨h0, ha⟩ | ⟨hy, hp, ha⟩
    · subst h0
      have h9 := vp_nine (n := l[0]) (by omega)
      have e0 : rd l (0 : Int) = l[0] := rd_get l 0 hlt
      refine Ev.congr (fun k => by rw [if_pos (show ((0 : Nat) : Int) = 0 from rfl), if_pos (by omega), e0]) ?_
      refine Ev.bind (rput_ev (n := l[0]) (by omega)) ?_
      rw [← strOfNums_append hB (isB_vp _), strOfNums_size, strOfNums_size]
      refine Ev.congr (fun k => by rw [if_pos (by omega), e1]) ?_
      rw [ha, Int.sub_zero]
      exact ih 1 l[0] _ (by omega) (isB_append hB (isB_vp _)) (by rw [List.length_append]; omega) (.inr ⟨by omega, by omega, rfl⟩)
    · have hxp := hx l[i - 1] (List.getElem_mem hy)
      have e2 : wrap64 ((i : Int) - 1) = ((i - 1 : Nat) : Int) := by rw [jw64 (by omega) (by omega)]; omega
      have h9 := vp_nine (n := l[i] - ah) (by omega)
      refine Ev.congr (fun k => by rw [if_neg (by omega), if_pos (by omega), e2, if_pos (by omega), if_pos (by omega), rd_get l i hlt, rd_get l (i - 1) hy, ← ha, jw64 (n := l[i] - ah) (by omega) (by omega)]) ?_
      refine Ev.bind (rput_ev (n := l[i] - ah) (by omega)) ?_
      rw [← strOfNums_append hB (isB_vp _), strOfNums_size, strOfNums_size]
      refine Ev.congr (fun k => by rw [if_pos (by omega), e1]) ?_
      exact ih (i + 1) l[i] _ (by omega) (isB_append hB (isB_vp _)) (by rw [List.length_append]; omega) (.inr ⟨by omega, by omega, by simp⟩)
theorem rrec_put_ev (a b c : Int) (l : List Int) (hl : l.length ≤ 100000) : Ev (fun k => juratref28_Put.f k a b c l) (rput a b c l) := by
  unfold juratref28_Put.f rput
  refine Ev.bind (rchk_ev a b c l (by omega)) ?_
  by_cases hc : chk a b c l = true
  · simp only [if_pos hc]
    unfold rp
    unfold chk at hc
    by_cases h4 : a = 4
    · simp only [if_pos h4] at hc ⊢
      simp only [Bool.and_eq_true] at hc
      have hbd := rises_bound l (-1) (by omega) hc.2
      have h9 := vp_nine (n := (l.length : Int)) (by omega)
      have hB4 : IsB [(4 : Int)] := by intro x hx; rw [List.mem_singleton] at hx; omega
      refine Ev.congr (fun k => by rw [Option.bind_some, show a % 256 = 4 by omega]) ?_
      refine Ev.bind (rput_ev (n := (l.length : Int)) (by omega)) ?_
      rw [← strOfNums_append hB4 (isB_vp _), strOfNums_size, strOfNums_size]
      refine Ev.congr (fun k => by rw [if_pos (by simp; omega)]) ?_
      exact rput_rec_go a b c l hl hbd l.length 0 0 _ (by omega) (isB_append hB4 (isB_vp _)) (by simp; omega) (.inl ⟨rfl, rfl⟩)
    · simp only [if_neg h4] at hc ⊢
      simp only [isR, Bool.and_eq_true, decide_eq_true_eq] at hc
      have hb9 := vp_nine (n := b) (by omega)
      have hc9 := vp_nine (n := c) (by omega)
      have hBa : IsB [a] := by intro x hx; rw [List.mem_singleton] at hx; omega
      refine Ev.congr (fun k => by rw [Option.bind_some, show a % 256 = a by omega]) ?_
      refine Ev.bind (rput_ev (n := b) (by omega)) ?_
      rw [← strOfNums_append hBa (isB_vp _), strOfNums_size, strOfNums_size]
      refine Ev.congr (fun k => by rw [if_pos (by simp; omega)]) ?_
      refine Ev.bind (rput_ev (n := c) (by omega)) ?_
      rw [← strOfNums_append (isB_append hBa (isB_vp _)) (isB_vp _), strOfNums_size, strOfNums_size]
      exact ev_is (fun k => by rw [if_pos (by simp; omega)]; simp)
  · simp only [if_neg hc]
    exact Ev.now _
theorem gaps_len : ∀ (l : List Int) (ah : Int), 0 ≤ ah → (∀ x ∈ l, 0 ≤ x ∧ x < 65535) → (gaps ah l).length ≤ 9 * l.length
  | [], _, _, _ => by simp [gaps]
  | x :: r, ah, h0, h => by
    have hx := h x (List.mem_cons_self ..)
    have := gaps_len r x hx.1 (fun y hy => h y (List.mem_cons_of_mem _ hy))
    have h9 := vp_nine (n := x - ah) (by omega)
    simp only [gaps, List.length_append, List.length_cons]
    omega
theorem isB_rp {a b c : Int} {l : List Int} (ha : 0 ≤ a ∧ a ≤ 255) : IsB (rp a b c l) := by
  unfold rp
  split
  · intro x hx
    rcases List.mem_cons.1 hx with h | h
    · omega
    · exact isB_append (isB_vp _) (isB_gaps l 0) x h
  · intro x hx
    rcases List.mem_cons.1 hx with h | h
    · omega
    · exact isB_append (isB_vp _) (isB_vp _) x h
theorem rp_len {a b c : Int} {l : List Int} (hc : chk a b c l = true) (hl : l.length ≤ 100) : (rp a b c l).length ≤ 1000 := by
  unfold chk at hc
  unfold rp
  by_cases h4 : a = 4
  · simp only [if_pos h4, Bool.and_eq_true] at hc ⊢
    have h1 := gaps_len l 0 (by omega) (rises_bound l (-1) (by omega) hc.2)
    have h9 := vp_nine (n := (l.length : Int)) (by omega)
    rw [List.length_cons, List.length_append]; omega
  · simp only [if_neg h4, isR, Bool.and_eq_true, decide_eq_true_eq] at hc ⊢
    have h9 := vp_nine (n := b) (by omega)
    have h9' := vp_nine (n := c) (by omega)
    rw [List.length_cons, List.length_append]; omega
def allGo : List S30 → S30 → List S30
  | [], m => [m]
  | r :: rs, m => if cmb m r = true then allGo rs (jn2 m r) else m :: allGo rs r
def mgS : List S30 → List S30
  | [] => []
  | r :: rs => allGo rs r
def canonS : List S30 → Bool
  | a :: b :: r => !cmb a b && canonS (b :: r)
  | _ => true
theorem okR_jn {a b : S30} (ha : okR a) (hc : cmb a b = true) : okR (jn2 a b) := by
  unfold cmb at hc
  rw [decide_eq_true_iff] at hc
  obtain ⟨h0, h1, h2, h3⟩ := ha
  exact ⟨h0, h1, (by unfold jn2; constructor <;> simp only <;> omega), (by unfold jn2; simp)⟩
theorem okR_allGo : ∀ (l : List S30) (m : S30), okR m → (∀ x ∈ l, okR x) → ∀ x ∈ allGo l m, okR x
  | [], m, hm, _, x, hx => by rw [allGo, List.mem_singleton] at hx; rw [hx]; exact hm
  | r :: rs, m, hm, hl, x, hx => by
    rw [allGo] at hx
    by_cases hc : cmb m r = true
    · rw [if_pos hc] at hx
      exact okR_allGo rs _ (okR_jn hm hc) (fun y h => hl y (List.mem_cons_of_mem _ h)) x hx
    · rw [if_neg hc, List.mem_cons] at hx
      rcases hx with rfl | hx
      · exact hm
      · exact okR_allGo rs r (hl r (List.mem_cons_self ..)) (fun y h => hl y (List.mem_cons_of_mem _ h)) x hx
theorem okR_all (l : List S30) (h : ∀ x ∈ l, okR x) : ∀ x ∈ mgS l, okR x := by
  cases l with
  | nil => intro x hx; cases hx
  | cons r rs => exact okR_allGo rs r (h r (List.mem_cons_self ..)) (fun y hy => h y (List.mem_cons_of_mem _ hy))
theorem len_allGo : ∀ (l : List S30) (m : S30), (allGo l m).length ≤ l.length + 1
  | [], _ => by simp [allGo]
  | r :: rs, m => by
    rw [allGo]
    by_cases hc : cmb m r = true
    · rw [if_pos hc]; have := len_allGo rs (jn2 m r); simp only [List.length_cons]; omega
    · rw [if_neg hc]; have := len_allGo rs r; simp only [List.length_cons]; omega
theorem len_all (l : List S30) : (mgS l).length ≤ l.length := by
  cases l with
  | nil => simp [mgS]
  | cons r rs => exact len_allGo rs r
def eqR (x y : S30) : Bool := decide (x.f0 = y.f0 ∧ x.f1 = y.f1 ∧ x.f2 = y.f2 ∧ x.f3 = y.f3)
theorem eqR_self (x : S30) : eqR x x = true := by unfold eqR; simp
theorem same24_ev (x y : S30) (hl : x.f3.length ≤ 1000000000) : Ev (fun k => juratref24_Same.f k x.f0 x.f1 x.f2 x.f3 y.f0 y.f1 y.f2 y.f3) (eqR x y) := by
  unfold juratref24_Same.f eqR
  by_cases h0 : x.f0 = y.f0
  · by_cases h1 : x.f1 = y.f1
    · by_cases h2 : x.f2 = y.f2
      · refine Ev.congr (fun k => by rw [if_pos h0, if_pos h1, if_pos h2]) ?_
        rw [show decide (x.f0 = y.f0 ∧ x.f1 = y.f1 ∧ x.f2 = y.f2 ∧ x.f3 = y.f3) = decide (x.f3 = y.f3) by rw [decide_eq_decide]; exact ⟨fun h => h.2.2.2, fun h => ⟨h0, h1, h2, h⟩⟩]
        exact Ev.bind (same_ev _ _ hl) (Ev.now _)
      · rw [decide_eq_false (fun h => h2 h.2.2.1)]
        exact Ev.congr (fun k => by rw [if_pos h0, if_pos h1, if_neg h2]) (Ev.now _)
    · rw [decide_eq_false (fun h => h1 h.2.1)]
      exact Ev.congr (fun k => by rw [if_pos h0, if_neg h1]) (Ev.now _)
  · rw [decide_eq_false (fun h => h0 h.1)]
    exact Ev.congr (fun k => by rw [if_neg h0]) (Ev.now _)
theorem same26_go (l : List S30) (hx : ∀ x ∈ l, okR x) (hl : l.length ≤ 1000) : ∀ (d i : Nat), i + d = l.length → Ev (fun k => juratref26_Same.l0 k l l (i : Int)) true := by
  intro d
  induction d with
  | zero =>
    intro i h
    exact ev_add 1 (fun k => by rw [juratref26_Same.l0, if_neg (by omega)])
  | succ d ih =>
    intro i h
    have h1 : i < l.length := by omega
    refine Ev.step (fun k => by rw [juratref26_Same.l0, if_pos (by omega), if_pos (by omega), if_pos (by omega), rdT_get l i h1]) ?_
    have hs := same24_ev l[i] l[i] (by have := (hx _ (List.getElem_mem h1)).2.2.2; omega)
    rw [eqR_self] at hs
    refine Ev.bind hs ?_
    refine Ev.congr (fun k => by rw [if_pos rfl, jw64 (by omega) (by omega)]) ?_
    exact_mod_cast ih (i + 1) (by omega)
theorem same26_ev (l : List S30) (hx : ∀ x ∈ l, okR x) (hl : l.length ≤ 1000) : Ev (fun k => juratref26_Same.f k l l) true := by
  unfold juratref26_Same.f
  refine Ev.congr (fun k => by rw [if_pos rfl]) ?_
  exact same26_go l hx hl l.length 0 (by omega)
theorem rd_last (acc : List S30) (m : S30) : rd_T30 (acc ++ [m]) ((acc.length : Nat) : Int) = m := by
  rw [rdT_get _ _ (by simp)]
  simp
theorem S30_eta (x : S30) : (⟨x.f0, x.f1, x.f2, x.f3⟩ : S30) = x := rfl
theorem rall_go (l : List S30) (hx : ∀ x ∈ l, okR x) (hl : l.length ≤ 1000) : ∀ (d i : Nat) (acc : List S30) (m : S30), i + d = l.length → acc.length ≤ i → okR m → Ev (fun k => juratref27_All.l0 k l (acc ++ [m]) (i : Int)) (acc ++ allGo (l.drop i) m) := by
  intro d
  induction d with
  | zero =>
    intro i acc m h ha hm
    rw [List.drop_eq_nil_of_le (by omega)]
    exact ev_add 1 (fun k => by rw [juratref27_All.l0, if_neg (by omega)]; rfl)
  | succ d ih =>
    intro i acc m h ha hm
    have h1 : i < l.length := by omega
    have hlen : ((acc ++ [m]).length : Int) = (acc.length : Int) + 1 := by simp
    have w1 : wrap64 (((acc ++ [m]).length : Int) - 1) = (acc.length : Int) := by rw [hlen, jw64 (by omega) (by omega)]; omega
    rw [List.drop_eq_getElem_cons h1, allGo]
    refine Ev.step (fun k => by rw [juratref27_All.l0, if_pos (by omega), if_pos (by omega), w1, if_pos (by omega), if_pos (by omega), if_pos (by omega), rd_last, rdT_get l i h1]) ?_
    refine Ev.bind (rtwo_ev _ _ hm (hx _ (List.getElem_mem h1))) ?_
    unfold twoS
    by_cases hc : cmb m l[i] = true
    · rw [if_pos hc, if_pos hc]
      have e : (acc ++ [m]).set ((acc.length : Int)).toNat (⟨m.f0, m.f1, m.f2 + l[i].f2, []⟩ : S30) = acc ++ [jn2 m l[i]] := by
        rw [Int.toNat_natCast, List.set_append_right _ _ (by omega)]
        simp [jn2]
      refine Ev.congr (fun k => by simp only [if_true]; rw [e, jw64 (by omega) (by omega)]) ?_
      exact_mod_cast ih (i + 1) acc _ (by omega) (by omega) (okR_jn hm hc)
    · rw [if_neg hc, if_neg hc]
      refine Ev.congr (fun k => by simp only [Bool.false_eq_true, if_false]; rw [if_pos (by rw [List.length_append, List.length_singleton]; omega), S30_eta, jw64 (by omega) (by omega)]) ?_
      have := ih (i + 1) (acc ++ [m]) l[i] (by omega) (by simp; omega) (hx _ (List.getElem_mem h1))
      rw [show acc ++ m :: allGo (l.drop (i + 1)) l[i] = (acc ++ [m]) ++ allGo (l.drop (i + 1)) l[i] by simp]
      exact_mod_cast this
theorem rall_ev (l : List S30) (hx : ∀ x ∈ l, okR x) (hl : l.length ≤ 1000) : Ev (fun k => juratref27_All.f k l) (mgS l) := by
  unfold juratref27_All.f
  cases l with
  | nil => exact ev_add 1 (fun k => by rw [juratref27_All.l0, if_neg (by simp)]; rfl)
  | cons r rs =>
    refine Ev.step (fun k => by rw [juratref27_All.l0, if_pos (by simp), if_neg (by simp), if_pos (by omega), if_pos (by simp), show ((0 : Int)) = ((0 : Nat) : Int) from rfl, rdT_get _ 0 (by simp), jw64 (by omega) (by omega)]) ?_
    have := rall_go (r :: rs) hx hl rs.length 1 [] r (by simp; omega) (by simp) (hx r (List.mem_cons_self ..))
    simp only [List.nil_append, List.drop_succ_cons, List.drop_zero] at this
    exact this
theorem chk_kind {a b c : Int} {l : List Int} (h : chk a b c l = true) : 1 ≤ a ∧ a ≤ 6 := by
  unfold chk at h
  by_cases h4 : a = 4
  · omega
  · simp only [if_neg h4, isR, Bool.and_eq_true, decide_eq_true_eq] at h
    omega
def wB (x : S30) : List Int := if chk x.f0 x.f1 x.f2 x.f3 = true then rp x.f0 x.f1 x.f2 x.f3 else []
def toldL : List S30 → List Int
  | [] => []
  | x :: r => (if 0 < r.length ∨ x.f0 = 6 then wB x else []) ++ toldL r
theorem isB_wB (x : S30) : IsB (wB x) := by
  unfold wB
  by_cases h : chk x.f0 x.f1 x.f2 x.f3 = true
  · rw [if_pos h]
    have := chk_kind h
    exact isB_rp ⟨by omega, by omega⟩
  · rw [if_neg h]; intro y hy; cases hy
theorem wB_len (x : S30) (hl : x.f3.length ≤ 100000) : (wB x).length ≤ 900100 := by
  unfold wB
  by_cases hc : chk x.f0 x.f1 x.f2 x.f3 = true
  · rw [if_pos hc]
    unfold chk at hc
    unfold rp
    by_cases h4 : x.f0 = 4
    · simp only [if_pos h4, Bool.and_eq_true] at hc ⊢
      have h1 := gaps_len x.f3 0 (by omega) (rises_bound x.f3 (-1) (by omega) hc.2)
      have h9 := vp_nine (n := (x.f3.length : Int)) (by omega)
      rw [List.length_cons, List.length_append]; omega
    · simp only [if_neg h4, isR, Bool.and_eq_true, decide_eq_true_eq] at hc ⊢
      have h9 := vp_nine (n := x.f1) (by omega)
      have h9' := vp_nine (n := x.f2) (by omega)
      rw [List.length_cons, List.length_append]; omega
  · rw [if_neg hc]; simp
theorem rput_fst (x : S30) : (rput x.f0 x.f1 x.f2 x.f3).1 = strOfNums (wB x) := by
  unfold rput wB
  by_cases h : chk x.f0 x.f1 x.f2 x.f3 = true
  · rw [if_pos h, if_pos h]
  · rw [if_neg h, if_neg h]; rfl
theorem told_len : ∀ (m : List S30), (∀ x ∈ m, okR x) → (toldL m).length ≤ 900100 * m.length
  | [], _ => by simp [toldL]
  | x :: r, h => by
    have h1 := told_len r (fun y hy => h y (List.mem_cons_of_mem _ hy))
    have h2 := wB_len x (h x (List.mem_cons_self ..)).2.2.2
    simp only [toldL, List.length_append, List.length_cons]
    by_cases hc : 0 < r.length ∨ x.f0 = 6
    · rw [if_pos hc]; omega
    · rw [if_neg hc, List.length_nil]; omega
theorem isB_told : ∀ (m : List S30), IsB (toldL m)
  | [] => fun y hy => by cases hy
  | x :: r => by
    simp only [toldL]
    by_cases hc : 0 < r.length ∨ x.f0 = 6
    · rw [if_pos hc]; exact isB_append (isB_wB x) (isB_told r)
    · rw [if_neg hc, List.nil_append]; exact isB_told r
theorem told_go (m : List S30) (hx : ∀ x ∈ m, okR x) (hl : m.length ≤ 1000) : ∀ (d i : Nat) (acc : List Int), i + d = m.length → IsB acc → acc.length ≤ 900100 * i → Ev (fun k => juratref30_Told.l0 k m (strOfNums acc) (i : Int)) (strOfNums (acc ++ toldL (m.drop i))) := by
  intro d
  induction d with
  | zero =>
    intro i acc hi _ _
    rw [List.drop_eq_nil_of_le (by omega)]
    exact ev_add 1 (fun k => by rw [juratref30_Told.l0, if_neg (by omega)]; simp only [toldL, List.append_nil])
  | succ d ih =>
    intro i acc hi hB hal
    have h1 : i < m.length := by omega
    have w1 : wrap64 ((m.length : Int) - 1) = (m.length : Int) - 1 := jw64 (by omega) (by omega)
    have w2 : wrap64 ((i : Int) + 1) = ((i + 1 : Nat) : Int) := by rw [jw64 (by omega) (by omega)]; rfl
    have hxi := hx _ (List.getElem_mem h1)
    have hwl := wB_len m[i] hxi.2.2.2
    rw [List.drop_eq_getElem_cons h1]
    simp only [toldL]
    have hld : (m.drop (i + 1)).length = d := by rw [List.length_drop]; omega
    rw [hld, ← List.append_assoc]
    have hput := rrec_put_ev m[i].f0 m[i].f1 m[i].f2 m[i].f3 hxi.2.2.2
    have fin : Ev (fun k => juratref30_Told.l0 k m (strOfNums (acc ++ wB m[i])) (wrap64 ((i : Int) + 1))) (strOfNums ((acc ++ wB m[i]) ++ toldL (m.drop (i + 1)))) :=
      Ev.congr (fun k => by rw [w2]) (ih (i + 1) (acc ++ wB m[i]) (by omega) (isB_append hB (isB_wB _)) (by rw [List.length_append]; omega))
    by_cases hlast : 0 < d
    · rw [if_pos (Or.inl hlast)]
      refine Ev.step (fun k => by rw [juratref30_Told.l0, if_pos (by omega), w1, if_pos (by omega), if_pos (by omega), rdT_get m i h1]) ?_
      refine Ev.bind hput ?_
      rw [rput_fst, ← strOfNums_append hB (isB_wB _), strOfNums_size, strOfNums_size]
      exact Ev.congr (fun k => by rw [if_pos (by omega)]) fin
    · by_cases h6 : m[i].f0 = 6
      · rw [if_pos (Or.inr h6)]
        refine Ev.step (fun k => by rw [juratref30_Told.l0, if_pos (by omega), w1, if_neg (by omega), if_pos (by omega), rdT_get m i h1, if_pos h6]) ?_
        refine Ev.bind hput ?_
        rw [rput_fst, ← strOfNums_append hB (isB_wB _), strOfNums_size, strOfNums_size]
        exact Ev.congr (fun k => by rw [if_pos (by omega)]) fin
      · rw [if_neg (by omega), List.append_nil]
        refine Ev.step (fun k => by rw [juratref30_Told.l0, if_pos (by omega), w1, if_neg (by omega), if_pos (by omega), rdT_get m i h1, if_neg h6, w2]) ?_
        exact ih (i + 1) acc (by omega) hB (by omega)
theorem told_ev (l : List S30) (hx : ∀ x ∈ l, okR x) (hl : l.length ≤ 1000) : Ev (fun k => juratref30_Told.f k l) (strOfNums (toldL (mgS l))) := by
  unfold juratref30_Told.f
  refine Ev.bind (rall_ev l hx hl) ?_
  have h := told_go (mgS l) (okR_all l hx) (by have := len_all l; omega) (mgS l).length 0 [] (by omega) (fun y hy => by cases hy) (by simp)
  rw [List.drop_zero, List.nil_append] at h
  exact h
def mayE (p : Int) (r : S30) : Int := if p = 6 then 12 else if chk r.f0 r.f1 r.f2 r.f3 = true then (if r.f0 = 5 ∧ (p = 0 ∨ p = 5) then 9 else 0) else 2
theorem may_j0 (l : List S30) (hl : l.length ≤ 1000000) (r : S30) (hr : r.f3.length ≤ 100000) (p : Int) (hp : (l.length = 0 ∧ p = 0) ∨ ∃ h : l.length - 1 < l.length, p = (l[l.length - 1]).f0 ∧ p ≠ 0) : Ev (fun k => juratref30_May.j0 k l (p == 6) r.f0 r.f1 r.f2 r.f3) (mayE p r) := by
  unfold mayE
  by_cases h6 : p = 6
  · rw [if_pos h6]
    exact ev_add 1 (fun k => by rw [juratref30_May.j0, if_pos (beq_iff_eq.mpr h6)])
  · rw [if_neg h6]
    refine Ev.step (fun k => by rw [juratref30_May.j0, if_neg (by simpa using h6)]) ?_
    refine Ev.bind (rchk_ev _ _ _ _ (by omega)) ?_
    by_cases hc : chk r.f0 r.f1 r.f2 r.f3 = true
    · simp only [if_pos hc]
      by_cases h5 : r.f0 = 5
      · refine Ev.congr (fun k => by rw [if_pos h5]) ?_
        rcases hp with ⟨h0, hp⟩ | ⟨h, hp, h0⟩
        · rw [show (if r.f0 = 5 ∧ (p = 0 ∨ p = 5) then (9 : Int) else 0) = 9 from if_pos ⟨h5, Or.inl hp⟩]
          exact Ev.congr (fun k => by rw [if_pos (by omega)]) (Ev.now _)
        · have w1 : wrap64 ((l.length : Int) - 1) = ((l.length - 1 : Nat) : Int) := by rw [jw64 (by omega) (by omega)]; omega
          refine Ev.congr (fun k => by rw [if_neg (by omega), w1, if_pos (by omega), if_pos (by omega), rdT_get l _ h, ← hp]) ?_
          by_cases hq : p = 5
          · rw [show (if r.f0 = 5 ∧ (p = 0 ∨ p = 5) then (9 : Int) else 0) = 9 from if_pos ⟨h5, Or.inr hq⟩]
            exact Ev.congr (fun k => by rw [if_pos hq]) (Ev.now _)
          · rw [show (if r.f0 = 5 ∧ (p = 0 ∨ p = 5) then (9 : Int) else 0) = 0 from if_neg (by omega)]
            exact Ev.congr (fun k => by rw [if_neg hq]) (Ev.now _)
      · rw [show (if r.f0 = 5 ∧ (p = 0 ∨ p = 5) then (9 : Int) else 0) = 0 from if_neg (fun h => h5 h.1)]
        exact Ev.congr (fun k => by rw [if_neg h5]) (Ev.now _)
    · simp only [if_neg hc]
      exact Ev.now _
theorem may_ev (l : List S30) (hl : l.length ≤ 1000000) (r : S30) (hr : r.f3.length ≤ 100000) (p : Int) (hp : (l.length = 0 ∧ p = 0) ∨ ∃ h : l.length - 1 < l.length, p = (l[l.length - 1]).f0 ∧ p ≠ 0) : Ev (fun k => juratref30_May.f k l r.f0 r.f1 r.f2 r.f3) (mayE p r) := by
  unfold juratref30_May.f
  have hj := may_j0 l hl r hr p hp
  rcases hp with ⟨h0, hp⟩ | ⟨h, hp, h0⟩
  · refine Ev.congr (fun k => by rw [if_neg (by omega), show false = (p == 6) by rw [hp]; rfl]) hj
  · have w1 : wrap64 ((l.length : Int) - 1) = ((l.length - 1 : Nat) : Int) := by rw [jw64 (by omega) (by omega)]; omega
    exact Ev.congr (fun k => by rw [if_pos (by omega), w1, if_pos (by omega), if_pos (by omega), rdT_get l _ h, ← hp]) hj
def goW : Int → List S30 → Int
  | p, [] => if p = 6 then 0 else 19
  | p, r :: rs => if mayE p r = 0 then goW r.f0 rs else mayE p r
theorem mayE_chk {p : Int} {r : S30} (h : mayE p r = 0) : p ≠ 6 ∧ chk r.f0 r.f1 r.f2 r.f3 = true ∧ ¬ (r.f0 = 5 ∧ (p = 0 ∨ p = 5)) := by
  unfold mayE at h
  by_cases h6 : p = 6
  · rw [if_pos h6] at h; exact absurd h (by decide)
  · rw [if_neg h6] at h
    by_cases hc : chk r.f0 r.f1 r.f2 r.f3 = true
    · rw [if_pos hc] at h
      by_cases h5 : r.f0 = 5 ∧ (p = 0 ∨ p = 5)
      · rw [if_pos h5] at h; exact absurd h (by decide)
      · exact ⟨h6, hc, h5⟩
    · rw [if_neg hc] at h; exact absurd h (by decide)
theorem mayE_of {p : Int} {r : S30} (h6 : p ≠ 6) (hc : chk r.f0 r.f1 r.f2 r.f3 = true) (h5 : ¬ (r.f0 = 5 ∧ (p = 0 ∨ p = 5))) : mayE p r = 0 := by
  unfold mayE
  rw [if_neg h6, if_pos hc, if_neg h5]
def finW (hd : ByteArray) (l : List S30) (g : Int) : ByteArray × Int := if g = 0 then (hd ++ strOfNums (toldL (mgS l)), 0) else ((⟨#[]⟩ : ByteArray), g)
theorem finW_no (hd : ByteArray) (l : List S30) {g : Int} (h : g ≠ 0) : finW hd l g = ((⟨#[]⟩ : ByteArray), g) := if_neg h
def wholeS (hd : ByteArray) (l : List S30) : ByteArray × Int := finW hd l (goW 0 l)
theorem whole_go (hd : ByteArray) (hh : hd.size ≤ 1000000) (l : List S30) (hx : ∀ x ∈ l, okR x) (hl : l.length ≤ 1000) : ∀ (d i : Nat) (p : Int), i + d = l.length → (i = 0 ∧ p = 0 ∨ ∃ h : i - 1 < l.length, 0 < i ∧ p = (l[i - 1]).f0 ∧ p ≠ 0) →
    Ev (fun k => juratref30_Whole.l0 k l hd (i : Int)) (finW hd l (goW p (l.drop i))) := by
  intro d
  induction d with
  | zero =>
    intro i p hi hp
    rw [List.drop_eq_nil_of_le (by omega)]
    refine Ev.step (fun k => by rw [juratref30_Whole.l0, if_neg (by omega)]) ?_
    simp only [goW]
    rcases hp with ⟨h0, hp⟩ | ⟨h, h0, hp, hn⟩
    · rw [if_neg (show ¬ p = 6 by omega), finW_no _ _ (by decide)]
      exact Ev.congr (fun k => by rw [if_pos (by omega)]) (Ev.now _)
    · have w1 : wrap64 ((l.length : Int) - 1) = ((i - 1 : Nat) : Int) := by rw [jw64 (by omega) (by omega)]; omega
      refine Ev.congr (fun k => by rw [if_neg (by omega), w1, if_pos (by omega), if_pos (by omega), rdT_get l _ h, ← hp]) ?_
      by_cases h6 : p = 6
      · rw [if_pos h6, show finW hd l 0 = _ from if_pos rfl]
        refine Ev.congr (fun k => by rw [if_pos h6]) ?_
        refine Ev.bind (told_ev l hx hl) ?_
        have h1 := told_len (mgS l) (okR_all l hx)
        have h2 := len_all l
        rw [strOfNums_size]
        exact Ev.congr (fun k => by rw [if_pos (by omega)]) (Ev.now _)
      · rw [if_neg h6, finW_no _ _ (by decide)]
        exact Ev.congr (fun k => by rw [if_neg h6]) (Ev.now _)
  | succ d ih =>
    intro i p hi hp
    have h1 : i < l.length := by omega
    have w2 : wrap64 ((i : Int) + 1) = ((i + 1 : Nat) : Int) := by rw [jw64 (by omega) (by omega)]; rfl
    rw [List.drop_eq_getElem_cons h1]
    simp only [goW]
    refine Ev.step (fun k => by rw [juratref30_Whole.l0, if_pos (by omega), if_pos (by omega), if_pos (by omega), rdT_get l i h1, Int.toNat_natCast]) ?_
    have hlt : (l.take i).length = i := by rw [List.length_take]; omega
    refine Ev.bind (may_ev (l.take i) (by omega) l[i] (hx _ (List.getElem_mem h1)).2.2.2 p ?_) ?_
    · rcases hp with ⟨h0, hp⟩ | ⟨h, h0, hp, hn⟩
      · exact .inl ⟨by omega, hp⟩
      · refine .inr ⟨by omega, ?_, hn⟩
        rw [hp, List.getElem_take]
        simp only [hlt]
    · by_cases hm : mayE p l[i] = 0
      · rw [if_pos hm]
        refine Ev.congr (fun k => by rw [if_pos hm, w2]) ?_
        have hk := chk_kind (mayE_chk hm).2.1
        exact ih (i + 1) l[i].f0 (by omega) (.inr ⟨by omega, by omega, by simp, by omega⟩)
      · rw [if_neg hm, finW_no _ _ hm]
        exact Ev.congr (fun k => by rw [if_neg hm]) (Ev.now _)
theorem whole_ev (file hd : ByteArray) (hf : Ev (fun k => juratref29_Put.f k file) (hd, 0)) (hh : hd.size ≤ 1000000) (l : List S30) (hx : ∀ x ∈ l, okR x) (hl : l.length ≤ 1000) : Ev (fun k => juratref30_Whole.f k file l) (wholeS hd l) := by
  unfold juratref30_Whole.f
  refine Ev.bind hf ?_
  refine Ev.congr (fun k => by rw [if_pos rfl]) ?_
  have h := whole_go hd hh l hx hl l.length 0 0 (by omega) (.inl ⟨rfl, rfl⟩)
  rw [List.drop_zero] at h
  exact h
end Go.Proofs.Ytejcopppchaneaa.Pure
end
section
namespace Go.Proofs.Ytejcopppchaneaa.Pure
open Go.RowKit Go.Proofs.YtejcopppchaneaaW.PrintWords Go.Proofs.YtejcopppchaneaaW.PrintLast Go.Proofs.YtejcopppchaneaaW.PrintMore Go.Proofs.Ytejcopppchaneaa.PF
theorem cmb_more {p a b : S30} (h : cmb p a = false) (hc : cmb a b = true) : cmb p (jn2 a b) = false := by
  unfold cmb at *
  rw [decide_eq_false_iff_not] at *
  rw [decide_eq_true_iff] at hc
  obtain ⟨c1, c2, c3, c4, c5, c6, c7, c8, c9⟩ := hc
  rintro ⟨h1, h2, h3, h4, h5, h6, h7, h8, h9⟩
  simp only [jn2] at h3 h4 h6 h8 h9
  exact h ⟨h1, h2, h3, h4, h5, c5, h7, c7, by omega⟩
theorem canon_go : ∀ (l : List S30) (m p : S30), cmb p m = false → canonS (p :: allGo l m) = true
  | [], m, p, h => by simp [allGo, canonS, h]
  | r :: rs, m, p, h => by
    rw [allGo]
    by_cases hc : cmb m r = true
    · rw [if_pos hc]; exact canon_go rs _ p (cmb_more h hc)
    · rw [if_neg hc, canonS, h, canon_go rs r m (by simpa using hc)]; rfl
theorem canon_tail {a : S30} {l : List S30} (h : canonS (a :: l) = true) : canonS l = true := by
  cases l with
  | nil => rfl
  | cons b r => rw [canonS, Bool.and_eq_true] at h; exact h.2
theorem canon_all (l : List S30) : canonS (mgS l) = true := by
  cases l with
  | nil => rfl
  | cons r rs => exact canon_tail (canon_go rs r z30 (by unfold cmb z30; rw [decide_eq_false_iff_not]; rintro ⟨h, _⟩; simp only at h; omega))
theorem allGo_canon : ∀ (l : List S30) (m : S30), canonS (m :: l) = true → allGo l m = m :: l
  | [], _, _ => rfl
  | r :: rs, m, h => by
    have h' := h
    rw [canonS, Bool.and_eq_true] at h'
    rw [allGo, if_neg (by have := h'.1; simpa using this), allGo_canon rs r h'.2]
theorem all_canon (l : List S30) (h : canonS l = true) : mgS l = l := by
  cases l with
  | nil => rfl
  | cons r rs => exact allGo_canon rs r h
theorem vp_toNat {n : Int} (h : 0 ≤ n) : vp n = vput n.toNat := by unfold vp; rw [if_neg (by omega)]
theorem vt_vp {n : Int} (h : 0 ≤ n) (h1 : n < 9223372036854775808) (S : List Int) : vt 9 (vp n ++ S) = (n, ((vp n).length : Int), 0) := by
  rw [vp_toNat h, vt_vput (by omega)]
  rw [show ((n.toNat : Nat) : Int) = n by omega]
def lo (b : Bool) (ah : Int) : Int := if b = true then -1 else ah
theorem idsL_gaps (S : List Int) : ∀ (l : List Int) (ah : Int) (b : Bool), (b = true → ah = 0) → 0 ≤ ah → ah ≤ 65534 → rises (lo b ah) l = true → idsL l.length ah b (gaps ah l ++ S) = (l, ((gaps ah l).length : Int), 0)
  | [], ah, b, _, _, _, _ => rfl
  | x :: r, ah, b, hb, h0, h1, h => by
    simp only [rises, Bool.and_eq_true, decide_eq_true_eq] at h
    have hx : ah ≤ x ∧ (b = false → ah < x) := by
      cases b with
      | true => have := hb rfl; simp [lo] at h; exact ⟨by omega, fun h => by cases h⟩
      | false => simp [lo] at h; exact ⟨by omega, fun _ => by omega⟩
    have ih := idsL_gaps S r x false (fun h => by cases h) (by omega) (by omega) (by simpa [lo] using h.2)
    have eg : gaps ah (x :: r) = vp (x - ah) ++ gaps x r := rfl
    rw [List.length_cons, eg, List.append_assoc]
    simp only [idsL]
    rw [vt_vp (n := x - ah) (by omega) (by omega)]
    simp only [Int.toNat_natCast]
    rw [if_pos trivial, if_neg (show ¬ (x - ah = 0 ∧ b = false) from fun h => by have := hx.2 h.2; omega), if_neg (by omega), List.drop_left' rfl, show ah + (x - ah) = x by omega, ih]
    simp
theorem rt_cons {s : ByteArray} {c : Int} {r : List Int} (h : bytesOf s = c :: r) (hc : 1 ≤ c ∧ c ≤ 6) : rt s = if c = 4 then rtI r else rtN c r := by
  have hs : s.size = r.length + 1 := by rw [← bytesOf_length, h]; rfl
  have h0 : bt s 0 = c := by
    have := drop_cons s 0 (by omega)
    rw [List.drop_zero, h] at this
    injection this with h1 _
    exact h1.symm
  unfold rt
  rw [if_neg (by omega), h0, if_neg (by omega), h]
  rfl
theorem rt_back {a b c : Int} {l : List Int} (hl : l.length ≤ 100) (hc : chk a b c l = true) {s : ByteArray} {S : List Int} (h : bytesOf s = rp a b c l ++ S) : rt s = (a, b, c, l, ((rp a b c l).length : Int), 0) := by
  unfold rp at h ⊢
  unfold chk at hc
  by_cases h4 : a = 4
  · simp only [if_pos h4, Bool.and_eq_true, decide_eq_true_eq] at hc h ⊢
    rw [List.cons_append, List.append_assoc] at h
    rw [rt_cons h (by omega), if_pos rfl]
    unfold rtI
    rw [vt_vp (n := (l.length : Int)) (by omega) (by omega)]
    simp only [Int.toNat_natCast]
    rw [if_pos trivial, if_neg (by omega), List.drop_left' rfl, idsL_gaps S l 0 true (fun _ => rfl) (by omega) (by omega) hc.2]
    rw [if_pos rfl, h4, hc.1.1, hc.1.2]
    refine Prod.ext rfl (Prod.ext rfl (Prod.ext rfl (Prod.ext rfl (Prod.ext ?_ rfl))))
    simp only [List.length_cons, List.length_append]
    omega
  · simp only [if_neg h4, isR, Bool.and_eq_true, decide_eq_true_eq] at hc h ⊢
    rw [List.cons_append, List.append_assoc] at h
    rw [rt_cons h (by omega), if_neg h4]
    unfold rtN
    have g1 : goodN a b = true := by unfold goodN isR; rw [decide_eq_true (show 0 ≤ b ∧ b ≤ 4611686018427387903 by omega), Bool.true_and]; exact decide_eq_true (fun h => (hc.2.2.2.2.2 h).1)
    have g2 : goodN a c = true := by unfold goodN isR; rw [decide_eq_true (show 0 ≤ c ∧ c ≤ 4611686018427387903 by omega), Bool.true_and]; exact decide_eq_true (fun h => (hc.2.2.2.2.2 h).2)
    rw [vt_vp (n := b) (by omega) (by omega)]
    simp only [Int.toNat_natCast]
    rw [if_pos trivial, if_pos g1, List.drop_left' rfl, vt_vp (n := c) (by omega) (by omega)]
    simp only
    rw [if_pos trivial, if_pos g2, hc.1]
    refine Prod.ext rfl (Prod.ext rfl (Prod.ext rfl (Prod.ext rfl (Prod.ext ?_ rfl))))
    simp only [List.length_cons, List.length_append]
    omega
theorem vt_vp_back (l : List Int) (hB : IsB l) (h : (vt 9 l).2.2 = 0) : vp (vt 9 l).1 = l.take (vt 9 l).2.1.toNat := by
  have h1 := vt_ok 9 l hB h
  rw [vp_toNat h1.1]
  exact vt_back 9 l (by omega) hB h
theorem idsL_ok : ∀ (m : Nat) (ah : Int) (b : Bool) (l : List Int), IsB l → (b = true → ah = 0) → 0 ≤ ah → ah ≤ 65534 → (idsL m ah b l).2.2 = 0 →
    (idsL m ah b l).1.length = m ∧ rises (lo b ah) (idsL m ah b l).1 = true ∧ gaps ah (idsL m ah b l).1 = l.take (idsL m ah b l).2.1.toNat ∧ 0 ≤ (idsL m ah b l).2.1 ∧ (idsL m ah b l).2.1 ≤ l.length := by
  intro m
  induction m with
  | zero => intro ah b l _ _ _ _ _; simp [idsL, rises, gaps]
  | succ m ih =>
    intro ah b l hB hb h0 h1
    simp only [idsL]
    by_cases he : (vt 9 l).2.2 = 0
    · have hv := vt_ok 9 l hB he
      have hbk := vt_vp_back l hB he
      rw [if_pos he]
      generalize vt 9 l = v at hv hbk ⊢
      obtain ⟨d, j, e⟩ := v
      simp only at hv hbk ⊢
      by_cases h9 : d = 0 ∧ b = false
      · rw [if_pos h9]; intro h; exact absurd h (by decide)
      · rw [if_neg h9]
        by_cases h11 : 65534 - ah < d
        · rw [if_pos h11]; intro h; exact absurd h (by decide)
        · rw [if_neg h11]
          have ih := ih (ah + d) false (l.drop j.toNat) (isB_drop hB _) (fun h => by cases h) (by omega) (by omega)
          generalize idsL m (ah + d) false (l.drop j.toNat) = Q at ih ⊢
          by_cases hq : Q.2.2 = 0
          · rw [if_pos hq]
            intro _
            obtain ⟨i1, i2, i3, i4, i5⟩ := ih hq
            rw [List.length_drop] at i5
            refine ⟨by rw [List.length_cons, i1], ?_, ?_, by simp only; omega, by simp only; omega⟩
            · simp only [rises, Bool.and_eq_true, decide_eq_true_eq]
              refine ⟨⟨?_, by omega⟩, by simpa [lo] using i2⟩
              cases b with
              | true => simp [lo]; omega
              | false =>
                simp only [lo]
                have : d ≠ 0 := fun h => h9 ⟨h, rfl⟩
                rw [if_neg (by decide)]
                omega
            · simp only [gaps]
              rw [show ah + d - ah = d by omega, hbk, i3, show (j + Q.2.1).toNat = j.toNat + Q.2.1.toNat by omega, List.take_add]
          · rw [if_neg hq]; intro h; exact absurd h hq
    · rw [if_neg he]; intro h; exact absurd h he
theorem rt_forth (s : ByteArray) (h : (rt s).2.2.2.2.2 = 0) : chk (rt s).1 (rt s).2.1 (rt s).2.2.1 (rt s).2.2.2.1 = true ∧ rp (rt s).1 (rt s).2.1 (rt s).2.2.1 (rt s).2.2.2.1 = (bytesOf s).take (rt s).2.2.2.2.1.toNat ∧ 1 ≤ (rt s).2.2.2.2.1 ∧ (rt s).2.2.2.2.1 ≤ s.size := by
  by_cases h0 : s.size = 0
  · revert h; unfold rt; rw [if_pos h0]; intro h; exact absurd h (by decide)
  by_cases hc : bt s 0 < 1 ∨ 6 < bt s 0
  · revert h; unfold rt; rw [if_neg h0, if_pos hc]; intro h; exact absurd h (by decide)
  have hd := drop_cons s 0 (by omega)
  rw [List.drop_zero] at hd
  have hB := isB_drop (isB_bytesOf s) 1
  have hlen : ((bytesOf s).drop 1).length = s.size - 1 := by rw [List.length_drop, bytesOf_length]
  have hcons : bytesOf s = bt s 0 :: (bytesOf s).drop 1 := hd
  have hrt := rt_cons hcons (by omega)
  revert h
  rw [hrt]
  generalize (bytesOf s).drop 1 = L at hB hlen hcons
  generalize bt s 0 = c at hc hcons
  rw [hcons]
  by_cases h4 : c = 4
  · rw [if_pos h4]
    unfold rtI
    by_cases he : (vt 9 L).2.2 = 0
    · have hv := vt_ok 9 L hB he
      have hbk := vt_vp_back L hB he
      rw [if_pos he]
      generalize vt 9 L = v at hv hbk ⊢
      obtain ⟨d, j, e⟩ := v
      simp only at hv hbk ⊢
      by_cases h6 : 65535 < d
      · rw [if_pos h6]; intro h; exact absurd h (by decide)
      · rw [if_neg h6]
        have hi := idsL_ok d.toNat 0 true (L.drop j.toNat) (isB_drop hB _) (fun _ => rfl) (by omega) (by omega)
        generalize idsL d.toNat 0 true (L.drop j.toNat) = Q at hi ⊢
        by_cases hq : Q.2.2 = 0
        · rw [if_pos hq]
          intro _
          obtain ⟨i1, i2, i3, i4, i5⟩ := hi hq
          rw [List.length_drop] at i5
          refine ⟨?_, ?_, by simp only; omega, by simp only; omega⟩
          · unfold chk
            simp only [if_true]
            exact i2
          · unfold rp
            simp only [if_true]
            rw [i1, show ((d.toNat : Nat) : Int) = d by omega, hbk, i3, show (1 + j + Q.2.1).toNat = (j.toNat + Q.2.1.toNat) + 1 by omega, List.take_succ_cons, List.take_add, h4]
        · rw [if_neg hq]; intro h; exact absurd h hq
    · rw [if_neg he]; intro h; exact absurd h he
  · rw [if_neg h4]
    unfold rtN
    by_cases he : (vt 9 L).2.2 = 0
    · have hv := vt_ok 9 L hB he
      have hbk := vt_vp_back L hB he
      rw [if_pos he]
      generalize vt 9 L = v at hv hbk ⊢
      obtain ⟨d, j, e⟩ := v
      simp only at hv hbk ⊢
      by_cases hg : goodN c d = true
      · rw [if_pos hg]
        have hv2 := vt_ok 9 (L.drop j.toNat) (isB_drop hB _)
        have hbk2 := vt_vp_back (L.drop j.toNat) (isB_drop hB _)
        generalize vt 9 (L.drop j.toNat) = u at hv2 hbk2 ⊢
        obtain ⟨d2, j2, e2⟩ := u
        simp only at hv2 hbk2 ⊢
        by_cases he2 : e2 = 0
        · have hv2 := hv2 he2
          have hbk2 := hbk2 he2
          rw [List.length_drop] at hv2
          rw [if_pos he2]
          by_cases hg2 : goodN c d2 = true
          · rw [if_pos hg2]
            intro _
            unfold goodN isR at hg hg2
            simp only [Bool.and_eq_true, decide_eq_true_eq] at hg hg2
            refine ⟨?_, ?_, by simp only; omega, by simp only; omega⟩
            · unfold chk
              simp only [if_neg h4, isR, Bool.and_eq_true, decide_eq_true_eq]
              exact ⟨trivial, hg.1, hg2.1, by omega, by omega, fun h => ⟨hg.2 h, hg2.2 h⟩⟩
            · unfold rp
              simp only [if_neg h4]
              rw [hbk, hbk2, show (1 + j + j2).toNat = (j.toNat + j2.toNat) + 1 by omega, List.take_succ_cons, List.take_add]
          · rw [if_neg hg2]; intro h; exact absurd h (by decide)
        · rw [if_neg he2]; intro h; exact absurd h he2
      · rw [if_neg hg]; intro h; exact absurd h (by decide)
    · rw [if_neg he]; intro h; exact absurd h he
end Go.Proofs.Ytejcopppchaneaa.Pure
end
section
set_option linter.unusedVariables false
set_option linter.unusedSimpArgs false
namespace Go.Proofs.Ytejcopppchaneaa.PF
open Go.RowKit Go.Proofs.YtejcopppchaneaaW.PrintWords Go.Proofs.YtejcopppchaneaaW.PrintLast Go.Proofs.YtejcopppchaneaaW.PrintMore Go.Proofs.Ytejcopppchaneaa.Pure
def fitC (s : LS) (x : S30) : Prop := cmb (lastR s) x = false ∧ ¬ (x.f0 = 5 ∧ (s.k = 0 ∨ s.k = 5))
theorem fitsB_iff (s : LS) (x : S30) : fitsB s x = true ↔ fitC s x := by
  unfold fitsB fitC
  rw [two_cmb]
  cases cmb (lastR s) x with
  | true => simp
  | false =>
    simp only [Bool.not_false, Bool.true_and, Bool.or_eq_true, Bool.and_eq_true, bne_iff_ne, true_and]
    omega
theorem takeS_fits (s : LS) (hc : s.closed = true) (h : (takeS s).2.2.2.2.2 = 0) (hn : (takeS s).2.2.2.2.1 ≠ 0) : s.ended = false ∧ fitC s (xOf (rt s.rest)) := by
  unfold takeS at h hn
  by_cases h0 : s.e ≠ 0
  · rw [if_pos h0] at h; exact absurd h h0
  · rw [if_neg h0] at h hn
    by_cases h1 : s.ended = true
    · rw [if_pos h1] at h hn
      exfalso
      by_cases h2 : s.rest.size = 0
      · rw [if_pos h2] at hn; exact hn rfl
      · rw [if_neg h2] at hn; exact hn rfl
    · rw [if_neg h1] at h hn
      refine ⟨by simpa using h1, (fitsB_iff _ _).1 ?_⟩
      unfold takeQ at h hn
      by_cases h2 : ((rt s.rest).2.2.2.2.2 == 4 && !s.closed) = true
      · rw [if_pos h2] at hn; exact absurd rfl hn
      · rw [if_neg h2] at h hn
        by_cases h3 : ((rt s.rest).2.2.2.2.2 == 0 && !fitsB s (xOf (rt s.rest))) = true
        · rw [if_pos h3] at hn; exact absurd rfl hn
        · rw [if_neg h3] at h hn
          rw [h] at h3
          simpa using h3
theorem takeS_end (s : LS) (hc : s.closed = true) (h : (takeS s).2.2.2.2.2 = 0) (hn : (takeS s).2.2.2.2.1 = 0) : s.ended = true ∧ s.rest.size = 0 := by
  unfold takeS at h hn
  by_cases h0 : s.e ≠ 0
  · rw [if_pos h0] at h; exact absurd h h0
  · rw [if_neg h0] at h hn
    by_cases h1 : s.ended = true
    · rw [if_pos h1] at h hn
      by_cases h2 : s.rest.size = 0
      · exact ⟨h1, h2⟩
      · rw [if_neg h2] at h; exact absurd h (by decide)
    · rw [if_neg h1] at h hn
      exfalso
      unfold takeQ at h hn
      rw [if_neg (show ¬ (((rt s.rest).2.2.2.2.2 == 4 && !s.closed) = true) by rw [hc]; simp)] at h hn
      by_cases h3 : ((rt s.rest).2.2.2.2.2 == 0 && !fitsB s (xOf (rt s.rest))) = true
      · rw [if_pos h3] at h; exact absurd h (by decide)
      · rw [if_neg h3] at h hn
        have := (rt_forth s.rest h).2.2.1
        omega
theorem chk_ids {x : S30} (h : chk x.f0 x.f1 x.f2 x.f3 = true) (h4 : x.f0 ≠ 4) : x.f3 = [] := by
  unfold chk at h
  simp only [if_neg h4, Bool.and_eq_true, decide_eq_true_eq] at h
  exact h.1
theorem cmb_head {x : S30} (h : chk x.f0 x.f1 x.f2 x.f3 = true) (y : S30) : cmb (⟨x.f0, x.f1, x.f2, []⟩ : S30) y = cmb x y := by
  unfold cmb
  simp only [decide_eq_decide]
  by_cases h4 : x.f0 = 4
  · constructor
    · rintro ⟨_, h, _⟩; omega
    · rintro ⟨_, h, _⟩; omega
  · rw [chk_ids h h4]
    simp
theorem canon_head {x : S30} (h : chk x.f0 x.f1 x.f2 x.f3 = true) : ∀ (b : List S30), canonS ((⟨x.f0, x.f1, x.f2, []⟩ : S30) :: b) = canonS (x :: b)
  | [] => rfl
  | y :: r => by rw [canonS, canonS, cmb_head h]
theorem wB_chk {x : S30} (h : chk x.f0 x.f1 x.f2 x.f3 = true) : wB x = rp x.f0 x.f1 x.f2 x.f3 := by unfold wB; rw [if_pos h]
theorem allL_stop {f : Nat} {s : LS} {acc : List S30} (h : (takeS s).2.2.2.2.2 = 0) (hn : (takeS s).2.2.2.2.1 = 0) : allL (f + 1) s acc = (acc, 0) := by
  unfold allL
  rw [if_neg (by rw [h]; decide), if_pos hn]
theorem allL_err {f : Nat} {s : LS} {acc : List S30} (h : (takeS s).2.2.2.2.2 ≠ 0) : allL (f + 1) s acc = ([], (takeS s).2.2.2.2.2) := by
  unfold allL
  rw [if_pos h]
theorem allL_more {f : Nat} {s : LS} {acc : List S30} (h : (takeS s).2.2.2.2.2 = 0) (hn : (takeS s).2.2.2.2.1 ≠ 0) : allL (f + 1) s acc = allL f (nextL s) (acc ++ [xOf (rt s.rest)]) := by
  rw [allL, if_neg (by rw [h]; decide), if_neg hn]
theorem all_back : ∀ (f : Nat) (s : LS) (acc a : List S30), s.closed = true → s.e = 0 → s.ended = (s.k == 6) → s.rest.size < f → s.rest.size ≤ 60000 → allL f s acc = (a, 0) →
    ∃ b, a = acc ++ b ∧ bytesOf s.rest = b.flatMap wB ∧ goW s.k b = 0 ∧ canonS (lastR s :: b) = true ∧ (∀ x ∈ b, okR x) ∧ b.length ≤ s.rest.size := by
  intro f
  induction f with
  | zero => intro s acc a _ _ _ h; omega
  | succ f ih =>
    intro s acc a hc he hd hs hz h
    by_cases h0 : (takeS s).2.2.2.2.2 = 0
    · by_cases hn : (takeS s).2.2.2.2.1 = 0
      · rw [allL_stop h0 hn] at h
        obtain ⟨he1, he2⟩ := takeS_end s hc h0 hn
        rw [hd, beq_iff_eq] at he1
        refine ⟨[], by rw [List.append_nil]; exact (congrArg Prod.fst h).symm, ?_, ?_, rfl, (fun x hx => by cases hx), Nat.zero_le _⟩
        · exact List.eq_nil_of_length_eq_zero (by rw [bytesOf_length]; exact he2)
        · unfold goW; rw [if_pos he1]
      · rw [allL_more h0 hn] at h
        obtain ⟨_, hr0⟩ := takeS_good s h0 hn
        obtain ⟨he1, hf1, hf2⟩ := takeS_fits s hc h0 hn
        obtain ⟨hk1, hk2, hk3, hk4⟩ := rt_forth s.rest hr0
        have hok := (rt_good s.rest (by omega) hr0).1
        have hsz : (nextL s).rest.size = s.rest.size - (rt s.rest).2.2.2.2.1.toNat := by
          show (s.rest.extract _ _).size = _
          rw [ByteArray.size_extract]
          omega
        obtain ⟨b, hb1, hb2, hb3, hb4, hb5, hb6⟩ := ih (nextL s) (acc ++ [xOf (rt s.rest)]) a hc rfl rfl (by omega) (by omega) h
        have hx : chk (xOf (rt s.rest)).f0 (xOf (rt s.rest)).f1 (xOf (rt s.rest)).f2 (xOf (rt s.rest)).f3 = true := hk1
        refine ⟨xOf (rt s.rest) :: b, by rw [hb1, List.append_assoc]; rfl, ?_, ?_, ?_, ?_, by rw [List.length_cons]; omega⟩
        · rw [List.flatMap_cons, wB_chk hx, ← hb2, show bytesOf (nextL s).rest = _ from bytes_from s.rest _]
          rw [show rp (xOf (rt s.rest)).f0 (xOf (rt s.rest)).f1 (xOf (rt s.rest)).f2 (xOf (rt s.rest)).f3 = _ from hk2, List.take_append_drop]
        · have h6 : s.k ≠ 6 := by rw [hd] at he1; simpa using he1
          have hm : mayE s.k (xOf (rt s.rest)) = 0 := mayE_of h6 hx hf2
          unfold goW
          rw [if_pos hm]
          exact hb3
        · rw [canonS, hf1, ← canon_head hx]
          exact hb4
        · intro y hy
          rcases List.mem_cons.1 hy with rfl | hy
          · exact hok
          · exact hb5 y hy
    · rw [allL_err h0] at h
      exact absurd (congrArg Prod.snd h) h0
theorem goW_told : ∀ (l : List S30) (p : Int), goW p l = 0 → toldL l = l.flatMap wB
  | [], _, _ => rfl
  | x :: r, p, h => by
    have hg : goW x.f0 r = 0 := by
      unfold goW at h
      by_cases hm : mayE p x = 0
      · rw [if_pos hm] at h; exact h
      · rw [if_neg hm] at h; exact absurd h hm
    rw [toldL, List.flatMap_cons, goW_told r x.f0 hg]
    congr 1
    refine if_pos ?_
    cases r with
    | nil =>
      right
      unfold goW at hg
      by_cases h6 : x.f0 = 6
      · exact h6
      · rw [if_neg h6] at hg; exact absurd hg (by decide)
    | cons y r => left; simp
theorem wholeS_ok (hd : ByteArray) (l : List S30) (hg : goW 0 l = 0) : wholeS hd l = (hd ++ strOfNums (toldL (mgS l)), 0) := by
  unfold wholeS finW
  rw [if_pos hg]
theorem back_read (s : ByteArray) (hs : s.size ≤ 60000) (a : List S30) (h : allS s = (a, 0)) (hd : ByteArray) : (∀ x ∈ a, okR x) ∧ a.length ≤ s.size ∧ wholeS hd a = (hd ++ s, 0) := by
  obtain ⟨b, hb1, hb2, hb3, hb4, hb5, hb6⟩ := all_back (s.size + 1) ⟨s, 0, 0, 0, true, false, 0⟩ [] a rfl rfl rfl (Nat.lt_succ_self _) hs h
  rw [List.nil_append] at hb1
  subst hb1
  refine ⟨hb5, hb6, ?_⟩
  have hg : goW 0 a = 0 := hb3
  have hc := canon_tail hb4
  rw [wholeS_ok hd a hg, all_canon a hc, goW_told a 0 hg]
  have h2 : bytesOf s = a.flatMap wB := hb2
  rw [← h2, strOfNums_bytesOf]
theorem chk_jn {a b : S30} (ha : chk a.f0 a.f1 a.f2 a.f3 = true) (hb : chk b.f0 b.f1 b.f2 b.f3 = true) (hc : cmb a b = true) : chk (jn2 a b).f0 (jn2 a b).f1 (jn2 a b).f2 (jn2 a b).f3 = true := by
  unfold cmb at hc
  rw [decide_eq_true_iff] at hc
  obtain ⟨c1, c2, c3, c4, c5, c6, c7, c8, c9⟩ := hc
  have h4 : ¬ a.f0 = 4 := by omega
  have e : chk (jn2 a b).f0 (jn2 a b).f1 (jn2 a b).f2 (jn2 a b).f3 = chk a.f0 a.f1 (a.f2 + b.f2) [] := rfl
  rw [e]
  unfold chk at ha ⊢
  simp only [if_neg h4, isR, Bool.and_eq_true, decide_eq_true_eq] at ha ⊢
  exact ⟨trivial, ha.2.1, by omega, by omega, by omega, fun h => ⟨(ha.2.2.2.2.2 h).1, by omega⟩⟩
theorem goW_cons {p : Int} {x : S30} {r : List S30} (h : goW p (x :: r) = 0) : mayE p x = 0 ∧ goW x.f0 r = 0 := by
  unfold goW at h
  by_cases hm : mayE p x = 0
  · rw [if_pos hm] at h; exact ⟨hm, h⟩
  · rw [if_neg hm] at h; exact absurd h hm
theorem goW_of {p : Int} {x : S30} {r : List S30} (hm : mayE p x = 0) (h : goW x.f0 r = 0) : goW p (x :: r) = 0 := by
  unfold goW
  rw [if_pos hm]
  exact h
theorem goW_merge : ∀ (l : List S30) (m : S30) (p : Int), goW p (m :: l) = 0 → goW p (allGo l m) = 0
  | [], m, p, h => h
  | r :: rs, m, p, h => by
    obtain ⟨h1, h2⟩ := goW_cons h
    obtain ⟨h3, h4⟩ := goW_cons h2
    rw [allGo]
    by_cases hc : cmb m r = true
    · rw [if_pos hc]
      have hc' := hc
      unfold cmb at hc'
      rw [decide_eq_true_iff] at hc'
      obtain ⟨q6, qc, q5⟩ := mayE_chk h1
      refine goW_merge rs _ p (goW_of (mayE_of q6 (chk_jn qc (mayE_chk h3).2.1 hc) ?_) ?_)
      · intro h5
        have : m.f0 = 5 := h5.1
        omega
      · show goW m.f0 rs = 0
        rw [hc'.2.2.1]
        exact h4
    · rw [if_neg hc]
      exact goW_of h1 (goW_merge rs r m.f0 h2)
theorem ids_allGo (n : Nat) : ∀ (l : List S30) (m : S30), m.f3.length ≤ n → (∀ x ∈ l, x.f3.length ≤ n) → ∀ x ∈ allGo l m, x.f3.length ≤ n
  | [], m, hm, _, x, hx => by rw [allGo, List.mem_singleton] at hx; rw [hx]; exact hm
  | r :: rs, m, hm, hl, x, hx => by
    have hrs : ∀ y ∈ rs, y.f3.length ≤ n := fun y h => hl y (List.mem_cons_of_mem _ h)
    rw [allGo] at hx
    by_cases hc : cmb m r = true
    · rw [if_pos hc] at hx
      exact ids_allGo n rs _ (Nat.zero_le _) hrs x hx
    · rw [if_neg hc, List.mem_cons] at hx
      rcases hx with rfl | hx
      · exact hm
      · exact ids_allGo n rs r (hl r (List.mem_cons_self ..)) hrs x hx
theorem ids_mg (n : Nat) (l : List S30) (h : ∀ x ∈ l, x.f3.length ≤ n) : ∀ x ∈ mgS l, x.f3.length ≤ n := by
  cases l with
  | nil => intro x hx; cases hx
  | cons r rs => exact ids_allGo n rs r (h r (List.mem_cons_self ..)) (fun y hy => h y (List.mem_cons_of_mem _ hy))
theorem goW_mg (l : List S30) (h : goW 0 l = 0) : goW 0 (mgS l) = 0 := by
  cases l with
  | nil => exact h
  | cons r rs => exact goW_merge rs r 0 h
theorem rp_ne (x : S30) : 1 ≤ (rp x.f0 x.f1 x.f2 x.f3).length := by
  unfold rp
  split <;> simp
theorem takeS_is (s : LS) (hc : s.closed = true) (he : s.e = 0) (hd : s.ended = false) (h0 : (rt s.rest).2.2.2.2.2 = 0) (hf : fitC s (xOf (rt s.rest))) : takeS s = rt s.rest := by
  unfold takeS
  rw [if_neg (by rw [he]; simp), if_neg (by rw [hd]; decide)]
  unfold takeQ
  rw [if_neg (by rw [hc]; simp), if_neg (by rw [(fitsB_iff _ _).2 hf]; simp)]
theorem takeS_over (s : LS) (he : s.e = 0) (hd : s.ended = true) (hz : s.rest.size = 0) : takeS s = er 0 := by
  unfold takeS
  rw [if_neg (by rw [he]; simp), if_pos hd, if_pos hz]
theorem all_forth : ∀ (m : List S30) (f : Nat) (s : LS) (acc : List S30), s.closed = true → s.e = 0 → s.ended = (s.k == 6) → s.rest.size < f → bytesOf s.rest = m.flatMap wB → goW s.k m = 0 → canonS (lastR s :: m) = true → (∀ x ∈ m, x.f3.length ≤ 100) → allL f s acc = (acc ++ m, 0) := by
  intro m
  induction m with
  | nil =>
    intro f s acc hc he hd hs hb hg _ _
    cases f with
    | zero => omega
    | succ f =>
      have hz : s.rest.size = 0 := by rw [← bytesOf_length, hb]; rfl
      have h6 : s.k = 6 := by
        unfold goW at hg
        by_cases h : s.k = 6
        · exact h
        · rw [if_neg h] at hg; exact absurd hg (by decide)
      have ht := takeS_over s he (by rw [hd, h6]; rfl) hz
      rw [allL_stop (by rw [ht]; rfl) (by rw [ht]; rfl), List.append_nil]
  | cons x r ih =>
    intro f s acc hc he hd hs hb hg hcn hl
    cases f with
    | zero => omega
    | succ f =>
      obtain ⟨hm, hg2⟩ := goW_cons hg
      obtain ⟨q6, qc, q5⟩ := mayE_chk hm
      rw [List.flatMap_cons, wB_chk qc] at hb
      have hrt := rt_back (hl x (List.mem_cons_self ..)) qc hb
      have hx : xOf (rt s.rest) = x := by rw [hrt]; rfl
      rw [canonS, Bool.and_eq_true] at hcn
      have hfit : fitC s (xOf (rt s.rest)) := by rw [hx]; exact ⟨by have := hcn.1; simpa using this, q5⟩
      have hend : s.ended = false := by rw [hd]; simpa using q6
      have ht := takeS_is s hc he hend (by rw [hrt]) hfit
      have hne := rp_ne x
      have hsize : s.rest.size = (rp x.f0 x.f1 x.f2 x.f3).length + (r.flatMap wB).length := by rw [← bytesOf_length, hb, List.length_append]
      have hn : (rt s.rest).2.2.2.2.1 = ((rp x.f0 x.f1 x.f2 x.f3).length : Int) := by rw [hrt]
      rw [allL_more (by rw [ht, hrt]) (by rw [ht, hn]; omega), hx]
      have hk : (nextL s).k = x.f0 := by show (rt s.rest).1 = _; rw [hrt]
      have hlast : lastR (nextL s) = ⟨x.f0, x.f1, x.f2, []⟩ := by unfold lastR nextL; rw [hrt]
      have hby : bytesOf (nextL s).rest = r.flatMap wB := by
        show bytesOf (s.rest.extract _ _) = _
        rw [bytes_from, hn, hb, Int.toNat_natCast, List.drop_left' rfl]
      have hsz : (nextL s).rest.size = (r.flatMap wB).length := by rw [← bytesOf_length, hby]
      rw [ih f (nextL s) (acc ++ [x]) hc rfl rfl (by omega) hby (by rw [hk]; exact hg2) (by rw [hlast, canon_head qc]; exact hcn.2) (fun y hy => hl y (List.mem_cons_of_mem _ hy)), List.append_assoc]
      rfl
theorem flat_len : ∀ (m : List S30), (∀ x ∈ m, x.f3.length ≤ 100) → (m.flatMap wB).length ≤ 1000 * m.length
  | [], _ => by simp
  | x :: r, h => by
    have h1 := flat_len r (fun y hy => h y (List.mem_cons_of_mem _ hy))
    have h2 : (wB x).length ≤ 1000 := by
      unfold wB
      by_cases hc : chk x.f0 x.f1 x.f2 x.f3 = true
      · rw [if_pos hc]; exact rp_len hc (h x (List.mem_cons_self ..))
      · rw [if_neg hc]; simp
    rw [List.flatMap_cons, List.length_append, List.length_cons]
    omega
theorem back_written (l : List S30) (hl : ∀ x ∈ l, x.f3.length ≤ 30) (hn : l.length ≤ 1000) (hd : ByteArray) (h7 : hd.size = 7) (hg : goW 0 l = 0) (t : ByteArray) (ht : wholeS hd l = (t, 0)) :
    7 ≤ t.size ∧ t.size ≤ 7 + 1000 * l.length ∧ allS (t.extract 7 t.size) = (mgS l, 0) ∧ wholeS hd (mgS l) = (t, 0) := by
  have hw := wholeS_ok hd l hg
  rw [ht] at hw
  have hte : t = hd ++ strOfNums (toldL (mgS l)) := congrArg Prod.fst hw
  have hgm := goW_mg l hg
  have him := ids_mg 30 l hl
  have hflat := goW_told (mgS l) 0 hgm
  have hB : IsB (toldL (mgS l)) := isB_told _
  have hlen := flat_len (mgS l) (fun x hx => by have := him x hx; omega)
  have hll := len_all l
  have hsz : t.size = 7 + (toldL (mgS l)).length := by rw [hte, ByteArray.size_append, strOfNums_size, h7]
  have hby : bytesOf (t.extract 7 t.size) = (mgS l).flatMap wB := by
    rw [bytes_from, hte, bytesOf_append, bytesOf_strOfNums hB, List.drop_left' (by rw [bytesOf_length]; exact h7), hflat]
  refine ⟨by omega, by rw [hflat] at hsz; omega, ?_, ?_⟩
  · have := all_forth (mgS l) ((t.extract 7 t.size).size + 1) ⟨t.extract 7 t.size, 0, 0, 0, true, false, 0⟩ [] rfl rfl rfl (Nat.lt_succ_self _) hby hgm ?_ (fun x hx => by have := him x hx; omega)
    · rw [List.nil_append] at this
      exact this
    · show canonS ((⟨0, 0, 0, []⟩ : S30) :: mgS l) = true
      have hca := canon_all l
      cases hm : mgS l with
      | nil => rfl
      | cons y r =>
        rw [hm] at hca
        rw [canonS, hca, show cmb (⟨0, 0, 0, []⟩ : S30) y = false by unfold cmb; rw [decide_eq_false_iff_not]; rintro ⟨h, _⟩; exact absurd h (by decide)]
        rfl
  · rw [wholeS_ok hd _ hgm, all_canon (mgS l) (canon_all l), hte]
end Go.Proofs.Ytejcopppchaneaa.PF
end
section
set_option linter.unusedVariables false
set_option linter.unusedSimpArgs false
namespace Go.Proofs.Ytejcopppchaneaa.PF
open Go.RowKit Go.Proofs.YtejcopppchaneaaW.PrintWords Go.Proofs.YtejcopppchaneaaW.PrintLast Go.Proofs.YtejcopppchaneaaW.PrintMore Go.Proofs.Ytejcopppchaneaa.Pure
def AllPost (w : World) (r : List S30 × Int) (e : Ending) (w' : World) : Prop :=
  ∃ A c, e = .returned (.tuple #[.slice A r.1.length c, .int .i64 r.2]) ∧ r.1.length ≤ c ∧ Kd.F k30 w' (fun k => w.heap.size ≤ k) A r.1.length r.1 ∧ Below w.heap.size w w' 
set_option maxHeartbeats 16000000 in
set_option maxRecDepth 100000 in
theorem rAll.calls_ (x : ByteArray) (hz : x.size ≤ 60000) (r : List S30 × Int) (hr : allS x = r) (w : World) :
    Calls Try.prog 10 #[.string x] w (AllPost w r) := by
  have hu30 := Try.underlying30
  have hu45 := Try.underlying45
  have HZ := Aside0.mk hz
  have HR0 := Aside0.mk hr
  clear hz hr
  go_enter Try.func10, Try.ntmps10
  go_upto_block 0 with fail
  have X0 := Aside0.mk (blk_new w (.cells #[.slice none 0 0, .string x, .bool true, .int .i64 0] 45))
  have B0 := Aside0.mk (below_alloc (Below.refl w.heap.size w) (.cells #[.slice none 0 0, .string x, .bool true, .int .i64 0] 45))
  obtain ⟨b4, hb4⟩ : ∃ b4, w.heap.size = b4 := ⟨_, rfl⟩
  have NB : Aside0 (w.heap.size ≤ b4) := ⟨by omega⟩
  have X1 : Aside0 ((w.alloc (.cells #[.slice none 0 0, .string x, .bool true, .int .i64 0] 45)).heap[b4]? = some (.cells #[.slice none 0 0, .string x, .bool true, .int .i64 0] 45 (0, 0))) := ⟨hb4 ▸ X0.out⟩
  clear X0
  generalize w.alloc (.cells #[.slice none 0 0, .string x, .bool true, .int .i64 0] 45) = w0 at X1 B0 ⊢
  (try rw [hb4])
  clear hb4
  go_wp2
  go_loopg [] (x.size + 1) (fun kq wr => ∃ (s : LS) (q : RS) (AA : Option Addr) (cc : Nat), Aside0 (allL kq s q.R = r) ∧ Aside0 (s.rest.size < kq) ∧ Aside0 (q.R.length + s.rest.size ≤ 60000) ∧ Aside0 (Rel s q) ∧ Aside0 (wr.heap[b4]? = some (.cells #[.slice AA q.R.length cc, .string q.rest, .bool q.closed, .int .i64 q.e] 45 (0, 0))) ∧ Aside0 (Kd.F k30 wr (fun k => w.heap.size ≤ k ∧ k ≠ b4) AA q.R.length q.R) ∧ Aside0 (q.R.length ≤ cc) ∧ Aside0 (Below w.heap.size w wr))
  case atStart => exact ⟨⟨x, 0, 0, 0, true, false, 0⟩, ⟨[], x, true, 0⟩, none, 0, HR0, ⟨Nat.lt_succ_self _⟩, ⟨by have := HZ.out; simpa using this⟩, ⟨⟨rfl, rfl, rfl, rfl, rfl, rfl, rfl, .inl rfl, ⟨fun _ => rfl, fun _ => rfl⟩, okR_small (by decide) (by decide) (by decide) (by decide)⟩⟩, X1, ⟨Kd.F_nil _ _ _⟩, ⟨Nat.le_refl _⟩, B0⟩
  case round =>
    obtain ⟨s, q, AA, cc, HA, HK, HL, HRel, X, FR, HCC, HB⟩ := hrel
    cases gk with
    | zero => exact absurd HK.out (by omega)
    | succ kk1 =>
      obtain ⟨⟨i0, i1, i2, i3⟩, u0, u1, u2, u3⟩ := cell4 X.out
      have hsz : s.rest.size ≤ 60000 ∧ q.R.length ≤ 60000 ∧ q.rest.size ≤ 60000 := by have h1 := HL.out; have h2 := HRel.out.rest; rw [← h2]; omega
      have ha := HA.out
      unfold allL at ha
      have GW := Aside0.mk (show b4 < wr.heap.size from blk_lt X.out)
      rcases rel_step HRel.out (by omega) with ⟨p1, p2, p3, p4⟩ | ⟨p1, p2, p3⟩
      · have hno := nextL_ok s ⟨hsz.1, rel_lastR HRel.out⟩ p1 p2
        rw [if_neg (by rw [p1]; simp), if_neg p2, ← (takeS_good s p1 p2).1] at ha
        rw [p3] at p4
        obtain ⟨s', hs'⟩ : ∃ s', nextL s = s' := ⟨_, rfl⟩
        rw [hs'] at p3 p4 hno ha
        obtain ⟨y, hy⟩ : ∃ y, xOf (takeS s) = y := ⟨_, rfl⟩
        rw [hy] at p3 p4 ha
        have hcl : s'.closed = s.closed := by rw [← hs']; rfl
        have RN : Aside0 (Calls Try.prog 21 #[.agg #[.slice AA q.R.length cc, .string q.rest, .bool q.closed, .int .i64 q.e]] wr (NextPost wr (fun k => w.heap.size ≤ k ∧ k ≠ b4) (⟨q.R ++ [y], s'.rest, s.closed, 0⟩, true))) := ⟨rNext.calls_ AA cc q.R q.rest q.closed q.e _ _ wr FR.out HCC.out (by omega) (by omega) HRel.out.ok p3⟩
        have HA2 := Aside0.mk ha
        have REL := Aside0.mk p4
        have NO := Aside0.mk hno.2.1
        clear p1 p2 p3 p4 ha hno hs' hy HA
        go_upto_region 3 with (first | (go_at_call 21; (refine RN.out.mono ?_); rintro e w5 ⟨v, rfl, ⟨A5, c5, hv, hc5, hF5⟩, hb⟩; replace hv : v = .slice A5 (q.R.length + 1) c5 := (by rw [hv]; show Value.slice A5 (q.R ++ [_]).length c5 = _; rw [List.length_append, List.length_singleton]); subst hv; have H5c := Aside0.mk hc5; have X5 := Aside0.mk (blk_below X.out hb); have HB5 := Aside0.mk (below_step HB.out hb); have F5 : Aside0 (Kd.F k30 w5 (fun k => w.heap.size ≤ k ∧ k ≠ b4) A5 (q.R ++ [y]).length (q.R ++ [y])) := ⟨Kd.F_mono hF5 (fun k hk => hk.elim id (fun h => by have h1 := GW.out; have h2 := HB.out.size; exact ⟨by omega, by omega⟩))⟩; clear hb hF5 hc5 X HB FR i0 i1 i2 i3 u0 u1 u2 u3) | fail)
        have E := Aside0.mk (blk_new w5 (.cells #[.slice A5 (q.R.length + 1) c5, .string s'.rest, .bool s.closed, .int .i64 0] 45))
        have X := Aside0.mk (blk_below X5.out (below_alloc (Below.refl _ _) (.cells #[.slice A5 (q.R.length + 1) c5, .string s'.rest, .bool s.closed, .int .i64 0] 45)))
        have F6 := Aside0.mk (Kd.F_alloc F5.out (.cells #[.slice A5 (q.R.length + 1) c5, .string s'.rest, .bool s.closed, .int .i64 0] 45))
        have HB := Aside0.mk (below_alloc HB5.out (.cells #[.slice A5 (q.R.length + 1) c5, .string s'.rest, .bool s.closed, .int .i64 0] 45))
        clear X5 F5 HB5
        generalize w5.alloc (.cells #[.slice A5 (q.R.length + 1) c5, .string s'.rest, .bool s.closed, .int .i64 0] 45) = w6 at E X F6 HB ⊢
        generalize w5.heap.size = b5 at E ⊢
        obtain ⟨⟨i0, i1, i2, i3⟩, u0, u1, u2, u3⟩ := cell4 X.out
        obtain ⟨⟨k0, k1, k2, k3⟩, z0, z1, z2, z3⟩ := cell4 E.out
        go_wp2
        go_roundg kk1
        case measure => omega
        case rel =>
          refine ⟨s', ⟨q.R ++ [y], s'.rest, s.closed, 0⟩, A5, c5, HA2, ⟨by have := HK.out; have := NO.out; omega⟩, ⟨by have := HL.out; have := NO.out; rw [List.length_append, List.length_singleton]; omega⟩, REL, ⟨by rw [List.length_append, List.length_singleton]; exact blk4_put X.out⟩, ⟨Kd.F_far (p := ⟨b4, 3, none⟩) (Kd.F_far (p := ⟨b4, 2, none⟩) (Kd.F_far (p := ⟨b4, 1, none⟩) (Kd.F_far (p := ⟨b4, 0, none⟩) F6.out (fun _ hk => hk.2) _) (fun _ hk => hk.2) _) (fun _ hk => hk.2) _) (fun _ hk => hk.2) _⟩, H5c, ⟨below4_put HB.out NB.out⟩⟩
      · obtain ⟨⟨q1, q2, q3, q4, q5, q6⟩, hp⟩ : ∃ p, takeS s = p := ⟨_, rfl⟩
        rw [hp] at p1 p2 ha
        simp only at p1 p2 ha
        have RN : Aside0 (Calls Try.prog 21 #[.agg #[.slice AA q.R.length cc, .string q.rest, .bool q.closed, .int .i64 q.e]] wr (NextPost wr (fun k => w.heap.size ≤ k ∧ k ≠ b4) ({ q with e := q6 }, false))) := ⟨rNext.calls_ AA cc q.R q.rest q.closed q.e _ _ wr FR.out HCC.out (by omega) (by omega) HRel.out.ok p2⟩
        clear p2 p3 hp HA
        go_upto_region 3 with (first | (go_at_call 21; (refine RN.out.mono ?_); rintro e w5 ⟨v, rfl, ⟨A5, c5, hv, hc5, hF5⟩, hb⟩; replace hv : v = .slice A5 q.R.length c5 := hv; subst hv; have H5c := Aside0.mk hc5; have HB5 := Aside0.mk (below_step HB.out hb); have F5 : Aside0 (Kd.F k30 w5 (fun k => w.heap.size ≤ k) A5 q.R.length q.R) := ⟨Kd.F_mono hF5 (fun k hk => hk.elim (fun h => h.1) (fun h => Nat.le_trans HB.out.size h))⟩; clear hb hF5 hc5 X HB FR i0 i1 i2 i3 u0 u1 u2 u3) | fail)
        have E := Aside0.mk (blk_new w5 (.cells #[.slice A5 q.R.length c5, .string q.rest, .bool q.closed, .int .i64 q6] 45))
        have F6 := Aside0.mk (Kd.F_alloc F5.out (.cells #[.slice A5 q.R.length c5, .string q.rest, .bool q.closed, .int .i64 q6] 45))
        have HB := Aside0.mk (below_alloc HB5.out (.cells #[.slice A5 q.R.length c5, .string q.rest, .bool q.closed, .int .i64 q6] 45))
        clear F5 HB5
        generalize w5.alloc (.cells #[.slice A5 q.R.length c5, .string q.rest, .bool q.closed, .int .i64 q6] 45) = w6 at E F6 HB ⊢
        generalize w5.heap.size = b5 at E ⊢
        obtain ⟨⟨k0, k1, k2, k3⟩, z0, z1, z2, z3⟩ := cell4 E.out
        by_cases h6 : q6 = 0
        · have e6 : (q6 != 0) = false := bne_eq_false_iff_eq.mpr h6
          rw [if_neg (by simp [h6]), if_pos (by rcases p1 with h | h; exact absurd h6 h; exact h)] at ha
          subst ha
          clear p1 h6
          go_wp2
          (try simp only [Exit.inBlock, Exit.then])
          refine bodyPost_ret (results_tmp2 rfl _ _ _) rfl ?_
          exact ⟨A5, c5, rfl, H5c.out, F6.out, HB.out⟩
        · have e6 : (q6 != 0) = true := bne_iff_ne.mpr h6
          rw [if_pos h6] at ha
          subst ha
          clear p1 h6
          go_wp2
          go_region
          all_goals go_wp2
          all_goals (try simp only [Exit.inBlock, Exit.then])
          all_goals refine bodyPost_ret (results_tmp2 rfl _ _ _) rfl ?_
          all_goals exact ⟨none, 0, rfl, Nat.le_refl _, Kd.F_nil _ _ _, below_drew HB.out⟩
end Go.Proofs.Ytejcopppchaneaa.PF
end
section
set_option linter.unusedVariables false
set_option linter.unusedSimpArgs false
namespace Go.Proofs.Ytejcopppchaneaa.PF
open Go.RowKit Go.Proofs.YtejcopppchaneaaW.PrintWords Go.Proofs.YtejcopppchaneaaW.PrintLast Go.Proofs.YtejcopppchaneaaW.PrintMore Go.Proofs.Ytejcopppchaneaa.Pure
theorem LAt.rkeep {α : Type} {d : Kd α} {w w' : World} {base e g : Nat} {s : LS} {v : Value} {xs : List α} (hM : LAt w g s) (h : d.R e w base (fun _ => True) v xs) (ht : ∀ q, q ∈ e :: d.E → q ≠ 61) (hK : KeepBut w w' g none) : d.R e w' base (fun _ => True) v xs :=
  Kd.R_mono (Kd.R_keep (Kd.R_types h hM ht) hK (fun _ hk => hk.2)) (fun _ _ => trivial)
theorem LAt.below {w w' : World} {g : Nat} {s : LS} (h : LAt w g s) (hb : Below w.heap.size w w') : LAt w' g s := blk_below h hb
theorem LAt.over {w w' : World} {g : Nat} {s : LS} {u : Value} {ys : List S30} {ok : Nat → Prop} {b' : Nat} (h : LAt w g s) (hv : Kd.R k30 30 w b' ok u ys) (hg : w.grownBy w' u.ownBlock) : LAt w' g s := blk_grown h hg (Kd.R_ne hv h (by decide))
set_option maxHeartbeats 16000000 in
set_option maxRecDepth 100000 in
theorem lens_All.calls_ (x : ByteArray) (hz : x.size ≤ 60000) (r : List S30 × Int) (hr : allS x = r) (w : World) :
    Calls Try.prog 9 #[.string x] w fun e w' => ∃ v : Value, e = .returned (.tuple #[v, .int .i64 r.2]) ∧ Kd.R k30 30 w' w.heap.size (fun _ => True) v r.1 ∧ Below w.heap.size w w' := by
  have hu30 := Try.underlying30
  have hu61 := Try.underlying61
  have hmf : ∀ (fn : Fn) (first cap : Array Value) (w : World), (Instr.makeFunc fn first cap).run Try.prog w = .ok (.func fn first cap) w := fun _ _ _ _ => rfl
  have HZ := Aside0.mk hz
  have HR0 := Aside0.mk hr
  clear hz hr
  go_enter Try.func9, Try.ntmps9
  go_upto_region 4 with fail
  have L0 : Aside0 (LAt (w.alloc (.cells #[.string x, .int .i64 0, .int .i64 0, .int .i64 0, .slice none 0 0, .bool true, .bool false, .int .i64 0] 61)) w.heap.size ⟨x, 0, 0, 0, true, false, 0⟩) := ⟨blk_new _ _⟩
  have B0 := Aside0.mk (below_alloc (Below.refl w.heap.size w) (.cells #[.string x, .int .i64 0, .int .i64 0, .int .i64 0, .slice none 0 0, .bool true, .bool false, .int .i64 0] 61))
  have HG := Aside0.mk (Nat.le_refl w.heap.size)
  obtain ⟨g, hg⟩ : ∃ g, w.heap.size = g := ⟨_, rfl⟩
  have HG : Aside0 (w.heap.size ≤ g) := ⟨by omega⟩
  have L0' : Aside0 (LAt (w.alloc (.cells #[.string x, .int .i64 0, .int .i64 0, .int .i64 0, .slice none 0 0, .bool true, .bool false, .int .i64 0] 61)) g ⟨x, 0, 0, 0, true, false, 0⟩) := ⟨hg ▸ L0.out⟩
  clear L0
  generalize w.alloc (.cells #[.string x, .int .i64 0, .int .i64 0, .int .i64 0, .slice none 0 0, .bool true, .bool false, .int .i64 0] 61) = w0 at L0' B0 ⊢
  (try rw [hg])
  clear hg
  go_loopg [6] (x.size + 1) (fun kq v6 wr => ∃ (s : LS) (acc : List S30), Aside0 (allL kq s acc = r) ∧ Aside0 (s.rest.size < kq) ∧ Aside0 (acc.length + s.rest.size ≤ 60000) ∧ Aside0 (LOk s) ∧ Aside0 (LAt wr g s) ∧ Aside0 (Kd.R k30 30 wr w.heap.size (fun _ => True) v6 acc) ∧ Aside0 (Below w.heap.size w wr))
  case atStart => exact ⟨⟨x, 0, 0, 0, true, false, 0⟩, [], HR0, ⟨Nat.lt_succ_self _⟩, ⟨by have := HZ.out; simpa using this⟩, ⟨⟨HZ.out, okR_small (by simp) (by simp) (by simp) (by simp)⟩⟩, L0', ⟨Kd.R_nil _ _ _ _ _⟩, B0⟩
  case round =>
    obtain ⟨s, acc, HA, HK, HL, HO, L, O, B⟩ := hrel
    obtain ⟨Ao, co, rfl⟩ := Kd.R_slice O.out
    cases gk with
    | zero => exact absurd HK.out (by omega)
    | succ k1 =>
      have NK := fun a b => nextL_ok s HO.out a b
      have TG := fun a b => takeS_good s a b
      have ha := HA.out
      unfold allL at ha
      obtain ⟨⟨q1, q2, q3, q4, q5, q6⟩, hp⟩ : ∃ q, takeS s = q := ⟨_, rfl⟩
      rw [hp] at ha NK TG
      have HP := Aside0.mk hp
      have NKA := Aside0.mk NK
      have TGA := Aside0.mk TG
      clear hp NK TG HA
      by_cases h6 : q6 = 0
      · by_cases h5 : q5 = 0
        · subst h6; subst h5
          rw [if_neg (by simp), if_pos rfl] at ha
          subst ha
          have e6 : True := trivial
          have NX : Aside0 (Calls Try.prog 15 #[.pointer (some ⟨g, 0, none⟩)] wr fun e w' => ∃ v : Value, e = .returned (.tuple #[.agg #[.int .i64 0, .int .i64 0, .int .i64 0, v], .bool false, .int .i64 0]) ∧ Kd.R (Kd.int .i64) 3 w' wr.heap.size (fun _ => True) v [] ∧ LAt w' g ⟨s.rest, s.k, s.n, s.r, s.closed, s.ended, 0⟩ ∧ KeepBut wr w' g none ∧ Below w.heap.size wr w') := ⟨lens_Next.stop w.heap.size g s.rest s.k s.n s.r s.closed s.ended s.e q1 q2 q3 q4 0 0 wr L.out HG.out B.out.size HO.out.1 HO.out.2 (fun h => (rt_good s.rest (by have := HO.out.1; omega) h).1) HP.out (.inr rfl)⟩
          go_upto_region 5 with (first | (go_at_call 15; (with_reducible refine NX.out.mono ?_); rintro e w2 ⟨v, rfl, hR, hL2, hK, hb⟩; obtain ⟨A, c, rfl⟩ := Kd.R_slice hR; have L2 := Aside0.mk hL2; have O2 := Aside0.mk (LAt.rkeep L.out O.out (by decide) hK); have B2 := Aside0.mk (B.out.trans hb); have R2 := Aside0.mk (Kd.R_lower hR B.out.size); clear hR hL2 hK hb) | fail)
          have O3 := Aside0.mk (Kd.R_alloc O2.out (.cells #[.int .i64 0, .int .i64 0, .int .i64 0, .slice A ([] : List Int).length c] 30))
          have B3 := Aside0.mk (below_alloc B2.out (.cells #[.int .i64 0, .int .i64 0, .int .i64 0, .slice A ([] : List Int).length c] 30))
          go_wp2
          (try simp only [Exit.inBlock, Exit.then])
          refine bodyPost_ret (results_tmp2 rfl _ _ _) rfl ?_
          exact ⟨_, rfl, O3.out, B3.out⟩
        · subst h6
          rw [if_neg (by simp), if_neg (by simpa using h5)] at ha
          have HA := Aside0.mk ha
          obtain ⟨t1, t2⟩ := TGA.out rfl h5
          obtain ⟨t3, t4, t5, t6⟩ := NKA.out rfl h5
          have T3 := Aside0.mk t3
          have T4 := Aside0.mk t4
          have T5 := Aside0.mk t5
          have T6 := Aside0.mk t6
          have T1 := Aside0.mk t1
          have HX : Aside0 (xOf (rt s.rest) = ⟨q1, q2, q3, q4⟩) := ⟨by rw [← t1]; rfl⟩
          have HN : Aside0 (nextL s = ⟨s.rest.extract q5.toNat s.rest.size, q1, q2, q3, s.closed, q1 == 6, 0⟩) := ⟨by unfold nextL; rw [← t1]⟩
          have H5 : Aside0 (1 ≤ q5 ∧ q5 ≤ s.rest.size) := ⟨by rw [← t1] at t5 t6; exact ⟨t5, t6⟩⟩
          clear ha t1 t2 t3 t4 t5 t6 h5
          have NX : Aside0 (Calls Try.prog 15 #[.pointer (some ⟨g, 0, none⟩)] wr fun e w' => ∃ v : Value, e = .returned (.tuple #[.agg #[.int .i64 q1, .int .i64 q2, .int .i64 q3, v], .bool true, .int .i64 0]) ∧ Kd.R (Kd.int .i64) 3 w' wr.heap.size (fun _ => True) v q4 ∧ LAt w' g ⟨s.rest.extract q5.toNat s.rest.size, q1, q2, q3, s.closed, q1 == 6, 0⟩ ∧ KeepBut wr w' g none ∧ Below w.heap.size wr w') := ⟨lens_Next.go_ w.heap.size g s.rest s.k s.n s.r s.closed s.ended s.e q1 q2 q3 q4 q5 0 wr L.out HG.out B.out.size HO.out.1 HO.out.2 (fun h => (rt_good s.rest (by have := HO.out.1; omega) h).1) HP.out rfl H5.out.1 H5.out.2⟩
          go_upto_region 5 with (first | (go_at_call 15; (with_reducible refine NX.out.mono ?_); rintro e w2 ⟨v, rfl, hR, hL2, hK, hb⟩; obtain ⟨A, c, rfl⟩ := Kd.R_slice hR; have L2 := Aside0.mk hL2; have O2 := Aside0.mk (LAt.rkeep L.out O.out (by decide) hK); have B2 := Aside0.mk (B.out.trans hb); have R2 := Aside0.mk (Kd.R_lower hR B.out.size); clear hR hL2 hK hb) | fail)
          have O3 := Aside0.mk (Kd.R_alloc O2.out (.cells #[.int .i64 q1, .int .i64 q2, .int .i64 q3, .slice A q4.length c] 30))
          have B3 := Aside0.mk (below_alloc B2.out (.cells #[.int .i64 q1, .int .i64 q2, .int .i64 q3, .slice A q4.length c] 30))
          have R3 := Aside0.mk (Kd.R_alloc R2.out (.cells #[.int .i64 q1, .int .i64 q2, .int .i64 q3, .slice A q4.length c] 30))
          have L3 := Aside0.mk (L2.out.below (below_alloc (Below.refl _ _) (.cells #[.int .i64 q1, .int .i64 q2, .int .i64 q3, .slice A q4.length c] 30)))
          have X3 := Aside0.mk (blk_new w2 (.cells #[.int .i64 q1, .int .i64 q2, .int .i64 q3, .slice A q4.length c] 30))
          clear O2 B2 R2 L2 O B L
          generalize w2.alloc (.cells #[.int .i64 q1, .int .i64 q2, .int .i64 q3, .slice A q4.length c] 30) = w3 at O3 B3 R3 L3 X3 ⊢
          generalize w2.heap.size = gx at X3 ⊢
          obtain ⟨⟨l0, l1, l2, l3⟩, m0, m1, m2, m3⟩ := cell4 X3.out
          go_wp2_with (first | (at_builtin; refine Kd.R_append k30 (w0 := w) w.heap.size rfl (.tmp 29) (.tmp 31) 22 30 (.agg #[(.int .i64 0), (.int .i64 0), (.int .i64 0), (.slice none 0 0)]) 48 rfl Try.underlying22 info30 rfl (by decide) (by omega) (.slice Ao acc.length co) acc ⟨q1, q2, q3, q4⟩ [.int .i64 q1, .int .i64 q2, .int .i64 q3, .slice A q4.length c] (fun _ => True) (fun k_ => True ∧ some k_ ≠ (Value.slice Ao acc.length co).ownBlock) rfl ?aX ?aP (fun _ hk => hk) (fun _ _ => trivial) ?aO ?aB ?aS ?aL ?_; (case aX => first | (go_simp; done) | (go_simp; rfl)); (case aP => exact k30_mkM _ _ _ ⟨q1, q2, q3, q4⟩ (Kd.R_apartR R3.out O3.out (by decide))); (case aO => exact O3.out); (case aB => exact B3.out); (case aS => exact B3.out.size); (case aL => have := HL.out; omega); intro v1 w4 ho4 hb4 hg4 hat4; have O4 := Aside0.mk ho4; have L4 := Aside0.mk (LAt.over L3.out O3.out hg4); have B4 := Aside0.mk hb4; clear hat4 hg4 ho4 hb4) | fail)
          go_roundg k1
          case measure => omega
          case rel =>
            refine ⟨nextL s, acc ++ [⟨q1, q2, q3, q4⟩], ⟨by have := HA.out; rw [HX.out] at this; exact this⟩, ⟨by have := HK.out; have := T4.out; omega⟩, ⟨by have := HL.out; have := T4.out; rw [List.length_append, List.length_singleton]; omega⟩, T3, ⟨by rw [HN.out]; exact L4.out⟩, O4, B4⟩
      · rw [if_pos (by simpa using h6)] at ha
        subst ha
        have e6 : (q6 != 0) = true := bne_iff_ne.mpr h6
        have NX : Aside0 (Calls Try.prog 15 #[.pointer (some ⟨g, 0, none⟩)] wr fun e w' => ∃ v : Value, e = .returned (.tuple #[.agg #[.int .i64 0, .int .i64 0, .int .i64 0, v], .bool false, .int .i64 q6]) ∧ Kd.R (Kd.int .i64) 3 w' wr.heap.size (fun _ => True) v [] ∧ LAt w' g ⟨s.rest, s.k, s.n, s.r, s.closed, s.ended, q6⟩ ∧ KeepBut wr w' g none ∧ Below w.heap.size wr w') := ⟨lens_Next.stop w.heap.size g s.rest s.k s.n s.r s.closed s.ended s.e q1 q2 q3 q4 q5 q6 wr L.out HG.out B.out.size HO.out.1 HO.out.2 (fun h => (rt_good s.rest (by have := HO.out.1; omega) h).1) HP.out (.inl h6)⟩
        clear h6
        go_upto_region 5 with (first | (go_at_call 15; (with_reducible refine NX.out.mono ?_); rintro e w2 ⟨v, rfl, hR, hL2, hK, hb⟩; obtain ⟨A, c, rfl⟩ := Kd.R_slice hR; have L2 := Aside0.mk hL2; have O2 := Aside0.mk (LAt.rkeep L.out O.out (by decide) hK); have B2 := Aside0.mk (B.out.trans hb); have R2 := Aside0.mk (Kd.R_lower hR B.out.size); clear hR hL2 hK hb) | fail)
        have O3 := Aside0.mk (Kd.R_alloc O2.out (.cells #[.int .i64 0, .int .i64 0, .int .i64 0, .slice A ([] : List Int).length c] 30))
        have B3 := Aside0.mk (below_alloc B2.out (.cells #[.int .i64 0, .int .i64 0, .int .i64 0, .slice A ([] : List Int).length c] 30))
        go_wp2
        (try simp only [Exit.inBlock, Exit.then])
        refine bodyPost_ret (results_tmp2 rfl _ _ _) rfl ?_
        exact ⟨_, rfl, Kd.R_nil _ _ _ _ _, B3.out⟩
end Go.Proofs.Ytejcopppchaneaa.PF
end
section
set_option linter.unusedVariables false
set_option linter.unusedSimpArgs false
namespace Go.Proofs.Ytejcopppchaneaa.PF
open Go.RowKit Go.Proofs.YtejcopppchaneaaW.PrintWords Go.Proofs.YtejcopppchaneaaW.PrintLast Go.Proofs.YtejcopppchaneaaW.PrintMore Go.Proofs.Ytejcopppchaneaa.Pure
theorem all_ex1 : allS (⟨#[1, 2, 2, 6, 4, 0]⟩ : ByteArray) = ([(⟨1, 2, 2, []⟩ : S30), ⟨6, 4, 0, []⟩], 0) := by kernel_rfl
theorem all_ex2 : allS (⟨#[1, 2, 1, 1, 2, 1]⟩ : ByteArray) = ([], 9) := by kernel_rfl
theorem same_ex : juratref26_Same.f 9 [(⟨1, 2, 2, []⟩ : S30), ⟨6, 4, 0, []⟩] [(⟨1, 2, 2, []⟩ : S30), ⟨6, 4, 0, []⟩] = some true := by kernel_rfl
set_option maxHeartbeats 16000000 in
set_option maxRecDepth 100000 in
theorem juratlaw31_awake.calls_ (w : World) : Calls Try.prog 8 #[] w fun e w' => e = .returned (.bool true) ∧ Below w.heap.size w w' := by
  have hu30 := Try.underlying30
  go_enter Try.func8, Try.ntmps8
  go_upto_region 2 with (first | (go_at_call 9; (refine (lens_All.calls_ (⟨#[1, 2, 2, 6, 4, 0]⟩ : ByteArray) (by decide) _ all_ex1 _).mono ?_); rintro e w1 ⟨v, rfl, hR, hb⟩; obtain ⟨A, c, rfl⟩ := Kd.R_slice hR; have HR := Aside0.mk hR; have HB := Aside0.mk hb; clear hR hb) | fail)
  go_upto_region 3 with (first | (go_at_call 9; (refine (lens_All.calls_ (⟨#[1, 2, 1, 1, 2, 1]⟩ : ByteArray) (by decide) _ all_ex2 _).mono ?_); rintro e w2 ⟨v, rfl, hR, hb⟩; obtain ⟨A2, c2, rfl⟩ := Kd.R_slice hR; have RN := Aside0.mk (Kd.R_below HR.out hb); have BN := Aside0.mk (below_step HB.out hb); clear hR hb HR HB; have HR := RN; have HB := BN; clear RN BN) | fail)
  go_wp2_with (first
    | ((with_reducible refine gate_dst (N := 16) rfl ?_); refine Kd.R_lit k30 _ 30 ?hg (N := 16) ?hd (xs := [(⟨1, 2, 2, []⟩ : S30), ⟨6, 4, 0, []⟩]) (inner := [.int .i64 1, .int .i64 2, .int .i64 2, .slice none 0 0, .int .i64 6, .int .i64 4, .int .i64 0, .slice none 0 0]) (ok := fun _ => True) (okp := fun _ => True) ?hr ?hp (fun _ hk => hk) trivial (Below.refl _ _) (Nat.le_refl _) (by simp) ?_; (case hd => rfl); (case hg => rfl); (case hr => first | (go_simp; done) | (go_simp; rfl)); (case hp => exact (Reps.c4 (k30_mkM _ _ _ ⟨1, 2, 2, []⟩ (Kd.R_nil _ _ _ _ _)) (Reps.c4 (k30_mkM _ _ _ ⟨6, 4, 0, []⟩ (Kd.R_nil _ _ _ _ _)) (Reps.none _ _)))); intro u5 w5 ho5 hb5 hg_ hnew_; clear hg_ hnew_; obtain ⟨A5, c5, rfl⟩ := Kd.R_slice ho5; have R5 := Aside0.mk ho5; have B5 := Aside0.mk (below_step HB.out hb5); have H5 := Aside0.mk (Kd.R_below HR.out hb5); clear ho5 hb5)
    | (go_at_call 11; (refine (juratref26_Same.calls 9 A c [(⟨1, 2, 2, []⟩ : S30), ⟨6, 4, 0, []⟩] A5 c5 [(⟨1, 2, 2, []⟩ : S30), ⟨6, 4, 0, []⟩] true _ (Kd.R_reads' H5.out).2.2 (Kd.R_reads' H5.out).2.1 (Kd.R_reads' R5.out).2.2 (Kd.R_reads' R5.out).2.1 same_ex).mono ?_); rintro e w6 ⟨rfl, hb⟩; have B6 := Aside0.mk (below_step B5.out hb); clear hb)
    | fail)
  go_ret
  exact ⟨rfl, B6.out⟩
end Go.Proofs.Ytejcopppchaneaa.PF
end
section
namespace Go.Proofs.YtejcopppchaneaaW.PrintWords
open Go.RowKit
def Opens {α : Type} (P : Program) (t : TypeId) (K : Kd α) (G : α → Prop) : Prop :=
  ∀ {H : Type} (enc : TypeId × Value → H) (w : World) (fuel : Nat) (cs : List Value) (x : DataW H × List MemPlace), DataW.trod enc P w 0 (fun _ => true) true fuel t cs = some x → ∃ a, K.K w a cs ∧ G a
theorem opens_int {P : Program} {t : TypeId} {k : IntKind} (ht : P.underlying t = some (.int k)) : Opens P t (Kd.int k) (fun n => (Lit.int k n).wf = true) := by
  intro H enc w fuel cs x h
  obtain ⟨n, rfl, _, hw⟩ := DataW.trod_int ht h
  exact ⟨n, rfl, hw⟩
theorem exists_list {α : Type} {Q : Nat → α → Prop} : ∀ (n : Nat), (∀ i, i < n → ∃ a, Q i a) → ∃ xs : List α, xs.length = n ∧ ∀ j p, xs[j]? = some p → Q j p
  | 0, _ => ⟨[], rfl, fun j p h => by simp at h⟩
  | n + 1, h => by
    obtain ⟨xs, hl, hq⟩ := exists_list n (fun i hi => h i (by omega))
    obtain ⟨a, ha⟩ := h n (by omega)
    refine ⟨xs ++ [a], by simp [hl], fun j p hj => ?_⟩
    rcases Nat.lt_or_ge j xs.length with h1 | h1
    · rw [List.getElem?_append_left h1] at hj
      exact hq j p hj
    · rw [List.getElem?_append_right h1] at hj
      have h2 : j = xs.length := by
        have := (List.getElem?_eq_some_iff.1 hj).1
        simp at this
        omega
      subst h2
      simp at hj
      subst hj
      rw [hl]; exact ha
theorem opens_slice {α : Type} {P : Program} {t e : TypeId} {K : Kd α} {G : α → Prop} (ht : P.underlying t = some (.slice e)) (hc : P.cellsOf e = K.sz) (he : Opens P e K G) :
    Opens P t (Kd.slice e K) (fun xs => xs.length ≤ maxLen ∧ ∀ x ∈ xs, G x) := by
  intro H enc w fuel cs x h
  rcases DataW.trod_slice ht h with ⟨rfl, _⟩ | ⟨a, len, cap, elems, rest, n, _, rfl, _, _, hl, hm, hlen, hel, _, _⟩
  · exact ⟨[], ⟨none, 0, rfl, Nat.le_refl _, ⟨rfl, by simp, fun h => by simp at h⟩⟩, ⟨by simp, fun x hx => by cases hx⟩⟩
  · obtain ⟨xs, hxl, hxs⟩ := exists_list (Q := fun i b => ∃ c, c.length = K.sz ∧ (K.K w b c ∧ G b) ∧ ∀ j u, c[j]? = some u → w.cell? (a.add (i * K.sz + j)) = some u) len (fun i hi => by
      have h1 := hel i hi
      have h2 : elems[i]? = some (elems[i]'(by omega)) := List.getElem?_eq_getElem (by omega)
      rw [h2] at h1
      obtain ⟨c, hcc, htr⟩ := Option.bind_eq_some_iff.1 h1
      obtain ⟨b, hK, hG⟩ := he enc w n c _ htr
      obtain ⟨_, hcl, hat⟩ := World.cells?_some hcc
      refine ⟨b, c, by rw [hcl, hc], ⟨hK, hG⟩, fun j u hu => ?_⟩
      have hj : j < P.cellsOf e := by
        have := (List.getElem?_eq_some_iff.1 hu).1
        omega
      have h3 := hat j hj
      rw [hu, hc] at h3
      have h4 : (a.add (i * K.sz)).add j = a.add (i * K.sz + j) := by
        unfold Addr.add
        by_cases h5 : i * K.sz = 0 <;> by_cases h6 : j = 0 <;> simp [h5, h6, Nat.add_assoc]
      rwa [h4] at h3)
    subst hxl
    refine ⟨xs, ⟨some a, cap, rfl, hl, ⟨rfl, by unfold maxLen at hm; omega, fun _ => ⟨a, rfl, fun j p hj => ?_⟩⟩⟩, ⟨by omega, fun p hp => ?_⟩⟩
    · obtain ⟨c, h1, h2, h3⟩ := hxs j p hj
      exact ⟨c, h1, h2.1, h3⟩
    · obtain ⟨j, hj, rfl⟩ := List.mem_iff_getElem.1 hp
      obtain ⟨c, h1, h2, h3⟩ := hxs j _ (List.getElem?_eq_getElem hj)
      exact h2.2
theorem drop_split (cs : List Value) (a b : Nat) : cs.drop a = (cs.drop a).take b ++ cs.drop (a + b) := by
  rw [← List.drop_drop, List.take_append_drop]
theorem drop_last {cs : List Value} {a b : Nat} (h : cs.length = a + b) : cs.drop a = (cs.drop a).take b := by
  rw [List.take_of_length_le (by rw [List.length_drop]; omega)]
end Go.Proofs.YtejcopppchaneaaW.PrintWords
end
section
namespace Go.Proofs.Ytejcopppchaneaa.PF
open Go.RowKit Go.Proofs.YtejcopppchaneaaW.PrintWords Go.Proofs.YtejcopppchaneaaW.PrintLast Go.Proofs.YtejcopppchaneaaW.PrintMore
theorem opens_28 : Opens Try.prog 28 (Kd.slice 3 (Kd.int .i64)) (fun xs : List Int => xs.length ≤ maxLen ∧ ∀ x ∈ xs, (fun n : Int => (Lit.int .i64 n).wf = true) x) := opens_slice Try.underlying28 (by kernel_rfl) (opens_int (P := Try.prog) Try.underlying3)
def good30 (x : S30) : Prop := (fun n : Int => (Lit.int .i64 n).wf = true) x.f0 ∧ (fun n : Int => (Lit.int .i64 n).wf = true) x.f1 ∧ (fun n : Int => (Lit.int .i64 n).wf = true) x.f2 ∧ (fun xs : List Int => xs.length ≤ maxLen ∧ ∀ x ∈ xs, (fun n : Int => (Lit.int .i64 n).wf = true) x) x.f3
theorem opens_30 : Opens Try.prog 30 k30 good30 := by
  intro H enc w fuel cs x h
  obtain ⟨xs, n, _, _, hlen, hxl, hf⟩ := DataW.trod_struct Try.underlying30 h
  have hN : Try.prog.cellsOf 30 = 4 := by kernel_rfl
  rw [hN] at hlen
  have c0 : Try.prog.cellsOf 3 = 1 := by kernel_rfl
  have h0 : DataW.trod enc Try.prog w 0 (fun _ => true) true n 3 ((cs.drop 0).take (Try.prog.cellsOf 3)) = xs[0]? := hf 0 _ rfl
  rw [c0] at h0
  obtain ⟨a0, K0, G0⟩ := (opens_int (P := Try.prog) Try.underlying3) enc w n _ _ (h0.trans (List.getElem?_eq_getElem (by rw [hxl]; decide)))
  have c1 : Try.prog.cellsOf 3 = 1 := by kernel_rfl
  have h1 : DataW.trod enc Try.prog w 0 (fun _ => true) true n 3 ((cs.drop 1).take (Try.prog.cellsOf 3)) = xs[1]? := hf 1 _ rfl
  rw [c1] at h1
  obtain ⟨a1, K1, G1⟩ := (opens_int (P := Try.prog) Try.underlying3) enc w n _ _ (h1.trans (List.getElem?_eq_getElem (by rw [hxl]; decide)))
  have c2 : Try.prog.cellsOf 3 = 1 := by kernel_rfl
  have h2 : DataW.trod enc Try.prog w 0 (fun _ => true) true n 3 ((cs.drop 2).take (Try.prog.cellsOf 3)) = xs[2]? := hf 2 _ rfl
  rw [c2] at h2
  obtain ⟨a2, K2, G2⟩ := (opens_int (P := Try.prog) Try.underlying3) enc w n _ _ (h2.trans (List.getElem?_eq_getElem (by rw [hxl]; decide)))
  have c3 : Try.prog.cellsOf 28 = 1 := by kernel_rfl
  have h3 : DataW.trod enc Try.prog w 0 (fun _ => true) true n 28 ((cs.drop 3).take (Try.prog.cellsOf 28)) = xs[3]? := hf 3 _ rfl
  rw [c3] at h3
  obtain ⟨a3, K3, G3⟩ := opens_28 enc w n _ _ (h3.trans (List.getElem?_eq_getElem (by rw [hxl]; decide)))
  have e3 : cs.drop 3 = (cs.drop 3).take 1 := drop_last (by rw [hlen])
  rw [← e3] at K3
  exact ⟨⟨a0, a1, a2, a3⟩, (show (k30).K w _ (cs.drop 0) from ⟨_, _, drop_split cs 0 1, K0, ⟨_, _, drop_split cs 1 1, K1, ⟨_, _, drop_split cs 2 1, K2, K3⟩⟩⟩), ⟨G0, G1, G2, G3⟩⟩
theorem opens_22 : Opens Try.prog 22 (Kd.slice 30 k30) (fun xs : List S30 => xs.length ≤ maxLen ∧ ∀ x ∈ xs, good30 x) := opens_slice Try.underlying22 (by kernel_rfl) opens_30
end Go.Proofs.Ytejcopppchaneaa.PF
end
section
set_option linter.unusedVariables false
set_option linter.unusedSimpArgs false
namespace Go.Proofs.Ytejcopppchaneaa.PF
open Go.RowKit Go.Proofs.YtejcopppchaneaaW.PrintWords Go.Proofs.YtejcopppchaneaaW.PrintLast Go.Proofs.YtejcopppchaneaaW.PrintMore Go.Proofs.Ytejcopppchaneaa.Pure
def hd7 : ByteArray := ⟨#[99, 101, 114, 116, 1, 1, 0]⟩
theorem hd7_ev : Ev (fun k => juratref29_Put.f k (⟨#[]⟩ : ByteArray)) (hd7, 0) := Ev.of (k := 5) (juratref29_Put.mono _) (by kernel_rfl)
theorem whole7 (l : List S30) (hx : ∀ x ∈ l, okR x) (hl : l.length ≤ 1000) (p : ByteArray × Int) (hp : wholeS hd7 l = p) : ∃ k, juratref30_Whole.f k (⟨#[]⟩ : ByteArray) l = some (p.1, p.2) := by
  have h := (whole_ev _ hd7 hd7_ev (by decide) l hx hl).rounds
  rw [hp] at h
  exact h
theorem allL_bad : ∀ (f : Nat) (s : LS) (acc : List S30), (allL f s acc).2 ≠ 0 → (allL f s acc).1 = [] := by
  intro f
  induction f with
  | zero => intro s acc h; exact absurd rfl h
  | succ f ih =>
    intro s acc h
    by_cases h0 : (takeS s).2.2.2.2.2 = 0
    · by_cases hn : (takeS s).2.2.2.2.1 = 0
      · rw [allL_stop h0 hn] at h; exact absurd rfl h
      · rw [allL_more h0 hn] at h ⊢; exact ih _ _ h
    · rw [allL_err h0]
theorem ids_next {l : List S30} {i : Nat} (hI : ∀ j (h : j < l.length), j < i → l[j].f3.length ≤ 30) {hi : i < l.length} (h0 : l[i].f3.length ≤ 30) : ∀ j (h : j < l.length), j < i + 1 → l[j].f3.length ≤ 30 := by
  intro j h hj
  by_cases hji : j = i
  · subst hji; exact h0
  · exact hI j h (by omega)
theorem okR_good {x : S30} (h : good30 x) (hl : x.f3.length ≤ 100000) : okR x := ⟨jwf64 h.1, jwf64 h.2.1, jwf64 h.2.2.1, hl⟩
theorem same_rows (a : List S30) (hx : ∀ x ∈ a, okR x) (hl : a.length ≤ 1000) : ∃ k, juratref26_Same.f k a a = some true := (same26_ev a hx hl).rounds
set_option maxHeartbeats 16000000 in
set_option maxRecDepth 100000 in
theorem back_off (s : ByteArray) (l : List S30) (A : Option Addr) (c : Nat) (w : World) (h : 300 < s.size ∨ 20 < l.length) :
    Calls Try.prog 3 #[.string s, .slice A l.length c] w fun e w' => e = .returned (.bool true) ∧ Below w.heap.size w w' := by
  have B0 := Aside0.mk (Below.refl w.heap.size w)
  by_cases hs : 300 < s.size
  · have d0 : decide ((s.size : Int) > 300) = true := decide_eq_true (by omega)
    have d1 : decide (300 < s.size) = true := decide_eq_true (by omega)
    clear h hs
    go_enter Try.func3, Try.ntmps3
    go_wp2_with (first
      | (go_at_call 8; (refine (juratlaw31_awake.calls_ _).mono ?_); rintro e w6 ⟨rfl, hb⟩; have B6 := Aside0.mk (below_step (by repeat (first | (with_reducible first | exact B0.out | apply below_drew) | exact B0.out)) hb); clear hb)
      | fail)
    go_ret
    exact ⟨rfl, B6.out⟩
  · have d0 : decide ((s.size : Int) > 300) = false := decide_eq_false (by omega)
    have d1 : decide (300 < s.size) = false := decide_eq_false (by omega)
    have d2 : decide ((l.length : Int) > 20) = true := decide_eq_true (by omega)
    have d3 : decide (20 < l.length) = true := decide_eq_true (by omega)
    clear h hs
    go_enter Try.func3, Try.ntmps3
    go_wp2_with (first
      | (go_at_call 8; (refine (juratlaw31_awake.calls_ _).mono ?_); rintro e w6 ⟨rfl, hb⟩; have B6 := Aside0.mk (below_step (by repeat (first | (with_reducible first | exact B0.out | apply below_drew) | exact B0.out)) hb); clear hb)
      | fail)
    go_ret
    exact ⟨rfl, B6.out⟩
set_option maxHeartbeats 16000000 in
set_option maxRecDepth 100000 in
theorem back_main (s : ByteArray) (l : List S30) (A : Option Addr) (c : Nat) (w : World) (hA : Kd.C k30 w A l.length l) (hc : l.length ≤ c) (hs : s.size ≤ 300) (hl : l.length ≤ 20) (hok : ∀ x ∈ l, good30 x) :
    Calls Try.prog 3 #[.string s, .slice A l.length c] w fun e w' => e = .returned (.bool true) ∧ Below w.heap.size w w' := by
  have hu30 := Try.underlying30
  obtain ⟨⟨a, e⟩, hae⟩ : ∃ p, allS s = p := ⟨_, rfl⟩
  have hr := fun h : e = 0 => back_read s (by omega) a (by rw [hae, h]) hd7
  have hbad : e ≠ 0 → a = [] := fun h => by
    have := allL_bad (s.size + 1) ⟨s, 0, 0, 0, true, false, 0⟩ []
    rw [show allL (s.size + 1) ⟨s, 0, 0, 0, true, false, 0⟩ [] = allS s from rfl, hae] at this
    exact this h
  have hax : ∀ x ∈ a, okR x := by
    by_cases h : e = 0
    · exact (hr h).1
    · rw [hbad h]; intro x hx; cases hx
  have hal : a.length ≤ 300 := by
    by_cases h : e = 0
    · have := (hr h).2.1; omega
    · rw [hbad h]; simp
  obtain ⟨ks, hks⟩ := same_rows a hax (by omega)
  have HKW : Aside0 (e = 0 → ∃ k, juratref30_Whole.f k (⟨#[]⟩ : ByteArray) a = some (((⟨#[99, 101, 114, 116, 1, 1, 0]⟩ : ByteArray) ++ s), 0)) := ⟨fun h => whole7 a hax (by omega) _ (hr h).2.2⟩
  have KS := Aside0.mk hks
  have AE := Aside0.mk hae
  have HZ : Aside0 (s.size ≤ 60000) := ⟨by omega⟩
  have HS : Aside0 (s.size ≤ 300) := ⟨hs⟩
  have d0 : decide ((s.size : Int) > 300) = false := decide_eq_false (by omega)
  have d1 : decide (300 < s.size) = false := decide_eq_false (by omega)
  have d2 : decide ((l.length : Int) > 20) = false := decide_eq_false (by omega)
  have d3 : decide (20 < l.length) = false := decide_eq_false (by omega)
  have HA := Aside0.mk hA
  have HC := Aside0.mk hc
  have HL := Aside0.mk hl
  have HO := Aside0.mk hok
  have HB := Aside0.mk (Below.refl w.heap.size w)
  clear hA hc hl hok hks hax hal hr hbad hae hs
  go_enter Try.func3, Try.ntmps3
  go_wp2_with (first | (go_at_call 9; (refine (lens_All.calls_ s HZ.out (a, e) AE.out _).mono ?_); rintro e1 w1 ⟨v, rfl, hR, hb⟩; obtain ⟨A1, c1, rfl⟩ := Kd.R_slice hR; have R1 := Aside0.mk (Kd.R_lower hR HB.out.size); have BN := Aside0.mk (below_step (by repeat (first | (with_reducible first | exact HB.out | apply below_drew | apply pw_below_drewN | apply below_drew1) | exact HB.out)) hb); clear hR hb HB; have HB := BN; clear BN) | (go_at_call 10; (refine (rAll.calls_ s HZ.out (a, e) AE.out _).mono ?_); rintro e2 w2 ⟨A2, c2, rfl, hc2, hF, hb⟩; have RN := Aside0.mk (Kd.R_below R1.out hb); have BN := Aside0.mk (below_step (by repeat (first | (with_reducible first | exact HB.out | apply below_drew | apply pw_below_drewN | apply below_drew1) | exact HB.out)) hb); have F2 := Aside0.mk hF; have H2 := Aside0.mk hc2; clear hF hb hc2 HB R1; have HB := BN; have R1 := RN; clear BN RN) | (go_at_call 11; (refine (juratref26_Same.calls ks A1 c1 a A2 c2 a true _ (Kd.R_reads' R1.out).2.2 (Kd.R_reads' R1.out).2.1 (Kd.F_now F2.out) H2.out KS.out).mono ?_); rintro e3 w3 ⟨rfl, hb⟩; have RN := Aside0.mk (Kd.R_below R1.out hb); have BN := Aside0.mk (below_step (by repeat (first | (with_reducible first | exact HB.out | apply below_drew | apply pw_below_drewN | apply below_drew1) | exact HB.out)) hb); clear hb HB R1 F2; have HB := BN; have R1 := RN; clear BN RN) | fail)
  go_loopg [9] (l.length + 1) (fun kq v9 wr => ∃ i : Nat, v9 = .int .i64 (i : Int) ∧ Aside0 (i ≤ l.length ∧ l.length < kq + i) ∧ Aside0 (∀ j (h : j < l.length), j < i → l[j].f3.length ≤ 30) ∧ Aside0 (Kd.R k30 30 wr w.heap.size (fun _ => True) (.slice A1 a.length c1) a) ∧ Aside0 (Below w.heap.size w wr))
  case atStart => exact ⟨0, rfl, ⟨by omega, by omega⟩, ⟨fun j h hj => absurd hj (by omega)⟩, R1, HB⟩
  case round =>
    clear R1 HB
    obtain ⟨i, rfl, HK, HI, R1, HB⟩ := hrel
    cases gk with
    | zero => exact absurd HK.out (by omega)
    | succ k1 =>
      by_cases hi : i < l.length
      · have c0 : decide ((i : Int) < (l.length : Int)) = true := decide_eq_true (by omega)
        obtain ⟨ad, A3, c3, eA, hx0, hx1, hx2, hx3, hl3, hi3⟩ := at_T30 (Kd.C_below HA.out HB.out) (i : Int) (by omega) (by omega)
        rw [rdT_get l i hi] at hx0 hx1 hx2 hx3 hl3 hi3
        cases eA
        simp only [Int.toNat_natCast] at hx3
        clear hl3 hi3 hx0 hx1 hx2
        have c1n : decide (i < l.length) = true := decide_eq_true hi
        have hiT := eq_true hi
        have p0 : (0 : Int) ≤ (i : Int) := by omega
        have q0 : (i : Int) < (l.length : Int) := by omega
        have p1 := eq_true p0
        have q1 := eq_true q0
        clear p0 q0
        by_cases h30 : l[i].f3.length > 30
        · have e0 : decide ((l[i].f3.length : Int) > 30) = true := decide_eq_true (by omega)
          have e1 : decide (30 < l[i].f3.length) = true := decide_eq_true (by omega)
          clear h30 R1
          go_wp2_with (first | (go_at_call 8; (refine (juratlaw31_awake.calls_ _).mono ?_); rintro e9 w9 ⟨rfl, hb⟩; have BN := Aside0.mk (below_step (by repeat (first | (with_reducible first | exact HB.out | apply below_drew | apply pw_below_drewN | apply below_drew1) | exact HB.out)) hb); clear hb HB; have HB := BN; clear BN) | fail)
          go_ret
          exact ⟨rfl, HB.out⟩
        · have e0 : decide ((l[i].f3.length : Int) > 30) = false := decide_eq_false (by omega)
          have e1 : decide (30 < l[i].f3.length) = false := decide_eq_false (by omega)
          have H30 : Aside0 (l[i].f3.length ≤ 30) := ⟨by omega⟩
          clear h30
          go_wp2
          go_roundg k1
          case measure => have := HK.out; omega
          case rel => exact ⟨i + 1, by rw [jw64 (by have := HL.out; omega) (by have := HL.out; omega)]; rfl, ⟨by have := HK.out; omega, by have := HK.out; omega⟩, ⟨ids_next HI.out H30.out⟩, ⟨by first | exact R1.out | exact Kd.R_drew R1.out | exact Kd.R_below R1.out (by repeat (first | exact Below.refl _ _ | apply below_drew | apply below_drew1 | apply pw_below_drewN))⟩, ⟨(by repeat (first | (with_reducible first | exact HB.out | apply below_drew | apply pw_below_drewN | apply below_drew1) | exact HB.out))⟩⟩
      · have c0 : decide ((i : Int) < (l.length : Int)) = false := decide_eq_false (by omega)
        have c1n : decide (i < l.length) = false := decide_eq_false hi
        have hiF := eq_false hi
        have hids : ∀ x ∈ l, x.f3.length ≤ 30 := by
          intro x hx
          obtain ⟨j, hj, rfl⟩ := List.getElem_of_mem hx
          exact HI.out j hj (by omega)
        have hokl : ∀ x ∈ l, okR x := fun x hx => okR_good (HO.out x hx) (by have := hids x hx; omega)
        obtain ⟨⟨t, g⟩, htg⟩ : ∃ p, wholeS hd7 l = p := ⟨_, rfl⟩
        obtain ⟨kl, hkl⟩ := whole7 l hokl (by have := HL.out; omega) _ htg
        have KL := Aside0.mk hkl
        have LW : Aside0 (g = 0 → 7 ≤ t.size ∧ (t.extract 7 t.size).size ≤ 60000 ∧ allS (t.extract 7 t.size) = (mgS l, 0) ∧ ∃ k, juratref30_Whole.f k (⟨#[]⟩ : ByteArray) (mgS l) = some (t, 0)) := ⟨fun hg => by
          subst hg
          have h0 : goW 0 l = 0 := by
            unfold wholeS finW at htg
            by_cases h : goW 0 l = 0
            · exact h
            · rw [if_neg h] at htg; exact absurd (congrArg Prod.snd htg) h
          obtain ⟨b1, b2, b3, b4⟩ := back_written l hids (by have := HL.out; omega) hd7 rfl h0 t htg
          refine ⟨b1, ?_, b3, whole7 (mgS l) (okR_all l hokl) (by have := len_all l; have := HL.out; omega) _ b4⟩
          rw [ByteArray.size_extract]
          have := HL.out
          omega⟩
        clear hids hokl htg hkl hi HI HK HO
        by_cases he : e = 0
        · obtain ⟨kw, hkw⟩ := HKW.out he
          have KW := Aside0.mk hkw
          subst he
          clear hkw HKW
          have hzz := eq_false (show ¬ 9223372036854775807 < 7 + s.size by have := HS.out; omega)
          go_upto_region 14 with (first | (go_at_call 12; (refine (juratref30_Whole.calls kw _ A1 c1 a ((⟨#[99, 101, 114, 116, 1, 1, 0]⟩ : ByteArray) ++ s) 0 _ (Kd.R_reads' R1.out).2.2 (Kd.R_reads' R1.out).2.1 KW.out).mono ?_); rintro e4 w4 ⟨rfl, hb⟩; have BN := Aside0.mk (below_step (by repeat (first | (with_reducible first | exact HB.out | apply below_drew | apply pw_below_drewN | apply below_drew1) | exact HB.out)) hb); clear hb HB R1; have HB := BN; clear BN) | fail)
          go_upto_region 16 with fail
          go_upto_region 17 with (first | (go_at_call 12; (refine (juratref30_Whole.calls kl _ A c l t g _ (Kd.C_below HA.out (by repeat (first | (with_reducible first | exact HB.out | apply below_drew | apply pw_below_drewN | apply below_drew1) | exact HB.out))) HC.out KL.out).mono ?_); rintro e5 w5 ⟨rfl, hb⟩; have BN := Aside0.mk (below_step (by repeat (first | (with_reducible first | exact HB.out | apply below_drew | apply pw_below_drewN | apply below_drew1) | exact HB.out)) hb); clear hb HB; have HB := BN; clear BN) | fail)
          by_cases hg : g = 0
          · subst hg
            obtain ⟨km, hkm⟩ := (LW.out rfl).2.2.2
            have KM := Aside0.mk hkm
            have ZT := Aside0.mk (LW.out rfl).2.1
            have AT := Aside0.mk (LW.out rfl).2.2.1
            have T7 := (LW.out rfl).1
            have d7 : decide ((7 : Int) ≤ (t.size : Int)) = true := decide_eq_true (by omega)
            have d8 : decide (7 ≤ t.size) = true := decide_eq_true T7
            have T7' := eq_true T7
            have T7A := Aside0.mk T7
            have T7F := eq_false (show ¬ ((t.size : Int) < 7) by omega)
            clear hkm T7
            go_upto_region 20 with (first | (go_at_call 9; (refine (lens_All.calls_ (t.extract 7 t.size) ZT.out (mgS l, 0) AT.out _).mono ?_); rintro e6 w6 ⟨v6, rfl, hR, hb⟩; obtain ⟨A6, c6, rfl⟩ := Kd.R_slice hR; have R6 := Aside0.mk (Kd.R_lower hR HB.out.size); have BN := Aside0.mk (below_step (by repeat (first | (with_reducible first | exact HB.out | apply below_drew | apply pw_below_drewN | apply below_drew1) | exact HB.out)) hb); clear hR hb HB; have HB := BN; clear BN) | fail)
            go_upto_region 21 with (first | (go_at_call 12; (refine (juratref30_Whole.calls km _ A6 c6 (mgS l) t 0 _ (Kd.R_reads' R6.out).2.2 (Kd.R_reads' R6.out).2.1 KM.out).mono ?_); rintro e7 w7 ⟨rfl, hb⟩; have BN := Aside0.mk (below_step (by repeat (first | (with_reducible first | exact HB.out | apply below_drew | apply pw_below_drewN | apply below_drew1) | exact HB.out)) hb); clear hb HB R6; have HB := BN; clear BN) | fail)
            go_wp2_with (first | (go_at_call 8; (refine (juratlaw31_awake.calls_ _).mono ?_); rintro e9 w9 ⟨rfl, hb⟩; have BN := Aside0.mk (below_step (by repeat (first | (with_reducible first | exact HB.out | apply below_drew | apply pw_below_drewN | apply below_drew1) | exact HB.out)) hb); clear hb HB; have HB := BN; clear BN) | fail)
            go_ret
            exact ⟨by first | rfl | (simp; done), HB.out⟩
            all_goals (exfalso; have h_ := T7A.out; omega)
          · have g0 : (g != 0) = true := bne_iff_ne.mpr hg
            clear hg LW
            go_wp2_with (first | (go_at_call 8; (refine (juratlaw31_awake.calls_ _).mono ?_); rintro e9 w9 ⟨rfl, hb⟩; have BN := Aside0.mk (below_step (by repeat (first | (with_reducible first | exact HB.out | apply below_drew | apply pw_below_drewN | apply below_drew1) | exact HB.out)) hb); clear hb HB; have HB := BN; clear BN) | fail)
            go_ret
            exact ⟨rfl, HB.out⟩
        · have e0 : (e == 0) = false := beq_eq_false_iff_ne.mpr he
          clear he HKW
          go_upto_region 16 with fail
          go_upto_region 17 with (first | (go_at_call 12; (refine (juratref30_Whole.calls kl _ A c l t g _ (Kd.C_below HA.out (by repeat (first | (with_reducible first | exact HB.out | apply below_drew | apply pw_below_drewN | apply below_drew1) | exact HB.out))) HC.out KL.out).mono ?_); rintro e5 w5 ⟨rfl, hb⟩; have BN := Aside0.mk (below_step (by repeat (first | (with_reducible first | exact HB.out | apply below_drew | apply pw_below_drewN | apply below_drew1) | exact HB.out)) hb); clear hb HB; have HB := BN; clear BN) | fail)
          by_cases hg : g = 0
          · subst hg
            obtain ⟨km, hkm⟩ := (LW.out rfl).2.2.2
            have KM := Aside0.mk hkm
            have ZT := Aside0.mk (LW.out rfl).2.1
            have AT := Aside0.mk (LW.out rfl).2.2.1
            have T7 := (LW.out rfl).1
            have d7 : decide ((7 : Int) ≤ (t.size : Int)) = true := decide_eq_true (by omega)
            have d8 : decide (7 ≤ t.size) = true := decide_eq_true T7
            have T7' := eq_true T7
            have T7A := Aside0.mk T7
            have T7F := eq_false (show ¬ ((t.size : Int) < 7) by omega)
            clear hkm T7
            go_upto_region 20 with (first | (go_at_call 9; (refine (lens_All.calls_ (t.extract 7 t.size) ZT.out (mgS l, 0) AT.out _).mono ?_); rintro e6 w6 ⟨v6, rfl, hR, hb⟩; obtain ⟨A6, c6, rfl⟩ := Kd.R_slice hR; have R6 := Aside0.mk (Kd.R_lower hR HB.out.size); have BN := Aside0.mk (below_step (by repeat (first | (with_reducible first | exact HB.out | apply below_drew | apply pw_below_drewN | apply below_drew1) | exact HB.out)) hb); clear hR hb HB; have HB := BN; clear BN) | fail)
            go_upto_region 21 with (first | (go_at_call 12; (refine (juratref30_Whole.calls km _ A6 c6 (mgS l) t 0 _ (Kd.R_reads' R6.out).2.2 (Kd.R_reads' R6.out).2.1 KM.out).mono ?_); rintro e7 w7 ⟨rfl, hb⟩; have BN := Aside0.mk (below_step (by repeat (first | (with_reducible first | exact HB.out | apply below_drew | apply pw_below_drewN | apply below_drew1) | exact HB.out)) hb); clear hb HB R6; have HB := BN; clear BN) | fail)
            go_wp2_with (first | (go_at_call 8; (refine (juratlaw31_awake.calls_ _).mono ?_); rintro e9 w9 ⟨rfl, hb⟩; have BN := Aside0.mk (below_step (by repeat (first | (with_reducible first | exact HB.out | apply below_drew | apply pw_below_drewN | apply below_drew1) | exact HB.out)) hb); clear hb HB; have HB := BN; clear BN) | fail)
            go_ret
            exact ⟨by first | rfl | (simp; done), HB.out⟩
            all_goals (exfalso; have h_ := T7A.out; omega)
          · have g0 : (g != 0) = true := bne_iff_ne.mpr hg
            clear hg LW
            go_wp2_with (first | (go_at_call 8; (refine (juratlaw31_awake.calls_ _).mono ?_); rintro e9 w9 ⟨rfl, hb⟩; have BN := Aside0.mk (below_step (by repeat (first | (with_reducible first | exact HB.out | apply below_drew | apply pw_below_drewN | apply below_drew1) | exact HB.out)) hb); clear hb HB; have HB := BN; clear BN) | fail)
            go_ret
            exact ⟨rfl, HB.out⟩
theorem juratlaw31_LensBack.holds (s : ByteArray) (l : List S30) (A : Option Addr) (c : Nat) (w : World) (hA : Kd.C k30 w A l.length l) (hc : l.length ≤ c) (_g0 : s.size ≤ 140737488351232) (g1 : l.length ≤ maxLen ∧ ∀ x ∈ l, good30 x) :
    Calls Try.prog 3 #[.string s, .slice A l.length c] w fun e w' => e = .returned (.bool true) ∧ Below w.heap.size w w' := by
  by_cases h : 300 < s.size ∨ 20 < l.length
  · exact back_off s l A c w h
  · exact back_main s l A c w hA hc (by omega) (by omega) g1.2
end Go.Proofs.Ytejcopppchaneaa.PF
end
section
namespace Go.Proofs.Ytejcopppchaneaa.lensBack
open Go.ChangeShapes Go.WideShapes Go.ChangeAt Go.RowKit
open Go.ChangeMaps (open_string shut_string)
open Go.Proofs.YtejcopppchaneaaW.PrintWords
set_option linter.unusedVariables false
theorem own : ownKnob Try.prog.godebug = none := by kernel_rfl
theorem laidOut : laidOutB Try.prog = true := by kernel_rfl
set_option maxRecDepth 100000 in
theorem lifted (os : Os) (started : os.Started) (H : Type) (enc : TypeId × Value → H) :
    ReturnsInHanded {} Try.checked os 3 .any (Rows.lensBackSpec.pre6 enc Try.prog Try.f3 Rows.lensBackRow.domain false) (Rows.lensBackSpec.post enc Try.prog Try.f3 false true false false) := by
  refine returnsInHanded_of_change_sized (C := Try.checked) own started (by kernel_rfl) Try.func3
    (ChangeSpec.witness6 (enc := enc) (C := Try.checked) false ⟨#[], #[.string ByteArray.empty, .slice none 0 0], []⟩ 8 (by kernel_rfl) (by kernel_rfl) (by kernel_rfl) (by kernel_rfl)) ?_
  intro W base args ds gs before hval0 hW hcnd hsz0 _
  have hsz : (DataW.weightsEach Try.prog (Try.f3.params.toList ++ Rows.lensBackSpec.plain.varTypes Try.prog) (ds ++ gs)).all (· ≤ reachBytes) = true := hsz0
  have hval : ∀ (j : Nat) t v, Try.f3.params[j]? = some t → args[j]? = some v → Value.okWide Try.prog W .any base t v := hval0
  have hW' := hW
  obtain ⟨p, q, hA0, hV, rfl, hfz, hnd⟩ := hW
  have hA : DataW.TrodAll enc Try.prog W 0 (fun _ => true) true Try.f3.params.toList args.toList ds p := hA0
  rw [Try.params3] at hA hval hsz
  obtain ⟨v0, vs0, d0, ds0, p0, q0, hargs, rfl, rfl, h0, r0⟩ := trodAll_cons hA
  obtain ⟨v1, vs1, d1, ds1, p1, q1, rfl, rfl, rfl, h1, r1⟩ := trodAll_cons r0
  obtain ⟨rfl, rfl, rfl⟩ := trodAll_nil r1
  obtain rfl : args = #[v0, v1] := by cases args; simp_all
  obtain ⟨rfl, rfl⟩ := trodVars_none hV
  obtain ⟨a0, rfl, rfl, rfl, y0⟩ := open_string Try.underlying9 (hval 0 9 v0 rfl rfl) h0
  have w0 : a0.size ≤ 140737488351232 := by
    have z := sized_string hsz (j := 0) (t := 9) rfl rfl
    rw [Array.length_toList] at z
    exact z
  obtain ⟨A1, len1, cap1, rfl⟩ := okWide_slice Try.underlying22 (hval 1 22 v1 rfl rfl)
  have k1 := h1
  have lt1 : ∀ x ∈ p1, x.block < W.heap.size := by obtain ⟨m, hm⟩ := k1; exact DataW.trod_lt m _ _ _ hm
  obtain ⟨fu1, hf1⟩ := h1
  obtain ⟨l1, ⟨B1, cc1, he1, hc1, hr1⟩, g1⟩ := PF.opens_22 enc W fu1 _ _ hf1
  have he1' : Value.slice A1 len1 cap1 = .slice B1 l1.length cc1 := by simpa [Value.cells] using he1
  injection he1' with ea eb ec
  subst ea eb ec
  clear hA0 hval0 hsz0 hsz
  refine (PF.juratlaw31_LensBack.holds a0 l1 _ _ W hr1 hc1 w0 g1).mono fun e W' ⟨he, bel⟩ => ?_
  subst he
  exact ⟨_, rfl, _, _, _, [], _, [], hW', trodAll_mk1 (shut_bool Try.underlying4 _), (trodAll_cons_mk (shut_string Try.underlying9 y0) (trodAll_cons_mk (Below.trod laidOut (by kernel_rfl) (of_decide_eq_true (by kernel_rfl)) k1 bel lt1) trodAll_mk0)), rfl, bel.frame _, fun h => by cases h⟩
theorem over : Rows.lensBackRow.holds Try.pinned (OpenSpec.ofChange Rows.lensBackSpec) :=
  OpenClaim.holds_of_wide 3 Try.f3 rfl rfl rfl rfl rfl rfl rfl ⟨rfl, rfl, rfl, rfl, rfl⟩ rfl rfl rfl rfl rfl (by kernel_rfl) Try.func3 (by kernel_rfl)
    (of_decide_eq_true (by kernel_rfl)) (by unfold Func.isWrapper; first | (rw [if_pos (by decide +kernel)]; kernel_rfl) | (rw [if_neg (by decide +kernel)]; exact ⟨rfl, rfl⟩))
    (fun os started H enc _ => lifted os started H enc)
theorem proved : Rows.LensBackSaid := over
#print axioms proved
end Go.Proofs.Ytejcopppchaneaa.lensBack
namespace Go.Proofs.Ytejcopppchaneaa
theorem lensBack_holds : Rows.LensBackSaid := lensBack.proved
end Go.Proofs.Ytejcopppchaneaa
end
