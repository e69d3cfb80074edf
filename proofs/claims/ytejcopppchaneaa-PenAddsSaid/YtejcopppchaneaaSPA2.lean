/- Merged for a claim, what it doesn't need left out: words of the kit's print (W..), what that print, patched, wrote (P..), and texts of this session: PFx9, PFx10. -/
import Derived.Test.YtejcopppchaneaaSPA1
section
namespace Go.Proofs.Ytejcopppchaneaa.PF
open Go.RowKit Go.Proofs.YtejcopppchaneaaW.PrintWords Go.Proofs.YtejcopppchaneaaW.PrintLast Go.Proofs.YtejcopppchaneaaW.PrintMore
attribute [local go_sem] max2_int min2_int max_two min_two max_three min_three max_four min_four   -- for this text's walks alone
set_option linter.unusedVariables false
set_option linter.unusedSimpArgs false
def juratref27_All.l0 : Nat → List (S30) → List (S30) → Int → Option ((List (S30)))
  | 0, _, _, _ => none
  | k + 1, x0, x3, x4 => if x4 < (x0.length : Int) then (if (x3.length : Int) > 0 then (if 0 ≤ (wrap64 ((x3.length : Int) - 1)) then (if (wrap64 ((x3.length : Int) - 1)) < (x3.length : Int) then (if 0 ≤ x4 then ((juratref27_Two.f k ((rd_T30 x3 (wrap64 ((x3.length : Int) - 1))).f0) ((rd_T30 x3 (wrap64 ((x3.length : Int) - 1))).f1) ((rd_T30 x3 (wrap64 ((x3.length : Int) - 1))).f2) ((rd_T30 x3 (wrap64 ((x3.length : Int) - 1))).f3) ((rd_T30 x0 x4).f0) ((rd_T30 x0 x4).f1) ((rd_T30 x0 x4).f2) ((rd_T30 x0 x4).f3)).bind fun bt352 => (if bt352.2.2.2.2 = true then (juratref27_All.l0 k x0 (x3.set ((wrap64 ((x3.length : Int) - 1)) : Int).toNat (⟨bt352.1, bt352.2.1, bt352.2.2.1, bt352.2.2.2.1⟩ : S30)) (wrap64 (x4 + 1))) else (if x3.length < 2932031007402 then (juratref27_All.l0 k x0 (x3 ++ [(⟨(rd_T30 x0 x4).f0, (rd_T30 x0 x4).f1, (rd_T30 x0 x4).f2, (rd_T30 x0 x4).f3⟩ : S30)]) (wrap64 (x4 + 1))) else (none)))) else (none)) else (none)) else (none)) else (if 0 ≤ x4 then (if x3.length < 2932031007402 then (juratref27_All.l0 k x0 (x3 ++ [(⟨(rd_T30 x0 x4).f0, (rd_T30 x0 x4).f1, (rd_T30 x0 x4).f2, (rd_T30 x0 x4).f3⟩ : S30)]) (wrap64 (x4 + 1))) else (none)) else (none))) else (some x3)
def juratref27_All.f (k : Nat) (l0 : List (S30)) : Option ((List (S30))) := juratref27_All.l0 k l0 (([] : List (S30))) 0
def juratref27_All.T6 : Bool × List (List Nat × List Nat) := (true, [([], []), ([], []), ([1], [1]), ([2], [2]), ([0, 3], [0, 3]), ([4], [4]), ([], []), ([], []), ([6, 7], [6, 7]), ([8], [8]), ([5, 9], [5, 9]), ([10], [10]), ([11], [11]), ([11], [11]), ([], []), ([14, 12, 10, 0, 1, 2, 3, 4, 5, 6, 7, 8, 9, 10, 11, 12, 14], [12, 14]), ([13, 15, 0, 1, 2, 3, 4, 5, 6, 7, 8, 9, 10, 11, 12, 13, 14, 15], [13])])
def juratref27_All.B6 : List Nat := [0, 0, 2, 6, 15, 31, 0, 0, 192, 448, 1023, 2047, 4095, 4095, 0, 24575, 65535]
theorem juratref27_All.tab6 : rtab .any (opsOf Try.f33 6) = juratref27_All.T6 := by kernel_rfl
theorem juratref27_All.bits6 : waitsOk juratref27_All.T6.2 juratref27_All.B6 = true := by kernel_rfl
set_option maxHeartbeats 8000000 in
set_option maxRecDepth 100000 in
theorem juratref27_All.calls (k : Nat) (P0_ : Nat → Prop) (A0 : Option Addr) (c0 : Nat) (l0 : List (S30)) (r : List (S30)) (w : World) (hs0 : Kd.V k30 30 w w.heap.size (fun k_ => P0_ k_) (.slice A0 l0.length c0) l0) (h : juratref27_All.f k l0 = some r) :
    Calls Try.prog 33 #[.slice A0 l0.length c0] w fun e w' => ∃ v0_ : Value, e = .returned (v0_) ∧ Kd.N k30 30 w' w.heap.size (fun k_ => (P0_ k_ ∨ w.heap.size ≤ k_)) v0_ r ∧ Below w.heap.size w w' := by
  have hu30 := Try.underlying30
  have HO0 := Aside0.mk (show Kd.V k30 30 w w.heap.size (fun k_ => (P0_ k_ ∨ w.heap.size ≤ k_)) (.slice A0 l0.length c0) l0 from Kd.V_mono hs0 (fun k_ hk => .inl hk))
  have HB := Aside0.mk (Below.refl w.heap.size w)
  have H : (juratref27_All.l0 k l0 (([] : List (S30))) 0) = some r := h
  clear h
  obtain ⟨y347, hy347⟩ : ∃ y_ : List (S30), y_ = (([] : List (S30))) := ⟨_, rfl⟩
  replace H : (juratref27_All.l0 k l0 y347 0) = some r := by first | (rw [hy347]; with_reducible exact H) | (have H2_ := (Option.bind_some _ _).symm.trans H; rw [hy347]; with_reducible exact H2_) | (have H2_ := (Option.bind_some _ _).symm.trans H; with_reducible exact H2_) | with_reducible exact H | (rw [hy347]; exact H) | exact H
  have Ny347 := Aside0.mk hy347
  clear hy347
  have H' := Aside0.mk H
  clear H
  go_enter Try.func33, Try.ntmps33
  go_wp2_with (first | ((with_reducible refine gate_dst (N := 7) rfl ?_); refine Kd.N_lit k30 _ 30 ?hg (N' := 7) ?hd (xs := ([] : List (S30))) (inner := []) (ok := (fun k_ => (P0_ k_ ∨ w.heap.size ≤ k_))) (okp := (fun k_ => (P0_ k_ ∨ w.heap.size ≤ k_))) ?hr ?hp (fun _ hk => hk) ((show ∀ k_, w.heap.size ≤ k_ → (fun k_ => (P0_ k_ ∨ w.heap.size ≤ k_)) k_ from fun k_ hk => (.inr (Nat.le_trans (below_size (by repeat (first | (with_reducible first | exact HB.out | apply below_alloc | apply pw_below_drewN | apply below_drew1) | exact HB.out))) hk))) _ (Nat.le_refl _)) (Below.refl _ _) (Nat.le_refl _) (by simp) ?_; (case hd => rfl); (case hg => rfl); (case hr => first | (go_simp; done) | (go_simp; rfl)); (case hp => exact (Reps.none _ _)); intro v348 w2 ho3 hb hg_ hnew_; clear hg_ hnew_; (first | rw [← Ny347.out] at ho3 | (simp only [Int.reduceToNat] at ho3; rw [← Ny347.out] at ho3)); have n0_ := Aside0.mk (Kd.V_elder' (by (with_reducible repeat (first | apply Kd.V_alloc | apply Kd.V_drewN | apply Kd.V_drew)); exact HO0.out) (Kd.N_base ho3) hb); have n1_ := Aside0.mk (Kd.N_lower ho3 (below_size (by repeat (first | (with_reducible first | exact HB.out | apply below_alloc | apply pw_below_drewN | apply below_drew1) | exact HB.out)))); have n2_ := Aside0.mk (below_step (by repeat (first | (with_reducible first | exact HB.out | apply below_alloc | apply pw_below_drewN | apply below_drew1) | exact HB.out)) hb); clear HO0; clear HB; have HO0 := n0_; have HO349 := n1_; have HB := n2_; clear n0_ n1_ n2_; clear hb ho3))
  go_loopg [3, 4] k (fun kq v3 v4 w' => ∃ (x0_1 : List (S30)) (x3_1 : List (S30)) (x4_1 : Int), v4 = .int .i64 x4_1 ∧ Aside0 (juratref27_All.l0 kq x0_1 x3_1 x4_1 = some r) ∧ Aside0 (kq ≤ k) ∧ Aside0 (Kd.V k30 30 w' w.heap.size (fun k_ => (P0_ k_ ∨ w.heap.size ≤ k_) ∧ some k_ ≠ (v3 : Value).ownBlock) (.slice A0 l0.length c0) x0_1) ∧ Aside0 (Kd.N k30 30 w' w.heap.size (fun k_ => (P0_ k_ ∨ w.heap.size ≤ k_)) v3 x3_1) ∧ Aside0 (Below w.heap.size w w'))
  case atStart => exact ⟨(l0), (y347), (0), (by first | rfl | (simp; done) | (simp [*]; done)), H', ⟨Nat.le_refl _⟩, ⟨by (with_reducible repeat (first | apply Kd.V_alloc | apply Kd.V_drewN | apply Kd.V_drew)); exact HO0.out⟩, ⟨by (with_reducible repeat (first | apply Kd.N_alloc | apply Kd.N_drewN | apply Kd.N_drew)); exact HO349.out⟩, ⟨by repeat (first | (with_reducible first | exact HB.out | apply below_alloc | apply pw_below_drewN | apply below_drew1) | exact HB.out)⟩⟩
  case round =>
    clear H'
    try clear p2
    try clear c3
    obtain ⟨x0_1, x3_1, x4_1, rfl, HA, HK1, HO_0, HO_3, HB⟩ := hrel
    have hl0_1 := (Kd.V_reads' HO_0.out).1
    rw [hl0_1] at HO_0
    (try simp only [hl0_1])
    (try simp only [hl0_1] at HO_3)
    cases gk with
    | zero => exact absurd HA.out (by simp [juratref27_All.l0])
    | succ k1 =>
      have H := HA.out
      clear HA
      simp only [juratref27_All.l0] at H
      by_cases c4 : x4_1 < (x0_1.length : Int)
      · rw [if_pos c4] at H
        have c4b0 : decide (x4_1 < (x0_1.length : Int)) = true := decide_eq_true c4
        clear c4
        by_cases c5 : (x3_1.length : Int) > 0
        · rw [if_pos c5] at H
          have c5b0 : decide (0 < (x3_1.length : Int)) = true := decide_eq_true c5
          have c5b1 : decide (0 < x3_1.length) = true := decide_eq_true (by omega)
          clear c5
          obtain ⟨ji6, hji6⟩ : ∃ j_ : Int, (wrap64 ((x3_1.length : Int) - 1)) = j_ := ⟨_, rfl⟩
          replace H : (if 0 ≤ (ji6) then (if (ji6) < (x3_1.length : Int) then (if 0 ≤ x4_1 then ((juratref27_Two.f k1 ((rd_T30 x3_1 (ji6)).f0) ((rd_T30 x3_1 (ji6)).f1) ((rd_T30 x3_1 (ji6)).f2) ((rd_T30 x3_1 (ji6)).f3) ((rd_T30 x0_1 x4_1).f0) ((rd_T30 x0_1 x4_1).f1) ((rd_T30 x0_1 x4_1).f2) ((rd_T30 x0_1 x4_1).f3)).bind fun bt352 => (if bt352.2.2.2.2 = true then (juratref27_All.l0 k1 x0_1 (x3_1.set ((ji6) : Int).toNat (⟨bt352.1, bt352.2.1, bt352.2.2.1, bt352.2.2.2.1⟩ : S30)) (wrap64 (x4_1 + 1))) else (if x3_1.length < 2932031007402 then (juratref27_All.l0 k1 x0_1 (x3_1 ++ [(⟨(rd_T30 x0_1 x4_1).f0, (rd_T30 x0_1 x4_1).f1, (rd_T30 x0_1 x4_1).f2, (rd_T30 x0_1 x4_1).f3⟩ : S30)]) (wrap64 (x4_1 + 1))) else (none)))) else (none)) else (none)) else (none)) = some r := by first | (rw [hji6] at H; exact H) | (simp only [hji6] at H ⊢; exact H)
          have hji6w : (IntKind.i64.wrap ((x3_1.length : Int) - 1)) = ji6 := (i64_w _).trans hji6
          by_cases c7 : 0 ≤ (ji6)
          · rw [if_pos c7] at H
            have c7b0 : decide (0 ≤ (ji6)) = true := decide_eq_true c7
            clear c7
            by_cases c8 : (ji6) < (x3_1.length : Int)
            · rw [if_pos c8] at H
              have c8b0 : decide ((ji6) < (x3_1.length : Int)) = true := decide_eq_true c8
              clear c8
              by_cases c9 : 0 ≤ x4_1
              · rw [if_pos c9] at H
                have c9b0 : decide (0 ≤ x4_1) = true := decide_eq_true c9
                clear c9
                replace H := Option.bind_eq_some_iff.mp H
                obtain ⟨⟨t352, t353, t354, t355, t358⟩, A100, H⟩ := H
                replace H : (if t358 = true then (juratref27_All.l0 k1 x0_1 (x3_1.set ((ji6) : Int).toNat (⟨t352, t353, t354, t355⟩ : S30)) (wrap64 (x4_1 + 1))) else (if x3_1.length < 2932031007402 then (juratref27_All.l0 k1 x0_1 (x3_1 ++ [(⟨(rd_T30 x0_1 x4_1).f0, (rd_T30 x0_1 x4_1).f1, (rd_T30 x0_1 x4_1).f2, (rd_T30 x0_1 x4_1).f3⟩ : S30)]) (wrap64 (x4_1 + 1))) else (none))) = some r := H
                have A10 := Aside0.mk A100
                clear A100
                by_cases c11 : t358 = true
                · subst c11
                  have H1 : (juratref27_All.l0 k1 x0_1 (x3_1.set ((ji6) : Int).toNat (⟨t352, t353, t354, t355⟩ : S30)) (wrap64 (x4_1 + 1))) = some r := by rw [if_pos rfl] at H; exact H
                  clear H
                  have H := H1
                  clear H1
                  obtain ⟨y360, hy360⟩ : ∃ y_ : List (S30), y_ = (x3_1.set ((ji6) : Int).toNat (⟨t352, t353, t354, t355⟩ : S30)) := ⟨_, rfl⟩
                  replace H : (juratref27_All.l0 k1 x0_1 y360 (wrap64 (x4_1 + 1))) = some r := by first | (rw [hy360]; with_reducible exact H) | (have H2_ := (Option.bind_some _ _).symm.trans H; rw [hy360]; with_reducible exact H2_) | (have H2_ := (Option.bind_some _ _).symm.trans H; with_reducible exact H2_) | with_reducible exact H | (rw [hy360]; exact H) | exact H
                  have Ny360 := Aside0.mk hy360
                  clear hy360
                  have H' := Aside0.mk H
                  clear H
                  obtain ⟨Ao13, co13, eo13⟩ := Kd.N_slice HO_3.out
                  subst eo13
                  try go_wp2
                  (try (rw [drewN_self wr]; generalize hq_ : World.drewN wr _ = wr; have n0_ : Aside0 (Kd.V k30 30 wr w.heap.size (fun k_ => (P0_ k_ ∨ w.heap.size ≤ k_) ∧ some k_ ≠ (.slice Ao13 x3_1.length co13 : Value).ownBlock) (.slice A0 x0_1.length c0) x0_1) := ⟨by rw [← hq_]; exact (by (with_reducible repeat (first | apply Kd.V_alloc | apply Kd.V_drewN | apply Kd.V_drew)); exact HO_0.out)⟩; have n1_ : Aside0 (Kd.N k30 30 wr w.heap.size (fun k_ => (P0_ k_ ∨ w.heap.size ≤ k_)) (.slice Ao13 x3_1.length co13) x3_1) := ⟨by rw [← hq_]; exact (by (with_reducible repeat (first | apply Kd.N_alloc | apply Kd.N_drewN | apply Kd.N_drew)); exact HO_3.out)⟩; have n2_ : Aside0 (Below w.heap.size w wr) := ⟨by rw [← hq_]; exact (by repeat (first | (with_reducible first | exact HB.out | apply below_alloc | apply pw_below_drewN | apply below_drew1) | exact HB.out))⟩; clear HO_0 HO_3 HB hq_; have HO_0 := n0_; have HO_3 := n1_; have HB := n2_; clear n0_ n1_ n2_))
                  have n0_ := Aside0.mk (Kd.V_drew HO_0.out)
                  have n1_ := Aside0.mk (Kd.N_drew HO_3.out)
                  have n2_ := Aside0.mk (below_drew1 HB.out)
                  clear HO_0
                  clear HO_3
                  clear HB
                  have HO_0 := n0_
                  have HO_3 := n1_
                  have HB := n2_
                  clear n0_ n1_ n2_
                  have p350 : 0 ≤ ((ji6) : Int) := of_decide_eq_true (by first | (with_reducible assumption) | assumption)
                  have q350 : (ji6) < (x3_1.length : Int) := of_decide_eq_true (by first | (with_reducible assumption) | assumption)
                  obtain ⟨ad350, A350_3, c350_3, e350, hx350_0, hx350_1, hx350_2, hx350_3, hl350_3, hi350_3⟩ := at_T30 (Kd.N_reads' HO_3.out).2.2 (ji6) p350 q350
                  cases e350
                  obtain ⟨ce350, hce350, hMe350, hcc350⟩ := Kd.N_get HO_3.out z30 (ji6) p350 (by first | exact q350 | exact of_decide_eq_true (by first | (with_reducible assumption) | assumption) | (have e_ := (Kd.N_reads' HO_3.out).1; omega))
                  obtain ⟨ua350_3, uc350_3, rfl, ul350_3, ge350_3⟩ := k30_openF hMe350
                  have hv350_3 := hcc350 3 _ rfl
                  rw [add_field _ _ 3 (by omega)] at hv350_3
                  replace hv350_3 := Option.some.inj (hv350_3.symm.trans hx350_3)
                  injection hv350_3 with hva_ hvn_ hvc_
                  rw [hva_] at ge350_3
                  rw [hvc_] at ul350_3
                  have HL350_3 := Aside0.mk (show Kd.V (Kd.int .i64) 3 _ w.heap.size _ _ ((rd_T30 x3_1 (ji6)).f3) from Kd.V_mk ul350_3 ge350_3)
                  clear hva_ hvn_ hvc_ ge350_3 ul350_3
                  clear hcc350 hce350
                  have HR350_3 := Aside0.mk hi350_3
                  have HC350_3 := Aside0.mk hl350_3
                  clear hi350_3 hl350_3
                  replace p350 := eq_true p350
                  replace q350 := eq_true q350
                  have p351 : 0 ≤ (x4_1 : Int) := of_decide_eq_true (by first | (with_reducible assumption) | assumption)
                  have q351 : x4_1 < (x0_1.length : Int) := of_decide_eq_true (by first | (with_reducible assumption) | assumption)
                  obtain ⟨ad351, A351_3, c351_3, e351, hx351_0, hx351_1, hx351_2, hx351_3, hl351_3, hi351_3⟩ := at_T30 (Kd.V_reads' HO_0.out).2.2 x4_1 p351 q351
                  cases e351
                  obtain ⟨ce351, hce351, hMe351, hcc351⟩ := Kd.V_get HO_0.out z30 x4_1 p351 (by first | exact q351 | exact of_decide_eq_true (by first | (with_reducible assumption) | assumption) | (have e_ := (Kd.V_reads' HO_0.out).1; omega))
                  obtain ⟨ua351_3, uc351_3, rfl, ul351_3, ge351_3⟩ := k30_openF hMe351
                  have hv351_3 := hcc351 3 _ rfl
                  rw [add_field _ _ 3 (by omega)] at hv351_3
                  replace hv351_3 := Option.some.inj (hv351_3.symm.trans hx351_3)
                  injection hv351_3 with hva_ hvn_ hvc_
                  rw [hva_] at ge351_3
                  rw [hvc_] at ul351_3
                  have HL351_3 := Aside0.mk (show Kd.V (Kd.int .i64) 3 _ w.heap.size _ _ ((rd_T30 x0_1 x4_1).f3) from Kd.V_mk ul351_3 ge351_3)
                  clear hva_ hvn_ hvc_ ge351_3 ul351_3
                  clear hcc351 hce351
                  have HR351_3 := Aside0.mk hi351_3
                  have HC351_3 := Aside0.mk hl351_3
                  clear hi351_3 hl351_3
                  replace p351 := eq_true p351
                  replace q351 := eq_true q351
                  refine start_ (n := 17) (S := fun w' => w'.cell? (ad350.add (((ji6)).toNat * 4)) = some (.int .i64 ((rd_T30 x3_1 (ji6)).f0)) ∧ w'.cell? ⟨(ad350.add (((ji6)).toNat * 4)).block, (ad350.add (((ji6)).toNat * 4)).off + 1, none⟩ = some (.int .i64 ((rd_T30 x3_1 (ji6)).f1)) ∧ w'.cell? ⟨(ad350.add (((ji6)).toNat * 4)).block, (ad350.add (((ji6)).toNat * 4)).off + 2, none⟩ = some (.int .i64 ((rd_T30 x3_1 (ji6)).f2)) ∧ w'.cell? ⟨(ad350.add (((ji6)).toNat * 4)).block, (ad350.add (((ji6)).toNat * 4)).off + 3, none⟩ = some (.slice A350_3 ((rd_T30 x3_1 (ji6)).f3).length c350_3) ∧ w'.cell? (ad351.add ((x4_1).toNat * 4)) = some (.int .i64 ((rd_T30 x0_1 x4_1).f0)) ∧ w'.cell? ⟨(ad351.add ((x4_1).toNat * 4)).block, (ad351.add ((x4_1).toNat * 4)).off + 1, none⟩ = some (.int .i64 ((rd_T30 x0_1 x4_1).f1)) ∧ w'.cell? ⟨(ad351.add ((x4_1).toNat * 4)).block, (ad351.add ((x4_1).toNat * 4)).off + 2, none⟩ = some (.int .i64 ((rd_T30 x0_1 x4_1).f2)) ∧ w'.cell? ⟨(ad351.add ((x4_1).toNat * 4)).block, (ad351.add ((x4_1).toNat * 4)).off + 3, none⟩ = some (.slice A351_3 ((rd_T30 x0_1 x4_1).f3).length c351_3)) (ds := []) #[false, false, false, false, false, false, false, false, false, false, false, false, false, false, false, false, false] (by kernel_rfl) rfl rfl ⟨hx350_0, hx350_1, hx350_2, hx350_3, hx351_0, hx351_1, hx351_2, hx351_3⟩ (fun hHeld => ?_); refine with_tabW juratref27_All.tab6 juratref27_All.bits6 (fun HT_ HW_ => ?_)
                  generalize wr.drew = w14 at HO_0 HO_3 HB HL350_3 HL351_3 HR350_3 HR351_3 hx350_0 hx350_1 hx350_2 hx350_3 hx351_0 hx351_1 hx351_2 hx351_3 hHeld ⊢
                  refine pure_ (i := 0) (N := some 18) (v := ?_) (a' := ?_) #[true, false, false, false, false, false, false, false, false, false, false, false, false, false, false, false, false] rfl rfl (any_of HT_.out (by kernel_rfl)) (fun _ _ _ h => h) (Or.inl ⟨by rfl, ?_⟩) ?_ ?_
                  rotate_left
                  · intro w'
                    go_simp
                    with_reducible rfl
                  rotate_left
                  · simp only [Act.put, List.setIfInBounds_toArray, List.set_cons_zero, List.set_cons_succ, i64_w, i32_w]
                    rfl
                  refine pure_ (i := 1) (N := some 19) (v := ?_) (a' := ?_) #[true, true, false, false, false, false, false, false, false, false, false, false, false, false, false, false, false] rfl rfl (any_of HT_.out (by kernel_rfl)) (fun _ _ _ h => h) (Or.inl ⟨by rfl, ?_⟩) ?_ ?_
                  rotate_left
                  · intro w'
                    go_simp
                    with_reducible rfl
                  rotate_left
                  · simp only [Act.put, List.setIfInBounds_toArray, List.set_cons_zero, List.set_cons_succ, i64_w, i32_w]
                    rfl
                  refine pure_ (i := 2) (N := some 20) (v := ?_) (a' := ?_) #[true, true, true, false, false, false, false, false, false, false, false, false, false, false, false, false, false] rfl rfl (any_of HT_.out (by kernel_rfl)) (fun _ _ _ h => h) (Or.inl ⟨by rfl, ?_⟩) ?_ ?_
                  rotate_left
                  · intro w'
                    go_simp
                    with_reducible rfl
                  rotate_left
                  · simp only [Act.put, List.setIfInBounds_toArray, List.set_cons_zero, List.set_cons_succ, i64_w, i32_w]
                    rfl
                  refine pure_ (i := 3) (N := some 21) (v := ?_) (a' := ?_) #[true, true, true, true, false, false, false, false, false, false, false, false, false, false, false, false, false] rfl rfl (any_of HT_.out (by kernel_rfl)) (fun _ _ _ h => h) (Or.inl ⟨by rfl, ?_⟩) ?_ ?_
                  rotate_left
                  · intro w'
                    go_simp
                    with_reducible rfl
                  rotate_left
                  · simp only [Act.put, List.setIfInBounds_toArray, List.set_cons_zero, List.set_cons_succ, i64_w, i32_w]
                    rfl
                  refine pure_ (i := 4) (N := some 22) (v := ?_) (a' := ?_) #[true, true, true, true, true, false, false, false, false, false, false, false, false, false, false, false, false] rfl rfl (any_of HT_.out (by kernel_rfl)) (fun _ _ _ h => h) (Or.inl ⟨by rfl, ?_⟩) ?_ ?_
                  rotate_left
                  · intro w'
                    go_simp
                    with_reducible rfl
                  rotate_left
                  · simp only [Act.put, List.setIfInBounds_toArray, List.set_cons_zero, List.set_cons_succ, i64_w, i32_w]
                    rfl
                  refine pure_ (i := 6) (N := some 24) (v := ?_) (a' := ?_) #[true, true, true, true, true, false, true, false, false, false, false, false, false, false, false, false, false] rfl rfl (any_of HT_.out (by kernel_rfl)) (fun _ _ _ h => h) (Or.inl ⟨by rfl, ?_⟩) ?_ ?_
                  rotate_left
                  · intro w'
                    go_simp
                    with_reducible rfl
                  rotate_left
                  · simp only [Act.put, List.setIfInBounds_toArray, List.set_cons_zero, List.set_cons_succ, i64_w, i32_w]
                    rfl
                  refine pure_ (i := 7) (N := some 25) (v := ?_) (a' := ?_) #[true, true, true, true, true, false, true, true, false, false, false, false, false, false, false, false, false] rfl rfl (any_of HT_.out (by kernel_rfl)) (fun _ _ _ h => h) (Or.inl ⟨by rfl, ?_⟩) ?_ ?_
                  rotate_left
                  · intro w'
                    go_simp
                    with_reducible rfl
                  rotate_left
                  · simp only [Act.put, List.setIfInBounds_toArray, List.set_cons_zero, List.set_cons_succ, i64_w, i32_w]
                    rfl
                  refine pure_ (i := 8) (N := some 26) (v := ?_) (a' := ?_) #[true, true, true, true, true, false, true, true, true, false, false, false, false, false, false, false, false] rfl rfl (any_of HT_.out (by kernel_rfl)) (fun _ _ _ h => h) (Or.inl ⟨by rfl, ?_⟩) ?_ ?_
                  rotate_left
                  · intro w'
                    go_simp
                    with_reducible rfl
                  rotate_left
                  · simp only [Act.put, List.setIfInBounds_toArray, List.set_cons_zero, List.set_cons_succ, i64_w, i32_w]
                    rfl
                  refine take_ (i := 5) (N := some 23) (v := ?_) (a' := ?_) #[true, true, true, true, true, true, true, true, true, false, false, false, false, false, false, false, false] rfl rfl (take_ofW HT_.out HW_.out (by kernel_rfl)) (fun _ _ _ h => h) (Or.inl ⟨by rfl, ?_⟩) hHeld ?_ ?_
                  rotate_left
                  · rintro w' ⟨s0, s1, s2, s3, s4, s5, s6, s7⟩
                    go_simp
                    with_reducible rfl
                  rotate_left
                  · simp only [Act.put, List.setIfInBounds_toArray, List.set_cons_zero, List.set_cons_succ, i64_w, i32_w]
                    rfl
                  refine take_ (i := 9) (N := some 27) (v := ?_) (a' := ?_) #[true, true, true, true, true, true, true, true, true, true, false, false, false, false, false, false, false] rfl rfl (take_ofW HT_.out HW_.out (by kernel_rfl)) (fun _ _ _ h => h) (Or.inl ⟨by rfl, ?_⟩) hHeld ?_ ?_
                  rotate_left
                  · rintro w' ⟨s0, s1, s2, s3, s4, s5, s6, s7⟩
                    go_simp
                    with_reducible rfl
                  rotate_left
                  · simp only [Act.put, List.setIfInBounds_toArray, List.set_cons_zero, List.set_cons_succ, i64_w, i32_w]
                    rfl
                  refine join_ (σ := Value × Nat) 2 #[true, true, true, true, true, true, true, true, true, true, true, true, true, true, true, false, false] (fun s_ => [(28, .tuple #[.agg #[.int .i64 t352, .int .i64 t353, .int .i64 t354, s_.1], .bool true]), (5, .pointer (some ⟨s_.2, 0, none⟩)), (17, .tuple #[.agg #[.int .i64 t352, .int .i64 t353, .int .i64 t354, s_.1], .bool true]), (29, .agg #[.int .i64 t352, .int .i64 t353, .int .i64 t354, s_.1]), (30, .bool true)]) (fun s_ w' => (w'.cell? (ad350.add (((ji6)).toNat * 4)) = some (.int .i64 ((rd_T30 x3_1 (ji6)).f0)) ∧ w'.cell? ⟨(ad350.add (((ji6)).toNat * 4)).block, (ad350.add (((ji6)).toNat * 4)).off + 1, none⟩ = some (.int .i64 ((rd_T30 x3_1 (ji6)).f1)) ∧ w'.cell? ⟨(ad350.add (((ji6)).toNat * 4)).block, (ad350.add (((ji6)).toNat * 4)).off + 2, none⟩ = some (.int .i64 ((rd_T30 x3_1 (ji6)).f2)) ∧ w'.cell? ⟨(ad350.add (((ji6)).toNat * 4)).block, (ad350.add (((ji6)).toNat * 4)).off + 3, none⟩ = some (.slice A350_3 ((rd_T30 x3_1 (ji6)).f3).length c350_3) ∧ w'.cell? (ad351.add ((x4_1).toNat * 4)) = some (.int .i64 ((rd_T30 x0_1 x4_1).f0)) ∧ w'.cell? ⟨(ad351.add ((x4_1).toNat * 4)).block, (ad351.add ((x4_1).toNat * 4)).off + 1, none⟩ = some (.int .i64 ((rd_T30 x0_1 x4_1).f1)) ∧ w'.cell? ⟨(ad351.add ((x4_1).toNat * 4)).block, (ad351.add ((x4_1).toNat * 4)).off + 2, none⟩ = some (.int .i64 ((rd_T30 x0_1 x4_1).f2)) ∧ w'.cell? ⟨(ad351.add ((x4_1).toNat * 4)).block, (ad351.add ((x4_1).toNat * 4)).off + 3, none⟩ = some (.slice A351_3 ((rd_T30 x0_1 x4_1).f3).length c351_3)) ∧ (Kd.V (Kd.int .i64) 3 w' w.heap.size (fun k_ => (P0_ k_ ∨ w.heap.size ≤ k_) ∧ some k_ ≠ (s_.1 : Value).ownBlock ∧ some k_ ≠ (.slice (some ad350) x3_1.length co13 : Value).ownBlock ∧ k_ ≠ s_.2) (.slice A350_3 ((rd_T30 x3_1 (ji6)).f3).length c350_3) ((rd_T30 x3_1 (ji6)).f3)) ∧ (Kd.V (Kd.int .i64) 3 w' w.heap.size (fun k_ => (P0_ k_ ∨ w.heap.size ≤ k_) ∧ some k_ ≠ (s_.1 : Value).ownBlock ∧ some k_ ≠ (.slice (some ad350) x3_1.length co13 : Value).ownBlock ∧ k_ ≠ s_.2) (.slice A351_3 ((rd_T30 x0_1 x4_1).f3).length c351_3) ((rd_T30 x0_1 x4_1).f3)) ∧ (Kd.R (Kd.int .i64) 3 w' w.heap.size (fun k_ => (w.heap.size ≤ k_)) s_.1 t355) ∧ (Kd.V k30 30 w' w.heap.size (fun k_ => (P0_ k_ ∨ w.heap.size ≤ k_) ∧ some k_ ≠ (s_.1 : Value).ownBlock ∧ some k_ ≠ (.slice (some ad350) x3_1.length co13 : Value).ownBlock ∧ k_ ≠ s_.2) (.slice (some ad351) x0_1.length c0) x0_1) ∧ (Kd.N k30 30 w' w.heap.size (fun k_ => (P0_ k_ ∨ w.heap.size ≤ k_) ∧ some k_ ≠ (s_.1 : Value).ownBlock ∧ k_ ≠ s_.2) (.slice (some ad350) x3_1.length co13) x3_1) ∧ (w'.heap[s_.2]? = some (.cells #[.int .i64 0, .int .i64 0, .int .i64 0, .slice none 0 0] 30 (0, 0))) ∧ (w.heap.size ≤ s_.2) ∧ (w.heap.size ≤ s_.2) ∧ (Below w.heap.size w w')) ?_ ?_
                  rotate_left
                  · intro hCont
                    refine two_ (i := 10) (j := 14) (Ni := some 28) (Nj := some 5) #[true, true, true, true, true, true, true, true, true, true, true, false, false, false, false, false, false] #[true, true, true, true, true, true, true, true, true, true, false, false, false, false, true, false, false] rfl rfl rfl rfl (two_of HT_.out (by kernel_rfl)) (by decide) (by decide) (fun K hK => ?_) (fun K hK => ?_)
                    · skip
                      refine goes_ Try.func38 (by kernel_rfl) rfl #[.agg #[.int .i64 ((rd_T30 x3_1 (ji6)).f0), .int .i64 ((rd_T30 x3_1 (ji6)).f1), .int .i64 ((rd_T30 x3_1 (ji6)).f2), .slice A350_3 ((rd_T30 x3_1 (ji6)).f3).length c350_3], .agg #[.int .i64 ((rd_T30 x0_1 x4_1).f0), .int .i64 ((rd_T30 x0_1 x4_1).f1), .int .i64 ((rd_T30 x0_1 x4_1).f2), .slice A351_3 ((rd_T30 x0_1 x4_1).f3).length c351_3]] (by rfl) rfl rfl (by (try simp only [List.map_toArray, List.map_cons, List.map_nil]); first | done | (simp only [hji6]; rfl) | rfl | (simp only [List.length_drop, List.length_take]; rfl)) ?_
                      with_reducible refine (juratref27_Two.calls k1 ((rd_T30 x3_1 (ji6)).f0) ((rd_T30 x3_1 (ji6)).f1) ((rd_T30 x3_1 (ji6)).f2) _ _ ((rd_T30 x3_1 (ji6)).f3) ((rd_T30 x0_1 x4_1).f0) ((rd_T30 x0_1 x4_1).f1) ((rd_T30 x0_1 x4_1).f2) _ _ ((rd_T30 x0_1 x4_1).f3) t352 t353 t354 t355 true _ ?side1 ?side2 ?side3 ?side4 A10.out).mono ?_
                      (case side1 => repeat (first | exact (by repeat (first | (with_reducible exact HR350_3.out) | (with_reducible refine Kd.C_alloc ?_ _) | (with_reducible refine Kd.C_drewN ?_ _) | (with_reducible refine Kd.C_drew ?_) | exact HR350_3.out)) | (with_reducible refine Kd.C_alloc ?_ _) | (with_reducible refine Kd.C_drewN ?_ _) | (with_reducible refine Kd.C_drew ?_)))
                      (case side2 => exact HC350_3.out)
                      (case side3 => repeat (first | exact (by repeat (first | (with_reducible exact HR351_3.out) | (with_reducible refine Kd.C_alloc ?_ _) | (with_reducible refine Kd.C_drewN ?_ _) | (with_reducible refine Kd.C_drew ?_) | exact HR351_3.out)) | (with_reducible refine Kd.C_alloc ?_ _) | (with_reducible refine Kd.C_drewN ?_ _) | (with_reducible refine Kd.C_drew ?_)))
                      (case side4 => exact HC351_3.out)
                      rintro e w15 ⟨v356, rfl, ho0, hb⟩
                      have HS0_ := (hb.cell (World.block_lt_of_cell? _ _ (hHeld.1))).trans (hHeld.1)
                      have HS1_ := (hb.cell (World.block_lt_of_cell? _ _ (hHeld.2.1))).trans (hHeld.2.1)
                      have HS2_ := (hb.cell (World.block_lt_of_cell? _ _ (hHeld.2.2.1))).trans (hHeld.2.2.1)
                      have HS3_ := (hb.cell (World.block_lt_of_cell? _ _ (hHeld.2.2.2.1))).trans (hHeld.2.2.2.1)
                      have HS4_ := (hb.cell (World.block_lt_of_cell? _ _ (hHeld.2.2.2.2.1))).trans (hHeld.2.2.2.2.1)
                      have HS5_ := (hb.cell (World.block_lt_of_cell? _ _ (hHeld.2.2.2.2.2.1))).trans (hHeld.2.2.2.2.2.1)
                      have HS6_ := (hb.cell (World.block_lt_of_cell? _ _ (hHeld.2.2.2.2.2.2.1))).trans (hHeld.2.2.2.2.2.2.1)
                      have HS7_ := (hb.cell (World.block_lt_of_cell? _ _ (hHeld.2.2.2.2.2.2.2))).trans (hHeld.2.2.2.2.2.2.2)
                      refine ⟨_, rfl, ?_⟩
                      have n0_ := Aside0.mk (Kd.V_elder' (by (with_reducible repeat (first | apply Kd.V_alloc | apply Kd.V_drewN | apply Kd.V_drew)); exact HO_0.out) (Kd.R_base ho0) hb)
                      have n1_ := Aside0.mk (Kd.N_elder' (by (with_reducible repeat (first | apply Kd.N_alloc | apply Kd.N_drewN | apply Kd.N_drew)); exact HO_3.out) (Kd.R_base ho0) hb)
                      have n2_ := Aside0.mk (Kd.V_elder' (by (with_reducible repeat (first | apply Kd.V_alloc | apply Kd.V_drewN | apply Kd.V_drew)); exact HL350_3.out) (Kd.R_base ho0) hb)
                      have n3_ := Aside0.mk (Kd.V_elder' (by (with_reducible repeat (first | apply Kd.V_alloc | apply Kd.V_drewN | apply Kd.V_drew)); exact HL351_3.out) (Kd.R_base ho0) hb)
                      have n4_ := Aside0.mk (Kd.R_lower (Kd.R_newM (M := fun k_ => (w.heap.size ≤ k_)) ho0 (below_size (by repeat (first | (with_reducible first | exact HB.out | apply below_alloc | apply pw_below_drewN | apply below_drew1) | exact HB.out))) (fun k_ h_ => h_)) (below_size (by repeat (first | (with_reducible first | exact HB.out | apply below_alloc | apply pw_below_drewN | apply below_drew1) | exact HB.out))))
                      have n5_ := Aside0.mk (Kd.C_below (by repeat (first | (with_reducible exact HR350_3.out) | (with_reducible refine Kd.C_alloc ?_ _) | (with_reducible refine Kd.C_drewN ?_ _) | (with_reducible refine Kd.C_drew ?_) | exact HR350_3.out)) hb)
                      have n6_ := Aside0.mk (Kd.C_below (by repeat (first | (with_reducible exact HR351_3.out) | (with_reducible refine Kd.C_alloc ?_ _) | (with_reducible refine Kd.C_drewN ?_ _) | (with_reducible refine Kd.C_drew ?_) | exact HR351_3.out)) hb)
                      have n7_ := Aside0.mk (below_step (by repeat (first | (with_reducible first | exact HB.out | apply below_alloc | apply pw_below_drewN | apply below_drew1) | exact HB.out)) hb)
                      clear HO_0
                      clear HO_3
                      clear HL350_3
                      clear HL351_3
                      clear HR350_3
                      clear HR351_3
                      clear HB
                      have HO_0 := n0_
                      have HO_3 := n1_
                      have HL350_3 := n2_
                      have HL351_3 := n3_
                      have HO357 := n4_
                      have HR350_3 := n5_
                      have HR351_3 := n6_
                      have HB := n7_
                      clear n0_ n1_ n2_ n3_ n4_ n5_ n6_ n7_
                      (try clear hb)
                      (try clear hb2)
                      (try clear hk)
                      (try clear hi)
                      (try clear ho0)
                      refine hK.out _ _ ⟨HS0_, HS1_, HS2_, HS3_, HS4_, HS5_, HS6_, HS7_⟩ (fun hHeld => ?_)
                      clear hK K
                      refine norm_ (a' := ?_) ?_ ?_
                      rotate_left
                      · show Act.put _ (some 28) _ = _
                        simp only [Act.put, List.setIfInBounds_toArray, List.set_cons_zero, List.set_cons_succ, i64_w, i32_w]
                        rfl
                      refine pure_ (i := 11) (N := some 17) (v := ?_) (a' := ?_) #[true, true, true, true, true, true, true, true, true, true, true, true, false, false, false, false, false] rfl rfl (any_of HT_.out (by kernel_rfl)) (fun _ _ _ h => h) (Or.inl ⟨by rfl, ?_⟩) ?_ ?_
                      rotate_left
                      · intro w'
                        go_simp
                        with_reducible rfl
                      rotate_left
                      · simp only [Act.put, List.setIfInBounds_toArray, List.set_cons_zero, List.set_cons_succ, i64_w, i32_w]
                        rfl
                      refine pure_ (i := 12) (N := some 29) (v := ?_) (a' := ?_) #[true, true, true, true, true, true, true, true, true, true, true, true, true, false, false, false, false] rfl rfl (any_of HT_.out (by kernel_rfl)) (fun _ _ _ h => h) (Or.inl ⟨by rfl, ?_⟩) ?_ ?_
                      rotate_left
                      · intro w'
                        go_simp
                        with_reducible rfl
                      rotate_left
                      · simp only [Act.put, List.setIfInBounds_toArray, List.set_cons_zero, List.set_cons_succ, i64_w, i32_w]
                        rfl
                      refine pure_ (i := 13) (N := some 30) (v := ?_) (a' := ?_) #[true, true, true, true, true, true, true, true, true, true, true, true, true, true, false, false, false] rfl rfl (any_of HT_.out (by kernel_rfl)) (fun _ _ _ h => h) (Or.inl ⟨by rfl, ?_⟩) ?_ ?_
                      rotate_left
                      · intro w'
                        go_simp
                        with_reducible rfl
                      rotate_left
                      · simp only [Act.put, List.setIfInBounds_toArray, List.set_cons_zero, List.set_cons_succ, i64_w, i32_w]
                        rfl
                      refine one_ (i := 14) (N := some 5) #[true, true, true, true, true, true, true, true, true, true, true, true, true, true, true, false, false] rfl rfl (one_of HT_.out (by kernel_rfl)) (by decide) (fun K hK => ?_)
                      refine box_step ?hg (N := 5) ?hd (cs := #[.int .i64 0, .int .i64 0, .int .i64 0, .slice none 0 0]) (t := 30) ?hr ?_; (case hd => rfl); (case hg => rfl); (case hr => first | (go_simp; done) | (go_simp; rfl))
                      intro gb359 hg w16 hbox hb
                      have HS0_ := (hb.cell (World.block_lt_of_cell? _ _ (hHeld.1))).trans (hHeld.1)
                      have HS1_ := (hb.cell (World.block_lt_of_cell? _ _ (hHeld.2.1))).trans (hHeld.2.1)
                      have HS2_ := (hb.cell (World.block_lt_of_cell? _ _ (hHeld.2.2.1))).trans (hHeld.2.2.1)
                      have HS3_ := (hb.cell (World.block_lt_of_cell? _ _ (hHeld.2.2.2.1))).trans (hHeld.2.2.2.1)
                      have HS4_ := (hb.cell (World.block_lt_of_cell? _ _ (hHeld.2.2.2.2.1))).trans (hHeld.2.2.2.2.1)
                      have HS5_ := (hb.cell (World.block_lt_of_cell? _ _ (hHeld.2.2.2.2.2.1))).trans (hHeld.2.2.2.2.2.1)
                      have HS6_ := (hb.cell (World.block_lt_of_cell? _ _ (hHeld.2.2.2.2.2.2.1))).trans (hHeld.2.2.2.2.2.2.1)
                      have HS7_ := (hb.cell (World.block_lt_of_cell? _ _ (hHeld.2.2.2.2.2.2.2))).trans (hHeld.2.2.2.2.2.2.2)
                      have n0_ := Aside0.mk (Kd.V_below (Kd.V_elderB (by (with_reducible repeat (first | apply Kd.V_alloc | apply Kd.V_drewN | apply Kd.V_drew)); exact HO_0.out) gb359 (Nat.le_of_eq hg.symm)) hb)
                      have n1_ := Aside0.mk (Kd.N_below (Kd.N_elderB (by (with_reducible repeat (first | apply Kd.N_alloc | apply Kd.N_drewN | apply Kd.N_drew)); exact HO_3.out) gb359 (Nat.le_of_eq hg.symm)) hb)
                      have n2_ := Aside0.mk (Kd.V_below (Kd.V_elderB (by (with_reducible repeat (first | apply Kd.V_alloc | apply Kd.V_drewN | apply Kd.V_drew)); exact HL350_3.out) gb359 (Nat.le_of_eq hg.symm)) hb)
                      have n3_ := Aside0.mk (Kd.V_below (Kd.V_elderB (by (with_reducible repeat (first | apply Kd.V_alloc | apply Kd.V_drewN | apply Kd.V_drew)); exact HL351_3.out) gb359 (Nat.le_of_eq hg.symm)) hb)
                      have n4_ := Aside0.mk (Kd.R_below (by (with_reducible repeat (first | apply Kd.R_alloc | apply Kd.R_drewN | apply Kd.R_drew)); exact HO357.out) hb)
                      have n5_ := Aside0.mk (Kd.C_below (by repeat (first | (with_reducible exact HR350_3.out) | (with_reducible refine Kd.C_alloc ?_ _) | (with_reducible refine Kd.C_drewN ?_ _) | (with_reducible refine Kd.C_drew ?_) | exact HR350_3.out)) hb)
                      have n6_ := Aside0.mk (Kd.C_below (by repeat (first | (with_reducible exact HR351_3.out) | (with_reducible refine Kd.C_alloc ?_ _) | (with_reducible refine Kd.C_drewN ?_ _) | (with_reducible refine Kd.C_drew ?_) | exact HR351_3.out)) hb)
                      have n7_ := Aside0.mk (below_step (by repeat (first | (with_reducible first | exact HB.out | apply below_alloc | apply pw_below_drewN | apply below_drew1) | exact HB.out)) hb)
                      have n8_ := Aside0.mk (hbox)
                      have n9_ := Aside0.mk ((by rw [hg]; exact (below_size (by repeat (first | (with_reducible first | exact HB.out | apply below_alloc | apply pw_below_drewN | apply below_drew1) | exact HB.out))) : w.heap.size ≤ gb359))
                      have n10_ := Aside0.mk ((by rw [hg]; exact (below_size (by repeat (first | (with_reducible first | exact HB.out | apply below_alloc | apply pw_below_drewN | apply below_drew1) | exact HB.out))) : w.heap.size ≤ gb359))
                      clear HO_0
                      clear HO_3
                      clear HL350_3
                      clear HL351_3
                      clear HO357
                      clear HR350_3
                      clear HR351_3
                      clear HB
                      have HO_0 := n0_
                      have HO_3 := n1_
                      have HL350_3 := n2_
                      have HL351_3 := n3_
                      have HO357 := n4_
                      have HR350_3 := n5_
                      have HR351_3 := n6_
                      have HB := n7_
                      have BK359 := n8_
                      have GW359 := n9_
                      have GE359 := n10_
                      clear n0_ n1_ n2_ n3_ n4_ n5_ n6_ n7_ n8_ n9_ n10_
                      clear hb hbox hg
                      refine hK.out _ _ ⟨HS0_, HS1_, HS2_, HS3_, HS4_, HS5_, HS6_, HS7_⟩ (fun hHeld => ?_)
                      clear hK K
                      refine norm_ (a' := ?_) ?_ ?_
                      rotate_left
                      · show Act.put _ (some 5) _ = _
                        simp only [Act.put, List.setIfInBounds_toArray, List.set_cons_zero, List.set_cons_succ, i64_w, i32_w]
                        rfl
                      exact norm_ (by simp only [putAll, Act.put, List.setIfInBounds_toArray, List.set_cons_zero, List.set_cons_succ]) (hCont (v356, gb359) _ ⟨hHeld, (by (with_reducible repeat (first | apply Kd.V_alloc | apply Kd.V_drewN | apply Kd.V_drew)); exact Kd.V_mono HL350_3.out (fun _ hk => ⟨hk.1.1.1, ⟨hk.1.2, ⟨hk.1.1.2, hk.2⟩⟩⟩)), (by (with_reducible repeat (first | apply Kd.V_alloc | apply Kd.V_drewN | apply Kd.V_drew)); exact Kd.V_mono HL351_3.out (fun _ hk => ⟨hk.1.1.1, ⟨hk.1.2, ⟨hk.1.1.2, hk.2⟩⟩⟩)), (by (with_reducible repeat (first | apply Kd.R_alloc | apply Kd.R_drewN | apply Kd.R_drew)); exact Kd.R_mono HO357.out (fun _ hk => hk.1)), (by (with_reducible repeat (first | apply Kd.V_alloc | apply Kd.V_drewN | apply Kd.V_drew)); exact Kd.V_mono HO_0.out (fun _ hk => ⟨hk.1.1.1, ⟨hk.1.2, ⟨hk.1.1.2, hk.2⟩⟩⟩)), (by (with_reducible repeat (first | apply Kd.N_alloc | apply Kd.N_drewN | apply Kd.N_drew)); exact Kd.N_mono HO_3.out (fun _ hk => ⟨hk.1.1, ⟨hk.1.2, hk.2⟩⟩)), (by (with_reducible repeat (first | refine blk_drewN ?_ _ | refine blk_drew ?_ | refine blk_alloc ?_ _)); exact BK359.out), GW359.out, GE359.out, (by repeat (first | (with_reducible first | exact HB.out | apply below_alloc | apply pw_below_drewN | apply below_drew1 | refine below_set ?_ GE359.out) | exact HB.out))⟩)
                    · skip
                      refine box_step ?hg (N := 5) ?hd (cs := #[.int .i64 0, .int .i64 0, .int .i64 0, .slice none 0 0]) (t := 30) ?hr ?_; (case hd => rfl); (case hg => rfl); (case hr => first | (go_simp; done) | (go_simp; rfl))
                      intro gb359 hg w15 hbox hb
                      have HS0_ := (hb.cell (World.block_lt_of_cell? _ _ (hHeld.1))).trans (hHeld.1)
                      have HS1_ := (hb.cell (World.block_lt_of_cell? _ _ (hHeld.2.1))).trans (hHeld.2.1)
                      have HS2_ := (hb.cell (World.block_lt_of_cell? _ _ (hHeld.2.2.1))).trans (hHeld.2.2.1)
                      have HS3_ := (hb.cell (World.block_lt_of_cell? _ _ (hHeld.2.2.2.1))).trans (hHeld.2.2.2.1)
                      have HS4_ := (hb.cell (World.block_lt_of_cell? _ _ (hHeld.2.2.2.2.1))).trans (hHeld.2.2.2.2.1)
                      have HS5_ := (hb.cell (World.block_lt_of_cell? _ _ (hHeld.2.2.2.2.2.1))).trans (hHeld.2.2.2.2.2.1)
                      have HS6_ := (hb.cell (World.block_lt_of_cell? _ _ (hHeld.2.2.2.2.2.2.1))).trans (hHeld.2.2.2.2.2.2.1)
                      have HS7_ := (hb.cell (World.block_lt_of_cell? _ _ (hHeld.2.2.2.2.2.2.2))).trans (hHeld.2.2.2.2.2.2.2)
                      have n0_ := Aside0.mk (Kd.V_below (Kd.V_elderB (by (with_reducible repeat (first | apply Kd.V_alloc | apply Kd.V_drewN | apply Kd.V_drew)); exact HO_0.out) gb359 (Nat.le_of_eq hg.symm)) hb)
                      have n1_ := Aside0.mk (Kd.N_below (Kd.N_elderB (by (with_reducible repeat (first | apply Kd.N_alloc | apply Kd.N_drewN | apply Kd.N_drew)); exact HO_3.out) gb359 (Nat.le_of_eq hg.symm)) hb)
                      have n2_ := Aside0.mk (Kd.V_below (Kd.V_elderB (by (with_reducible repeat (first | apply Kd.V_alloc | apply Kd.V_drewN | apply Kd.V_drew)); exact HL350_3.out) gb359 (Nat.le_of_eq hg.symm)) hb)
                      have n3_ := Aside0.mk (Kd.V_below (Kd.V_elderB (by (with_reducible repeat (first | apply Kd.V_alloc | apply Kd.V_drewN | apply Kd.V_drew)); exact HL351_3.out) gb359 (Nat.le_of_eq hg.symm)) hb)
                      have n4_ := Aside0.mk (Kd.C_below (by repeat (first | (with_reducible exact HR350_3.out) | (with_reducible refine Kd.C_alloc ?_ _) | (with_reducible refine Kd.C_drewN ?_ _) | (with_reducible refine Kd.C_drew ?_) | exact HR350_3.out)) hb)
                      have n5_ := Aside0.mk (Kd.C_below (by repeat (first | (with_reducible exact HR351_3.out) | (with_reducible refine Kd.C_alloc ?_ _) | (with_reducible refine Kd.C_drewN ?_ _) | (with_reducible refine Kd.C_drew ?_) | exact HR351_3.out)) hb)
                      have n6_ := Aside0.mk (below_step (by repeat (first | (with_reducible first | exact HB.out | apply below_alloc | apply pw_below_drewN | apply below_drew1) | exact HB.out)) hb)
                      have n7_ := Aside0.mk (hbox)
                      have n8_ := Aside0.mk ((by rw [hg]; exact (below_size (by repeat (first | (with_reducible first | exact HB.out | apply below_alloc | apply pw_below_drewN | apply below_drew1) | exact HB.out))) : w.heap.size ≤ gb359))
                      have n9_ := Aside0.mk ((by rw [hg]; exact (below_size (by repeat (first | (with_reducible first | exact HB.out | apply below_alloc | apply pw_below_drewN | apply below_drew1) | exact HB.out))) : w.heap.size ≤ gb359))
                      clear HO_0
                      clear HO_3
                      clear HL350_3
                      clear HL351_3
                      clear HR350_3
                      clear HR351_3
                      clear HB
                      have HO_0 := n0_
                      have HO_3 := n1_
                      have HL350_3 := n2_
                      have HL351_3 := n3_
                      have HR350_3 := n4_
                      have HR351_3 := n5_
                      have HB := n6_
                      have BK359 := n7_
                      have GW359 := n8_
                      have GE359 := n9_
                      clear n0_ n1_ n2_ n3_ n4_ n5_ n6_ n7_ n8_ n9_
                      clear hb hbox hg
                      refine hK.out _ _ ⟨HS0_, HS1_, HS2_, HS3_, HS4_, HS5_, HS6_, HS7_⟩ (fun hHeld => ?_)
                      clear hK K
                      refine norm_ (a' := ?_) ?_ ?_
                      rotate_left
                      · show Act.put _ (some 5) _ = _
                        simp only [Act.put, List.setIfInBounds_toArray, List.set_cons_zero, List.set_cons_succ, i64_w, i32_w]
                        rfl
                      refine one_ (i := 10) (N := some 28) #[true, true, true, true, true, true, true, true, true, true, true, false, false, false, true, false, false] rfl rfl (one_of HT_.out (by kernel_rfl)) (by decide) (fun K hK => ?_)
                      refine goes_ Try.func38 (by kernel_rfl) rfl #[.agg #[.int .i64 ((rd_T30 x3_1 (ji6)).f0), .int .i64 ((rd_T30 x3_1 (ji6)).f1), .int .i64 ((rd_T30 x3_1 (ji6)).f2), .slice A350_3 ((rd_T30 x3_1 (ji6)).f3).length c350_3], .agg #[.int .i64 ((rd_T30 x0_1 x4_1).f0), .int .i64 ((rd_T30 x0_1 x4_1).f1), .int .i64 ((rd_T30 x0_1 x4_1).f2), .slice A351_3 ((rd_T30 x0_1 x4_1).f3).length c351_3]] (by rfl) rfl rfl (by (try simp only [List.map_toArray, List.map_cons, List.map_nil]); first | done | (simp only [hji6]; rfl) | rfl | (simp only [List.length_drop, List.length_take]; rfl)) ?_
                      with_reducible refine (juratref27_Two.calls k1 ((rd_T30 x3_1 (ji6)).f0) ((rd_T30 x3_1 (ji6)).f1) ((rd_T30 x3_1 (ji6)).f2) _ _ ((rd_T30 x3_1 (ji6)).f3) ((rd_T30 x0_1 x4_1).f0) ((rd_T30 x0_1 x4_1).f1) ((rd_T30 x0_1 x4_1).f2) _ _ ((rd_T30 x0_1 x4_1).f3) t352 t353 t354 t355 true _ ?side1 ?side2 ?side3 ?side4 A10.out).mono ?_
                      (case side1 => repeat (first | exact (by repeat (first | (with_reducible exact HR350_3.out) | (with_reducible refine Kd.C_alloc ?_ _) | (with_reducible refine Kd.C_drewN ?_ _) | (with_reducible refine Kd.C_drew ?_) | exact HR350_3.out)) | (with_reducible refine Kd.C_alloc ?_ _) | (with_reducible refine Kd.C_drewN ?_ _) | (with_reducible refine Kd.C_drew ?_)))
                      (case side2 => exact HC350_3.out)
                      (case side3 => repeat (first | exact (by repeat (first | (with_reducible exact HR351_3.out) | (with_reducible refine Kd.C_alloc ?_ _) | (with_reducible refine Kd.C_drewN ?_ _) | (with_reducible refine Kd.C_drew ?_) | exact HR351_3.out)) | (with_reducible refine Kd.C_alloc ?_ _) | (with_reducible refine Kd.C_drewN ?_ _) | (with_reducible refine Kd.C_drew ?_)))
                      (case side4 => exact HC351_3.out)
                      rintro e w16 ⟨v356, rfl, ho0, hb⟩
                      have HS0_ := (hb.cell (World.block_lt_of_cell? _ _ (hHeld.1))).trans (hHeld.1)
                      have HS1_ := (hb.cell (World.block_lt_of_cell? _ _ (hHeld.2.1))).trans (hHeld.2.1)
                      have HS2_ := (hb.cell (World.block_lt_of_cell? _ _ (hHeld.2.2.1))).trans (hHeld.2.2.1)
                      have HS3_ := (hb.cell (World.block_lt_of_cell? _ _ (hHeld.2.2.2.1))).trans (hHeld.2.2.2.1)
                      have HS4_ := (hb.cell (World.block_lt_of_cell? _ _ (hHeld.2.2.2.2.1))).trans (hHeld.2.2.2.2.1)
                      have HS5_ := (hb.cell (World.block_lt_of_cell? _ _ (hHeld.2.2.2.2.2.1))).trans (hHeld.2.2.2.2.2.1)
                      have HS6_ := (hb.cell (World.block_lt_of_cell? _ _ (hHeld.2.2.2.2.2.2.1))).trans (hHeld.2.2.2.2.2.2.1)
                      have HS7_ := (hb.cell (World.block_lt_of_cell? _ _ (hHeld.2.2.2.2.2.2.2))).trans (hHeld.2.2.2.2.2.2.2)
                      refine ⟨_, rfl, ?_⟩
                      have n0_ := Aside0.mk (Kd.V_elder' (by (with_reducible repeat (first | apply Kd.V_alloc | apply Kd.V_drewN | apply Kd.V_drew)); exact HO_0.out) (Kd.R_base ho0) hb)
                      have n1_ := Aside0.mk (Kd.N_elder' (by (with_reducible repeat (first | apply Kd.N_alloc | apply Kd.N_drewN | apply Kd.N_drew)); exact HO_3.out) (Kd.R_base ho0) hb)
                      have n2_ := Aside0.mk (Kd.V_elder' (by (with_reducible repeat (first | apply Kd.V_alloc | apply Kd.V_drewN | apply Kd.V_drew)); exact HL350_3.out) (Kd.R_base ho0) hb)
                      have n3_ := Aside0.mk (Kd.V_elder' (by (with_reducible repeat (first | apply Kd.V_alloc | apply Kd.V_drewN | apply Kd.V_drew)); exact HL351_3.out) (Kd.R_base ho0) hb)
                      have n4_ := Aside0.mk (Kd.R_lower (Kd.R_newM (M := fun k_ => (w.heap.size ≤ k_)) ho0 (below_size (by repeat (first | (with_reducible first | exact HB.out | apply below_alloc | apply pw_below_drewN | apply below_drew1 | refine below_set ?_ GE359.out) | exact HB.out))) (fun k_ h_ => h_)) (below_size (by repeat (first | (with_reducible first | exact HB.out | apply below_alloc | apply pw_below_drewN | apply below_drew1 | refine below_set ?_ GE359.out) | exact HB.out))))
                      have n5_ := Aside0.mk (Kd.C_below (by repeat (first | (with_reducible exact HR350_3.out) | (with_reducible refine Kd.C_alloc ?_ _) | (with_reducible refine Kd.C_drewN ?_ _) | (with_reducible refine Kd.C_drew ?_) | exact HR350_3.out)) hb)
                      have n6_ := Aside0.mk (Kd.C_below (by repeat (first | (with_reducible exact HR351_3.out) | (with_reducible refine Kd.C_alloc ?_ _) | (with_reducible refine Kd.C_drewN ?_ _) | (with_reducible refine Kd.C_drew ?_) | exact HR351_3.out)) hb)
                      have n7_ := Aside0.mk (blk_below (g := gb359) (o := .cells #[.int .i64 0, .int .i64 0, .int .i64 0, .slice none 0 0] 30 (0, 0)) (by (with_reducible repeat (first | refine blk_drewN ?_ _ | refine blk_drew ?_ | refine blk_alloc ?_ _)); exact BK359.out) hb)
                      have n8_ := Aside0.mk (below_step (by repeat (first | (with_reducible first | exact HB.out | apply below_alloc | apply pw_below_drewN | apply below_drew1 | refine below_set ?_ GE359.out) | exact HB.out)) hb)
                      clear HO_0
                      clear HO_3
                      clear HL350_3
                      clear HL351_3
                      clear HR350_3
                      clear HR351_3
                      clear BK359
                      clear HB
                      have HO_0 := n0_
                      have HO_3 := n1_
                      have HL350_3 := n2_
                      have HL351_3 := n3_
                      have HO357 := n4_
                      have HR350_3 := n5_
                      have HR351_3 := n6_
                      have BK359 := n7_
                      have HB := n8_
                      clear n0_ n1_ n2_ n3_ n4_ n5_ n6_ n7_ n8_
                      (try clear hb)
                      (try clear hb2)
                      (try clear hk)
                      (try clear hi)
                      (try clear ho0)
                      refine hK.out _ _ ⟨HS0_, HS1_, HS2_, HS3_, HS4_, HS5_, HS6_, HS7_⟩ (fun hHeld => ?_)
                      clear hK K
                      refine norm_ (a' := ?_) ?_ ?_
                      rotate_left
                      · show Act.put _ (some 28) _ = _
                        simp only [Act.put, List.setIfInBounds_toArray, List.set_cons_zero, List.set_cons_succ, i64_w, i32_w]
                        rfl
                      refine pure_ (i := 11) (N := some 17) (v := ?_) (a' := ?_) #[true, true, true, true, true, true, true, true, true, true, true, true, false, false, true, false, false] rfl rfl (any_of HT_.out (by kernel_rfl)) (fun _ _ _ h => h) (Or.inl ⟨by rfl, ?_⟩) ?_ ?_
                      rotate_left
                      · intro w'
                        go_simp
                        with_reducible rfl
                      rotate_left
                      · simp only [Act.put, List.setIfInBounds_toArray, List.set_cons_zero, List.set_cons_succ, i64_w, i32_w]
                        rfl
                      refine pure_ (i := 12) (N := some 29) (v := ?_) (a' := ?_) #[true, true, true, true, true, true, true, true, true, true, true, true, true, false, true, false, false] rfl rfl (any_of HT_.out (by kernel_rfl)) (fun _ _ _ h => h) (Or.inl ⟨by rfl, ?_⟩) ?_ ?_
                      rotate_left
                      · intro w'
                        go_simp
                        with_reducible rfl
                      rotate_left
                      · simp only [Act.put, List.setIfInBounds_toArray, List.set_cons_zero, List.set_cons_succ, i64_w, i32_w]
                        rfl
                      refine pure_ (i := 13) (N := some 30) (v := ?_) (a' := ?_) #[true, true, true, true, true, true, true, true, true, true, true, true, true, true, true, false, false] rfl rfl (any_of HT_.out (by kernel_rfl)) (fun _ _ _ h => h) (Or.inl ⟨by rfl, ?_⟩) ?_ ?_
                      rotate_left
                      · intro w'
                        go_simp
                        with_reducible rfl
                      rotate_left
                      · simp only [Act.put, List.setIfInBounds_toArray, List.set_cons_zero, List.set_cons_succ, i64_w, i32_w]
                        rfl
                      exact norm_ (by simp only [putAll, Act.put, List.setIfInBounds_toArray, List.set_cons_zero, List.set_cons_succ]) (hCont (v356, gb359) _ ⟨hHeld, (by (with_reducible repeat (first | apply Kd.V_alloc | apply Kd.V_drewN | apply Kd.V_drew)); exact Kd.V_mono HL350_3.out (fun _ hk => ⟨hk.1.1.1, ⟨hk.2, ⟨hk.1.1.2, hk.1.2⟩⟩⟩)), (by (with_reducible repeat (first | apply Kd.V_alloc | apply Kd.V_drewN | apply Kd.V_drew)); exact Kd.V_mono HL351_3.out (fun _ hk => ⟨hk.1.1.1, ⟨hk.2, ⟨hk.1.1.2, hk.1.2⟩⟩⟩)), (by (with_reducible repeat (first | apply Kd.R_alloc | apply Kd.R_drewN | apply Kd.R_drew)); exact Kd.R_mono HO357.out (fun _ hk => hk.1)), (by (with_reducible repeat (first | apply Kd.V_alloc | apply Kd.V_drewN | apply Kd.V_drew)); exact Kd.V_mono HO_0.out (fun _ hk => ⟨hk.1.1.1, ⟨hk.2, ⟨hk.1.1.2, hk.1.2⟩⟩⟩)), (by (with_reducible repeat (first | apply Kd.N_alloc | apply Kd.N_drewN | apply Kd.N_drew)); exact Kd.N_mono HO_3.out (fun _ hk => ⟨hk.1.1, ⟨hk.2, hk.1.2⟩⟩)), (by (with_reducible repeat (first | refine blk_drewN ?_ _ | refine blk_drew ?_ | refine blk_alloc ?_ _)); exact BK359.out), GW359.out, GE359.out, (by repeat (first | (with_reducible first | exact HB.out | apply below_alloc | apply pw_below_drewN | apply below_drew1 | refine below_set ?_ GE359.out) | exact HB.out))⟩)
                  rintro ⟨v356, gb359⟩ w17 ⟨hS_, h0_, h1_, h2_, h3_, h4_, h5_, h6_, h7_, h8_⟩
                  have n0_ : Aside0 (Kd.V (Kd.int .i64) 3 w17 w.heap.size (fun k_ => (P0_ k_ ∨ w.heap.size ≤ k_) ∧ some k_ ≠ (v356 : Value).ownBlock ∧ some k_ ≠ (.slice (some ad350) x3_1.length co13 : Value).ownBlock ∧ k_ ≠ gb359) (.slice A350_3 ((rd_T30 x3_1 (ji6)).f3).length c350_3) ((rd_T30 x3_1 (ji6)).f3)) := ⟨h0_⟩
                  have n1_ : Aside0 (Kd.V (Kd.int .i64) 3 w17 w.heap.size (fun k_ => (P0_ k_ ∨ w.heap.size ≤ k_) ∧ some k_ ≠ (v356 : Value).ownBlock ∧ some k_ ≠ (.slice (some ad350) x3_1.length co13 : Value).ownBlock ∧ k_ ≠ gb359) (.slice A351_3 ((rd_T30 x0_1 x4_1).f3).length c351_3) ((rd_T30 x0_1 x4_1).f3)) := ⟨h1_⟩
                  have n2_ : Aside0 (Kd.R (Kd.int .i64) 3 w17 w.heap.size (fun k_ => (w.heap.size ≤ k_)) v356 t355) := ⟨h2_⟩
                  have n3_ : Aside0 (Kd.V k30 30 w17 w.heap.size (fun k_ => (P0_ k_ ∨ w.heap.size ≤ k_) ∧ some k_ ≠ (v356 : Value).ownBlock ∧ some k_ ≠ (.slice (some ad350) x3_1.length co13 : Value).ownBlock ∧ k_ ≠ gb359) (.slice (some ad351) x0_1.length c0) x0_1) := ⟨h3_⟩
                  have n4_ : Aside0 (Kd.N k30 30 w17 w.heap.size (fun k_ => (P0_ k_ ∨ w.heap.size ≤ k_) ∧ some k_ ≠ (v356 : Value).ownBlock ∧ k_ ≠ gb359) (.slice (some ad350) x3_1.length co13) x3_1) := ⟨h4_⟩
                  have n5_ : Aside0 (w17.heap[gb359]? = some (.cells #[.int .i64 0, .int .i64 0, .int .i64 0, .slice none 0 0] 30 (0, 0))) := ⟨h5_⟩
                  have n6_ : Aside0 (w.heap.size ≤ gb359) := ⟨h6_⟩
                  have n7_ : Aside0 (w.heap.size ≤ gb359) := ⟨h7_⟩
                  have n8_ : Aside0 (Below w.heap.size w w17) := ⟨h8_⟩
                  clear HO_0
                  clear HO_3
                  clear HB
                  clear h0_ h1_ h2_ h3_ h4_ h5_ h6_ h7_ h8_
                  have HL350_3 := n0_
                  have HL351_3 := n1_
                  have HO357 := n2_
                  have HO_0 := n3_
                  have HO_3 := n4_
                  have BK359 := n5_
                  have GW359 := n6_
                  have GE359 := n7_
                  have HB := n8_
                  clear n0_ n1_ n2_ n3_ n4_ n5_ n6_ n7_ n8_
                  have hHeld : w17.cell? (ad350.add (((ji6)).toNat * 4)) = some (.int .i64 ((rd_T30 x3_1 (ji6)).f0)) ∧ w17.cell? ⟨(ad350.add (((ji6)).toNat * 4)).block, (ad350.add (((ji6)).toNat * 4)).off + 1, none⟩ = some (.int .i64 ((rd_T30 x3_1 (ji6)).f1)) ∧ w17.cell? ⟨(ad350.add (((ji6)).toNat * 4)).block, (ad350.add (((ji6)).toNat * 4)).off + 2, none⟩ = some (.int .i64 ((rd_T30 x3_1 (ji6)).f2)) ∧ w17.cell? ⟨(ad350.add (((ji6)).toNat * 4)).block, (ad350.add (((ji6)).toNat * 4)).off + 3, none⟩ = some (.slice A350_3 ((rd_T30 x3_1 (ji6)).f3).length c350_3) ∧ w17.cell? (ad351.add ((x4_1).toNat * 4)) = some (.int .i64 ((rd_T30 x0_1 x4_1).f0)) ∧ w17.cell? ⟨(ad351.add ((x4_1).toNat * 4)).block, (ad351.add ((x4_1).toNat * 4)).off + 1, none⟩ = some (.int .i64 ((rd_T30 x0_1 x4_1).f1)) ∧ w17.cell? ⟨(ad351.add ((x4_1).toNat * 4)).block, (ad351.add ((x4_1).toNat * 4)).off + 2, none⟩ = some (.int .i64 ((rd_T30 x0_1 x4_1).f2)) ∧ w17.cell? ⟨(ad351.add ((x4_1).toNat * 4)).block, (ad351.add ((x4_1).toNat * 4)).off + 3, none⟩ = some (.slice A351_3 ((rd_T30 x0_1 x4_1).f3).length c351_3) := hS_
                  obtain ⟨Ao21, co21, eo21⟩ := Kd.R_slice HO357.out
                  (first | subst eo21 | (injection eo21 with f1_ f2_ f3_; have f4_ := f1_.symm; have f5_ := f3_.symm; clear f1_ f2_ f3_; subst f4_; subst f5_))
                  refine norm_ (a' := ?_) ?_ ?_
                  rotate_left
                  · simp only [putAll, Act.put, List.setIfInBounds_toArray, List.set_cons_zero, List.set_cons_succ]
                    rfl
                  refine one_ (i := 15) (N := none) #[true, true, true, true, true, true, true, true, true, true, true, true, true, true, true, true, false] rfl rfl (one_of HT_.out (by kernel_rfl)) (by decide) (fun K hK => ?_)
                  have hs18 : w17.cell? ⟨gb359, 0, none⟩ = some (.int .i64 0) := (blk_cell BK359.out 0).trans rfl
                  have hfs18 := blk_frozen BK359.out 0
                  have hs19 : w17.cell? ⟨gb359, 1, none⟩ = some (.int .i64 0) := (blk_cell BK359.out 1).trans rfl
                  have hfs19 := blk_frozen BK359.out 1
                  have hs20 : w17.cell? ⟨gb359, 2, none⟩ = some (.int .i64 0) := (blk_cell BK359.out 2).trans rfl
                  have hfs20 := blk_frozen BK359.out 2
                  have hs22 : w17.cell? ⟨gb359, 3, none⟩ = some (.slice none 0 0) := (blk_cell BK359.out 3).trans rfl
                  have hfs22 := blk_frozen BK359.out 3
                  refine skip_ (w1 := ?_) (by rfl) rfl ?_ ?_
                  rotate_left
                  · go_simp
                    rfl
                  refine hK.out _ _ ⟨((cell_far (p := ⟨gb359, _, none⟩) (by first | exact Kd.own_blk (Kd.N_away HO_3.out (fun _ hk => hk.2.2)) | (rw [add_block]; exact Kd.own_blk (Kd.N_away HO_3.out (fun _ hk => hk.2.2))) | (show (Addr.add _ _).block ≠ _; rw [add_block]; exact Kd.own_blk (Kd.N_away HO_3.out (fun _ hk => hk.2.2))) | (dsimp only; exact Kd.own_blk (Kd.N_away HO_3.out (fun _ hk => hk.2.2)))) _).trans (((cell_far (p := ⟨gb359, _, none⟩) (by first | exact Kd.own_blk (Kd.N_away HO_3.out (fun _ hk => hk.2.2)) | (rw [add_block]; exact Kd.own_blk (Kd.N_away HO_3.out (fun _ hk => hk.2.2))) | (show (Addr.add _ _).block ≠ _; rw [add_block]; exact Kd.own_blk (Kd.N_away HO_3.out (fun _ hk => hk.2.2))) | (dsimp only; exact Kd.own_blk (Kd.N_away HO_3.out (fun _ hk => hk.2.2)))) _).trans (((cell_far (p := ⟨gb359, _, none⟩) (by first | exact Kd.own_blk (Kd.N_away HO_3.out (fun _ hk => hk.2.2)) | (rw [add_block]; exact Kd.own_blk (Kd.N_away HO_3.out (fun _ hk => hk.2.2))) | (show (Addr.add _ _).block ≠ _; rw [add_block]; exact Kd.own_blk (Kd.N_away HO_3.out (fun _ hk => hk.2.2))) | (dsimp only; exact Kd.own_blk (Kd.N_away HO_3.out (fun _ hk => hk.2.2)))) _).trans (((cell_far (p := ⟨gb359, _, none⟩) (by first | exact Kd.own_blk (Kd.N_away HO_3.out (fun _ hk => hk.2.2)) | (rw [add_block]; exact Kd.own_blk (Kd.N_away HO_3.out (fun _ hk => hk.2.2))) | (show (Addr.add _ _).block ≠ _; rw [add_block]; exact Kd.own_blk (Kd.N_away HO_3.out (fun _ hk => hk.2.2))) | (dsimp only; exact Kd.own_blk (Kd.N_away HO_3.out (fun _ hk => hk.2.2)))) _).trans (hHeld.1)))))))), ((cell_far (p := ⟨gb359, _, none⟩) (by first | exact Kd.own_blk (Kd.N_away HO_3.out (fun _ hk => hk.2.2)) | (rw [add_block]; exact Kd.own_blk (Kd.N_away HO_3.out (fun _ hk => hk.2.2))) | (show (Addr.add _ _).block ≠ _; rw [add_block]; exact Kd.own_blk (Kd.N_away HO_3.out (fun _ hk => hk.2.2))) | (dsimp only; exact Kd.own_blk (Kd.N_away HO_3.out (fun _ hk => hk.2.2)))) _).trans (((cell_far (p := ⟨gb359, _, none⟩) (by first | exact Kd.own_blk (Kd.N_away HO_3.out (fun _ hk => hk.2.2)) | (rw [add_block]; exact Kd.own_blk (Kd.N_away HO_3.out (fun _ hk => hk.2.2))) | (show (Addr.add _ _).block ≠ _; rw [add_block]; exact Kd.own_blk (Kd.N_away HO_3.out (fun _ hk => hk.2.2))) | (dsimp only; exact Kd.own_blk (Kd.N_away HO_3.out (fun _ hk => hk.2.2)))) _).trans (((cell_far (p := ⟨gb359, _, none⟩) (by first | exact Kd.own_blk (Kd.N_away HO_3.out (fun _ hk => hk.2.2)) | (rw [add_block]; exact Kd.own_blk (Kd.N_away HO_3.out (fun _ hk => hk.2.2))) | (show (Addr.add _ _).block ≠ _; rw [add_block]; exact Kd.own_blk (Kd.N_away HO_3.out (fun _ hk => hk.2.2))) | (dsimp only; exact Kd.own_blk (Kd.N_away HO_3.out (fun _ hk => hk.2.2)))) _).trans (((cell_far (p := ⟨gb359, _, none⟩) (by first | exact Kd.own_blk (Kd.N_away HO_3.out (fun _ hk => hk.2.2)) | (rw [add_block]; exact Kd.own_blk (Kd.N_away HO_3.out (fun _ hk => hk.2.2))) | (show (Addr.add _ _).block ≠ _; rw [add_block]; exact Kd.own_blk (Kd.N_away HO_3.out (fun _ hk => hk.2.2))) | (dsimp only; exact Kd.own_blk (Kd.N_away HO_3.out (fun _ hk => hk.2.2)))) _).trans (hHeld.2.1)))))))), ((cell_far (p := ⟨gb359, _, none⟩) (by first | exact Kd.own_blk (Kd.N_away HO_3.out (fun _ hk => hk.2.2)) | (rw [add_block]; exact Kd.own_blk (Kd.N_away HO_3.out (fun _ hk => hk.2.2))) | (show (Addr.add _ _).block ≠ _; rw [add_block]; exact Kd.own_blk (Kd.N_away HO_3.out (fun _ hk => hk.2.2))) | (dsimp only; exact Kd.own_blk (Kd.N_away HO_3.out (fun _ hk => hk.2.2)))) _).trans (((cell_far (p := ⟨gb359, _, none⟩) (by first | exact Kd.own_blk (Kd.N_away HO_3.out (fun _ hk => hk.2.2)) | (rw [add_block]; exact Kd.own_blk (Kd.N_away HO_3.out (fun _ hk => hk.2.2))) | (show (Addr.add _ _).block ≠ _; rw [add_block]; exact Kd.own_blk (Kd.N_away HO_3.out (fun _ hk => hk.2.2))) | (dsimp only; exact Kd.own_blk (Kd.N_away HO_3.out (fun _ hk => hk.2.2)))) _).trans (((cell_far (p := ⟨gb359, _, none⟩) (by first | exact Kd.own_blk (Kd.N_away HO_3.out (fun _ hk => hk.2.2)) | (rw [add_block]; exact Kd.own_blk (Kd.N_away HO_3.out (fun _ hk => hk.2.2))) | (show (Addr.add _ _).block ≠ _; rw [add_block]; exact Kd.own_blk (Kd.N_away HO_3.out (fun _ hk => hk.2.2))) | (dsimp only; exact Kd.own_blk (Kd.N_away HO_3.out (fun _ hk => hk.2.2)))) _).trans (((cell_far (p := ⟨gb359, _, none⟩) (by first | exact Kd.own_blk (Kd.N_away HO_3.out (fun _ hk => hk.2.2)) | (rw [add_block]; exact Kd.own_blk (Kd.N_away HO_3.out (fun _ hk => hk.2.2))) | (show (Addr.add _ _).block ≠ _; rw [add_block]; exact Kd.own_blk (Kd.N_away HO_3.out (fun _ hk => hk.2.2))) | (dsimp only; exact Kd.own_blk (Kd.N_away HO_3.out (fun _ hk => hk.2.2)))) _).trans (hHeld.2.2.1)))))))), ((cell_far (p := ⟨gb359, _, none⟩) (by first | exact Kd.own_blk (Kd.N_away HO_3.out (fun _ hk => hk.2.2)) | (rw [add_block]; exact Kd.own_blk (Kd.N_away HO_3.out (fun _ hk => hk.2.2))) | (show (Addr.add _ _).block ≠ _; rw [add_block]; exact Kd.own_blk (Kd.N_away HO_3.out (fun _ hk => hk.2.2))) | (dsimp only; exact Kd.own_blk (Kd.N_away HO_3.out (fun _ hk => hk.2.2)))) _).trans (((cell_far (p := ⟨gb359, _, none⟩) (by first | exact Kd.own_blk (Kd.N_away HO_3.out (fun _ hk => hk.2.2)) | (rw [add_block]; exact Kd.own_blk (Kd.N_away HO_3.out (fun _ hk => hk.2.2))) | (show (Addr.add _ _).block ≠ _; rw [add_block]; exact Kd.own_blk (Kd.N_away HO_3.out (fun _ hk => hk.2.2))) | (dsimp only; exact Kd.own_blk (Kd.N_away HO_3.out (fun _ hk => hk.2.2)))) _).trans (((cell_far (p := ⟨gb359, _, none⟩) (by first | exact Kd.own_blk (Kd.N_away HO_3.out (fun _ hk => hk.2.2)) | (rw [add_block]; exact Kd.own_blk (Kd.N_away HO_3.out (fun _ hk => hk.2.2))) | (show (Addr.add _ _).block ≠ _; rw [add_block]; exact Kd.own_blk (Kd.N_away HO_3.out (fun _ hk => hk.2.2))) | (dsimp only; exact Kd.own_blk (Kd.N_away HO_3.out (fun _ hk => hk.2.2)))) _).trans (((cell_far (p := ⟨gb359, _, none⟩) (by first | exact Kd.own_blk (Kd.N_away HO_3.out (fun _ hk => hk.2.2)) | (rw [add_block]; exact Kd.own_blk (Kd.N_away HO_3.out (fun _ hk => hk.2.2))) | (show (Addr.add _ _).block ≠ _; rw [add_block]; exact Kd.own_blk (Kd.N_away HO_3.out (fun _ hk => hk.2.2))) | (dsimp only; exact Kd.own_blk (Kd.N_away HO_3.out (fun _ hk => hk.2.2)))) _).trans (hHeld.2.2.2.1)))))))), ((cell_far (p := ⟨gb359, _, none⟩) (by first | exact (Kd.V_blk HO_0.out (fun _ hk => hk.2.2.2) p351 q351 (by decide) z30) | (rw [add_block]; exact (Kd.V_blk HO_0.out (fun _ hk => hk.2.2.2) p351 q351 (by decide) z30)) | (show (Addr.add _ _).block ≠ _; rw [add_block]; exact (Kd.V_blk HO_0.out (fun _ hk => hk.2.2.2) p351 q351 (by decide) z30)) | (dsimp only; exact (Kd.V_blk HO_0.out (fun _ hk => hk.2.2.2) p351 q351 (by decide) z30))) _).trans (((cell_far (p := ⟨gb359, _, none⟩) (by first | exact (Kd.V_blk HO_0.out (fun _ hk => hk.2.2.2) p351 q351 (by decide) z30) | (rw [add_block]; exact (Kd.V_blk HO_0.out (fun _ hk => hk.2.2.2) p351 q351 (by decide) z30)) | (show (Addr.add _ _).block ≠ _; rw [add_block]; exact (Kd.V_blk HO_0.out (fun _ hk => hk.2.2.2) p351 q351 (by decide) z30)) | (dsimp only; exact (Kd.V_blk HO_0.out (fun _ hk => hk.2.2.2) p351 q351 (by decide) z30))) _).trans (((cell_far (p := ⟨gb359, _, none⟩) (by first | exact (Kd.V_blk HO_0.out (fun _ hk => hk.2.2.2) p351 q351 (by decide) z30) | (rw [add_block]; exact (Kd.V_blk HO_0.out (fun _ hk => hk.2.2.2) p351 q351 (by decide) z30)) | (show (Addr.add _ _).block ≠ _; rw [add_block]; exact (Kd.V_blk HO_0.out (fun _ hk => hk.2.2.2) p351 q351 (by decide) z30)) | (dsimp only; exact (Kd.V_blk HO_0.out (fun _ hk => hk.2.2.2) p351 q351 (by decide) z30))) _).trans (((cell_far (p := ⟨gb359, _, none⟩) (by first | exact (Kd.V_blk HO_0.out (fun _ hk => hk.2.2.2) p351 q351 (by decide) z30) | (rw [add_block]; exact (Kd.V_blk HO_0.out (fun _ hk => hk.2.2.2) p351 q351 (by decide) z30)) | (show (Addr.add _ _).block ≠ _; rw [add_block]; exact (Kd.V_blk HO_0.out (fun _ hk => hk.2.2.2) p351 q351 (by decide) z30)) | (dsimp only; exact (Kd.V_blk HO_0.out (fun _ hk => hk.2.2.2) p351 q351 (by decide) z30))) _).trans (hHeld.2.2.2.2.1)))))))), ((cell_far (p := ⟨gb359, _, none⟩) (by first | exact (Kd.V_blk HO_0.out (fun _ hk => hk.2.2.2) p351 q351 (by decide) z30) | (rw [add_block]; exact (Kd.V_blk HO_0.out (fun _ hk => hk.2.2.2) p351 q351 (by decide) z30)) | (show (Addr.add _ _).block ≠ _; rw [add_block]; exact (Kd.V_blk HO_0.out (fun _ hk => hk.2.2.2) p351 q351 (by decide) z30)) | (dsimp only; exact (Kd.V_blk HO_0.out (fun _ hk => hk.2.2.2) p351 q351 (by decide) z30))) _).trans (((cell_far (p := ⟨gb359, _, none⟩) (by first | exact (Kd.V_blk HO_0.out (fun _ hk => hk.2.2.2) p351 q351 (by decide) z30) | (rw [add_block]; exact (Kd.V_blk HO_0.out (fun _ hk => hk.2.2.2) p351 q351 (by decide) z30)) | (show (Addr.add _ _).block ≠ _; rw [add_block]; exact (Kd.V_blk HO_0.out (fun _ hk => hk.2.2.2) p351 q351 (by decide) z30)) | (dsimp only; exact (Kd.V_blk HO_0.out (fun _ hk => hk.2.2.2) p351 q351 (by decide) z30))) _).trans (((cell_far (p := ⟨gb359, _, none⟩) (by first | exact (Kd.V_blk HO_0.out (fun _ hk => hk.2.2.2) p351 q351 (by decide) z30) | (rw [add_block]; exact (Kd.V_blk HO_0.out (fun _ hk => hk.2.2.2) p351 q351 (by decide) z30)) | (show (Addr.add _ _).block ≠ _; rw [add_block]; exact (Kd.V_blk HO_0.out (fun _ hk => hk.2.2.2) p351 q351 (by decide) z30)) | (dsimp only; exact (Kd.V_blk HO_0.out (fun _ hk => hk.2.2.2) p351 q351 (by decide) z30))) _).trans (((cell_far (p := ⟨gb359, _, none⟩) (by first | exact (Kd.V_blk HO_0.out (fun _ hk => hk.2.2.2) p351 q351 (by decide) z30) | (rw [add_block]; exact (Kd.V_blk HO_0.out (fun _ hk => hk.2.2.2) p351 q351 (by decide) z30)) | (show (Addr.add _ _).block ≠ _; rw [add_block]; exact (Kd.V_blk HO_0.out (fun _ hk => hk.2.2.2) p351 q351 (by decide) z30)) | (dsimp only; exact (Kd.V_blk HO_0.out (fun _ hk => hk.2.2.2) p351 q351 (by decide) z30))) _).trans (hHeld.2.2.2.2.2.1)))))))), ((cell_far (p := ⟨gb359, _, none⟩) (by first | exact (Kd.V_blk HO_0.out (fun _ hk => hk.2.2.2) p351 q351 (by decide) z30) | (rw [add_block]; exact (Kd.V_blk HO_0.out (fun _ hk => hk.2.2.2) p351 q351 (by decide) z30)) | (show (Addr.add _ _).block ≠ _; rw [add_block]; exact (Kd.V_blk HO_0.out (fun _ hk => hk.2.2.2) p351 q351 (by decide) z30)) | (dsimp only; exact (Kd.V_blk HO_0.out (fun _ hk => hk.2.2.2) p351 q351 (by decide) z30))) _).trans (((cell_far (p := ⟨gb359, _, none⟩) (by first | exact (Kd.V_blk HO_0.out (fun _ hk => hk.2.2.2) p351 q351 (by decide) z30) | (rw [add_block]; exact (Kd.V_blk HO_0.out (fun _ hk => hk.2.2.2) p351 q351 (by decide) z30)) | (show (Addr.add _ _).block ≠ _; rw [add_block]; exact (Kd.V_blk HO_0.out (fun _ hk => hk.2.2.2) p351 q351 (by decide) z30)) | (dsimp only; exact (Kd.V_blk HO_0.out (fun _ hk => hk.2.2.2) p351 q351 (by decide) z30))) _).trans (((cell_far (p := ⟨gb359, _, none⟩) (by first | exact (Kd.V_blk HO_0.out (fun _ hk => hk.2.2.2) p351 q351 (by decide) z30) | (rw [add_block]; exact (Kd.V_blk HO_0.out (fun _ hk => hk.2.2.2) p351 q351 (by decide) z30)) | (show (Addr.add _ _).block ≠ _; rw [add_block]; exact (Kd.V_blk HO_0.out (fun _ hk => hk.2.2.2) p351 q351 (by decide) z30)) | (dsimp only; exact (Kd.V_blk HO_0.out (fun _ hk => hk.2.2.2) p351 q351 (by decide) z30))) _).trans (((cell_far (p := ⟨gb359, _, none⟩) (by first | exact (Kd.V_blk HO_0.out (fun _ hk => hk.2.2.2) p351 q351 (by decide) z30) | (rw [add_block]; exact (Kd.V_blk HO_0.out (fun _ hk => hk.2.2.2) p351 q351 (by decide) z30)) | (show (Addr.add _ _).block ≠ _; rw [add_block]; exact (Kd.V_blk HO_0.out (fun _ hk => hk.2.2.2) p351 q351 (by decide) z30)) | (dsimp only; exact (Kd.V_blk HO_0.out (fun _ hk => hk.2.2.2) p351 q351 (by decide) z30))) _).trans (hHeld.2.2.2.2.2.2.1)))))))), ((cell_far (p := ⟨gb359, _, none⟩) (by first | exact (Kd.V_blk HO_0.out (fun _ hk => hk.2.2.2) p351 q351 (by decide) z30) | (rw [add_block]; exact (Kd.V_blk HO_0.out (fun _ hk => hk.2.2.2) p351 q351 (by decide) z30)) | (show (Addr.add _ _).block ≠ _; rw [add_block]; exact (Kd.V_blk HO_0.out (fun _ hk => hk.2.2.2) p351 q351 (by decide) z30)) | (dsimp only; exact (Kd.V_blk HO_0.out (fun _ hk => hk.2.2.2) p351 q351 (by decide) z30))) _).trans (((cell_far (p := ⟨gb359, _, none⟩) (by first | exact (Kd.V_blk HO_0.out (fun _ hk => hk.2.2.2) p351 q351 (by decide) z30) | (rw [add_block]; exact (Kd.V_blk HO_0.out (fun _ hk => hk.2.2.2) p351 q351 (by decide) z30)) | (show (Addr.add _ _).block ≠ _; rw [add_block]; exact (Kd.V_blk HO_0.out (fun _ hk => hk.2.2.2) p351 q351 (by decide) z30)) | (dsimp only; exact (Kd.V_blk HO_0.out (fun _ hk => hk.2.2.2) p351 q351 (by decide) z30))) _).trans (((cell_far (p := ⟨gb359, _, none⟩) (by first | exact (Kd.V_blk HO_0.out (fun _ hk => hk.2.2.2) p351 q351 (by decide) z30) | (rw [add_block]; exact (Kd.V_blk HO_0.out (fun _ hk => hk.2.2.2) p351 q351 (by decide) z30)) | (show (Addr.add _ _).block ≠ _; rw [add_block]; exact (Kd.V_blk HO_0.out (fun _ hk => hk.2.2.2) p351 q351 (by decide) z30)) | (dsimp only; exact (Kd.V_blk HO_0.out (fun _ hk => hk.2.2.2) p351 q351 (by decide) z30))) _).trans (((cell_far (p := ⟨gb359, _, none⟩) (by first | exact (Kd.V_blk HO_0.out (fun _ hk => hk.2.2.2) p351 q351 (by decide) z30) | (rw [add_block]; exact (Kd.V_blk HO_0.out (fun _ hk => hk.2.2.2) p351 q351 (by decide) z30)) | (show (Addr.add _ _).block ≠ _; rw [add_block]; exact (Kd.V_blk HO_0.out (fun _ hk => hk.2.2.2) p351 q351 (by decide) z30)) | (dsimp only; exact (Kd.V_blk HO_0.out (fun _ hk => hk.2.2.2) p351 q351 (by decide) z30))) _).trans (hHeld.2.2.2.2.2.2.2))))))))⟩ (fun hHeld => ?_)
                  clear hK K
                  refine pure_ (i := 16) (N := some 6) (v := ?_) (a' := ?_) #[true, true, true, true, true, true, true, true, true, true, true, true, true, true, true, true, true] rfl rfl (any_of HT_.out (by kernel_rfl)) (fun _ _ _ h => h) (Or.inl ⟨by rfl, ?_⟩) ?_ ?_
                  rotate_left
                  · intro w'
                    go_simp
                    with_reducible rfl
                  rotate_left
                  · simp only [Act.put, List.setIfInBounds_toArray, List.set_cons_zero, List.set_cons_succ, i64_w, i32_w]
                    rfl
                  refine done_ (done_of HT_.out (by kernel_rfl)) ?_
                  have n0_ : Aside0 (Kd.V k30 30 ((((w17.setCell ⟨gb359, 0, none⟩ (.int .i64 t352)).setCell ⟨gb359, 1, none⟩ (.int .i64 t353)).setCell ⟨gb359, 2, none⟩ (.int .i64 t354)).setCell ⟨gb359, 3, none⟩ (.slice Ao21 t355.length co21)) w.heap.size (fun k_ => (P0_ k_ ∨ w.heap.size ≤ k_) ∧ some k_ ≠ (.slice (some ad350) x3_1.length co13 : Value).ownBlock ∧ some k_ ≠ (.slice Ao21 t355.length co21 : Value).ownBlock ∧ k_ ≠ gb359) (.slice (some ad351) x0_1.length c0) x0_1) := ⟨by (with_reducible repeat (first | apply Kd.V_alloc | apply Kd.V_drewN | apply Kd.V_drew)); exact Kd.V_mono (Kd.V_far (p := ⟨gb359, 3, none⟩) (Kd.V_far (p := ⟨gb359, 2, none⟩) (Kd.V_far (p := ⟨gb359, 1, none⟩) (Kd.V_far (p := ⟨gb359, 0, none⟩) (Kd.V_mono HO_0.out (fun k_ hk => (⟨hk, hk.2.2.2⟩ : _ ∧ k_ ≠ gb359))) (fun _ hk => hk.2) (.int .i64 t352)) (fun _ hk => hk.2) (.int .i64 t353)) (fun _ hk => hk.2) (.int .i64 t354)) (fun _ hk => hk.2) (.slice Ao21 t355.length co21)) (fun _ hk => ⟨hk.1.1, ⟨hk.1.2.2.1, ⟨hk.1.2.1, hk.1.2.2.2⟩⟩⟩)⟩
                  have n1_ : Aside0 (Kd.N k30 30 ((((w17.setCell ⟨gb359, 0, none⟩ (.int .i64 t352)).setCell ⟨gb359, 1, none⟩ (.int .i64 t353)).setCell ⟨gb359, 2, none⟩ (.int .i64 t354)).setCell ⟨gb359, 3, none⟩ (.slice Ao21 t355.length co21)) w.heap.size (fun k_ => (P0_ k_ ∨ w.heap.size ≤ k_) ∧ some k_ ≠ (.slice Ao21 t355.length co21 : Value).ownBlock ∧ k_ ≠ gb359) (.slice (some ad350) x3_1.length co13) x3_1) := ⟨by (with_reducible repeat (first | apply Kd.N_alloc | apply Kd.N_drewN | apply Kd.N_drew)); exact Kd.N_mono (Kd.N_far (p := ⟨gb359, 3, none⟩) (Kd.N_far (p := ⟨gb359, 2, none⟩) (Kd.N_far (p := ⟨gb359, 1, none⟩) (Kd.N_far (p := ⟨gb359, 0, none⟩) (Kd.N_mono HO_3.out (fun k_ hk => (⟨hk, hk.2.2⟩ : _ ∧ k_ ≠ gb359))) (fun _ hk => hk.2) (.int .i64 t352)) (fun _ hk => hk.2) (.int .i64 t353)) (fun _ hk => hk.2) (.int .i64 t354)) (fun _ hk => hk.2) (.slice Ao21 t355.length co21)) (fun _ hk => ⟨hk.1.1, ⟨hk.1.2.1, hk.1.2.2⟩⟩)⟩
                  have n2_ : Aside0 (Kd.V (Kd.int .i64) 3 ((((w17.setCell ⟨gb359, 0, none⟩ (.int .i64 t352)).setCell ⟨gb359, 1, none⟩ (.int .i64 t353)).setCell ⟨gb359, 2, none⟩ (.int .i64 t354)).setCell ⟨gb359, 3, none⟩ (.slice Ao21 t355.length co21)) w.heap.size (fun k_ => (P0_ k_ ∨ w.heap.size ≤ k_) ∧ some k_ ≠ (.slice (some ad350) x3_1.length co13 : Value).ownBlock ∧ some k_ ≠ (.slice Ao21 t355.length co21 : Value).ownBlock ∧ k_ ≠ gb359) (.slice A350_3 ((rd_T30 x3_1 (ji6)).f3).length c350_3) ((rd_T30 x3_1 (ji6)).f3)) := ⟨by (with_reducible repeat (first | apply Kd.V_alloc | apply Kd.V_drewN | apply Kd.V_drew)); exact Kd.V_mono (Kd.V_far (p := ⟨gb359, 3, none⟩) (Kd.V_far (p := ⟨gb359, 2, none⟩) (Kd.V_far (p := ⟨gb359, 1, none⟩) (Kd.V_far (p := ⟨gb359, 0, none⟩) (Kd.V_mono HL350_3.out (fun k_ hk => (⟨hk, hk.2.2.2⟩ : _ ∧ k_ ≠ gb359))) (fun _ hk => hk.2) (.int .i64 t352)) (fun _ hk => hk.2) (.int .i64 t353)) (fun _ hk => hk.2) (.int .i64 t354)) (fun _ hk => hk.2) (.slice Ao21 t355.length co21)) (fun _ hk => ⟨hk.1.1, ⟨hk.1.2.2.1, ⟨hk.1.2.1, hk.1.2.2.2⟩⟩⟩)⟩
                  have n3_ : Aside0 (Kd.V (Kd.int .i64) 3 ((((w17.setCell ⟨gb359, 0, none⟩ (.int .i64 t352)).setCell ⟨gb359, 1, none⟩ (.int .i64 t353)).setCell ⟨gb359, 2, none⟩ (.int .i64 t354)).setCell ⟨gb359, 3, none⟩ (.slice Ao21 t355.length co21)) w.heap.size (fun k_ => (P0_ k_ ∨ w.heap.size ≤ k_) ∧ some k_ ≠ (.slice (some ad350) x3_1.length co13 : Value).ownBlock ∧ some k_ ≠ (.slice Ao21 t355.length co21 : Value).ownBlock ∧ k_ ≠ gb359) (.slice A351_3 ((rd_T30 x0_1 x4_1).f3).length c351_3) ((rd_T30 x0_1 x4_1).f3)) := ⟨by (with_reducible repeat (first | apply Kd.V_alloc | apply Kd.V_drewN | apply Kd.V_drew)); exact Kd.V_mono (Kd.V_far (p := ⟨gb359, 3, none⟩) (Kd.V_far (p := ⟨gb359, 2, none⟩) (Kd.V_far (p := ⟨gb359, 1, none⟩) (Kd.V_far (p := ⟨gb359, 0, none⟩) (Kd.V_mono HL351_3.out (fun k_ hk => (⟨hk, hk.2.2.2⟩ : _ ∧ k_ ≠ gb359))) (fun _ hk => hk.2) (.int .i64 t352)) (fun _ hk => hk.2) (.int .i64 t353)) (fun _ hk => hk.2) (.int .i64 t354)) (fun _ hk => hk.2) (.slice Ao21 t355.length co21)) (fun _ hk => ⟨hk.1.1, ⟨hk.1.2.2.1, ⟨hk.1.2.1, hk.1.2.2.2⟩⟩⟩)⟩
                  have n4_ : Aside0 (Kd.R (Kd.int .i64) 3 ((((w17.setCell ⟨gb359, 0, none⟩ (.int .i64 t352)).setCell ⟨gb359, 1, none⟩ (.int .i64 t353)).setCell ⟨gb359, 2, none⟩ (.int .i64 t354)).setCell ⟨gb359, 3, none⟩ (.slice Ao21 t355.length co21)) w.heap.size (fun k_ => (w.heap.size ≤ k_)) (.slice Ao21 t355.length co21) t355) := ⟨by (with_reducible repeat (first | apply Kd.R_alloc | apply Kd.R_drewN | apply Kd.R_drew)); exact Kd.R_mono (Kd.R_far (p := ⟨gb359, 3, none⟩) (Kd.R_far (p := ⟨gb359, 2, none⟩) (Kd.R_far (p := ⟨gb359, 1, none⟩) (Kd.R_far (p := ⟨gb359, 0, none⟩) (Kd.R_types HO357.out BK359.out (by decide)) (fun _ hk => hk.2) (.int .i64 t352)) (fun _ hk => hk.2) (.int .i64 t353)) (fun _ hk => hk.2) (.int .i64 t354)) (fun _ hk => hk.2) (.slice Ao21 t355.length co21)) (fun _ hk => hk.1)⟩
                  have n5_ : Aside0 (((((w17.setCell ⟨gb359, 0, none⟩ (.int .i64 t352)).setCell ⟨gb359, 1, none⟩ (.int .i64 t353)).setCell ⟨gb359, 2, none⟩ (.int .i64 t354)).setCell ⟨gb359, 3, none⟩ (.slice Ao21 t355.length co21)).heap[gb359]? = some (.cells #[.int .i64 t352, .int .i64 t353, .int .i64 t354, .slice Ao21 t355.length co21] 30 (0, 0))) := ⟨by (with_reducible repeat (first | refine blk_drewN ?_ _ | refine blk_drew ?_ | refine blk_alloc ?_ _)); refine blk_put (cs := #[.int .i64 t352, .int .i64 t353, .int .i64 t354, .slice none 0 0]) ?_ 3 _ rfl; (with_reducible repeat (first | refine blk_drewN ?_ _ | refine blk_drew ?_ | refine blk_alloc ?_ _)); refine blk_put (cs := #[.int .i64 t352, .int .i64 t353, .int .i64 0, .slice none 0 0]) ?_ 2 _ rfl; (with_reducible repeat (first | refine blk_drewN ?_ _ | refine blk_drew ?_ | refine blk_alloc ?_ _)); refine blk_put (cs := #[.int .i64 t352, .int .i64 0, .int .i64 0, .slice none 0 0]) ?_ 1 _ rfl; (with_reducible repeat (first | refine blk_drewN ?_ _ | refine blk_drew ?_ | refine blk_alloc ?_ _)); refine blk_put (cs := #[.int .i64 0, .int .i64 0, .int .i64 0, .slice none 0 0]) ?_ 0 _ rfl; (with_reducible repeat (first | refine blk_drewN ?_ _ | refine blk_drew ?_ | refine blk_alloc ?_ _)); exact BK359.out⟩
                  have n6_ : Aside0 (Below w.heap.size w ((((w17.setCell ⟨gb359, 0, none⟩ (.int .i64 t352)).setCell ⟨gb359, 1, none⟩ (.int .i64 t353)).setCell ⟨gb359, 2, none⟩ (.int .i64 t354)).setCell ⟨gb359, 3, none⟩ (.slice Ao21 t355.length co21))) := ⟨by repeat (first | (with_reducible first | exact HB.out | apply below_alloc | apply pw_below_drewN | apply below_drew1 | refine below_set ?_ GE359.out) | exact HB.out)⟩
                  (try clear HO_0)
                  (try clear HO_3)
                  (try clear HL350_3)
                  (try clear HL351_3)
                  (try clear HO357)
                  (try clear BK359)
                  (try clear HB)
                  generalize ((((w17.setCell ⟨gb359, 0, none⟩ (.int .i64 t352)).setCell ⟨gb359, 1, none⟩ (.int .i64 t353)).setCell ⟨gb359, 2, none⟩ (.int .i64 t354)).setCell ⟨gb359, 3, none⟩ (.slice Ao21 t355.length co21)) = w23 at n0_ n1_ n2_ n3_ n4_ n5_ n6_ ⊢
                  have HO_0 := n0_
                  have HO_3 := n1_
                  have HL350_3 := n2_
                  have HL351_3 := n3_
                  have HO357 := n4_
                  have BK359 := n5_
                  have HB := n6_
                  clear n0_ n1_ n2_ n3_ n4_ n5_ n6_
                  have hcz24_0 : w23.cell? ⟨gb359, 0, none⟩ = some (.int .i64 t352) := (blk_cell BK359.out 0).trans rfl
                  have hcz24_1 : w23.cell? ⟨gb359, 1, none⟩ = some (.int .i64 t353) := (blk_cell BK359.out 1).trans rfl
                  have hcz24_2 : w23.cell? ⟨gb359, 2, none⟩ = some (.int .i64 t354) := (blk_cell BK359.out 2).trans rfl
                  have hcz24_3 : w23.cell? ⟨gb359, 3, none⟩ = some (.slice Ao21 t355.length co21) := (blk_cell BK359.out 3).trans rfl
                  have hfz24_0 := blk_frozen BK359.out 0
                  have hfz24_1 := blk_frozen BK359.out 1
                  have hfz24_2 := blk_frozen BK359.out 2
                  have hfz24_3 := blk_frozen BK359.out 3
                  have p12 : 0 ≤ ((ji6) : Int) := of_decide_eq_true (by first | (with_reducible assumption) | assumption)
                  have q12 : ((ji6) : Int) < ((x3_1.length : Int) : Int) := of_decide_eq_true (by first | (with_reducible assumption) | assumption)
                  obtain ⟨go12, co12, eo12, gb12, gl12, cl12, HG12⟩ := Kd.N_form HO_3.out (by omega)
                  (first | cases eo12 | (injection eo12 with ea_ en_ ec_; (first | subst ea_ | (injection ea_ with ea_; subst ea_)); subst ec_; clear en_))
                  have GB12 := Aside0.mk gb12
                  have GG12 := Aside0.mk HG12
                  clear gb12 gl12 HG12
                  (first | simp only [add_plain] at hx350_0 | skip)
                  (first | simp only [add_plain] at hx350_1 | skip)
                  (first | simp only [add_plain] at hx350_2 | skip)
                  (first | simp only [add_plain] at hx350_3 | skip)
                  obtain ⟨ce12, hcl12, hM12, hcc12, hfr12⟩ := Kd.N_elem HO_3.out z30 ((ji6) : Int) p12 q12
                  obtain ⟨ua12_3, uc12_3, rfl, ul12_3, ge12_3⟩ := k30_openF hM12
                  have hx12_0 : w23.cell? ⟨go12, ((ji6) : Int).toNat * 4, none⟩ = some (.int .i64 ((rd_T30 x3_1 (ji6)).f0)) := hcc12 0 _ rfl
                  have hx12_1 : w23.cell? ⟨go12, ((ji6) : Int).toNat * 4 + 1, none⟩ = some (.int .i64 ((rd_T30 x3_1 (ji6)).f1)) := hcc12 1 _ rfl
                  have hx12_2 : w23.cell? ⟨go12, ((ji6) : Int).toNat * 4 + 2, none⟩ = some (.int .i64 ((rd_T30 x3_1 (ji6)).f2)) := hcc12 2 _ rfl
                  have hx12_3 : w23.cell? ⟨go12, ((ji6) : Int).toNat * 4 + 3, none⟩ = some (.slice ua12_3 ((rd_T30 x3_1 (ji6)).f3).length uc12_3) := hcc12 3 _ rfl
                  have hf12_0 : w23.frozen? ⟨go12, ((ji6) : Int).toNat * 4, none⟩ = false := hfr12 0
                  have hf12_1 : w23.frozen? ⟨go12, ((ji6) : Int).toNat * 4 + 1, none⟩ = false := hfr12 1
                  have hf12_2 : w23.frozen? ⟨go12, ((ji6) : Int).toNat * 4 + 2, none⟩ = false := hfr12 2
                  have hf12_3 : w23.frozen? ⟨go12, ((ji6) : Int).toNat * 4 + 3, none⟩ = false := hfr12 3
                  clear hcl12 hcc12 hfr12 hM12
                  replace p12 := eq_true p12
                  replace q12 := eq_true q12
                  have HX25 := Aside0.mk (show Kd.N k30 30 w23 w.heap.size (fun k_ => (P0_ k_ ∨ w.heap.size ≤ k_) ∧ k_ ≠ gb359) (.slice (some ⟨go12, 0, none⟩) x3_1.length co13) x3_1 from (by (with_reducible repeat (first | apply Kd.N_alloc | apply Kd.N_drewN | apply Kd.N_drew)); exact Kd.N_mono HO_3.out (fun _ hk => ⟨hk.1, hk.2.2⟩)))
                  obtain ⟨ce25, hcl25, hM25, hcc25, hfr25⟩ := Kd.N_elem HX25.out z30 ((ji6) : Int) (of_decide_eq_true (by first | (with_reducible assumption) | assumption)) (by have h_ : ((ji6) : Int) < ((x3_1.length : Int) : Int) := of_decide_eq_true (by first | (with_reducible assumption) | assumption); first | exact h_ | (have e_ := (Kd.N_reads' HO_3.out).1; omega) | simpa using h_)
                  obtain ⟨ua25_3, uc25_3, rfl, ul25_3, ge25_3⟩ := k30_openF hM25
                  have HP25 := Kd.N_seg HX25.out ((ji6) : Int) (of_decide_eq_true (by first | (with_reducible assumption) | assumption)) (by have h_ : ((ji6) : Int) < ((x3_1.length : Int) : Int) := of_decide_eq_true (by first | (with_reducible assumption) | assumption); first | exact h_ | (have e_ := (Kd.N_reads' HO_3.out).1; omega) | simpa using h_) (seg := [.int .i64 t352, .int .i64 t353, .int .i64 t354, .slice Ao21 t355.length co21]) (j := 0) hcl25 hcc25 (show 4 ≤ 4 from by decide) (x' := (⟨t352, t353, t354, t355⟩ : S30)) (k30_mkF _ _ (⟨t352, t353, t354, t355⟩ : S30) (Kd.R_reads' (Kd.R_mono (ok' := (fun k_ => ((fun k_ => (P0_ k_ ∨ w.heap.size ≤ k_) ∧ k_ ≠ gb359)) k_ ∧ k_ ≠ go12)) (Kd.R_types (Kd.R_apart' (HO357.out) (Kd.N_typed HO_3.out) (by decide)) BK359.out (by decide)) (fun k_ hk => ⟨⟨(.inr (hk.1.1)), hk.2⟩, fun e_ => (hk.1.2) (by rw [e_]; rfl)⟩))).2.1 (Kd.R_F (Kd.R_mono (ok' := (fun k_ => ((fun k_ => (P0_ k_ ∨ w.heap.size ≤ k_) ∧ k_ ≠ gb359)) k_ ∧ k_ ≠ go12)) (Kd.R_types (Kd.R_apart' (HO357.out) (Kd.N_typed HO_3.out) (by decide)) BK359.out (by decide)) (fun k_ hk => ⟨⟨(.inr (hk.1.1)), hk.2⟩, fun e_ => (hk.1.2) (by rw [e_]; rfl)⟩)))) (fun _ hk => hk)
                  have hx25_0 := hcc25 0 _ rfl
                  (try simp only [show (k30).sz = 4 from rfl, Nat.mul_one, Nat.add_zero] at hx25_0)
                  have hf25_0 := hfr25 0
                  (try simp only [show (k30).sz = 4 from rfl, Nat.mul_one, Nat.add_zero] at hf25_0)
                  have hx25_1 := hcc25 1 _ rfl
                  (try simp only [show (k30).sz = 4 from rfl, Nat.mul_one, Nat.add_zero] at hx25_1)
                  have hf25_1 := hfr25 1
                  (try simp only [show (k30).sz = 4 from rfl, Nat.mul_one, Nat.add_zero] at hf25_1)
                  have hx25_2 := hcc25 2 _ rfl
                  (try simp only [show (k30).sz = 4 from rfl, Nat.mul_one, Nat.add_zero] at hx25_2)
                  have hf25_2 := hfr25 2
                  (try simp only [show (k30).sz = 4 from rfl, Nat.mul_one, Nat.add_zero] at hf25_2)
                  have hx25_3 := hcc25 3 _ rfl
                  (try simp only [show (k30).sz = 4 from rfl, Nat.mul_one, Nat.add_zero] at hx25_3)
                  have hf25_3 := hfr25 3
                  (try simp only [show (k30).sz = 4 from rfl, Nat.mul_one, Nat.add_zero] at hf25_3)
                  clear hcl25 hcc25 hfr25 hM25
                  try go_wp2_with (first | ((with_reducible refine gate_store (t := 30) (p := 37) rfl ?_); refine store_event (t := 30) (p := 37) (v := ?vo_w26) (w1 := ((((w23.setCell ⟨go12, ((ji6) : Int).toNat * 4, none⟩ (.int .i64 t352)).setCell ⟨go12, ((ji6) : Int).toNat * 4 + 1, none⟩ (.int .i64 t353)).setCell ⟨go12, ((ji6) : Int).toNat * 4 + 2, none⟩ (.int .i64 t354)).setCell ⟨go12, ((ji6) : Int).toNat * 4 + 3, none⟩ (.slice Ao21 t355.length co21))) ?hg ?ho ?hn ?hr ?_; (case ho => rfl); (case hg => rfl); (case hn => rfl); (case hr => first | (go_simp; done) | (go_simp; rfl)); intro w26 hw; have hg : w23.grownBy w26 (some go12) := (by rw [hw]; exact HP25.2); have hp_ : Kd.N k30 30 w26 w.heap.size (fun k_ => (P0_ k_ ∨ w.heap.size ≤ k_) ∧ k_ ≠ gb359) (.slice (some ⟨go12, 0, none⟩) x3_1.length co13) y360 := (by rw [hw, Ny360.out]; exact HP25.1); clear HP25; have n0_ := Aside0.mk (Kd.V_afterv (v := (.slice (some ⟨go12, 0, none⟩) x3_1.length co13)) (v1 := (.slice (some ⟨go12, 0, none⟩) x3_1.length co13)) (ok := (fun k_ => (P0_ k_ ∨ w.heap.size ≤ k_) ∧ some k_ ≠ (.slice Ao21 t355.length co21 : Value).ownBlock ∧ k_ ≠ gb359)) (by (with_reducible repeat (first | apply Kd.V_alloc | apply Kd.V_drewN | apply Kd.V_drew)); exact Kd.V_mono HO_0.out (fun _ hk => ⟨⟨hk.1, ⟨hk.2.2.1, hk.2.2.2⟩⟩, hk.2.1⟩)) hg (.inl rfl)); have n1_ := Aside0.mk (hp_); have n2_ := Aside0.mk (Kd.V_afterv (v := (.slice (some ⟨go12, 0, none⟩) x3_1.length co13)) (v1 := (.slice (some ⟨go12, 0, none⟩) x3_1.length co13)) (ok := (fun k_ => (P0_ k_ ∨ w.heap.size ≤ k_) ∧ some k_ ≠ (.slice Ao21 t355.length co21 : Value).ownBlock ∧ k_ ≠ gb359)) (by (with_reducible repeat (first | apply Kd.V_alloc | apply Kd.V_drewN | apply Kd.V_drew)); exact Kd.V_mono HL350_3.out (fun _ hk => ⟨⟨hk.1, ⟨hk.2.2.1, hk.2.2.2⟩⟩, hk.2.1⟩)) hg (.inl rfl)); have n3_ := Aside0.mk (Kd.V_afterv (v := (.slice (some ⟨go12, 0, none⟩) x3_1.length co13)) (v1 := (.slice (some ⟨go12, 0, none⟩) x3_1.length co13)) (ok := (fun k_ => (P0_ k_ ∨ w.heap.size ≤ k_) ∧ some k_ ≠ (.slice Ao21 t355.length co21 : Value).ownBlock ∧ k_ ≠ gb359)) (by (with_reducible repeat (first | apply Kd.V_alloc | apply Kd.V_drewN | apply Kd.V_drew)); exact Kd.V_mono HL351_3.out (fun _ hk => ⟨⟨hk.1, ⟨hk.2.2.1, hk.2.2.2⟩⟩, hk.2.1⟩)) hg (.inl rfl)); have n4_ := Aside0.mk (blk_grown (g := gb359) (o := .cells #[.int .i64 t352, .int .i64 t353, .int .i64 t354, .slice Ao21 t355.length co21] 30 (0, 0)) (by (with_reducible repeat (first | refine blk_drewN ?_ _ | refine blk_drew ?_ | refine blk_alloc ?_ _)); exact BK359.out) hg (Kd.N_away HO_3.out (fun _ hk => hk.2.2))); have n5_ := Aside0.mk ((by rw [hw]; exact below_set (below_set (below_set (below_set (HB.out) GB12.out) GB12.out) GB12.out) GB12.out : Below w.heap.size w w26)); clear HO_0; clear HO_3; clear HL350_3; clear HL351_3; clear BK359; clear HB; clear HO357; have HO_0 := n0_; have HO_3 := n1_; have HL350_3 := n2_; have HL351_3 := n3_; have BK359 := n4_; have HB := n5_; clear n0_ n1_ n2_ n3_ n4_ n5_; clear hg hw hp_))
                  (try simp only [← hl0_1])
                  go_roundg k1
                  case measure => have := HK1.out; omega
                  case rel => exact ⟨(x0_1), (y360), (wrap64 (x4_1 + 1)), (by first | rfl | (simp; done) | (simp [*]; done)), H', ⟨by have := HK1.out; omega⟩, ⟨by (try simp only [hl0_1]); (with_reducible repeat (first | apply Kd.V_alloc | apply Kd.V_drewN | apply Kd.V_drew)); exact Kd.V_mono HO_0.out (fun _ hk => ⟨hk.1.1, hk.2⟩)⟩, ⟨by (try simp only [hl0_1]); (with_reducible repeat (first | apply Kd.N_alloc | apply Kd.N_drewN | apply Kd.N_drew)); exact Kd.N_mono HO_3.out (fun _ hk => hk.1)⟩, ⟨by repeat (first | (with_reducible first | exact HB.out | apply below_alloc | apply pw_below_drewN | apply below_drew1 | refine below_set ?_ GE359.out) | exact HB.out)⟩⟩
                · replace c11 := Bool.eq_false_iff.mpr c11
                  subst c11
                  have H1 : (if x3_1.length < 2932031007402 then (juratref27_All.l0 k1 x0_1 (x3_1 ++ [(⟨(rd_T30 x0_1 x4_1).f0, (rd_T30 x0_1 x4_1).f1, (rd_T30 x0_1 x4_1).f2, (rd_T30 x0_1 x4_1).f3⟩ : S30)]) (wrap64 (x4_1 + 1))) else (none)) = some r := by rw [if_neg (show ¬ (false = true) by decide)] at H; exact H
                  clear H
                  have H := H1
                  clear H1
                  by_cases c27 : x3_1.length < 2932031007402
                  · rw [if_pos c27] at H
                    have LMc27 := Aside0.mk c27
                    clear c27
                    obtain ⟨y362, hy362⟩ : ∃ y_ : List (S30), y_ = (x3_1 ++ [(⟨(rd_T30 x0_1 x4_1).f0, (rd_T30 x0_1 x4_1).f1, (rd_T30 x0_1 x4_1).f2, (rd_T30 x0_1 x4_1).f3⟩ : S30)]) := ⟨_, rfl⟩
                    replace H : (juratref27_All.l0 k1 x0_1 y362 (wrap64 (x4_1 + 1))) = some r := by first | (rw [hy362]; with_reducible exact H) | (have H2_ := (Option.bind_some _ _).symm.trans H; rw [hy362]; with_reducible exact H2_) | (have H2_ := (Option.bind_some _ _).symm.trans H; with_reducible exact H2_) | with_reducible exact H | (rw [hy362]; exact H) | exact H
                    have Ny362 := Aside0.mk hy362
                    clear hy362
                    have H' := Aside0.mk H
                    clear H
                    obtain ⟨Ao28, co28, eo28⟩ := Kd.N_slice HO_3.out
                    subst eo28
                    try go_wp2
                    (try (rw [drewN_self wr]; generalize hq_ : World.drewN wr _ = wr; have n0_ : Aside0 (Kd.V k30 30 wr w.heap.size (fun k_ => (P0_ k_ ∨ w.heap.size ≤ k_) ∧ some k_ ≠ (.slice Ao28 x3_1.length co28 : Value).ownBlock) (.slice A0 x0_1.length c0) x0_1) := ⟨by rw [← hq_]; exact (by (with_reducible repeat (first | apply Kd.V_alloc | apply Kd.V_drewN | apply Kd.V_drew)); exact HO_0.out)⟩; have n1_ : Aside0 (Kd.N k30 30 wr w.heap.size (fun k_ => (P0_ k_ ∨ w.heap.size ≤ k_)) (.slice Ao28 x3_1.length co28) x3_1) := ⟨by rw [← hq_]; exact (by (with_reducible repeat (first | apply Kd.N_alloc | apply Kd.N_drewN | apply Kd.N_drew)); exact HO_3.out)⟩; have n2_ : Aside0 (Below w.heap.size w wr) := ⟨by rw [← hq_]; exact (by repeat (first | (with_reducible first | exact HB.out | apply below_alloc | apply pw_below_drewN | apply below_drew1) | exact HB.out))⟩; clear HO_0 HO_3 HB hq_; have HO_0 := n0_; have HO_3 := n1_; have HB := n2_; clear n0_ n1_ n2_))
                    have n0_ := Aside0.mk (Kd.V_drew HO_0.out)
                    have n1_ := Aside0.mk (Kd.N_drew HO_3.out)
                    have n2_ := Aside0.mk (below_drew1 HB.out)
                    clear HO_0
                    clear HO_3
                    clear HB
                    have HO_0 := n0_
                    have HO_3 := n1_
                    have HB := n2_
                    clear n0_ n1_ n2_
                    have p350 : 0 ≤ ((ji6) : Int) := of_decide_eq_true (by first | (with_reducible assumption) | assumption)
                    have q350 : (ji6) < (x3_1.length : Int) := of_decide_eq_true (by first | (with_reducible assumption) | assumption)
                    obtain ⟨ad350, A350_3, c350_3, e350, hx350_0, hx350_1, hx350_2, hx350_3, hl350_3, hi350_3⟩ := at_T30 (Kd.N_reads' HO_3.out).2.2 (ji6) p350 q350
                    cases e350
                    obtain ⟨ce350, hce350, hMe350, hcc350⟩ := Kd.N_get HO_3.out z30 (ji6) p350 (by first | exact q350 | exact of_decide_eq_true (by first | (with_reducible assumption) | assumption) | (have e_ := (Kd.N_reads' HO_3.out).1; omega))
                    obtain ⟨ua350_3, uc350_3, rfl, ul350_3, ge350_3⟩ := k30_openF hMe350
                    have hv350_3 := hcc350 3 _ rfl
                    rw [add_field _ _ 3 (by omega)] at hv350_3
                    replace hv350_3 := Option.some.inj (hv350_3.symm.trans hx350_3)
                    injection hv350_3 with hva_ hvn_ hvc_
                    rw [hva_] at ge350_3
                    rw [hvc_] at ul350_3
                    have HL350_3 := Aside0.mk (show Kd.V (Kd.int .i64) 3 _ w.heap.size _ _ ((rd_T30 x3_1 (ji6)).f3) from Kd.V_mk ul350_3 ge350_3)
                    clear hva_ hvn_ hvc_ ge350_3 ul350_3
                    clear hcc350 hce350
                    have HR350_3 := Aside0.mk hi350_3
                    have HC350_3 := Aside0.mk hl350_3
                    clear hi350_3 hl350_3
                    replace p350 := eq_true p350
                    replace q350 := eq_true q350
                    have p351 : 0 ≤ (x4_1 : Int) := of_decide_eq_true (by first | (with_reducible assumption) | assumption)
                    have q351 : x4_1 < (x0_1.length : Int) := of_decide_eq_true (by first | (with_reducible assumption) | assumption)
                    obtain ⟨ad351, A351_3, c351_3, e351, hx351_0, hx351_1, hx351_2, hx351_3, hl351_3, hi351_3⟩ := at_T30 (Kd.V_reads' HO_0.out).2.2 x4_1 p351 q351
                    cases e351
                    obtain ⟨ce351, hce351, hMe351, hcc351⟩ := Kd.V_get HO_0.out z30 x4_1 p351 (by first | exact q351 | exact of_decide_eq_true (by first | (with_reducible assumption) | assumption) | (have e_ := (Kd.V_reads' HO_0.out).1; omega))
                    obtain ⟨ua351_3, uc351_3, rfl, ul351_3, ge351_3⟩ := k30_openF hMe351
                    have hv351_3 := hcc351 3 _ rfl
                    rw [add_field _ _ 3 (by omega)] at hv351_3
                    replace hv351_3 := Option.some.inj (hv351_3.symm.trans hx351_3)
                    injection hv351_3 with hva_ hvn_ hvc_
                    rw [hva_] at ge351_3
                    rw [hvc_] at ul351_3
                    have HL351_3 := Aside0.mk (show Kd.V (Kd.int .i64) 3 _ w.heap.size _ _ ((rd_T30 x0_1 x4_1).f3) from Kd.V_mk ul351_3 ge351_3)
                    clear hva_ hvn_ hvc_ ge351_3 ul351_3
                    clear hcc351 hce351
                    have HR351_3 := Aside0.mk hi351_3
                    have HC351_3 := Aside0.mk hl351_3
                    clear hi351_3 hl351_3
                    replace p351 := eq_true p351
                    replace q351 := eq_true q351
                    refine start_ (n := 17) (S := fun w' => w'.cell? (ad350.add (((ji6)).toNat * 4)) = some (.int .i64 ((rd_T30 x3_1 (ji6)).f0)) ∧ w'.cell? ⟨(ad350.add (((ji6)).toNat * 4)).block, (ad350.add (((ji6)).toNat * 4)).off + 1, none⟩ = some (.int .i64 ((rd_T30 x3_1 (ji6)).f1)) ∧ w'.cell? ⟨(ad350.add (((ji6)).toNat * 4)).block, (ad350.add (((ji6)).toNat * 4)).off + 2, none⟩ = some (.int .i64 ((rd_T30 x3_1 (ji6)).f2)) ∧ w'.cell? ⟨(ad350.add (((ji6)).toNat * 4)).block, (ad350.add (((ji6)).toNat * 4)).off + 3, none⟩ = some (.slice A350_3 ((rd_T30 x3_1 (ji6)).f3).length c350_3) ∧ w'.cell? (ad351.add ((x4_1).toNat * 4)) = some (.int .i64 ((rd_T30 x0_1 x4_1).f0)) ∧ w'.cell? ⟨(ad351.add ((x4_1).toNat * 4)).block, (ad351.add ((x4_1).toNat * 4)).off + 1, none⟩ = some (.int .i64 ((rd_T30 x0_1 x4_1).f1)) ∧ w'.cell? ⟨(ad351.add ((x4_1).toNat * 4)).block, (ad351.add ((x4_1).toNat * 4)).off + 2, none⟩ = some (.int .i64 ((rd_T30 x0_1 x4_1).f2)) ∧ w'.cell? ⟨(ad351.add ((x4_1).toNat * 4)).block, (ad351.add ((x4_1).toNat * 4)).off + 3, none⟩ = some (.slice A351_3 ((rd_T30 x0_1 x4_1).f3).length c351_3)) (ds := []) #[false, false, false, false, false, false, false, false, false, false, false, false, false, false, false, false, false] (by kernel_rfl) rfl rfl ⟨hx350_0, hx350_1, hx350_2, hx350_3, hx351_0, hx351_1, hx351_2, hx351_3⟩ (fun hHeld => ?_); refine with_tabW juratref27_All.tab6 juratref27_All.bits6 (fun HT_ HW_ => ?_)
                    generalize wr.drew = w29 at HO_0 HO_3 HB HL350_3 HL351_3 HR350_3 HR351_3 hx350_0 hx350_1 hx350_2 hx350_3 hx351_0 hx351_1 hx351_2 hx351_3 hHeld ⊢
                    refine pure_ (i := 0) (N := some 18) (v := ?_) (a' := ?_) #[true, false, false, false, false, false, false, false, false, false, false, false, false, false, false, false, false] rfl rfl (any_of HT_.out (by kernel_rfl)) (fun _ _ _ h => h) (Or.inl ⟨by rfl, ?_⟩) ?_ ?_
                    rotate_left
                    · intro w'
                      go_simp
                      with_reducible rfl
                    rotate_left
                    · simp only [Act.put, List.setIfInBounds_toArray, List.set_cons_zero, List.set_cons_succ, i64_w, i32_w]
                      rfl
                    refine pure_ (i := 1) (N := some 19) (v := ?_) (a' := ?_) #[true, true, false, false, false, false, false, false, false, false, false, false, false, false, false, false, false] rfl rfl (any_of HT_.out (by kernel_rfl)) (fun _ _ _ h => h) (Or.inl ⟨by rfl, ?_⟩) ?_ ?_
                    rotate_left
                    · intro w'
                      go_simp
                      with_reducible rfl
                    rotate_left
                    · simp only [Act.put, List.setIfInBounds_toArray, List.set_cons_zero, List.set_cons_succ, i64_w, i32_w]
                      rfl
                    refine pure_ (i := 2) (N := some 20) (v := ?_) (a' := ?_) #[true, true, true, false, false, false, false, false, false, false, false, false, false, false, false, false, false] rfl rfl (any_of HT_.out (by kernel_rfl)) (fun _ _ _ h => h) (Or.inl ⟨by rfl, ?_⟩) ?_ ?_
                    rotate_left
                    · intro w'
                      go_simp
                      with_reducible rfl
                    rotate_left
                    · simp only [Act.put, List.setIfInBounds_toArray, List.set_cons_zero, List.set_cons_succ, i64_w, i32_w]
                      rfl
                    refine pure_ (i := 3) (N := some 21) (v := ?_) (a' := ?_) #[true, true, true, true, false, false, false, false, false, false, false, false, false, false, false, false, false] rfl rfl (any_of HT_.out (by kernel_rfl)) (fun _ _ _ h => h) (Or.inl ⟨by rfl, ?_⟩) ?_ ?_
                    rotate_left
                    · intro w'
                      go_simp
                      with_reducible rfl
                    rotate_left
                    · simp only [Act.put, List.setIfInBounds_toArray, List.set_cons_zero, List.set_cons_succ, i64_w, i32_w]
                      rfl
                    refine pure_ (i := 4) (N := some 22) (v := ?_) (a' := ?_) #[true, true, true, true, true, false, false, false, false, false, false, false, false, false, false, false, false] rfl rfl (any_of HT_.out (by kernel_rfl)) (fun _ _ _ h => h) (Or.inl ⟨by rfl, ?_⟩) ?_ ?_
                    rotate_left
                    · intro w'
                      go_simp
                      with_reducible rfl
                    rotate_left
                    · simp only [Act.put, List.setIfInBounds_toArray, List.set_cons_zero, List.set_cons_succ, i64_w, i32_w]
                      rfl
                    refine pure_ (i := 6) (N := some 24) (v := ?_) (a' := ?_) #[true, true, true, true, true, false, true, false, false, false, false, false, false, false, false, false, false] rfl rfl (any_of HT_.out (by kernel_rfl)) (fun _ _ _ h => h) (Or.inl ⟨by rfl, ?_⟩) ?_ ?_
                    rotate_left
                    · intro w'
                      go_simp
                      with_reducible rfl
                    rotate_left
                    · simp only [Act.put, List.setIfInBounds_toArray, List.set_cons_zero, List.set_cons_succ, i64_w, i32_w]
                      rfl
                    refine pure_ (i := 7) (N := some 25) (v := ?_) (a' := ?_) #[true, true, true, true, true, false, true, true, false, false, false, false, false, false, false, false, false] rfl rfl (any_of HT_.out (by kernel_rfl)) (fun _ _ _ h => h) (Or.inl ⟨by rfl, ?_⟩) ?_ ?_
                    rotate_left
                    · intro w'
                      go_simp
                      with_reducible rfl
                    rotate_left
                    · simp only [Act.put, List.setIfInBounds_toArray, List.set_cons_zero, List.set_cons_succ, i64_w, i32_w]
                      rfl
                    refine pure_ (i := 8) (N := some 26) (v := ?_) (a' := ?_) #[true, true, true, true, true, false, true, true, true, false, false, false, false, false, false, false, false] rfl rfl (any_of HT_.out (by kernel_rfl)) (fun _ _ _ h => h) (Or.inl ⟨by rfl, ?_⟩) ?_ ?_
                    rotate_left
                    · intro w'
                      go_simp
                      with_reducible rfl
                    rotate_left
                    · simp only [Act.put, List.setIfInBounds_toArray, List.set_cons_zero, List.set_cons_succ, i64_w, i32_w]
                      rfl
                    refine take_ (i := 5) (N := some 23) (v := ?_) (a' := ?_) #[true, true, true, true, true, true, true, true, true, false, false, false, false, false, false, false, false] rfl rfl (take_ofW HT_.out HW_.out (by kernel_rfl)) (fun _ _ _ h => h) (Or.inl ⟨by rfl, ?_⟩) hHeld ?_ ?_
                    rotate_left
                    · rintro w' ⟨s0, s1, s2, s3, s4, s5, s6, s7⟩
                      go_simp
                      with_reducible rfl
                    rotate_left
                    · simp only [Act.put, List.setIfInBounds_toArray, List.set_cons_zero, List.set_cons_succ, i64_w, i32_w]
                      rfl
                    refine take_ (i := 9) (N := some 27) (v := ?_) (a' := ?_) #[true, true, true, true, true, true, true, true, true, true, false, false, false, false, false, false, false] rfl rfl (take_ofW HT_.out HW_.out (by kernel_rfl)) (fun _ _ _ h => h) (Or.inl ⟨by rfl, ?_⟩) hHeld ?_ ?_
                    rotate_left
                    · rintro w' ⟨s0, s1, s2, s3, s4, s5, s6, s7⟩
                      go_simp
                      with_reducible rfl
                    rotate_left
                    · simp only [Act.put, List.setIfInBounds_toArray, List.set_cons_zero, List.set_cons_succ, i64_w, i32_w]
                      rfl
                    refine join_ (σ := Value × Nat) 2 #[true, true, true, true, true, true, true, true, true, true, true, true, true, true, true, false, false] (fun s_ => [(28, .tuple #[.agg #[.int .i64 t352, .int .i64 t353, .int .i64 t354, s_.1], .bool false]), (5, .pointer (some ⟨s_.2, 0, none⟩)), (17, .tuple #[.agg #[.int .i64 t352, .int .i64 t353, .int .i64 t354, s_.1], .bool false]), (29, .agg #[.int .i64 t352, .int .i64 t353, .int .i64 t354, s_.1]), (30, .bool false)]) (fun s_ w' => (w'.cell? (ad350.add (((ji6)).toNat * 4)) = some (.int .i64 ((rd_T30 x3_1 (ji6)).f0)) ∧ w'.cell? ⟨(ad350.add (((ji6)).toNat * 4)).block, (ad350.add (((ji6)).toNat * 4)).off + 1, none⟩ = some (.int .i64 ((rd_T30 x3_1 (ji6)).f1)) ∧ w'.cell? ⟨(ad350.add (((ji6)).toNat * 4)).block, (ad350.add (((ji6)).toNat * 4)).off + 2, none⟩ = some (.int .i64 ((rd_T30 x3_1 (ji6)).f2)) ∧ w'.cell? ⟨(ad350.add (((ji6)).toNat * 4)).block, (ad350.add (((ji6)).toNat * 4)).off + 3, none⟩ = some (.slice A350_3 ((rd_T30 x3_1 (ji6)).f3).length c350_3) ∧ w'.cell? (ad351.add ((x4_1).toNat * 4)) = some (.int .i64 ((rd_T30 x0_1 x4_1).f0)) ∧ w'.cell? ⟨(ad351.add ((x4_1).toNat * 4)).block, (ad351.add ((x4_1).toNat * 4)).off + 1, none⟩ = some (.int .i64 ((rd_T30 x0_1 x4_1).f1)) ∧ w'.cell? ⟨(ad351.add ((x4_1).toNat * 4)).block, (ad351.add ((x4_1).toNat * 4)).off + 2, none⟩ = some (.int .i64 ((rd_T30 x0_1 x4_1).f2)) ∧ w'.cell? ⟨(ad351.add ((x4_1).toNat * 4)).block, (ad351.add ((x4_1).toNat * 4)).off + 3, none⟩ = some (.slice A351_3 ((rd_T30 x0_1 x4_1).f3).length c351_3)) ∧ (Kd.V (Kd.int .i64) 3 w' w.heap.size (fun k_ => (P0_ k_ ∨ w.heap.size ≤ k_) ∧ some k_ ≠ (s_.1 : Value).ownBlock ∧ some k_ ≠ (.slice (some ad350) x3_1.length co28 : Value).ownBlock ∧ k_ ≠ s_.2) (.slice A350_3 ((rd_T30 x3_1 (ji6)).f3).length c350_3) ((rd_T30 x3_1 (ji6)).f3)) ∧ (Kd.V (Kd.int .i64) 3 w' w.heap.size (fun k_ => (P0_ k_ ∨ w.heap.size ≤ k_) ∧ some k_ ≠ (s_.1 : Value).ownBlock ∧ some k_ ≠ (.slice (some ad350) x3_1.length co28 : Value).ownBlock ∧ k_ ≠ s_.2) (.slice A351_3 ((rd_T30 x0_1 x4_1).f3).length c351_3) ((rd_T30 x0_1 x4_1).f3)) ∧ (Kd.R (Kd.int .i64) 3 w' w.heap.size (fun k_ => (w.heap.size ≤ k_)) s_.1 t355) ∧ (Kd.V k30 30 w' w.heap.size (fun k_ => (P0_ k_ ∨ w.heap.size ≤ k_) ∧ some k_ ≠ (s_.1 : Value).ownBlock ∧ some k_ ≠ (.slice (some ad350) x3_1.length co28 : Value).ownBlock ∧ k_ ≠ s_.2) (.slice (some ad351) x0_1.length c0) x0_1) ∧ (Kd.N k30 30 w' w.heap.size (fun k_ => (P0_ k_ ∨ w.heap.size ≤ k_) ∧ some k_ ≠ (s_.1 : Value).ownBlock ∧ k_ ≠ s_.2) (.slice (some ad350) x3_1.length co28) x3_1) ∧ (w'.heap[s_.2]? = some (.cells #[.int .i64 0, .int .i64 0, .int .i64 0, .slice none 0 0] 30 (0, 0))) ∧ (w.heap.size ≤ s_.2) ∧ (w.heap.size ≤ s_.2) ∧ (Below w.heap.size w w')) ?_ ?_
                    rotate_left
                    · intro hCont
                      refine two_ (i := 10) (j := 14) (Ni := some 28) (Nj := some 5) #[true, true, true, true, true, true, true, true, true, true, true, false, false, false, false, false, false] #[true, true, true, true, true, true, true, true, true, true, false, false, false, false, true, false, false] rfl rfl rfl rfl (two_of HT_.out (by kernel_rfl)) (by decide) (by decide) (fun K hK => ?_) (fun K hK => ?_)
                      · skip
                        refine goes_ Try.func38 (by kernel_rfl) rfl #[.agg #[.int .i64 ((rd_T30 x3_1 (ji6)).f0), .int .i64 ((rd_T30 x3_1 (ji6)).f1), .int .i64 ((rd_T30 x3_1 (ji6)).f2), .slice A350_3 ((rd_T30 x3_1 (ji6)).f3).length c350_3], .agg #[.int .i64 ((rd_T30 x0_1 x4_1).f0), .int .i64 ((rd_T30 x0_1 x4_1).f1), .int .i64 ((rd_T30 x0_1 x4_1).f2), .slice A351_3 ((rd_T30 x0_1 x4_1).f3).length c351_3]] (by rfl) rfl rfl (by (try simp only [List.map_toArray, List.map_cons, List.map_nil]); first | done | (simp only [hji6]; rfl) | rfl | (simp only [List.length_drop, List.length_take]; rfl)) ?_
                        with_reducible refine (juratref27_Two.calls k1 ((rd_T30 x3_1 (ji6)).f0) ((rd_T30 x3_1 (ji6)).f1) ((rd_T30 x3_1 (ji6)).f2) _ _ ((rd_T30 x3_1 (ji6)).f3) ((rd_T30 x0_1 x4_1).f0) ((rd_T30 x0_1 x4_1).f1) ((rd_T30 x0_1 x4_1).f2) _ _ ((rd_T30 x0_1 x4_1).f3) t352 t353 t354 t355 false _ ?side1 ?side2 ?side3 ?side4 A10.out).mono ?_
                        (case side1 => repeat (first | exact (by repeat (first | (with_reducible exact HR350_3.out) | (with_reducible refine Kd.C_alloc ?_ _) | (with_reducible refine Kd.C_drewN ?_ _) | (with_reducible refine Kd.C_drew ?_) | exact HR350_3.out)) | (with_reducible refine Kd.C_alloc ?_ _) | (with_reducible refine Kd.C_drewN ?_ _) | (with_reducible refine Kd.C_drew ?_)))
                        (case side2 => exact HC350_3.out)
                        (case side3 => repeat (first | exact (by repeat (first | (with_reducible exact HR351_3.out) | (with_reducible refine Kd.C_alloc ?_ _) | (with_reducible refine Kd.C_drewN ?_ _) | (with_reducible refine Kd.C_drew ?_) | exact HR351_3.out)) | (with_reducible refine Kd.C_alloc ?_ _) | (with_reducible refine Kd.C_drewN ?_ _) | (with_reducible refine Kd.C_drew ?_)))
                        (case side4 => exact HC351_3.out)
                        rintro e w30 ⟨v356, rfl, ho0, hb⟩
                        have HS0_ := (hb.cell (World.block_lt_of_cell? _ _ (hHeld.1))).trans (hHeld.1)
                        have HS1_ := (hb.cell (World.block_lt_of_cell? _ _ (hHeld.2.1))).trans (hHeld.2.1)
                        have HS2_ := (hb.cell (World.block_lt_of_cell? _ _ (hHeld.2.2.1))).trans (hHeld.2.2.1)
                        have HS3_ := (hb.cell (World.block_lt_of_cell? _ _ (hHeld.2.2.2.1))).trans (hHeld.2.2.2.1)
                        have HS4_ := (hb.cell (World.block_lt_of_cell? _ _ (hHeld.2.2.2.2.1))).trans (hHeld.2.2.2.2.1)
                        have HS5_ := (hb.cell (World.block_lt_of_cell? _ _ (hHeld.2.2.2.2.2.1))).trans (hHeld.2.2.2.2.2.1)
                        have HS6_ := (hb.cell (World.block_lt_of_cell? _ _ (hHeld.2.2.2.2.2.2.1))).trans (hHeld.2.2.2.2.2.2.1)
                        have HS7_ := (hb.cell (World.block_lt_of_cell? _ _ (hHeld.2.2.2.2.2.2.2))).trans (hHeld.2.2.2.2.2.2.2)
                        refine ⟨_, rfl, ?_⟩
                        have n0_ := Aside0.mk (Kd.V_elder' (by (with_reducible repeat (first | apply Kd.V_alloc | apply Kd.V_drewN | apply Kd.V_drew)); exact HO_0.out) (Kd.R_base ho0) hb)
                        have n1_ := Aside0.mk (Kd.N_elder' (by (with_reducible repeat (first | apply Kd.N_alloc | apply Kd.N_drewN | apply Kd.N_drew)); exact HO_3.out) (Kd.R_base ho0) hb)
                        have n2_ := Aside0.mk (Kd.V_elder' (by (with_reducible repeat (first | apply Kd.V_alloc | apply Kd.V_drewN | apply Kd.V_drew)); exact HL350_3.out) (Kd.R_base ho0) hb)
                        have n3_ := Aside0.mk (Kd.V_elder' (by (with_reducible repeat (first | apply Kd.V_alloc | apply Kd.V_drewN | apply Kd.V_drew)); exact HL351_3.out) (Kd.R_base ho0) hb)
                        have n4_ := Aside0.mk (Kd.R_lower (Kd.R_newM (M := fun k_ => (w.heap.size ≤ k_)) ho0 (below_size (by repeat (first | (with_reducible first | exact HB.out | apply below_alloc | apply pw_below_drewN | apply below_drew1) | exact HB.out))) (fun k_ h_ => h_)) (below_size (by repeat (first | (with_reducible first | exact HB.out | apply below_alloc | apply pw_below_drewN | apply below_drew1) | exact HB.out))))
                        have n5_ := Aside0.mk (Kd.C_below (by repeat (first | (with_reducible exact HR350_3.out) | (with_reducible refine Kd.C_alloc ?_ _) | (with_reducible refine Kd.C_drewN ?_ _) | (with_reducible refine Kd.C_drew ?_) | exact HR350_3.out)) hb)
                        have n6_ := Aside0.mk (Kd.C_below (by repeat (first | (with_reducible exact HR351_3.out) | (with_reducible refine Kd.C_alloc ?_ _) | (with_reducible refine Kd.C_drewN ?_ _) | (with_reducible refine Kd.C_drew ?_) | exact HR351_3.out)) hb)
                        have n7_ := Aside0.mk (below_step (by repeat (first | (with_reducible first | exact HB.out | apply below_alloc | apply pw_below_drewN | apply below_drew1) | exact HB.out)) hb)
                        clear HO_0
                        clear HO_3
                        clear HL350_3
                        clear HL351_3
                        clear HR350_3
                        clear HR351_3
                        clear HB
                        have HO_0 := n0_
                        have HO_3 := n1_
                        have HL350_3 := n2_
                        have HL351_3 := n3_
                        have HO357 := n4_
                        have HR350_3 := n5_
                        have HR351_3 := n6_
                        have HB := n7_
                        clear n0_ n1_ n2_ n3_ n4_ n5_ n6_ n7_
                        (try clear hb)
                        (try clear hb2)
                        (try clear hk)
                        (try clear hi)
                        (try clear ho0)
                        refine hK.out _ _ ⟨HS0_, HS1_, HS2_, HS3_, HS4_, HS5_, HS6_, HS7_⟩ (fun hHeld => ?_)
                        clear hK K
                        refine norm_ (a' := ?_) ?_ ?_
                        rotate_left
                        · show Act.put _ (some 28) _ = _
                          simp only [Act.put, List.setIfInBounds_toArray, List.set_cons_zero, List.set_cons_succ, i64_w, i32_w]
                          rfl
                        refine pure_ (i := 11) (N := some 17) (v := ?_) (a' := ?_) #[true, true, true, true, true, true, true, true, true, true, true, true, false, false, false, false, false] rfl rfl (any_of HT_.out (by kernel_rfl)) (fun _ _ _ h => h) (Or.inl ⟨by rfl, ?_⟩) ?_ ?_
                        rotate_left
                        · intro w'
                          go_simp
                          with_reducible rfl
                        rotate_left
                        · simp only [Act.put, List.setIfInBounds_toArray, List.set_cons_zero, List.set_cons_succ, i64_w, i32_w]
                          rfl
                        refine pure_ (i := 12) (N := some 29) (v := ?_) (a' := ?_) #[true, true, true, true, true, true, true, true, true, true, true, true, true, false, false, false, false] rfl rfl (any_of HT_.out (by kernel_rfl)) (fun _ _ _ h => h) (Or.inl ⟨by rfl, ?_⟩) ?_ ?_
                        rotate_left
                        · intro w'
                          go_simp
                          with_reducible rfl
                        rotate_left
                        · simp only [Act.put, List.setIfInBounds_toArray, List.set_cons_zero, List.set_cons_succ, i64_w, i32_w]
                          rfl
                        refine pure_ (i := 13) (N := some 30) (v := ?_) (a' := ?_) #[true, true, true, true, true, true, true, true, true, true, true, true, true, true, false, false, false] rfl rfl (any_of HT_.out (by kernel_rfl)) (fun _ _ _ h => h) (Or.inl ⟨by rfl, ?_⟩) ?_ ?_
                        rotate_left
                        · intro w'
                          go_simp
                          with_reducible rfl
                        rotate_left
                        · simp only [Act.put, List.setIfInBounds_toArray, List.set_cons_zero, List.set_cons_succ, i64_w, i32_w]
                          rfl
                        refine one_ (i := 14) (N := some 5) #[true, true, true, true, true, true, true, true, true, true, true, true, true, true, true, false, false] rfl rfl (one_of HT_.out (by kernel_rfl)) (by decide) (fun K hK => ?_)
                        refine box_step ?hg (N := 5) ?hd (cs := #[.int .i64 0, .int .i64 0, .int .i64 0, .slice none 0 0]) (t := 30) ?hr ?_; (case hd => rfl); (case hg => rfl); (case hr => first | (go_simp; done) | (go_simp; rfl))
                        intro gb359 hg w31 hbox hb
                        have HS0_ := (hb.cell (World.block_lt_of_cell? _ _ (hHeld.1))).trans (hHeld.1)
                        have HS1_ := (hb.cell (World.block_lt_of_cell? _ _ (hHeld.2.1))).trans (hHeld.2.1)
                        have HS2_ := (hb.cell (World.block_lt_of_cell? _ _ (hHeld.2.2.1))).trans (hHeld.2.2.1)
                        have HS3_ := (hb.cell (World.block_lt_of_cell? _ _ (hHeld.2.2.2.1))).trans (hHeld.2.2.2.1)
                        have HS4_ := (hb.cell (World.block_lt_of_cell? _ _ (hHeld.2.2.2.2.1))).trans (hHeld.2.2.2.2.1)
                        have HS5_ := (hb.cell (World.block_lt_of_cell? _ _ (hHeld.2.2.2.2.2.1))).trans (hHeld.2.2.2.2.2.1)
                        have HS6_ := (hb.cell (World.block_lt_of_cell? _ _ (hHeld.2.2.2.2.2.2.1))).trans (hHeld.2.2.2.2.2.2.1)
                        have HS7_ := (hb.cell (World.block_lt_of_cell? _ _ (hHeld.2.2.2.2.2.2.2))).trans (hHeld.2.2.2.2.2.2.2)
                        have n0_ := Aside0.mk (Kd.V_below (Kd.V_elderB (by (with_reducible repeat (first | apply Kd.V_alloc | apply Kd.V_drewN | apply Kd.V_drew)); exact HO_0.out) gb359 (Nat.le_of_eq hg.symm)) hb)
                        have n1_ := Aside0.mk (Kd.N_below (Kd.N_elderB (by (with_reducible repeat (first | apply Kd.N_alloc | apply Kd.N_drewN | apply Kd.N_drew)); exact HO_3.out) gb359 (Nat.le_of_eq hg.symm)) hb)
                        have n2_ := Aside0.mk (Kd.V_below (Kd.V_elderB (by (with_reducible repeat (first | apply Kd.V_alloc | apply Kd.V_drewN | apply Kd.V_drew)); exact HL350_3.out) gb359 (Nat.le_of_eq hg.symm)) hb)
                        have n3_ := Aside0.mk (Kd.V_below (Kd.V_elderB (by (with_reducible repeat (first | apply Kd.V_alloc | apply Kd.V_drewN | apply Kd.V_drew)); exact HL351_3.out) gb359 (Nat.le_of_eq hg.symm)) hb)
                        have n4_ := Aside0.mk (Kd.R_below (by (with_reducible repeat (first | apply Kd.R_alloc | apply Kd.R_drewN | apply Kd.R_drew)); exact HO357.out) hb)
                        have n5_ := Aside0.mk (Kd.C_below (by repeat (first | (with_reducible exact HR350_3.out) | (with_reducible refine Kd.C_alloc ?_ _) | (with_reducible refine Kd.C_drewN ?_ _) | (with_reducible refine Kd.C_drew ?_) | exact HR350_3.out)) hb)
                        have n6_ := Aside0.mk (Kd.C_below (by repeat (first | (with_reducible exact HR351_3.out) | (with_reducible refine Kd.C_alloc ?_ _) | (with_reducible refine Kd.C_drewN ?_ _) | (with_reducible refine Kd.C_drew ?_) | exact HR351_3.out)) hb)
                        have n7_ := Aside0.mk (below_step (by repeat (first | (with_reducible first | exact HB.out | apply below_alloc | apply pw_below_drewN | apply below_drew1) | exact HB.out)) hb)
                        have n8_ := Aside0.mk (hbox)
                        have n9_ := Aside0.mk ((by rw [hg]; exact (below_size (by repeat (first | (with_reducible first | exact HB.out | apply below_alloc | apply pw_below_drewN | apply below_drew1) | exact HB.out))) : w.heap.size ≤ gb359))
                        have n10_ := Aside0.mk ((by rw [hg]; exact (below_size (by repeat (first | (with_reducible first | exact HB.out | apply below_alloc | apply pw_below_drewN | apply below_drew1) | exact HB.out))) : w.heap.size ≤ gb359))
                        clear HO_0
                        clear HO_3
                        clear HL350_3
                        clear HL351_3
                        clear HO357
                        clear HR350_3
                        clear HR351_3
                        clear HB
                        have HO_0 := n0_
                        have HO_3 := n1_
                        have HL350_3 := n2_
                        have HL351_3 := n3_
                        have HO357 := n4_
                        have HR350_3 := n5_
                        have HR351_3 := n6_
                        have HB := n7_
                        have BK359 := n8_
                        have GW359 := n9_
                        have GE359 := n10_
                        clear n0_ n1_ n2_ n3_ n4_ n5_ n6_ n7_ n8_ n9_ n10_
                        clear hb hbox hg
                        refine hK.out _ _ ⟨HS0_, HS1_, HS2_, HS3_, HS4_, HS5_, HS6_, HS7_⟩ (fun hHeld => ?_)
                        clear hK K
                        refine norm_ (a' := ?_) ?_ ?_
                        rotate_left
                        · show Act.put _ (some 5) _ = _
                          simp only [Act.put, List.setIfInBounds_toArray, List.set_cons_zero, List.set_cons_succ, i64_w, i32_w]
                          rfl
                        exact norm_ (by simp only [putAll, Act.put, List.setIfInBounds_toArray, List.set_cons_zero, List.set_cons_succ]) (hCont (v356, gb359) _ ⟨hHeld, (by (with_reducible repeat (first | apply Kd.V_alloc | apply Kd.V_drewN | apply Kd.V_drew)); exact Kd.V_mono HL350_3.out (fun _ hk => ⟨hk.1.1.1, ⟨hk.1.2, ⟨hk.1.1.2, hk.2⟩⟩⟩)), (by (with_reducible repeat (first | apply Kd.V_alloc | apply Kd.V_drewN | apply Kd.V_drew)); exact Kd.V_mono HL351_3.out (fun _ hk => ⟨hk.1.1.1, ⟨hk.1.2, ⟨hk.1.1.2, hk.2⟩⟩⟩)), (by (with_reducible repeat (first | apply Kd.R_alloc | apply Kd.R_drewN | apply Kd.R_drew)); exact Kd.R_mono HO357.out (fun _ hk => hk.1)), (by (with_reducible repeat (first | apply Kd.V_alloc | apply Kd.V_drewN | apply Kd.V_drew)); exact Kd.V_mono HO_0.out (fun _ hk => ⟨hk.1.1.1, ⟨hk.1.2, ⟨hk.1.1.2, hk.2⟩⟩⟩)), (by (with_reducible repeat (first | apply Kd.N_alloc | apply Kd.N_drewN | apply Kd.N_drew)); exact Kd.N_mono HO_3.out (fun _ hk => ⟨hk.1.1, ⟨hk.1.2, hk.2⟩⟩)), (by (with_reducible repeat (first | refine blk_drewN ?_ _ | refine blk_drew ?_ | refine blk_alloc ?_ _)); exact BK359.out), GW359.out, GE359.out, (by repeat (first | (with_reducible first | exact HB.out | apply below_alloc | apply pw_below_drewN | apply below_drew1 | refine below_set ?_ GE359.out) | exact HB.out))⟩)
                      · skip
                        refine box_step ?hg (N := 5) ?hd (cs := #[.int .i64 0, .int .i64 0, .int .i64 0, .slice none 0 0]) (t := 30) ?hr ?_; (case hd => rfl); (case hg => rfl); (case hr => first | (go_simp; done) | (go_simp; rfl))
                        intro gb359 hg w30 hbox hb
                        have HS0_ := (hb.cell (World.block_lt_of_cell? _ _ (hHeld.1))).trans (hHeld.1)
                        have HS1_ := (hb.cell (World.block_lt_of_cell? _ _ (hHeld.2.1))).trans (hHeld.2.1)
                        have HS2_ := (hb.cell (World.block_lt_of_cell? _ _ (hHeld.2.2.1))).trans (hHeld.2.2.1)
                        have HS3_ := (hb.cell (World.block_lt_of_cell? _ _ (hHeld.2.2.2.1))).trans (hHeld.2.2.2.1)
                        have HS4_ := (hb.cell (World.block_lt_of_cell? _ _ (hHeld.2.2.2.2.1))).trans (hHeld.2.2.2.2.1)
                        have HS5_ := (hb.cell (World.block_lt_of_cell? _ _ (hHeld.2.2.2.2.2.1))).trans (hHeld.2.2.2.2.2.1)
                        have HS6_ := (hb.cell (World.block_lt_of_cell? _ _ (hHeld.2.2.2.2.2.2.1))).trans (hHeld.2.2.2.2.2.2.1)
                        have HS7_ := (hb.cell (World.block_lt_of_cell? _ _ (hHeld.2.2.2.2.2.2.2))).trans (hHeld.2.2.2.2.2.2.2)
                        have n0_ := Aside0.mk (Kd.V_below (Kd.V_elderB (by (with_reducible repeat (first | apply Kd.V_alloc | apply Kd.V_drewN | apply Kd.V_drew)); exact HO_0.out) gb359 (Nat.le_of_eq hg.symm)) hb)
                        have n1_ := Aside0.mk (Kd.N_below (Kd.N_elderB (by (with_reducible repeat (first | apply Kd.N_alloc | apply Kd.N_drewN | apply Kd.N_drew)); exact HO_3.out) gb359 (Nat.le_of_eq hg.symm)) hb)
                        have n2_ := Aside0.mk (Kd.V_below (Kd.V_elderB (by (with_reducible repeat (first | apply Kd.V_alloc | apply Kd.V_drewN | apply Kd.V_drew)); exact HL350_3.out) gb359 (Nat.le_of_eq hg.symm)) hb)
                        have n3_ := Aside0.mk (Kd.V_below (Kd.V_elderB (by (with_reducible repeat (first | apply Kd.V_alloc | apply Kd.V_drewN | apply Kd.V_drew)); exact HL351_3.out) gb359 (Nat.le_of_eq hg.symm)) hb)
                        have n4_ := Aside0.mk (Kd.C_below (by repeat (first | (with_reducible exact HR350_3.out) | (with_reducible refine Kd.C_alloc ?_ _) | (with_reducible refine Kd.C_drewN ?_ _) | (with_reducible refine Kd.C_drew ?_) | exact HR350_3.out)) hb)
                        have n5_ := Aside0.mk (Kd.C_below (by repeat (first | (with_reducible exact HR351_3.out) | (with_reducible refine Kd.C_alloc ?_ _) | (with_reducible refine Kd.C_drewN ?_ _) | (with_reducible refine Kd.C_drew ?_) | exact HR351_3.out)) hb)
                        have n6_ := Aside0.mk (below_step (by repeat (first | (with_reducible first | exact HB.out | apply below_alloc | apply pw_below_drewN | apply below_drew1) | exact HB.out)) hb)
                        have n7_ := Aside0.mk (hbox)
                        have n8_ := Aside0.mk ((by rw [hg]; exact (below_size (by repeat (first | (with_reducible first | exact HB.out | apply below_alloc | apply pw_below_drewN | apply below_drew1) | exact HB.out))) : w.heap.size ≤ gb359))
                        have n9_ := Aside0.mk ((by rw [hg]; exact (below_size (by repeat (first | (with_reducible first | exact HB.out | apply below_alloc | apply pw_below_drewN | apply below_drew1) | exact HB.out))) : w.heap.size ≤ gb359))
                        clear HO_0
                        clear HO_3
                        clear HL350_3
                        clear HL351_3
                        clear HR350_3
                        clear HR351_3
                        clear HB
                        have HO_0 := n0_
                        have HO_3 := n1_
                        have HL350_3 := n2_
                        have HL351_3 := n3_
                        have HR350_3 := n4_
                        have HR351_3 := n5_
                        have HB := n6_
                        have BK359 := n7_
                        have GW359 := n8_
                        have GE359 := n9_
                        clear n0_ n1_ n2_ n3_ n4_ n5_ n6_ n7_ n8_ n9_
                        clear hb hbox hg
                        refine hK.out _ _ ⟨HS0_, HS1_, HS2_, HS3_, HS4_, HS5_, HS6_, HS7_⟩ (fun hHeld => ?_)
                        clear hK K
                        refine norm_ (a' := ?_) ?_ ?_
                        rotate_left
                        · show Act.put _ (some 5) _ = _
                          simp only [Act.put, List.setIfInBounds_toArray, List.set_cons_zero, List.set_cons_succ, i64_w, i32_w]
                          rfl
                        refine one_ (i := 10) (N := some 28) #[true, true, true, true, true, true, true, true, true, true, true, false, false, false, true, false, false] rfl rfl (one_of HT_.out (by kernel_rfl)) (by decide) (fun K hK => ?_)
                        refine goes_ Try.func38 (by kernel_rfl) rfl #[.agg #[.int .i64 ((rd_T30 x3_1 (ji6)).f0), .int .i64 ((rd_T30 x3_1 (ji6)).f1), .int .i64 ((rd_T30 x3_1 (ji6)).f2), .slice A350_3 ((rd_T30 x3_1 (ji6)).f3).length c350_3], .agg #[.int .i64 ((rd_T30 x0_1 x4_1).f0), .int .i64 ((rd_T30 x0_1 x4_1).f1), .int .i64 ((rd_T30 x0_1 x4_1).f2), .slice A351_3 ((rd_T30 x0_1 x4_1).f3).length c351_3]] (by rfl) rfl rfl (by (try simp only [List.map_toArray, List.map_cons, List.map_nil]); first | done | (simp only [hji6]; rfl) | rfl | (simp only [List.length_drop, List.length_take]; rfl)) ?_
                        with_reducible refine (juratref27_Two.calls k1 ((rd_T30 x3_1 (ji6)).f0) ((rd_T30 x3_1 (ji6)).f1) ((rd_T30 x3_1 (ji6)).f2) _ _ ((rd_T30 x3_1 (ji6)).f3) ((rd_T30 x0_1 x4_1).f0) ((rd_T30 x0_1 x4_1).f1) ((rd_T30 x0_1 x4_1).f2) _ _ ((rd_T30 x0_1 x4_1).f3) t352 t353 t354 t355 false _ ?side1 ?side2 ?side3 ?side4 A10.out).mono ?_
                        (case side1 => repeat (first | exact (by repeat (first | (with_reducible exact HR350_3.out) | (with_reducible refine Kd.C_alloc ?_ _) | (with_reducible refine Kd.C_drewN ?_ _) | (with_reducible refine Kd.C_drew ?_) | exact HR350_3.out)) | (with_reducible refine Kd.C_alloc ?_ _) | (with_reducible refine Kd.C_drewN ?_ _) | (with_reducible refine Kd.C_drew ?_)))
                        (case side2 => exact HC350_3.out)
                        (case side3 => repeat (first | exact (by repeat (first | (with_reducible exact HR351_3.out) | (with_reducible refine Kd.C_alloc ?_ _) | (with_reducible refine Kd.C_drewN ?_ _) | (with_reducible refine Kd.C_drew ?_) | exact HR351_3.out)) | (with_reducible refine Kd.C_alloc ?_ _) | (with_reducible refine Kd.C_drewN ?_ _) | (with_reducible refine Kd.C_drew ?_)))
                        (case side4 => exact HC351_3.out)
                        rintro e w31 ⟨v356, rfl, ho0, hb⟩
                        have HS0_ := (hb.cell (World.block_lt_of_cell? _ _ (hHeld.1))).trans (hHeld.1)
                        have HS1_ := (hb.cell (World.block_lt_of_cell? _ _ (hHeld.2.1))).trans (hHeld.2.1)
                        have HS2_ := (hb.cell (World.block_lt_of_cell? _ _ (hHeld.2.2.1))).trans (hHeld.2.2.1)
                        have HS3_ := (hb.cell (World.block_lt_of_cell? _ _ (hHeld.2.2.2.1))).trans (hHeld.2.2.2.1)
                        have HS4_ := (hb.cell (World.block_lt_of_cell? _ _ (hHeld.2.2.2.2.1))).trans (hHeld.2.2.2.2.1)
                        have HS5_ := (hb.cell (World.block_lt_of_cell? _ _ (hHeld.2.2.2.2.2.1))).trans (hHeld.2.2.2.2.2.1)
                        have HS6_ := (hb.cell (World.block_lt_of_cell? _ _ (hHeld.2.2.2.2.2.2.1))).trans (hHeld.2.2.2.2.2.2.1)
                        have HS7_ := (hb.cell (World.block_lt_of_cell? _ _ (hHeld.2.2.2.2.2.2.2))).trans (hHeld.2.2.2.2.2.2.2)
                        refine ⟨_, rfl, ?_⟩
                        have n0_ := Aside0.mk (Kd.V_elder' (by (with_reducible repeat (first | apply Kd.V_alloc | apply Kd.V_drewN | apply Kd.V_drew)); exact HO_0.out) (Kd.R_base ho0) hb)
                        have n1_ := Aside0.mk (Kd.N_elder' (by (with_reducible repeat (first | apply Kd.N_alloc | apply Kd.N_drewN | apply Kd.N_drew)); exact HO_3.out) (Kd.R_base ho0) hb)
                        have n2_ := Aside0.mk (Kd.V_elder' (by (with_reducible repeat (first | apply Kd.V_alloc | apply Kd.V_drewN | apply Kd.V_drew)); exact HL350_3.out) (Kd.R_base ho0) hb)
                        have n3_ := Aside0.mk (Kd.V_elder' (by (with_reducible repeat (first | apply Kd.V_alloc | apply Kd.V_drewN | apply Kd.V_drew)); exact HL351_3.out) (Kd.R_base ho0) hb)
                        have n4_ := Aside0.mk (Kd.R_lower (Kd.R_newM (M := fun k_ => (w.heap.size ≤ k_)) ho0 (below_size (by repeat (first | (with_reducible first | exact HB.out | apply below_alloc | apply pw_below_drewN | apply below_drew1 | refine below_set ?_ GE359.out) | exact HB.out))) (fun k_ h_ => h_)) (below_size (by repeat (first | (with_reducible first | exact HB.out | apply below_alloc | apply pw_below_drewN | apply below_drew1 | refine below_set ?_ GE359.out) | exact HB.out))))
                        have n5_ := Aside0.mk (Kd.C_below (by repeat (first | (with_reducible exact HR350_3.out) | (with_reducible refine Kd.C_alloc ?_ _) | (with_reducible refine Kd.C_drewN ?_ _) | (with_reducible refine Kd.C_drew ?_) | exact HR350_3.out)) hb)
                        have n6_ := Aside0.mk (Kd.C_below (by repeat (first | (with_reducible exact HR351_3.out) | (with_reducible refine Kd.C_alloc ?_ _) | (with_reducible refine Kd.C_drewN ?_ _) | (with_reducible refine Kd.C_drew ?_) | exact HR351_3.out)) hb)
                        have n7_ := Aside0.mk (blk_below (g := gb359) (o := .cells #[.int .i64 0, .int .i64 0, .int .i64 0, .slice none 0 0] 30 (0, 0)) (by (with_reducible repeat (first | refine blk_drewN ?_ _ | refine blk_drew ?_ | refine blk_alloc ?_ _)); exact BK359.out) hb)
                        have n8_ := Aside0.mk (below_step (by repeat (first | (with_reducible first | exact HB.out | apply below_alloc | apply pw_below_drewN | apply below_drew1 | refine below_set ?_ GE359.out) | exact HB.out)) hb)
                        clear HO_0
                        clear HO_3
                        clear HL350_3
                        clear HL351_3
                        clear HR350_3
                        clear HR351_3
                        clear BK359
                        clear HB
                        have HO_0 := n0_
                        have HO_3 := n1_
                        have HL350_3 := n2_
                        have HL351_3 := n3_
                        have HO357 := n4_
                        have HR350_3 := n5_
                        have HR351_3 := n6_
                        have BK359 := n7_
                        have HB := n8_
                        clear n0_ n1_ n2_ n3_ n4_ n5_ n6_ n7_ n8_
                        (try clear hb)
                        (try clear hb2)
                        (try clear hk)
                        (try clear hi)
                        (try clear ho0)
                        refine hK.out _ _ ⟨HS0_, HS1_, HS2_, HS3_, HS4_, HS5_, HS6_, HS7_⟩ (fun hHeld => ?_)
                        clear hK K
                        refine norm_ (a' := ?_) ?_ ?_
                        rotate_left
                        · show Act.put _ (some 28) _ = _
                          simp only [Act.put, List.setIfInBounds_toArray, List.set_cons_zero, List.set_cons_succ, i64_w, i32_w]
                          rfl
                        refine pure_ (i := 11) (N := some 17) (v := ?_) (a' := ?_) #[true, true, true, true, true, true, true, true, true, true, true, true, false, false, true, false, false] rfl rfl (any_of HT_.out (by kernel_rfl)) (fun _ _ _ h => h) (Or.inl ⟨by rfl, ?_⟩) ?_ ?_
                        rotate_left
                        · intro w'
                          go_simp
                          with_reducible rfl
                        rotate_left
                        · simp only [Act.put, List.setIfInBounds_toArray, List.set_cons_zero, List.set_cons_succ, i64_w, i32_w]
                          rfl
                        refine pure_ (i := 12) (N := some 29) (v := ?_) (a' := ?_) #[true, true, true, true, true, true, true, true, true, true, true, true, true, false, true, false, false] rfl rfl (any_of HT_.out (by kernel_rfl)) (fun _ _ _ h => h) (Or.inl ⟨by rfl, ?_⟩) ?_ ?_
                        rotate_left
                        · intro w'
                          go_simp
                          with_reducible rfl
                        rotate_left
                        · simp only [Act.put, List.setIfInBounds_toArray, List.set_cons_zero, List.set_cons_succ, i64_w, i32_w]
                          rfl
                        refine pure_ (i := 13) (N := some 30) (v := ?_) (a' := ?_) #[true, true, true, true, true, true, true, true, true, true, true, true, true, true, true, false, false] rfl rfl (any_of HT_.out (by kernel_rfl)) (fun _ _ _ h => h) (Or.inl ⟨by rfl, ?_⟩) ?_ ?_
                        rotate_left
                        · intro w'
                          go_simp
                          with_reducible rfl
                        rotate_left
                        · simp only [Act.put, List.setIfInBounds_toArray, List.set_cons_zero, List.set_cons_succ, i64_w, i32_w]
                          rfl
                        exact norm_ (by simp only [putAll, Act.put, List.setIfInBounds_toArray, List.set_cons_zero, List.set_cons_succ]) (hCont (v356, gb359) _ ⟨hHeld, (by (with_reducible repeat (first | apply Kd.V_alloc | apply Kd.V_drewN | apply Kd.V_drew)); exact Kd.V_mono HL350_3.out (fun _ hk => ⟨hk.1.1.1, ⟨hk.2, ⟨hk.1.1.2, hk.1.2⟩⟩⟩)), (by (with_reducible repeat (first | apply Kd.V_alloc | apply Kd.V_drewN | apply Kd.V_drew)); exact Kd.V_mono HL351_3.out (fun _ hk => ⟨hk.1.1.1, ⟨hk.2, ⟨hk.1.1.2, hk.1.2⟩⟩⟩)), (by (with_reducible repeat (first | apply Kd.R_alloc | apply Kd.R_drewN | apply Kd.R_drew)); exact Kd.R_mono HO357.out (fun _ hk => hk.1)), (by (with_reducible repeat (first | apply Kd.V_alloc | apply Kd.V_drewN | apply Kd.V_drew)); exact Kd.V_mono HO_0.out (fun _ hk => ⟨hk.1.1.1, ⟨hk.2, ⟨hk.1.1.2, hk.1.2⟩⟩⟩)), (by (with_reducible repeat (first | apply Kd.N_alloc | apply Kd.N_drewN | apply Kd.N_drew)); exact Kd.N_mono HO_3.out (fun _ hk => ⟨hk.1.1, ⟨hk.2, hk.1.2⟩⟩)), (by (with_reducible repeat (first | refine blk_drewN ?_ _ | refine blk_drew ?_ | refine blk_alloc ?_ _)); exact BK359.out), GW359.out, GE359.out, (by repeat (first | (with_reducible first | exact HB.out | apply below_alloc | apply pw_below_drewN | apply below_drew1 | refine below_set ?_ GE359.out) | exact HB.out))⟩)
                    rintro ⟨v356, gb359⟩ w32 ⟨hS_, h0_, h1_, h2_, h3_, h4_, h5_, h6_, h7_, h8_⟩
                    have n0_ : Aside0 (Kd.V (Kd.int .i64) 3 w32 w.heap.size (fun k_ => (P0_ k_ ∨ w.heap.size ≤ k_) ∧ some k_ ≠ (v356 : Value).ownBlock ∧ some k_ ≠ (.slice (some ad350) x3_1.length co28 : Value).ownBlock ∧ k_ ≠ gb359) (.slice A350_3 ((rd_T30 x3_1 (ji6)).f3).length c350_3) ((rd_T30 x3_1 (ji6)).f3)) := ⟨h0_⟩
                    have n1_ : Aside0 (Kd.V (Kd.int .i64) 3 w32 w.heap.size (fun k_ => (P0_ k_ ∨ w.heap.size ≤ k_) ∧ some k_ ≠ (v356 : Value).ownBlock ∧ some k_ ≠ (.slice (some ad350) x3_1.length co28 : Value).ownBlock ∧ k_ ≠ gb359) (.slice A351_3 ((rd_T30 x0_1 x4_1).f3).length c351_3) ((rd_T30 x0_1 x4_1).f3)) := ⟨h1_⟩
                    have n2_ : Aside0 (Kd.R (Kd.int .i64) 3 w32 w.heap.size (fun k_ => (w.heap.size ≤ k_)) v356 t355) := ⟨h2_⟩
                    have n3_ : Aside0 (Kd.V k30 30 w32 w.heap.size (fun k_ => (P0_ k_ ∨ w.heap.size ≤ k_) ∧ some k_ ≠ (v356 : Value).ownBlock ∧ some k_ ≠ (.slice (some ad350) x3_1.length co28 : Value).ownBlock ∧ k_ ≠ gb359) (.slice (some ad351) x0_1.length c0) x0_1) := ⟨h3_⟩
                    have n4_ : Aside0 (Kd.N k30 30 w32 w.heap.size (fun k_ => (P0_ k_ ∨ w.heap.size ≤ k_) ∧ some k_ ≠ (v356 : Value).ownBlock ∧ k_ ≠ gb359) (.slice (some ad350) x3_1.length co28) x3_1) := ⟨h4_⟩
                    have n5_ : Aside0 (w32.heap[gb359]? = some (.cells #[.int .i64 0, .int .i64 0, .int .i64 0, .slice none 0 0] 30 (0, 0))) := ⟨h5_⟩
                    have n6_ : Aside0 (w.heap.size ≤ gb359) := ⟨h6_⟩
                    have n7_ : Aside0 (w.heap.size ≤ gb359) := ⟨h7_⟩
                    have n8_ : Aside0 (Below w.heap.size w w32) := ⟨h8_⟩
                    clear HO_0
                    clear HO_3
                    clear HB
                    clear h0_ h1_ h2_ h3_ h4_ h5_ h6_ h7_ h8_
                    have HL350_3 := n0_
                    have HL351_3 := n1_
                    have HO357 := n2_
                    have HO_0 := n3_
                    have HO_3 := n4_
                    have BK359 := n5_
                    have GW359 := n6_
                    have GE359 := n7_
                    have HB := n8_
                    clear n0_ n1_ n2_ n3_ n4_ n5_ n6_ n7_ n8_
                    have hHeld : w32.cell? (ad350.add (((ji6)).toNat * 4)) = some (.int .i64 ((rd_T30 x3_1 (ji6)).f0)) ∧ w32.cell? ⟨(ad350.add (((ji6)).toNat * 4)).block, (ad350.add (((ji6)).toNat * 4)).off + 1, none⟩ = some (.int .i64 ((rd_T30 x3_1 (ji6)).f1)) ∧ w32.cell? ⟨(ad350.add (((ji6)).toNat * 4)).block, (ad350.add (((ji6)).toNat * 4)).off + 2, none⟩ = some (.int .i64 ((rd_T30 x3_1 (ji6)).f2)) ∧ w32.cell? ⟨(ad350.add (((ji6)).toNat * 4)).block, (ad350.add (((ji6)).toNat * 4)).off + 3, none⟩ = some (.slice A350_3 ((rd_T30 x3_1 (ji6)).f3).length c350_3) ∧ w32.cell? (ad351.add ((x4_1).toNat * 4)) = some (.int .i64 ((rd_T30 x0_1 x4_1).f0)) ∧ w32.cell? ⟨(ad351.add ((x4_1).toNat * 4)).block, (ad351.add ((x4_1).toNat * 4)).off + 1, none⟩ = some (.int .i64 ((rd_T30 x0_1 x4_1).f1)) ∧ w32.cell? ⟨(ad351.add ((x4_1).toNat * 4)).block, (ad351.add ((x4_1).toNat * 4)).off + 2, none⟩ = some (.int .i64 ((rd_T30 x0_1 x4_1).f2)) ∧ w32.cell? ⟨(ad351.add ((x4_1).toNat * 4)).block, (ad351.add ((x4_1).toNat * 4)).off + 3, none⟩ = some (.slice A351_3 ((rd_T30 x0_1 x4_1).f3).length c351_3) := hS_
                    obtain ⟨Ao36, co36, eo36⟩ := Kd.R_slice HO357.out
                    (first | subst eo36 | (injection eo36 with f1_ f2_ f3_; have f4_ := f1_.symm; have f5_ := f3_.symm; clear f1_ f2_ f3_; subst f4_; subst f5_))
                    refine norm_ (a' := ?_) ?_ ?_
                    rotate_left
                    · simp only [putAll, Act.put, List.setIfInBounds_toArray, List.set_cons_zero, List.set_cons_succ]
                      rfl
                    refine one_ (i := 15) (N := none) #[true, true, true, true, true, true, true, true, true, true, true, true, true, true, true, true, false] rfl rfl (one_of HT_.out (by kernel_rfl)) (by decide) (fun K hK => ?_)
                    have hs33 : w32.cell? ⟨gb359, 0, none⟩ = some (.int .i64 0) := (blk_cell BK359.out 0).trans rfl
                    have hfs33 := blk_frozen BK359.out 0
                    have hs34 : w32.cell? ⟨gb359, 1, none⟩ = some (.int .i64 0) := (blk_cell BK359.out 1).trans rfl
                    have hfs34 := blk_frozen BK359.out 1
                    have hs35 : w32.cell? ⟨gb359, 2, none⟩ = some (.int .i64 0) := (blk_cell BK359.out 2).trans rfl
                    have hfs35 := blk_frozen BK359.out 2
                    have hs37 : w32.cell? ⟨gb359, 3, none⟩ = some (.slice none 0 0) := (blk_cell BK359.out 3).trans rfl
                    have hfs37 := blk_frozen BK359.out 3
                    refine skip_ (w1 := ?_) (by rfl) rfl ?_ ?_
                    rotate_left
                    · go_simp
                      rfl
                    refine hK.out _ _ ⟨((cell_far (p := ⟨gb359, _, none⟩) (by first | exact Kd.own_blk (Kd.N_away HO_3.out (fun _ hk => hk.2.2)) | (rw [add_block]; exact Kd.own_blk (Kd.N_away HO_3.out (fun _ hk => hk.2.2))) | (show (Addr.add _ _).block ≠ _; rw [add_block]; exact Kd.own_blk (Kd.N_away HO_3.out (fun _ hk => hk.2.2))) | (dsimp only; exact Kd.own_blk (Kd.N_away HO_3.out (fun _ hk => hk.2.2)))) _).trans (((cell_far (p := ⟨gb359, _, none⟩) (by first | exact Kd.own_blk (Kd.N_away HO_3.out (fun _ hk => hk.2.2)) | (rw [add_block]; exact Kd.own_blk (Kd.N_away HO_3.out (fun _ hk => hk.2.2))) | (show (Addr.add _ _).block ≠ _; rw [add_block]; exact Kd.own_blk (Kd.N_away HO_3.out (fun _ hk => hk.2.2))) | (dsimp only; exact Kd.own_blk (Kd.N_away HO_3.out (fun _ hk => hk.2.2)))) _).trans (((cell_far (p := ⟨gb359, _, none⟩) (by first | exact Kd.own_blk (Kd.N_away HO_3.out (fun _ hk => hk.2.2)) | (rw [add_block]; exact Kd.own_blk (Kd.N_away HO_3.out (fun _ hk => hk.2.2))) | (show (Addr.add _ _).block ≠ _; rw [add_block]; exact Kd.own_blk (Kd.N_away HO_3.out (fun _ hk => hk.2.2))) | (dsimp only; exact Kd.own_blk (Kd.N_away HO_3.out (fun _ hk => hk.2.2)))) _).trans (((cell_far (p := ⟨gb359, _, none⟩) (by first | exact Kd.own_blk (Kd.N_away HO_3.out (fun _ hk => hk.2.2)) | (rw [add_block]; exact Kd.own_blk (Kd.N_away HO_3.out (fun _ hk => hk.2.2))) | (show (Addr.add _ _).block ≠ _; rw [add_block]; exact Kd.own_blk (Kd.N_away HO_3.out (fun _ hk => hk.2.2))) | (dsimp only; exact Kd.own_blk (Kd.N_away HO_3.out (fun _ hk => hk.2.2)))) _).trans (hHeld.1)))))))), ((cell_far (p := ⟨gb359, _, none⟩) (by first | exact Kd.own_blk (Kd.N_away HO_3.out (fun _ hk => hk.2.2)) | (rw [add_block]; exact Kd.own_blk (Kd.N_away HO_3.out (fun _ hk => hk.2.2))) | (show (Addr.add _ _).block ≠ _; rw [add_block]; exact Kd.own_blk (Kd.N_away HO_3.out (fun _ hk => hk.2.2))) | (dsimp only; exact Kd.own_blk (Kd.N_away HO_3.out (fun _ hk => hk.2.2)))) _).trans (((cell_far (p := ⟨gb359, _, none⟩) (by first | exact Kd.own_blk (Kd.N_away HO_3.out (fun _ hk => hk.2.2)) | (rw [add_block]; exact Kd.own_blk (Kd.N_away HO_3.out (fun _ hk => hk.2.2))) | (show (Addr.add _ _).block ≠ _; rw [add_block]; exact Kd.own_blk (Kd.N_away HO_3.out (fun _ hk => hk.2.2))) | (dsimp only; exact Kd.own_blk (Kd.N_away HO_3.out (fun _ hk => hk.2.2)))) _).trans (((cell_far (p := ⟨gb359, _, none⟩) (by first | exact Kd.own_blk (Kd.N_away HO_3.out (fun _ hk => hk.2.2)) | (rw [add_block]; exact Kd.own_blk (Kd.N_away HO_3.out (fun _ hk => hk.2.2))) | (show (Addr.add _ _).block ≠ _; rw [add_block]; exact Kd.own_blk (Kd.N_away HO_3.out (fun _ hk => hk.2.2))) | (dsimp only; exact Kd.own_blk (Kd.N_away HO_3.out (fun _ hk => hk.2.2)))) _).trans (((cell_far (p := ⟨gb359, _, none⟩) (by first | exact Kd.own_blk (Kd.N_away HO_3.out (fun _ hk => hk.2.2)) | (rw [add_block]; exact Kd.own_blk (Kd.N_away HO_3.out (fun _ hk => hk.2.2))) | (show (Addr.add _ _).block ≠ _; rw [add_block]; exact Kd.own_blk (Kd.N_away HO_3.out (fun _ hk => hk.2.2))) | (dsimp only; exact Kd.own_blk (Kd.N_away HO_3.out (fun _ hk => hk.2.2)))) _).trans (hHeld.2.1)))))))), ((cell_far (p := ⟨gb359, _, none⟩) (by first | exact Kd.own_blk (Kd.N_away HO_3.out (fun _ hk => hk.2.2)) | (rw [add_block]; exact Kd.own_blk (Kd.N_away HO_3.out (fun _ hk => hk.2.2))) | (show (Addr.add _ _).block ≠ _; rw [add_block]; exact Kd.own_blk (Kd.N_away HO_3.out (fun _ hk => hk.2.2))) | (dsimp only; exact Kd.own_blk (Kd.N_away HO_3.out (fun _ hk => hk.2.2)))) _).trans (((cell_far (p := ⟨gb359, _, none⟩) (by first | exact Kd.own_blk (Kd.N_away HO_3.out (fun _ hk => hk.2.2)) | (rw [add_block]; exact Kd.own_blk (Kd.N_away HO_3.out (fun _ hk => hk.2.2))) | (show (Addr.add _ _).block ≠ _; rw [add_block]; exact Kd.own_blk (Kd.N_away HO_3.out (fun _ hk => hk.2.2))) | (dsimp only; exact Kd.own_blk (Kd.N_away HO_3.out (fun _ hk => hk.2.2)))) _).trans (((cell_far (p := ⟨gb359, _, none⟩) (by first | exact Kd.own_blk (Kd.N_away HO_3.out (fun _ hk => hk.2.2)) | (rw [add_block]; exact Kd.own_blk (Kd.N_away HO_3.out (fun _ hk => hk.2.2))) | (show (Addr.add _ _).block ≠ _; rw [add_block]; exact Kd.own_blk (Kd.N_away HO_3.out (fun _ hk => hk.2.2))) | (dsimp only; exact Kd.own_blk (Kd.N_away HO_3.out (fun _ hk => hk.2.2)))) _).trans (((cell_far (p := ⟨gb359, _, none⟩) (by first | exact Kd.own_blk (Kd.N_away HO_3.out (fun _ hk => hk.2.2)) | (rw [add_block]; exact Kd.own_blk (Kd.N_away HO_3.out (fun _ hk => hk.2.2))) | (show (Addr.add _ _).block ≠ _; rw [add_block]; exact Kd.own_blk (Kd.N_away HO_3.out (fun _ hk => hk.2.2))) | (dsimp only; exact Kd.own_blk (Kd.N_away HO_3.out (fun _ hk => hk.2.2)))) _).trans (hHeld.2.2.1)))))))), ((cell_far (p := ⟨gb359, _, none⟩) (by first | exact Kd.own_blk (Kd.N_away HO_3.out (fun _ hk => hk.2.2)) | (rw [add_block]; exact Kd.own_blk (Kd.N_away HO_3.out (fun _ hk => hk.2.2))) | (show (Addr.add _ _).block ≠ _; rw [add_block]; exact Kd.own_blk (Kd.N_away HO_3.out (fun _ hk => hk.2.2))) | (dsimp only; exact Kd.own_blk (Kd.N_away HO_3.out (fun _ hk => hk.2.2)))) _).trans (((cell_far (p := ⟨gb359, _, none⟩) (by first | exact Kd.own_blk (Kd.N_away HO_3.out (fun _ hk => hk.2.2)) | (rw [add_block]; exact Kd.own_blk (Kd.N_away HO_3.out (fun _ hk => hk.2.2))) | (show (Addr.add _ _).block ≠ _; rw [add_block]; exact Kd.own_blk (Kd.N_away HO_3.out (fun _ hk => hk.2.2))) | (dsimp only; exact Kd.own_blk (Kd.N_away HO_3.out (fun _ hk => hk.2.2)))) _).trans (((cell_far (p := ⟨gb359, _, none⟩) (by first | exact Kd.own_blk (Kd.N_away HO_3.out (fun _ hk => hk.2.2)) | (rw [add_block]; exact Kd.own_blk (Kd.N_away HO_3.out (fun _ hk => hk.2.2))) | (show (Addr.add _ _).block ≠ _; rw [add_block]; exact Kd.own_blk (Kd.N_away HO_3.out (fun _ hk => hk.2.2))) | (dsimp only; exact Kd.own_blk (Kd.N_away HO_3.out (fun _ hk => hk.2.2)))) _).trans (((cell_far (p := ⟨gb359, _, none⟩) (by first | exact Kd.own_blk (Kd.N_away HO_3.out (fun _ hk => hk.2.2)) | (rw [add_block]; exact Kd.own_blk (Kd.N_away HO_3.out (fun _ hk => hk.2.2))) | (show (Addr.add _ _).block ≠ _; rw [add_block]; exact Kd.own_blk (Kd.N_away HO_3.out (fun _ hk => hk.2.2))) | (dsimp only; exact Kd.own_blk (Kd.N_away HO_3.out (fun _ hk => hk.2.2)))) _).trans (hHeld.2.2.2.1)))))))), ((cell_far (p := ⟨gb359, _, none⟩) (by first | exact (Kd.V_blk HO_0.out (fun _ hk => hk.2.2.2) p351 q351 (by decide) z30) | (rw [add_block]; exact (Kd.V_blk HO_0.out (fun _ hk => hk.2.2.2) p351 q351 (by decide) z30)) | (show (Addr.add _ _).block ≠ _; rw [add_block]; exact (Kd.V_blk HO_0.out (fun _ hk => hk.2.2.2) p351 q351 (by decide) z30)) | (dsimp only; exact (Kd.V_blk HO_0.out (fun _ hk => hk.2.2.2) p351 q351 (by decide) z30))) _).trans (((cell_far (p := ⟨gb359, _, none⟩) (by first | exact (Kd.V_blk HO_0.out (fun _ hk => hk.2.2.2) p351 q351 (by decide) z30) | (rw [add_block]; exact (Kd.V_blk HO_0.out (fun _ hk => hk.2.2.2) p351 q351 (by decide) z30)) | (show (Addr.add _ _).block ≠ _; rw [add_block]; exact (Kd.V_blk HO_0.out (fun _ hk => hk.2.2.2) p351 q351 (by decide) z30)) | (dsimp only; exact (Kd.V_blk HO_0.out (fun _ hk => hk.2.2.2) p351 q351 (by decide) z30))) _).trans (((cell_far (p := ⟨gb359, _, none⟩) (by first | exact (Kd.V_blk HO_0.out (fun _ hk => hk.2.2.2) p351 q351 (by decide) z30) | (rw [add_block]; exact (Kd.V_blk HO_0.out (fun _ hk => hk.2.2.2) p351 q351 (by decide) z30)) | (show (Addr.add _ _).block ≠ _; rw [add_block]; exact (Kd.V_blk HO_0.out (fun _ hk => hk.2.2.2) p351 q351 (by decide) z30)) | (dsimp only; exact (Kd.V_blk HO_0.out (fun _ hk => hk.2.2.2) p351 q351 (by decide) z30))) _).trans (((cell_far (p := ⟨gb359, _, none⟩) (by first | exact (Kd.V_blk HO_0.out (fun _ hk => hk.2.2.2) p351 q351 (by decide) z30) | (rw [add_block]; exact (Kd.V_blk HO_0.out (fun _ hk => hk.2.2.2) p351 q351 (by decide) z30)) | (show (Addr.add _ _).block ≠ _; rw [add_block]; exact (Kd.V_blk HO_0.out (fun _ hk => hk.2.2.2) p351 q351 (by decide) z30)) | (dsimp only; exact (Kd.V_blk HO_0.out (fun _ hk => hk.2.2.2) p351 q351 (by decide) z30))) _).trans (hHeld.2.2.2.2.1)))))))), ((cell_far (p := ⟨gb359, _, none⟩) (by first | exact (Kd.V_blk HO_0.out (fun _ hk => hk.2.2.2) p351 q351 (by decide) z30) | (rw [add_block]; exact (Kd.V_blk HO_0.out (fun _ hk => hk.2.2.2) p351 q351 (by decide) z30)) | (show (Addr.add _ _).block ≠ _; rw [add_block]; exact (Kd.V_blk HO_0.out (fun _ hk => hk.2.2.2) p351 q351 (by decide) z30)) | (dsimp only; exact (Kd.V_blk HO_0.out (fun _ hk => hk.2.2.2) p351 q351 (by decide) z30))) _).trans (((cell_far (p := ⟨gb359, _, none⟩) (by first | exact (Kd.V_blk HO_0.out (fun _ hk => hk.2.2.2) p351 q351 (by decide) z30) | (rw [add_block]; exact (Kd.V_blk HO_0.out (fun _ hk => hk.2.2.2) p351 q351 (by decide) z30)) | (show (Addr.add _ _).block ≠ _; rw [add_block]; exact (Kd.V_blk HO_0.out (fun _ hk => hk.2.2.2) p351 q351 (by decide) z30)) | (dsimp only; exact (Kd.V_blk HO_0.out (fun _ hk => hk.2.2.2) p351 q351 (by decide) z30))) _).trans (((cell_far (p := ⟨gb359, _, none⟩) (by first | exact (Kd.V_blk HO_0.out (fun _ hk => hk.2.2.2) p351 q351 (by decide) z30) | (rw [add_block]; exact (Kd.V_blk HO_0.out (fun _ hk => hk.2.2.2) p351 q351 (by decide) z30)) | (show (Addr.add _ _).block ≠ _; rw [add_block]; exact (Kd.V_blk HO_0.out (fun _ hk => hk.2.2.2) p351 q351 (by decide) z30)) | (dsimp only; exact (Kd.V_blk HO_0.out (fun _ hk => hk.2.2.2) p351 q351 (by decide) z30))) _).trans (((cell_far (p := ⟨gb359, _, none⟩) (by first | exact (Kd.V_blk HO_0.out (fun _ hk => hk.2.2.2) p351 q351 (by decide) z30) | (rw [add_block]; exact (Kd.V_blk HO_0.out (fun _ hk => hk.2.2.2) p351 q351 (by decide) z30)) | (show (Addr.add _ _).block ≠ _; rw [add_block]; exact (Kd.V_blk HO_0.out (fun _ hk => hk.2.2.2) p351 q351 (by decide) z30)) | (dsimp only; exact (Kd.V_blk HO_0.out (fun _ hk => hk.2.2.2) p351 q351 (by decide) z30))) _).trans (hHeld.2.2.2.2.2.1)))))))), ((cell_far (p := ⟨gb359, _, none⟩) (by first | exact (Kd.V_blk HO_0.out (fun _ hk => hk.2.2.2) p351 q351 (by decide) z30) | (rw [add_block]; exact (Kd.V_blk HO_0.out (fun _ hk => hk.2.2.2) p351 q351 (by decide) z30)) | (show (Addr.add _ _).block ≠ _; rw [add_block]; exact (Kd.V_blk HO_0.out (fun _ hk => hk.2.2.2) p351 q351 (by decide) z30)) | (dsimp only; exact (Kd.V_blk HO_0.out (fun _ hk => hk.2.2.2) p351 q351 (by decide) z30))) _).trans (((cell_far (p := ⟨gb359, _, none⟩) (by first | exact (Kd.V_blk HO_0.out (fun _ hk => hk.2.2.2) p351 q351 (by decide) z30) | (rw [add_block]; exact (Kd.V_blk HO_0.out (fun _ hk => hk.2.2.2) p351 q351 (by decide) z30)) | (show (Addr.add _ _).block ≠ _; rw [add_block]; exact (Kd.V_blk HO_0.out (fun _ hk => hk.2.2.2) p351 q351 (by decide) z30)) | (dsimp only; exact (Kd.V_blk HO_0.out (fun _ hk => hk.2.2.2) p351 q351 (by decide) z30))) _).trans (((cell_far (p := ⟨gb359, _, none⟩) (by first | exact (Kd.V_blk HO_0.out (fun _ hk => hk.2.2.2) p351 q351 (by decide) z30) | (rw [add_block]; exact (Kd.V_blk HO_0.out (fun _ hk => hk.2.2.2) p351 q351 (by decide) z30)) | (show (Addr.add _ _).block ≠ _; rw [add_block]; exact (Kd.V_blk HO_0.out (fun _ hk => hk.2.2.2) p351 q351 (by decide) z30)) | (dsimp only; exact (Kd.V_blk HO_0.out (fun _ hk => hk.2.2.2) p351 q351 (by decide) z30))) _).trans (((cell_far (p := ⟨gb359, _, none⟩) (by first | exact (Kd.V_blk HO_0.out (fun _ hk => hk.2.2.2) p351 q351 (by decide) z30) | (rw [add_block]; exact (Kd.V_blk HO_0.out (fun _ hk => hk.2.2.2) p351 q351 (by decide) z30)) | (show (Addr.add _ _).block ≠ _; rw [add_block]; exact (Kd.V_blk HO_0.out (fun _ hk => hk.2.2.2) p351 q351 (by decide) z30)) | (dsimp only; exact (Kd.V_blk HO_0.out (fun _ hk => hk.2.2.2) p351 q351 (by decide) z30))) _).trans (hHeld.2.2.2.2.2.2.1)))))))), ((cell_far (p := ⟨gb359, _, none⟩) (by first | exact (Kd.V_blk HO_0.out (fun _ hk => hk.2.2.2) p351 q351 (by decide) z30) | (rw [add_block]; exact (Kd.V_blk HO_0.out (fun _ hk => hk.2.2.2) p351 q351 (by decide) z30)) | (show (Addr.add _ _).block ≠ _; rw [add_block]; exact (Kd.V_blk HO_0.out (fun _ hk => hk.2.2.2) p351 q351 (by decide) z30)) | (dsimp only; exact (Kd.V_blk HO_0.out (fun _ hk => hk.2.2.2) p351 q351 (by decide) z30))) _).trans (((cell_far (p := ⟨gb359, _, none⟩) (by first | exact (Kd.V_blk HO_0.out (fun _ hk => hk.2.2.2) p351 q351 (by decide) z30) | (rw [add_block]; exact (Kd.V_blk HO_0.out (fun _ hk => hk.2.2.2) p351 q351 (by decide) z30)) | (show (Addr.add _ _).block ≠ _; rw [add_block]; exact (Kd.V_blk HO_0.out (fun _ hk => hk.2.2.2) p351 q351 (by decide) z30)) | (dsimp only; exact (Kd.V_blk HO_0.out (fun _ hk => hk.2.2.2) p351 q351 (by decide) z30))) _).trans (((cell_far (p := ⟨gb359, _, none⟩) (by first | exact (Kd.V_blk HO_0.out (fun _ hk => hk.2.2.2) p351 q351 (by decide) z30) | (rw [add_block]; exact (Kd.V_blk HO_0.out (fun _ hk => hk.2.2.2) p351 q351 (by decide) z30)) | (show (Addr.add _ _).block ≠ _; rw [add_block]; exact (Kd.V_blk HO_0.out (fun _ hk => hk.2.2.2) p351 q351 (by decide) z30)) | (dsimp only; exact (Kd.V_blk HO_0.out (fun _ hk => hk.2.2.2) p351 q351 (by decide) z30))) _).trans (((cell_far (p := ⟨gb359, _, none⟩) (by first | exact (Kd.V_blk HO_0.out (fun _ hk => hk.2.2.2) p351 q351 (by decide) z30) | (rw [add_block]; exact (Kd.V_blk HO_0.out (fun _ hk => hk.2.2.2) p351 q351 (by decide) z30)) | (show (Addr.add _ _).block ≠ _; rw [add_block]; exact (Kd.V_blk HO_0.out (fun _ hk => hk.2.2.2) p351 q351 (by decide) z30)) | (dsimp only; exact (Kd.V_blk HO_0.out (fun _ hk => hk.2.2.2) p351 q351 (by decide) z30))) _).trans (hHeld.2.2.2.2.2.2.2))))))))⟩ (fun hHeld => ?_)
                    clear hK K
                    refine pure_ (i := 16) (N := some 6) (v := ?_) (a' := ?_) #[true, true, true, true, true, true, true, true, true, true, true, true, true, true, true, true, true] rfl rfl (any_of HT_.out (by kernel_rfl)) (fun _ _ _ h => h) (Or.inl ⟨by rfl, ?_⟩) ?_ ?_
                    rotate_left
                    · intro w'
                      go_simp
                      with_reducible rfl
                    rotate_left
                    · simp only [Act.put, List.setIfInBounds_toArray, List.set_cons_zero, List.set_cons_succ, i64_w, i32_w]
                      rfl
                    refine done_ (done_of HT_.out (by kernel_rfl)) ?_
                    have n0_ : Aside0 (Kd.V k30 30 ((((w32.setCell ⟨gb359, 0, none⟩ (.int .i64 t352)).setCell ⟨gb359, 1, none⟩ (.int .i64 t353)).setCell ⟨gb359, 2, none⟩ (.int .i64 t354)).setCell ⟨gb359, 3, none⟩ (.slice Ao36 t355.length co36)) w.heap.size (fun k_ => (P0_ k_ ∨ w.heap.size ≤ k_) ∧ some k_ ≠ (.slice (some ad350) x3_1.length co28 : Value).ownBlock ∧ some k_ ≠ (.slice Ao36 t355.length co36 : Value).ownBlock ∧ k_ ≠ gb359) (.slice (some ad351) x0_1.length c0) x0_1) := ⟨by (with_reducible repeat (first | apply Kd.V_alloc | apply Kd.V_drewN | apply Kd.V_drew)); exact Kd.V_mono (Kd.V_far (p := ⟨gb359, 3, none⟩) (Kd.V_far (p := ⟨gb359, 2, none⟩) (Kd.V_far (p := ⟨gb359, 1, none⟩) (Kd.V_far (p := ⟨gb359, 0, none⟩) (Kd.V_mono HO_0.out (fun k_ hk => (⟨hk, hk.2.2.2⟩ : _ ∧ k_ ≠ gb359))) (fun _ hk => hk.2) (.int .i64 t352)) (fun _ hk => hk.2) (.int .i64 t353)) (fun _ hk => hk.2) (.int .i64 t354)) (fun _ hk => hk.2) (.slice Ao36 t355.length co36)) (fun _ hk => ⟨hk.1.1, ⟨hk.1.2.2.1, ⟨hk.1.2.1, hk.1.2.2.2⟩⟩⟩)⟩
                    have n1_ : Aside0 (Kd.N k30 30 ((((w32.setCell ⟨gb359, 0, none⟩ (.int .i64 t352)).setCell ⟨gb359, 1, none⟩ (.int .i64 t353)).setCell ⟨gb359, 2, none⟩ (.int .i64 t354)).setCell ⟨gb359, 3, none⟩ (.slice Ao36 t355.length co36)) w.heap.size (fun k_ => (P0_ k_ ∨ w.heap.size ≤ k_) ∧ some k_ ≠ (.slice Ao36 t355.length co36 : Value).ownBlock ∧ k_ ≠ gb359) (.slice (some ad350) x3_1.length co28) x3_1) := ⟨by (with_reducible repeat (first | apply Kd.N_alloc | apply Kd.N_drewN | apply Kd.N_drew)); exact Kd.N_mono (Kd.N_far (p := ⟨gb359, 3, none⟩) (Kd.N_far (p := ⟨gb359, 2, none⟩) (Kd.N_far (p := ⟨gb359, 1, none⟩) (Kd.N_far (p := ⟨gb359, 0, none⟩) (Kd.N_mono HO_3.out (fun k_ hk => (⟨hk, hk.2.2⟩ : _ ∧ k_ ≠ gb359))) (fun _ hk => hk.2) (.int .i64 t352)) (fun _ hk => hk.2) (.int .i64 t353)) (fun _ hk => hk.2) (.int .i64 t354)) (fun _ hk => hk.2) (.slice Ao36 t355.length co36)) (fun _ hk => ⟨hk.1.1, ⟨hk.1.2.1, hk.1.2.2⟩⟩)⟩
                    have n2_ : Aside0 (Kd.V (Kd.int .i64) 3 ((((w32.setCell ⟨gb359, 0, none⟩ (.int .i64 t352)).setCell ⟨gb359, 1, none⟩ (.int .i64 t353)).setCell ⟨gb359, 2, none⟩ (.int .i64 t354)).setCell ⟨gb359, 3, none⟩ (.slice Ao36 t355.length co36)) w.heap.size (fun k_ => (P0_ k_ ∨ w.heap.size ≤ k_) ∧ some k_ ≠ (.slice (some ad350) x3_1.length co28 : Value).ownBlock ∧ some k_ ≠ (.slice Ao36 t355.length co36 : Value).ownBlock ∧ k_ ≠ gb359) (.slice A350_3 ((rd_T30 x3_1 (ji6)).f3).length c350_3) ((rd_T30 x3_1 (ji6)).f3)) := ⟨by (with_reducible repeat (first | apply Kd.V_alloc | apply Kd.V_drewN | apply Kd.V_drew)); exact Kd.V_mono (Kd.V_far (p := ⟨gb359, 3, none⟩) (Kd.V_far (p := ⟨gb359, 2, none⟩) (Kd.V_far (p := ⟨gb359, 1, none⟩) (Kd.V_far (p := ⟨gb359, 0, none⟩) (Kd.V_mono HL350_3.out (fun k_ hk => (⟨hk, hk.2.2.2⟩ : _ ∧ k_ ≠ gb359))) (fun _ hk => hk.2) (.int .i64 t352)) (fun _ hk => hk.2) (.int .i64 t353)) (fun _ hk => hk.2) (.int .i64 t354)) (fun _ hk => hk.2) (.slice Ao36 t355.length co36)) (fun _ hk => ⟨hk.1.1, ⟨hk.1.2.2.1, ⟨hk.1.2.1, hk.1.2.2.2⟩⟩⟩)⟩
                    have n3_ : Aside0 (Kd.V (Kd.int .i64) 3 ((((w32.setCell ⟨gb359, 0, none⟩ (.int .i64 t352)).setCell ⟨gb359, 1, none⟩ (.int .i64 t353)).setCell ⟨gb359, 2, none⟩ (.int .i64 t354)).setCell ⟨gb359, 3, none⟩ (.slice Ao36 t355.length co36)) w.heap.size (fun k_ => (P0_ k_ ∨ w.heap.size ≤ k_) ∧ some k_ ≠ (.slice (some ad350) x3_1.length co28 : Value).ownBlock ∧ some k_ ≠ (.slice Ao36 t355.length co36 : Value).ownBlock ∧ k_ ≠ gb359) (.slice A351_3 ((rd_T30 x0_1 x4_1).f3).length c351_3) ((rd_T30 x0_1 x4_1).f3)) := ⟨by (with_reducible repeat (first | apply Kd.V_alloc | apply Kd.V_drewN | apply Kd.V_drew)); exact Kd.V_mono (Kd.V_far (p := ⟨gb359, 3, none⟩) (Kd.V_far (p := ⟨gb359, 2, none⟩) (Kd.V_far (p := ⟨gb359, 1, none⟩) (Kd.V_far (p := ⟨gb359, 0, none⟩) (Kd.V_mono HL351_3.out (fun k_ hk => (⟨hk, hk.2.2.2⟩ : _ ∧ k_ ≠ gb359))) (fun _ hk => hk.2) (.int .i64 t352)) (fun _ hk => hk.2) (.int .i64 t353)) (fun _ hk => hk.2) (.int .i64 t354)) (fun _ hk => hk.2) (.slice Ao36 t355.length co36)) (fun _ hk => ⟨hk.1.1, ⟨hk.1.2.2.1, ⟨hk.1.2.1, hk.1.2.2.2⟩⟩⟩)⟩
                    have n4_ : Aside0 (Kd.R (Kd.int .i64) 3 ((((w32.setCell ⟨gb359, 0, none⟩ (.int .i64 t352)).setCell ⟨gb359, 1, none⟩ (.int .i64 t353)).setCell ⟨gb359, 2, none⟩ (.int .i64 t354)).setCell ⟨gb359, 3, none⟩ (.slice Ao36 t355.length co36)) w.heap.size (fun k_ => (w.heap.size ≤ k_)) (.slice Ao36 t355.length co36) t355) := ⟨by (with_reducible repeat (first | apply Kd.R_alloc | apply Kd.R_drewN | apply Kd.R_drew)); exact Kd.R_mono (Kd.R_far (p := ⟨gb359, 3, none⟩) (Kd.R_far (p := ⟨gb359, 2, none⟩) (Kd.R_far (p := ⟨gb359, 1, none⟩) (Kd.R_far (p := ⟨gb359, 0, none⟩) (Kd.R_types HO357.out BK359.out (by decide)) (fun _ hk => hk.2) (.int .i64 t352)) (fun _ hk => hk.2) (.int .i64 t353)) (fun _ hk => hk.2) (.int .i64 t354)) (fun _ hk => hk.2) (.slice Ao36 t355.length co36)) (fun _ hk => hk.1)⟩
                    have n5_ : Aside0 (((((w32.setCell ⟨gb359, 0, none⟩ (.int .i64 t352)).setCell ⟨gb359, 1, none⟩ (.int .i64 t353)).setCell ⟨gb359, 2, none⟩ (.int .i64 t354)).setCell ⟨gb359, 3, none⟩ (.slice Ao36 t355.length co36)).heap[gb359]? = some (.cells #[.int .i64 t352, .int .i64 t353, .int .i64 t354, .slice Ao36 t355.length co36] 30 (0, 0))) := ⟨by (with_reducible repeat (first | refine blk_drewN ?_ _ | refine blk_drew ?_ | refine blk_alloc ?_ _)); refine blk_put (cs := #[.int .i64 t352, .int .i64 t353, .int .i64 t354, .slice none 0 0]) ?_ 3 _ rfl; (with_reducible repeat (first | refine blk_drewN ?_ _ | refine blk_drew ?_ | refine blk_alloc ?_ _)); refine blk_put (cs := #[.int .i64 t352, .int .i64 t353, .int .i64 0, .slice none 0 0]) ?_ 2 _ rfl; (with_reducible repeat (first | refine blk_drewN ?_ _ | refine blk_drew ?_ | refine blk_alloc ?_ _)); refine blk_put (cs := #[.int .i64 t352, .int .i64 0, .int .i64 0, .slice none 0 0]) ?_ 1 _ rfl; (with_reducible repeat (first | refine blk_drewN ?_ _ | refine blk_drew ?_ | refine blk_alloc ?_ _)); refine blk_put (cs := #[.int .i64 0, .int .i64 0, .int .i64 0, .slice none 0 0]) ?_ 0 _ rfl; (with_reducible repeat (first | refine blk_drewN ?_ _ | refine blk_drew ?_ | refine blk_alloc ?_ _)); exact BK359.out⟩
                    have n6_ : Aside0 (Below w.heap.size w ((((w32.setCell ⟨gb359, 0, none⟩ (.int .i64 t352)).setCell ⟨gb359, 1, none⟩ (.int .i64 t353)).setCell ⟨gb359, 2, none⟩ (.int .i64 t354)).setCell ⟨gb359, 3, none⟩ (.slice Ao36 t355.length co36))) := ⟨by repeat (first | (with_reducible first | exact HB.out | apply below_alloc | apply pw_below_drewN | apply below_drew1 | refine below_set ?_ GE359.out) | exact HB.out)⟩
                    (try clear HO_0)
                    (try clear HO_3)
                    (try clear HL350_3)
                    (try clear HL351_3)
                    (try clear HO357)
                    (try clear BK359)
                    (try clear HB)
                    generalize ((((w32.setCell ⟨gb359, 0, none⟩ (.int .i64 t352)).setCell ⟨gb359, 1, none⟩ (.int .i64 t353)).setCell ⟨gb359, 2, none⟩ (.int .i64 t354)).setCell ⟨gb359, 3, none⟩ (.slice Ao36 t355.length co36)) = w38 at n0_ n1_ n2_ n3_ n4_ n5_ n6_ ⊢
                    have HO_0 := n0_
                    have HO_3 := n1_
                    have HL350_3 := n2_
                    have HL351_3 := n3_
                    have HO357 := n4_
                    have BK359 := n5_
                    have HB := n6_
                    clear n0_ n1_ n2_ n3_ n4_ n5_ n6_
                    have p361 : 0 ≤ (x4_1 : Int) := of_decide_eq_true (by first | (with_reducible assumption) | assumption)
                    have q361 : x4_1 < (x0_1.length : Int) := of_decide_eq_true (by first | (with_reducible assumption) | assumption)
                    obtain ⟨ad361, A361_3, c361_3, e361, hx361_0, hx361_1, hx361_2, hx361_3, hl361_3, hi361_3⟩ := at_T30 (Kd.V_reads' HO_0.out).2.2 x4_1 p361 q361
                    obtain rfl : ad351 = ad361 := (by injection e361)
                    obtain ⟨ce361, hce361, hMe361, hcc361⟩ := Kd.V_get HO_0.out z30 x4_1 p361 (by first | exact q361 | exact of_decide_eq_true (by first | (with_reducible assumption) | assumption) | (have e_ := (Kd.V_reads' HO_0.out).1; omega))
                    obtain ⟨ua361_3, uc361_3, rfl, ul361_3, ge361_3⟩ := k30_openF hMe361
                    have hv361_3 := hcc361 3 _ rfl
                    rw [add_field _ _ 3 (by omega)] at hv361_3
                    replace hv361_3 := Option.some.inj (hv361_3.symm.trans hx361_3)
                    injection hv361_3 with hva_ hvn_ hvc_
                    rw [hva_] at ge361_3
                    rw [hvc_] at ul361_3
                    have HL361_3 := Aside0.mk (show Kd.V (Kd.int .i64) 3 _ w.heap.size _ _ ((rd_T30 x0_1 x4_1).f3) from Kd.V_mk ul361_3 ge361_3)
                    clear hva_ hvn_ hvc_ ge361_3 ul361_3
                    clear hcc361 hce361
                    have HR361_3 := Aside0.mk hi361_3
                    have HC361_3 := Aside0.mk hl361_3
                    clear hi361_3 hl361_3
                    replace p361 := eq_true p361
                    replace q361 := eq_true q361
                    try go_wp2_with (first | ((with_reducible refine gate_builtin (b := .append) (xs := #[.tmp 38, .tmp 43]) rfl ?_); at_builtin; refine Kd.N_append k30 (w0 := w) w.heap.size rfl (.tmp 38) (.tmp 43) 22 30 (.agg #[(.int .i64 0), (.int .i64 0), (.int .i64 0), (.slice none 0 0)]) 48 rfl Try.underlying22 info30 rfl (by decide) (by omega) (.slice (some ad350) x3_1.length co28) x3_1 (⟨(rd_T30 x0_1 x4_1).f0, (rd_T30 x0_1 x4_1).f1, (rd_T30 x0_1 x4_1).f2, (rd_T30 x0_1 x4_1).f3⟩ : S30) [.int .i64 ((rd_T30 x0_1 x4_1).f0), .int .i64 ((rd_T30 x0_1 x4_1).f1), .int .i64 ((rd_T30 x0_1 x4_1).f2), .slice A361_3 ((rd_T30 x0_1 x4_1).f3).length c361_3] (fun k_ => (P0_ k_ ∨ w.heap.size ≤ k_) ∧ some k_ ≠ (.slice Ao36 t355.length co36 : Value).ownBlock ∧ k_ ≠ gb359) (fun k_ => ((fun k_ => (P0_ k_ ∨ w.heap.size ≤ k_) ∧ some k_ ≠ (.slice Ao36 t355.length co36 : Value).ownBlock ∧ k_ ≠ gb359)) k_ ∧ some k_ ≠ (.slice (some ad350) x3_1.length co28 : Value).ownBlock) rfl rfl ?aP (fun _ hk => hk) ?aF ?aO ?aB ?aS ?aL ?_; (case aP => exact (k30_mkF _ _ (⟨(rd_T30 x0_1 x4_1).f0, (rd_T30 x0_1 x4_1).f1, (rd_T30 x0_1 x4_1).f2, (rd_T30 x0_1 x4_1).f3⟩ : S30) (Kd.V_reads' (Kd.V_mono (ok' := (fun k_ => ((fun k_ => (P0_ k_ ∨ w.heap.size ≤ k_) ∧ some k_ ≠ (.slice Ao36 t355.length co36 : Value).ownBlock ∧ k_ ≠ gb359)) k_ ∧ some k_ ≠ (.slice (some ad350) x3_1.length co28 : Value).ownBlock)) (HL361_3.out) (fun k_ hk => ⟨⟨hk.1, ⟨hk.2.2.1, hk.2.2.2⟩⟩, hk.2.1⟩))).2.1 (Kd.V_F (Kd.V_mono (ok' := (fun k_ => ((fun k_ => (P0_ k_ ∨ w.heap.size ≤ k_) ∧ some k_ ≠ (.slice Ao36 t355.length co36 : Value).ownBlock ∧ k_ ≠ gb359)) k_ ∧ some k_ ≠ (.slice (some ad350) x3_1.length co28 : Value).ownBlock)) (HL361_3.out) (fun k_ hk => ⟨⟨hk.1, ⟨hk.2.2.1, hk.2.2.2⟩⟩, hk.2.1⟩))))); (case aB => exact (by repeat (first | (with_reducible first | exact HB.out | apply below_alloc | apply pw_below_drewN | apply below_drew1 | refine below_set ?_ GE359.out) | exact HB.out))); (case aF => exact (fun k_ hk => ⟨(.inr (Nat.le_trans (below_size (by repeat (first | (with_reducible first | exact HB.out | apply below_alloc | apply pw_below_drewN | apply below_drew1 | refine below_set ?_ GE359.out) | exact HB.out))) hk)), Kd.fresh' (Kd.R_lt (by (with_reducible repeat (first | apply Kd.R_alloc | apply Kd.R_drewN | apply Kd.R_drew)); exact HO357.out)) k_ hk, Kd.freshB (g := gb359) (o := .cells #[.int .i64 t352, .int .i64 t353, .int .i64 t354, .slice Ao36 t355.length co36] 30 (0, 0)) (by (with_reducible repeat (first | refine blk_drewN ?_ _ | refine blk_drew ?_ | refine blk_alloc ?_ _)); exact BK359.out) k_ hk⟩)); (case aO => exact (by (with_reducible repeat (first | apply Kd.N_alloc | apply Kd.N_drewN | apply Kd.N_drew)); exact HO_3.out)); (case aS => exact (below_size (by repeat (first | (with_reducible first | exact HB.out | apply below_alloc | apply pw_below_drewN | apply below_drew1 | refine below_set ?_ GE359.out) | exact HB.out)))); (case aL => have := LMc27.out; omega); intro v363 w39 ho hb hg hat; rw [← Ny362.out] at ho; have n0_ := Aside0.mk (Kd.V_afterv (ok := (fun k_ => (P0_ k_ ∨ w.heap.size ≤ k_) ∧ some k_ ≠ (.slice Ao36 t355.length co36 : Value).ownBlock ∧ k_ ≠ gb359)) (by (with_reducible repeat (first | apply Kd.V_alloc | apply Kd.V_drewN | apply Kd.V_drew)); exact Kd.V_mono HO_0.out (fun _ hk => ⟨⟨hk.1, ⟨hk.2.2.1, hk.2.2.2⟩⟩, hk.2.1⟩)) hg hat); have n1_ := Aside0.mk (Kd.V_afterv (ok := (fun k_ => (P0_ k_ ∨ w.heap.size ≤ k_) ∧ some k_ ≠ (.slice Ao36 t355.length co36 : Value).ownBlock ∧ k_ ≠ gb359)) (by (with_reducible repeat (first | apply Kd.V_alloc | apply Kd.V_drewN | apply Kd.V_drew)); exact Kd.V_mono HL350_3.out (fun _ hk => ⟨⟨hk.1, ⟨hk.2.2.1, hk.2.2.2⟩⟩, hk.2.1⟩)) hg hat); have n2_ := Aside0.mk (Kd.V_afterv (ok := (fun k_ => (P0_ k_ ∨ w.heap.size ≤ k_) ∧ some k_ ≠ (.slice Ao36 t355.length co36 : Value).ownBlock ∧ k_ ≠ gb359)) (by (with_reducible repeat (first | apply Kd.V_alloc | apply Kd.V_drewN | apply Kd.V_drew)); exact Kd.V_mono HL351_3.out (fun _ hk => ⟨⟨hk.1, ⟨hk.2.2.1, hk.2.2.2⟩⟩, hk.2.1⟩)) hg hat); have n3_ := Aside0.mk (Kd.R_over' (by (with_reducible repeat (first | apply Kd.R_alloc | apply Kd.R_drewN | apply Kd.R_drew)); exact HO357.out) (Kd.N_typed (by (with_reducible repeat (first | apply Kd.N_alloc | apply Kd.N_drewN | apply Kd.N_drew)); exact HO_3.out)) (by decide) hg); have n4_ := Aside0.mk (blk_grown (g := gb359) (o := .cells #[.int .i64 t352, .int .i64 t353, .int .i64 t354, .slice Ao36 t355.length co36] 30 (0, 0)) (by (with_reducible repeat (first | refine blk_drewN ?_ _ | refine blk_drew ?_ | refine blk_alloc ?_ _)); exact BK359.out) hg (Kd.N_away HO_3.out (fun _ hk => hk.2.2))); have n5_ := Aside0.mk (Kd.V_afterv (ok := (fun k_ => (P0_ k_ ∨ w.heap.size ≤ k_) ∧ some k_ ≠ (.slice Ao36 t355.length co36 : Value).ownBlock ∧ k_ ≠ gb359)) (by (with_reducible repeat (first | apply Kd.V_alloc | apply Kd.V_drewN | apply Kd.V_drew)); exact Kd.V_mono HL361_3.out (fun _ hk => ⟨⟨hk.1, ⟨hk.2.2.1, hk.2.2.2⟩⟩, hk.2.1⟩)) hg hat); have n6_ := Aside0.mk (hb); have n7_ := Aside0.mk (ho); clear HO_0; clear HL350_3; clear HL351_3; clear HO357; clear BK359; clear HL361_3; clear HB; clear HO_3; have HO_0 := n0_; have HL350_3 := n1_; have HL351_3 := n2_; have HO357 := n3_; have BK359 := n4_; have HL361_3 := n5_; have HB := n6_; have HO364 := n7_; clear n0_ n1_ n2_ n3_ n4_ n5_ n6_ n7_; clear ho hb hg hat))
                    (try simp only [← hl0_1])
                    go_roundg k1
                    case measure => have := HK1.out; omega
                    case rel => exact ⟨(x0_1), (y362), (wrap64 (x4_1 + 1)), (by first | rfl | (simp; done) | (simp [*]; done)), H', ⟨by have := HK1.out; omega⟩, ⟨by (try simp only [hl0_1]); (with_reducible repeat (first | apply Kd.V_alloc | apply Kd.V_drewN | apply Kd.V_drew)); exact Kd.V_mono HO_0.out (fun _ hk => ⟨hk.1.1, hk.2⟩)⟩, ⟨by (try simp only [hl0_1]); (with_reducible repeat (first | apply Kd.N_alloc | apply Kd.N_drewN | apply Kd.N_drew)); exact Kd.N_mono HO364.out (fun _ hk => hk.1)⟩, ⟨by repeat (first | (with_reducible first | exact HB.out | apply below_alloc | apply pw_below_drewN | apply below_drew1 | refine below_set ?_ GE359.out) | exact HB.out)⟩⟩
                  · rw [if_neg c27] at H
                    exact absurd H (by simp)
              · rw [if_neg c9] at H
                exact absurd H (by simp)
            · rw [if_neg c8] at H
              exact absurd H (by simp)
          · rw [if_neg c7] at H
            exact absurd H (by simp)
        · rw [if_neg c5] at H
          have c5b0 : decide (0 < (x3_1.length : Int)) = false := decide_eq_false c5
          have c5b1 : decide (0 < x3_1.length) = false := decide_eq_false (by omega)
          clear c5
          by_cases c40 : 0 ≤ x4_1
          · rw [if_pos c40] at H
            have c40b0 : decide (0 ≤ x4_1) = true := decide_eq_true c40
            clear c40
            by_cases c41 : x3_1.length < 2932031007402
            · rw [if_pos c41] at H
              have LMc41 := Aside0.mk c41
              clear c41
              obtain ⟨y366, hy366⟩ : ∃ y_ : List (S30), y_ = (x3_1 ++ [(⟨(rd_T30 x0_1 x4_1).f0, (rd_T30 x0_1 x4_1).f1, (rd_T30 x0_1 x4_1).f2, (rd_T30 x0_1 x4_1).f3⟩ : S30)]) := ⟨_, rfl⟩
              replace H : (juratref27_All.l0 k1 x0_1 y366 (wrap64 (x4_1 + 1))) = some r := by first | (rw [hy366]; with_reducible exact H) | (have H2_ := (Option.bind_some _ _).symm.trans H; rw [hy366]; with_reducible exact H2_) | (have H2_ := (Option.bind_some _ _).symm.trans H; with_reducible exact H2_) | with_reducible exact H | (rw [hy366]; exact H) | exact H
              have Ny366 := Aside0.mk hy366
              clear hy366
              have H' := Aside0.mk H
              clear H
              obtain ⟨Ao42, co42, eo42⟩ := Kd.N_slice HO_3.out
              subst eo42
              have p365 : 0 ≤ (x4_1 : Int) := of_decide_eq_true (by first | (with_reducible assumption) | assumption)
              have q365 : x4_1 < (x0_1.length : Int) := of_decide_eq_true (by first | (with_reducible assumption) | assumption)
              obtain ⟨ad365, A365_3, c365_3, e365, hx365_0, hx365_1, hx365_2, hx365_3, hl365_3, hi365_3⟩ := at_T30 (Kd.V_reads' HO_0.out).2.2 x4_1 p365 q365
              cases e365
              obtain ⟨ce365, hce365, hMe365, hcc365⟩ := Kd.V_get HO_0.out z30 x4_1 p365 (by first | exact q365 | exact of_decide_eq_true (by first | (with_reducible assumption) | assumption) | (have e_ := (Kd.V_reads' HO_0.out).1; omega))
              obtain ⟨ua365_3, uc365_3, rfl, ul365_3, ge365_3⟩ := k30_openF hMe365
              have hv365_3 := hcc365 3 _ rfl
              rw [add_field _ _ 3 (by omega)] at hv365_3
              replace hv365_3 := Option.some.inj (hv365_3.symm.trans hx365_3)
              injection hv365_3 with hva_ hvn_ hvc_
              rw [hva_] at ge365_3
              rw [hvc_] at ul365_3
              have HL365_3 := Aside0.mk (show Kd.V (Kd.int .i64) 3 _ w.heap.size _ _ ((rd_T30 x0_1 x4_1).f3) from Kd.V_mk ul365_3 ge365_3)
              clear hva_ hvn_ hvc_ ge365_3 ul365_3
              clear hcc365 hce365
              have HR365_3 := Aside0.mk hi365_3
              have HC365_3 := Aside0.mk hl365_3
              clear hi365_3 hl365_3
              replace p365 := eq_true p365
              replace q365 := eq_true q365
              go_wp2_with (first | ((with_reducible refine gate_builtin (b := .append) (xs := #[.tmp 38, .tmp 43]) rfl ?_); at_builtin; refine Kd.N_append k30 (w0 := w) w.heap.size rfl (.tmp 38) (.tmp 43) 22 30 (.agg #[(.int .i64 0), (.int .i64 0), (.int .i64 0), (.slice none 0 0)]) 48 rfl Try.underlying22 info30 rfl (by decide) (by omega) (.slice Ao42 x3_1.length co42) x3_1 (⟨(rd_T30 x0_1 x4_1).f0, (rd_T30 x0_1 x4_1).f1, (rd_T30 x0_1 x4_1).f2, (rd_T30 x0_1 x4_1).f3⟩ : S30) [.int .i64 ((rd_T30 x0_1 x4_1).f0), .int .i64 ((rd_T30 x0_1 x4_1).f1), .int .i64 ((rd_T30 x0_1 x4_1).f2), .slice A365_3 ((rd_T30 x0_1 x4_1).f3).length c365_3] (fun k_ => (P0_ k_ ∨ w.heap.size ≤ k_)) (fun k_ => ((fun k_ => (P0_ k_ ∨ w.heap.size ≤ k_))) k_ ∧ some k_ ≠ (.slice Ao42 x3_1.length co42 : Value).ownBlock) rfl rfl ?aP (fun _ hk => hk) ?aF ?aO ?aB ?aS ?aL ?_; (case aP => exact (k30_mkF _ _ (⟨(rd_T30 x0_1 x4_1).f0, (rd_T30 x0_1 x4_1).f1, (rd_T30 x0_1 x4_1).f2, (rd_T30 x0_1 x4_1).f3⟩ : S30) (Kd.V_reads' (Kd.V_mono (ok' := (fun k_ => ((fun k_ => (P0_ k_ ∨ w.heap.size ≤ k_))) k_ ∧ some k_ ≠ (.slice Ao42 x3_1.length co42 : Value).ownBlock)) (HL365_3.out) (fun k_ hk => ⟨hk.1, hk.2⟩))).2.1 (Kd.V_F (Kd.V_mono (ok' := (fun k_ => ((fun k_ => (P0_ k_ ∨ w.heap.size ≤ k_))) k_ ∧ some k_ ≠ (.slice Ao42 x3_1.length co42 : Value).ownBlock)) (HL365_3.out) (fun k_ hk => ⟨hk.1, hk.2⟩))))); (case aB => exact (by repeat (first | (with_reducible first | exact HB.out | apply below_alloc | apply pw_below_drewN | apply below_drew1) | exact HB.out))); (case aF => exact (fun k_ hk => (.inr (Nat.le_trans (below_size (by repeat (first | (with_reducible first | exact HB.out | apply below_alloc | apply pw_below_drewN | apply below_drew1) | exact HB.out))) hk)))); (case aO => exact (by (with_reducible repeat (first | apply Kd.N_alloc | apply Kd.N_drewN | apply Kd.N_drew)); exact HO_3.out)); (case aS => exact (below_size (by repeat (first | (with_reducible first | exact HB.out | apply below_alloc | apply pw_below_drewN | apply below_drew1) | exact HB.out)))); (case aL => have := LMc41.out; omega); intro v367 w43 ho hb hg hat; rw [← Ny366.out] at ho; have n0_ := Aside0.mk (Kd.V_afterv (ok := (fun k_ => (P0_ k_ ∨ w.heap.size ≤ k_))) (by (with_reducible repeat (first | apply Kd.V_alloc | apply Kd.V_drewN | apply Kd.V_drew)); exact HO_0.out) hg hat); have n1_ := Aside0.mk (Kd.V_afterv (ok := (fun k_ => (P0_ k_ ∨ w.heap.size ≤ k_))) (by (with_reducible repeat (first | apply Kd.V_alloc | apply Kd.V_drewN | apply Kd.V_drew)); exact HL365_3.out) hg hat); have n2_ := Aside0.mk (hb); have n3_ := Aside0.mk (ho); clear HO_0; clear HL365_3; clear HB; clear HO_3; have HO_0 := n0_; have HL365_3 := n1_; have HB := n2_; have HO368 := n3_; clear n0_ n1_ n2_ n3_; clear ho hb hg hat))
              (try simp only [← hl0_1])
              go_roundg k1
              case measure => have := HK1.out; omega
              case rel => exact ⟨(x0_1), (y366), (wrap64 (x4_1 + 1)), (by first | rfl | (simp; done) | (simp [*]; done)), H', ⟨by have := HK1.out; omega⟩, ⟨by (try simp only [hl0_1]); (with_reducible repeat (first | apply Kd.V_alloc | apply Kd.V_drewN | apply Kd.V_drew)); exact HO_0.out⟩, ⟨by (try simp only [hl0_1]); (with_reducible repeat (first | apply Kd.N_alloc | apply Kd.N_drewN | apply Kd.N_drew)); exact HO368.out⟩, ⟨by repeat (first | (with_reducible first | exact HB.out | apply below_alloc | apply pw_below_drewN | apply below_drew1) | exact HB.out)⟩⟩
            · rw [if_neg c41] at H
              exact absurd H (by simp)
          · rw [if_neg c40] at H
            exact absurd H (by simp)
      · rw [if_neg c4] at H
        have c4b0 : decide (x4_1 < (x0_1.length : Int)) = false := decide_eq_false c4
        clear c4
        obtain rfl := Option.some.inj H
        go_wp2
        go_ret
        exact ⟨_, by first | rfl | (simp [errW_none, errW_some] <;> rfl) | (simp [*, errW_none, errW_some] <;> rfl), by (with_reducible repeat (first | apply Kd.N_alloc | apply Kd.N_drewN | apply Kd.N_drew)); exact HO_3.out, by repeat (first | (with_reducible first | exact HB.out | apply below_alloc | apply pw_below_drewN | apply below_drew1) | exact HB.out)⟩
end Go.Proofs.Ytejcopppchaneaa.PF
end
section
namespace Go.Proofs.Ytejcopppchaneaa.PF
open Go.RowKit Go.Proofs.YtejcopppchaneaaW.PrintWords Go.Proofs.YtejcopppchaneaaW.PrintLast Go.Proofs.YtejcopppchaneaaW.PrintMore
attribute [local go_sem] max2_int min2_int max_two min_two max_three min_three max_four min_four   -- for this text's walks alone
set_option linter.unusedVariables false
set_option linter.unusedSimpArgs false
def juratref28_Put.l0 : Nat → ByteArray → Int → Int → Int → Int → List Int → Option (ByteArray × Int)
  | 0, _, _, _, _, _, _ => none
  | k + 1, x4, x5, x370000, x370001, x370002, x370003 => if x5 < (x370003.length : Int) then (if x5 = 0 then (if 0 < (x370003.length : Int) then ((juratref02_Put.f k (rd x370003 0)).bind fun t378 => (if x4.size + t378.size ≤ 9223372036854775807 then (juratref28_Put.l0 k (x4 ++ t378) (wrap64 (x5 + 1)) x370000 x370001 x370002 x370003) else (none))) else (none)) else (if 0 ≤ x5 then (if 0 ≤ (wrap64 (x5 - 1)) then (if (wrap64 (x5 - 1)) < (x370003.length : Int) then ((juratref02_Put.f k (wrap64 ((rd x370003 x5) - (rd x370003 (wrap64 (x5 - 1)))))).bind fun t381 => (if x4.size + t381.size ≤ 9223372036854775807 then (juratref28_Put.l0 k (x4 ++ t381) (wrap64 (x5 + 1)) x370000 x370001 x370002 x370003) else (none))) else (none)) else (none)) else (none))) else (some (x4, 0))
def juratref28_Put.f (k : Nat) (a0_0 : Int) (a0_1 : Int) (a0_2 : Int) (l0_3 : List Int) : Option (ByteArray × Int) := (juratref28_Check.f k a0_0 a0_1 a0_2 l0_3).bind fun t370 => (if t370 = true then ((some (([(a0_0) % 256] : List Int) : List Int)).bind fun y371 => (if a0_0 = 4 then ((juratref02_Put.f k (l0_3.length : Int)).bind fun t376 => (if (strOfNums y371).size + t376.size ≤ 9223372036854775807 then (juratref28_Put.l0 k ((strOfNums y371) ++ t376) 0 a0_0 a0_1 a0_2 l0_3) else (none))) else ((juratref02_Put.f k a0_1).bind fun t374 => (if (strOfNums y371).size + t374.size ≤ 9223372036854775807 then ((juratref02_Put.f k a0_2).bind fun t375 => (if ((strOfNums y371) ++ t374).size + t375.size ≤ 9223372036854775807 then (some (((strOfNums y371) ++ t374) ++ t375, 0)) else (none))) else (none))))) else (some ((⟨#[]⟩ : ByteArray), 2)))
def juratref28_Put.T5 : Bool × List (List Nat × List Nat) := (true, [([], []), ([], []), ([1], [1]), ([2], [2]), ([0, 3], [0, 3]), ([], []), ([5], [5]), ([6, 3], [6]), ([4, 7], [4, 7]), ([8, 7, 0, 1, 2, 3, 4, 5, 6, 7, 8], [8]), ([9, 0, 1, 2, 3, 4, 5, 6, 7, 8, 9], [])])
def juratref28_Put.B5 : List Nat := [0, 0, 2, 6, 15, 0, 32, 110, 255, 511, 1023]
theorem juratref28_Put.tab5 : rtab .any (opsOf Try.f49 5) = juratref28_Put.T5 := by kernel_rfl
theorem juratref28_Put.bits5 : waitsOk juratref28_Put.T5.2 juratref28_Put.B5 = true := by kernel_rfl
def juratref28_Put.T12 : Bool × List (List Nat × List Nat) := (true, [([], []), ([], []), ([1], [1]), ([], []), ([2, 3], [2, 3]), ([4], [4]), ([], []), ([6], [6]), ([], []), ([8], [8]), ([7, 9], [7, 9]), ([10], [10]), ([5, 11], [5, 11]), ([12], [12]), ([0, 13], [0, 13]), ([14, 13, 0, 1, 2, 3, 4, 5, 6, 7, 8, 9, 10, 11, 12, 13, 14], [0, 14])])
def juratref28_Put.B12 : List Nat := [0, 0, 2, 0, 14, 30, 0, 64, 0, 256, 960, 1984, 4094, 8190, 16383, 32767]
theorem juratref28_Put.tab12 : rtab .any (opsOf Try.f49 12) = juratref28_Put.T12 := by kernel_rfl
theorem juratref28_Put.bits12 : waitsOk juratref28_Put.T12.2 juratref28_Put.B12 = true := by kernel_rfl
set_option maxHeartbeats 8000000 in
set_option maxRecDepth 100000 in
theorem juratref28_Put.calls (k : Nat) (a0_0 : Int) (a0_1 : Int) (a0_2 : Int) (A0_3 : Option Addr) (c0_3 : Nat) (l0_3 : List Int) (r1 : ByteArray) (r2 : Int) (w : World) (hr0_3 : Kd.C (Kd.int .i64) w A0_3 l0_3.length l0_3) (hc0_3 : l0_3.length ≤ c0_3) (h : juratref28_Put.f k a0_0 a0_1 a0_2 l0_3 = some (r1, r2)) :
    Calls Try.prog 49 #[.agg #[.int .i64 a0_0, .int .i64 a0_1, .int .i64 a0_2, .slice A0_3 l0_3.length c0_3]] w fun e w' => e = .returned (.tuple #[.string r1, .int .i64 r2]) ∧ Below w.heap.size w w' := by
  have hu30 := Try.underlying30
  have HR0_3 := Aside0.mk hr0_3
  have HC0_3 := Aside0.mk hc0_3
  clear hr0_3 hc0_3
  have HB := Aside0.mk (Below.refl w.heap.size w)
  have H : ((juratref28_Check.f k a0_0 a0_1 a0_2 l0_3).bind fun t370 => (if t370 = true then ((some (([(a0_0) % 256] : List Int) : List Int)).bind fun y371 => (if a0_0 = 4 then ((juratref02_Put.f k (l0_3.length : Int)).bind fun t376 => (if (strOfNums y371).size + t376.size ≤ 9223372036854775807 then (juratref28_Put.l0 k ((strOfNums y371) ++ t376) 0 a0_0 a0_1 a0_2 l0_3) else (none))) else ((juratref02_Put.f k a0_1).bind fun t374 => (if (strOfNums y371).size + t374.size ≤ 9223372036854775807 then ((juratref02_Put.f k a0_2).bind fun t375 => (if ((strOfNums y371) ++ t374).size + t375.size ≤ 9223372036854775807 then (some (((strOfNums y371) ++ t374) ++ t375, 0)) else (none))) else (none))))) else (some ((⟨#[]⟩ : ByteArray), 2)))) = some (r1, r2) := h
  clear h
  replace H := Option.bind_eq_some_iff.mp H
  obtain ⟨t370, A20, H⟩ := H
  replace H : (if t370 = true then ((some (([(a0_0) % 256] : List Int) : List Int)).bind fun y371 => (if a0_0 = 4 then ((juratref02_Put.f k (l0_3.length : Int)).bind fun t376 => (if (strOfNums y371).size + t376.size ≤ 9223372036854775807 then (juratref28_Put.l0 k ((strOfNums y371) ++ t376) 0 a0_0 a0_1 a0_2 l0_3) else (none))) else ((juratref02_Put.f k a0_1).bind fun t374 => (if (strOfNums y371).size + t374.size ≤ 9223372036854775807 then ((juratref02_Put.f k a0_2).bind fun t375 => (if ((strOfNums y371) ++ t374).size + t375.size ≤ 9223372036854775807 then (some (((strOfNums y371) ++ t374) ++ t375, 0)) else (none))) else (none))))) else (some ((⟨#[]⟩ : ByteArray), 2))) = some (r1, r2) := H
  have A2 := Aside0.mk A20
  clear A20
  by_cases c3 : t370 = true
  · subst c3
    have H1 : ((some (([(a0_0) % 256] : List Int) : List Int)).bind fun y371 => (if a0_0 = 4 then ((juratref02_Put.f k (l0_3.length : Int)).bind fun t376 => (if (strOfNums y371).size + t376.size ≤ 9223372036854775807 then (juratref28_Put.l0 k ((strOfNums y371) ++ t376) 0 a0_0 a0_1 a0_2 l0_3) else (none))) else ((juratref02_Put.f k a0_1).bind fun t374 => (if (strOfNums y371).size + t374.size ≤ 9223372036854775807 then ((juratref02_Put.f k a0_2).bind fun t375 => (if ((strOfNums y371) ++ t374).size + t375.size ≤ 9223372036854775807 then (some (((strOfNums y371) ++ t374) ++ t375, 0)) else (none))) else (none))))) = some (r1, r2) := by rw [if_pos rfl] at H; exact H
    clear H
    have H := H1
    clear H1
    obtain ⟨y371, hy371⟩ : ∃ y_ : List Int, y_ = (([(a0_0) % 256] : List Int)) := ⟨_, rfl⟩
    replace H : (if a0_0 = 4 then ((juratref02_Put.f k (l0_3.length : Int)).bind fun t376 => (if (strOfNums y371).size + t376.size ≤ 9223372036854775807 then (juratref28_Put.l0 k ((strOfNums y371) ++ t376) 0 a0_0 a0_1 a0_2 l0_3) else (none))) else ((juratref02_Put.f k a0_1).bind fun t374 => (if (strOfNums y371).size + t374.size ≤ 9223372036854775807 then ((juratref02_Put.f k a0_2).bind fun t375 => (if ((strOfNums y371) ++ t374).size + t375.size ≤ 9223372036854775807 then (some (((strOfNums y371) ++ t374) ++ t375, 0)) else (none))) else (none)))) = some (r1, r2) := by first | (rw [hy371]; with_reducible exact H) | (have H2_ := (Option.bind_some _ _).symm.trans H; rw [hy371]; with_reducible exact H2_) | (have H2_ := (Option.bind_some _ _).symm.trans H; with_reducible exact H2_) | with_reducible exact H | (rw [hy371]; exact H) | exact H
    have Ny371 := Aside0.mk hy371
    clear hy371
    by_cases c4 : a0_0 = 4
    · rw [if_pos c4] at H
      have c4b0 : (a0_0 == 4) = true := beq_iff_eq.mpr c4
      have c4b1 : (a0_0 != 4) = false := bne_eq_false_iff_eq.mpr c4
      clear c4
      replace H := Option.bind_eq_some_iff.mp H
      obtain ⟨t376, A50, H⟩ := H
      replace H : (if (strOfNums y371).size + t376.size ≤ 9223372036854775807 then (juratref28_Put.l0 k ((strOfNums y371) ++ t376) 0 a0_0 a0_1 a0_2 l0_3) else (none)) = some (r1, r2) := H
      have A5 := Aside0.mk A50
      clear A50
      by_cases c6 : (strOfNums y371).size + t376.size ≤ 9223372036854775807
      · rw [if_pos c6] at H
        have c6b0 := eq_true c6
        have c6b1 : decide ((strOfNums y371).size + t376.size ≤ 9223372036854775807) = true := decide_eq_true c6
        try have c6b2 : (9223372036854775807 < (strOfNums y371).size + t376.size) = False := eq_false (Nat.not_lt.2 c6)
        have H' := Aside0.mk H
        clear H
        go_enter Try.func49, Try.ntmps49
        go_wp2_with (first | ((with_reducible refine gate_dst (N := 1) rfl ?_); refine box_event ?hg (N := 1) ?hd (cs := #[.int .i64 a0_0, .int .i64 a0_1, .int .i64 a0_2, .slice A0_3 l0_3.length c0_3]) (t := 30) ?hr ?_; (case hd => rfl); (case hg => rfl); (case hr => first | (go_simp; done) | (go_simp; rfl)); intro gb369 hg w7 hbox hb; have n0_ := Aside0.mk (below_step (by repeat (first | (with_reducible first | exact HB.out | apply below_alloc | apply pw_below_drewN | apply below_drew1) | exact HB.out)) hb); have n1_ := Aside0.mk (hbox); have n2_ := Aside0.mk ((by rw [hg]; exact (below_size (by repeat (first | (with_reducible first | exact HB.out | apply below_alloc | apply pw_below_drewN | apply below_drew1) | exact HB.out))) : w.heap.size ≤ gb369)); have n3_ := Aside0.mk ((by rw [hg]; exact (below_size (by repeat (first | (with_reducible first | exact HB.out | apply below_alloc | apply pw_below_drewN | apply below_drew1) | exact HB.out))) : w.heap.size ≤ gb369)); clear HB; have HB := n0_; have BK369 := n1_; have GW369 := n2_; have GE369 := n3_; clear n0_ n1_ n2_ n3_; clear hb hbox hg; have hcz8_0 : w7.cell? ⟨gb369, 0, none⟩ = some (.int .i64 a0_0) := (blk_cell BK369.out 0).trans rfl; have hcz8_1 : w7.cell? ⟨gb369, 1, none⟩ = some (.int .i64 a0_1) := (blk_cell BK369.out 1).trans rfl; have hcz8_2 : w7.cell? ⟨gb369, 2, none⟩ = some (.int .i64 a0_2) := (blk_cell BK369.out 2).trans rfl; have hcz8_3 : w7.cell? ⟨gb369, 3, none⟩ = some (.slice A0_3 l0_3.length c0_3) := (blk_cell BK369.out 3).trans rfl; have hfz8_0 := blk_frozen BK369.out 0; have hfz8_1 := blk_frozen BK369.out 1; have hfz8_2 := blk_frozen BK369.out 2; have hfz8_3 := blk_frozen BK369.out 3) | ((with_reducible refine gate_callee (f := 48) rfl ?_); refine goesL_ (some 7) rfl rfl Try.func48 (by kernel_rfl) rfl #[.agg #[.int .i64 a0_0, .int .i64 a0_1, .int .i64 a0_2, .slice A0_3 l0_3.length c0_3]] rfl (by (try simp only [List.map_toArray, List.map_cons, List.map_nil]); first | done | rfl | (simp only [List.length_drop, List.length_take]; rfl)) ?_; (with_reducible refine (juratref28_Check.calls k a0_0 a0_1 a0_2 _ _ l0_3 true _ ?side1 ?side2 A2.out).mono ?_); (case side1 => repeat (first | exact (Kd.C_below HR0_3.out HB.out) | (with_reducible refine Kd.C_alloc ?_ _) | (with_reducible refine Kd.C_drewN ?_ _) | (with_reducible refine Kd.C_drew ?_))); (case side2 => exact HC0_3.out); rintro e w9 ⟨rfl, hb⟩; refine ⟨_, rfl, ?_⟩; have n0_ := Aside0.mk (blk_below (g := gb369) (o := .cells #[.int .i64 a0_0, .int .i64 a0_1, .int .i64 a0_2, .slice A0_3 l0_3.length c0_3] 30 (0, 0)) (by (with_reducible repeat (first | refine blk_drewN ?_ _ | refine blk_drew ?_ | refine blk_alloc ?_ _)); exact BK369.out) hb); have n1_ := Aside0.mk (below_step (by repeat (first | (with_reducible first | exact HB.out | apply below_alloc | apply pw_below_drewN | apply below_drew1 | refine below_set ?_ GE369.out) | exact HB.out)) hb); clear BK369; clear HB; have BK369 := n0_; have HB := n1_; clear n0_ n1_; (try clear hb); (try clear hb2); (try clear hk); (try clear hi); have hcz10_0 : w9.cell? ⟨gb369, 0, none⟩ = some (.int .i64 a0_0) := (blk_cell BK369.out 0).trans rfl; have hcz10_1 : w9.cell? ⟨gb369, 1, none⟩ = some (.int .i64 a0_1) := (blk_cell BK369.out 1).trans rfl; have hcz10_2 : w9.cell? ⟨gb369, 2, none⟩ = some (.int .i64 a0_2) := (blk_cell BK369.out 2).trans rfl; have hcz10_3 : w9.cell? ⟨gb369, 3, none⟩ = some (.slice A0_3 l0_3.length c0_3) := (blk_cell BK369.out 3).trans rfl; have hfz10_0 := blk_frozen BK369.out 0; have hfz10_1 := blk_frozen BK369.out 1; have hfz10_2 := blk_frozen BK369.out 2; have hfz10_3 := blk_frozen BK369.out 3) | ((with_reducible refine gate_dst (N := 12) rfl ?_); refine Kd.R_lit (Kd.int .u8) _ 5 ?hg (N := 12) ?hd (xs := ([(a0_0) % 256] : List Int)) (inner := [.int .u8 ((a0_0) % 256)]) (ok := fun _ => True) (okp := fun _ => True) ?hr ?hp (fun _ hk => hk) trivial (Below.refl _ _) (Nat.le_refl _) (by simp) ?_; (case hd => rfl); (case hg => rfl); (case hr => first | (go_simp; done) | (go_simp; rfl)); (case hp => exact (Reps.one (show Kd.M (Kd.int .u8) _ _ _ ((a0_0) % 256) [.int .u8 ((a0_0) % 256)] from rfl) (Reps.none _ _))); intro v372 w11 ho12 hb hg_ hnew_; clear hg_ hnew_; (first | rw [← Ny371.out] at ho12 | (simp only [Int.reduceToNat] at ho12; rw [← Ny371.out] at ho12)); have n0_ := Aside0.mk (Kd.R_lower ho12 (below_size (by repeat (first | (with_reducible first | exact HB.out | apply below_alloc | apply pw_below_drewN | apply below_drew1 | refine below_set ?_ GE369.out) | exact HB.out)))); have n1_ := Aside0.mk (blk_below (g := gb369) (o := .cells #[.int .i64 a0_0, .int .i64 a0_1, .int .i64 a0_2, .slice A0_3 l0_3.length c0_3] 30 (0, 0)) (by (with_reducible repeat (first | refine blk_drewN ?_ _ | refine blk_drew ?_ | refine blk_alloc ?_ _)); exact BK369.out) hb); have n2_ := Aside0.mk (below_step (by repeat (first | (with_reducible first | exact HB.out | apply below_alloc | apply pw_below_drewN | apply below_drew1 | refine below_set ?_ GE369.out) | exact HB.out)) hb); clear BK369; clear HB; have HO373 := n0_; have BK369 := n1_; have HB := n2_; clear n0_ n1_ n2_; clear hb ho12; have hcv13 := own_string (P := Try.prog) Try.underlying79 Try.underlying5 Try.underlying9 (Kd.own_of_R HO373.out); have hcz14_0 : w11.cell? ⟨gb369, 0, none⟩ = some (.int .i64 a0_0) := (blk_cell BK369.out 0).trans rfl; have hcz14_1 : w11.cell? ⟨gb369, 1, none⟩ = some (.int .i64 a0_1) := (blk_cell BK369.out 1).trans rfl; have hcz14_2 : w11.cell? ⟨gb369, 2, none⟩ = some (.int .i64 a0_2) := (blk_cell BK369.out 2).trans rfl; have hcz14_3 : w11.cell? ⟨gb369, 3, none⟩ = some (.slice A0_3 l0_3.length c0_3) := (blk_cell BK369.out 3).trans rfl; have hfz14_0 := blk_frozen BK369.out 0; have hfz14_1 := blk_frozen BK369.out 1; have hfz14_2 := blk_frozen BK369.out 2; have hfz14_3 := blk_frozen BK369.out 3) | ((with_reducible refine gate_callee (f := 56) rfl ?_); refine goesL_ (some 30) rfl rfl Try.func56 (by kernel_rfl) rfl #[.int .i64 (l0_3.length : Int)] rfl (by (try simp only [List.map_toArray, List.map_cons, List.map_nil]); first | done | rfl | (simp only [List.length_drop, List.length_take]; rfl)) ?_; (with_reducible refine (juratref02_Put.calls k (l0_3.length : Int) t376 _ A5.out).mono ?_); rintro e w15 ⟨rfl, hb⟩; refine ⟨_, rfl, ?_⟩; have n0_ := Aside0.mk (Kd.R_below (by (with_reducible repeat (first | apply Kd.R_alloc | apply Kd.R_drewN | apply Kd.R_drew)); exact HO373.out) hb); have n1_ := Aside0.mk (blk_below (g := gb369) (o := .cells #[.int .i64 a0_0, .int .i64 a0_1, .int .i64 a0_2, .slice A0_3 l0_3.length c0_3] 30 (0, 0)) (by (with_reducible repeat (first | refine blk_drewN ?_ _ | refine blk_drew ?_ | refine blk_alloc ?_ _)); exact BK369.out) hb); have n2_ := Aside0.mk (below_step (by repeat (first | (with_reducible first | exact HB.out | apply below_alloc | apply pw_below_drewN | apply below_drew1 | refine below_set ?_ GE369.out) | exact HB.out)) hb); clear HO373; clear BK369; clear HB; have HO373 := n0_; have BK369 := n1_; have HB := n2_; clear n0_ n1_ n2_; (try clear hb); (try clear hb2); (try clear hk); (try clear hi)))
        go_loopg [4, 5] k (fun kq v4 v5 w' => ∃ (x4_1 : ByteArray) (x5_1 : Int), v4 = .string x4_1 ∧ v5 = .int .i64 x5_1 ∧ Aside0 (juratref28_Put.l0 kq x4_1 x5_1 a0_0 a0_1 a0_2 l0_3 = some (r1, r2)) ∧ Aside0 (kq ≤ k) ∧ Aside0 (w'.heap[gb369]? = some (.cells #[.int .i64 a0_0, .int .i64 a0_1, .int .i64 a0_2, (.slice A0_3 l0_3.length c0_3)] 30 (0, 0))) ∧ Aside0 (Below w.heap.size w w'))
        case atStart => exact ⟨((strOfNums y371) ++ t376), (0), (by first | rfl | (simp; done) | (simp [*]; done)), (by first | rfl | (simp; done) | (simp [*]; done)), H', ⟨Nat.le_refl _⟩, ⟨by (with_reducible repeat (first | refine blk_drewN ?_ _ | refine blk_drew ?_ | refine blk_alloc ?_ _)); exact BK369.out⟩, ⟨by repeat (first | (with_reducible first | exact HB.out | apply below_alloc | apply pw_below_drewN | apply below_drew1 | refine below_set ?_ GE369.out) | exact HB.out)⟩⟩
        case round =>
          clear H'
          try clear hcv1
          try clear p2
          try clear c3
          try clear c4
          try clear c4b0
          try clear c4b1
          try clear c5
          try clear c6
          try clear c6b0
          try clear c6b1
          try clear c6b2
          try clear hcv13
          try clear hcz10_0
          try clear hcz10_1
          try clear hcz10_2
          try clear hcz10_3
          try clear hcz14_0
          try clear hcz14_1
          try clear hcz14_2
          try clear hcz14_3
          try clear hcz8_0
          try clear hcz8_1
          try clear hcz8_2
          try clear hcz8_3
          try clear hfz10_0
          try clear hfz10_1
          try clear hfz10_2
          try clear hfz10_3
          try clear hfz14_0
          try clear hfz14_1
          try clear hfz14_2
          try clear hfz14_3
          try clear hfz8_0
          try clear hfz8_1
          try clear hfz8_2
          try clear hfz8_3
          obtain ⟨x4_1, x5_1, rfl, rfl, HA, HK1, BK369, HB⟩ := hrel
          cases gk with
          | zero => exact absurd HA.out (by simp [juratref28_Put.l0])
          | succ k1 =>
            have H := HA.out
            clear HA
            simp only [juratref28_Put.l0] at H
            by_cases c16 : x5_1 < (l0_3.length : Int)
            · rw [if_pos c16] at H
              have c16b0 : decide (x5_1 < (l0_3.length : Int)) = true := decide_eq_true c16
              clear c16
              by_cases c17 : x5_1 = 0
              · rw [if_pos c17] at H
                have c17b0 : (x5_1 == 0) = true := beq_iff_eq.mpr c17
                have c17b1 : (x5_1 != 0) = false := bne_eq_false_iff_eq.mpr c17
                clear c17
                by_cases c18 : 0 < (l0_3.length : Int)
                · rw [if_pos c18] at H
                  have c18b0 : decide (0 < (l0_3.length : Int)) = true := decide_eq_true c18
                  have c18b1 : decide (0 < l0_3.length) = true := decide_eq_true (by omega)
                  clear c18
                  replace H := Option.bind_eq_some_iff.mp H
                  obtain ⟨t378, A190, H⟩ := H
                  replace H : (if x4_1.size + t378.size ≤ 9223372036854775807 then (juratref28_Put.l0 k1 (x4_1 ++ t378) (wrap64 (x5_1 + 1)) a0_0 a0_1 a0_2 l0_3) else (none)) = some (r1, r2) := H
                  have A19 := Aside0.mk A190
                  clear A190
                  by_cases c20 : x4_1.size + t378.size ≤ 9223372036854775807
                  · rw [if_pos c20] at H
                    have c20b0 := eq_true c20
                    have c20b1 : decide (x4_1.size + t378.size ≤ 9223372036854775807) = true := decide_eq_true c20
                    try have c20b2 : (9223372036854775807 < x4_1.size + t378.size) = False := eq_false (Nat.not_lt.2 c20)
                    have H' := Aside0.mk H
                    clear H
                    have hcz21_0 : wr.cell? ⟨gb369, 0, none⟩ = some (.int .i64 a0_0) := (blk_cell BK369.out 0).trans rfl
                    have hcz21_1 : wr.cell? ⟨gb369, 1, none⟩ = some (.int .i64 a0_1) := (blk_cell BK369.out 1).trans rfl
                    have hcz21_2 : wr.cell? ⟨gb369, 2, none⟩ = some (.int .i64 a0_2) := (blk_cell BK369.out 2).trans rfl
                    have hcz21_3 : wr.cell? ⟨gb369, 3, none⟩ = some (.slice A0_3 l0_3.length c0_3) := (blk_cell BK369.out 3).trans rfl
                    have hfz21_0 := blk_frozen BK369.out 0
                    have hfz21_1 := blk_frozen BK369.out 1
                    have hfz21_2 := blk_frozen BK369.out 2
                    have hfz21_3 := blk_frozen BK369.out 3
                    have p377 : 0 ≤ (0 : Int) := (by omega)
                    have q377 : 0 < (l0_3.length : Int) := of_decide_eq_true (by first | (with_reducible assumption) | assumption)
                    obtain ⟨ad377, e377, hx377_0⟩ := Kd.at_int HR0_3.out 0 p377 q377
                    cases e377
                    have qi377 : (0 < l0_3.length) = True := eq_true (by omega)
                    (try rw [show ((0 : Int)).toNat = 0 from rfl] at hx377_0)
                    (try rw [Addr.add_zero'] at hx377_0)
                    replace hx377_0 := (HB.out.cell (World.block_lt_of_cell? w _ hx377_0)).trans hx377_0
                    replace p377 := eq_true p377
                    replace q377 := eq_true q377
                    go_wp2_with (first | ((with_reducible refine gate_callee (f := 56) rfl ?_); refine goesL_ (some 46) rfl rfl Try.func56 (by kernel_rfl) rfl #[.int .i64 (rd l0_3 0)] rfl (by (try simp only [List.map_toArray, List.map_cons, List.map_nil]); first | done | rfl | (simp only [List.length_drop, List.length_take]; rfl)) ?_; (with_reducible refine (juratref02_Put.calls k1 (rd l0_3 0) t378 _ A19.out).mono ?_); rintro e w22 ⟨rfl, hb⟩; refine ⟨_, rfl, ?_⟩; have n0_ := Aside0.mk (blk_below (g := gb369) (o := .cells #[.int .i64 a0_0, .int .i64 a0_1, .int .i64 a0_2, .slice (some ad377) l0_3.length c0_3] 30 (0, 0)) (by (with_reducible repeat (first | refine blk_drewN ?_ _ | refine blk_drew ?_ | refine blk_alloc ?_ _)); exact BK369.out) hb); have n1_ := Aside0.mk (below_step (by repeat (first | (with_reducible first | exact HB.out | apply below_alloc | apply pw_below_drewN | apply below_drew1 | refine below_set ?_ GE369.out) | exact HB.out)) hb); clear BK369; clear HB; have BK369 := n0_; have HB := n1_; clear n0_ n1_; (try clear hb); (try clear hb2); (try clear hk); (try clear hi)))
                    go_roundg k1
                    case measure => have := HK1.out; omega
                    case rel => exact ⟨(x4_1 ++ t378), (wrap64 (x5_1 + 1)), (by first | rfl | (simp; done) | (simp [*]; done)), (by first | rfl | (simp; done) | (simp [*]; done)), H', ⟨by have := HK1.out; omega⟩, ⟨by (with_reducible repeat (first | refine blk_drewN ?_ _ | refine blk_drew ?_ | refine blk_alloc ?_ _)); exact BK369.out⟩, ⟨by repeat (first | (with_reducible first | exact HB.out | apply below_alloc | apply pw_below_drewN | apply below_drew1 | refine below_set ?_ GE369.out) | exact HB.out)⟩⟩
                  · rw [if_neg c20] at H
                    exact absurd H (by simp)
                · rw [if_neg c18] at H
                  exact absurd H (by simp)
              · rw [if_neg c17] at H
                have c17b0 : (x5_1 == 0) = false := beq_eq_false_iff_ne.mpr c17
                have c17b1 : (x5_1 != 0) = true := bne_iff_ne.mpr c17
                by_cases c23 : 0 ≤ x5_1
                · rw [if_pos c23] at H
                  have c23b0 : decide (0 ≤ x5_1) = true := decide_eq_true c23
                  clear c23
                  obtain ⟨ji24, hji24⟩ : ∃ j_ : Int, (wrap64 (x5_1 - 1)) = j_ := ⟨_, rfl⟩
                  replace H : (if 0 ≤ (ji24) then (if (ji24) < (l0_3.length : Int) then ((juratref02_Put.f k1 (wrap64 ((rd l0_3 x5_1) - (rd l0_3 (ji24))))).bind fun t381 => (if x4_1.size + t381.size ≤ 9223372036854775807 then (juratref28_Put.l0 k1 (x4_1 ++ t381) (wrap64 (x5_1 + 1)) a0_0 a0_1 a0_2 l0_3) else (none))) else (none)) else (none)) = some (r1, r2) := by first | (rw [hji24] at H; exact H) | (simp only [hji24] at H ⊢; exact H)
                  have hji24w : (IntKind.i64.wrap (x5_1 - 1)) = ji24 := (i64_w _).trans hji24
                  by_cases c25 : 0 ≤ (ji24)
                  · rw [if_pos c25] at H
                    have c25b0 : decide (0 ≤ (ji24)) = true := decide_eq_true c25
                    clear c25
                    by_cases c26 : (ji24) < (l0_3.length : Int)
                    · rw [if_pos c26] at H
                      have c26b0 : decide ((ji24) < (l0_3.length : Int)) = true := decide_eq_true c26
                      clear c26
                      replace H := Option.bind_eq_some_iff.mp H
                      obtain ⟨t381, A270, H⟩ := H
                      replace H : (if x4_1.size + t381.size ≤ 9223372036854775807 then (juratref28_Put.l0 k1 (x4_1 ++ t381) (wrap64 (x5_1 + 1)) a0_0 a0_1 a0_2 l0_3) else (none)) = some (r1, r2) := H
                      have A27 := Aside0.mk A270
                      clear A270
                      by_cases c28 : x4_1.size + t381.size ≤ 9223372036854775807
                      · rw [if_pos c28] at H
                        have c28b0 := eq_true c28
                        have c28b1 : decide (x4_1.size + t381.size ≤ 9223372036854775807) = true := decide_eq_true c28
                        try have c28b2 : (9223372036854775807 < x4_1.size + t381.size) = False := eq_false (Nat.not_lt.2 c28)
                        have H' := Aside0.mk H
                        clear H
                        have hcz29_0 : wr.cell? ⟨gb369, 0, none⟩ = some (.int .i64 a0_0) := (blk_cell BK369.out 0).trans rfl
                        have hcz29_1 : wr.cell? ⟨gb369, 1, none⟩ = some (.int .i64 a0_1) := (blk_cell BK369.out 1).trans rfl
                        have hcz29_2 : wr.cell? ⟨gb369, 2, none⟩ = some (.int .i64 a0_2) := (blk_cell BK369.out 2).trans rfl
                        have hcz29_3 : wr.cell? ⟨gb369, 3, none⟩ = some (.slice A0_3 l0_3.length c0_3) := (blk_cell BK369.out 3).trans rfl
                        have hfz29_0 := blk_frozen BK369.out 0
                        have hfz29_1 := blk_frozen BK369.out 1
                        have hfz29_2 := blk_frozen BK369.out 2
                        have hfz29_3 := blk_frozen BK369.out 3
                        try go_wp2
                        (try (rw [drewN_self wr]; generalize hq_ : World.drewN wr _ = wr; have n0_ : Aside0 (wr.heap[gb369]? = some (.cells #[.int .i64 a0_0, .int .i64 a0_1, .int .i64 a0_2, .slice A0_3 l0_3.length c0_3] 30 (0, 0))) := ⟨by rw [← hq_]; exact (by (with_reducible repeat (first | refine blk_drewN ?_ _ | refine blk_drew ?_ | refine blk_alloc ?_ _)); exact BK369.out)⟩; have n1_ : Aside0 (Below w.heap.size w wr) := ⟨by rw [← hq_]; exact (by repeat (first | (with_reducible first | exact HB.out | apply below_alloc | apply pw_below_drewN | apply below_drew1 | refine below_set ?_ GE369.out) | exact HB.out))⟩; clear BK369 HB hq_; have BK369 := n0_; have HB := n1_; clear n0_ n1_))
                        have n0_ := Aside0.mk (blk_drew BK369.out)
                        have n1_ := Aside0.mk (below_drew1 HB.out)
                        clear BK369
                        clear HB
                        have BK369 := n0_
                        have HB := n1_
                        clear n0_ n1_
                        have p379 : 0 ≤ (x5_1 : Int) := of_decide_eq_true (by first | (with_reducible assumption) | assumption)
                        have q379 : x5_1 < (l0_3.length : Int) := of_decide_eq_true (by first | (with_reducible assumption) | assumption)
                        obtain ⟨ad379, e379, hx379_0⟩ := Kd.at_int HR0_3.out x5_1 p379 q379
                        have hw379_0 := hx379_0
                        cases e379
                        replace hx379_0 := (HB.out.cell (World.block_lt_of_cell? w _ hx379_0)).trans hx379_0
                        replace p379 := eq_true p379
                        replace q379 := eq_true q379
                        have p380 : 0 ≤ ((ji24) : Int) := of_decide_eq_true (by first | (with_reducible assumption) | assumption)
                        have q380 : (ji24) < (l0_3.length : Int) := of_decide_eq_true (by first | (with_reducible assumption) | assumption)
                        obtain ⟨ad380, e380, hx380_0⟩ := Kd.at_int HR0_3.out (ji24) p380 q380
                        have hw380_0 := hx380_0
                        obtain rfl : ad379 = ad380 := (by injection e380)
                        replace hx380_0 := (HB.out.cell (World.block_lt_of_cell? w _ hx380_0)).trans hx380_0
                        replace p380 := eq_true p380
                        replace q380 := eq_true q380
                        refine start_ (n := 16) (S := fun w' => w'.cell? ⟨gb369, 0, none⟩ = some (.int .i64 a0_0) ∧ w'.cell? ⟨gb369, 1, none⟩ = some (.int .i64 a0_1) ∧ w'.cell? ⟨gb369, 2, none⟩ = some (.int .i64 a0_2) ∧ w'.cell? ⟨gb369, 3, none⟩ = some (.slice (some ad379) l0_3.length c0_3) ∧ w'.cell? (ad379.add (x5_1).toNat) = some (.int .i64 (rd l0_3 x5_1)) ∧ w'.cell? (ad379.add ((ji24)).toNat) = some (.int .i64 (rd l0_3 (ji24)))) (ds := []) #[false, false, false, false, false, false, false, false, false, false, false, false, false, false, false, false] (by kernel_rfl) rfl rfl ⟨(blk_cell BK369.out 0).trans rfl, (blk_cell BK369.out 1).trans rfl, (blk_cell BK369.out 2).trans rfl, (blk_cell BK369.out 3).trans rfl, ((HB.out.cell (World.block_lt_of_cell? w _ hw379_0)).trans hw379_0), ((HB.out.cell (World.block_lt_of_cell? w _ hw380_0)).trans hw380_0)⟩ (fun hHeld => ?_); refine with_tabW juratref28_Put.tab12 juratref28_Put.bits12 (fun HT_ HW_ => ?_)
                        generalize wr.drew = w30 at BK369 HB hx379_0 hx380_0 hHeld ⊢
                        refine pure_ (i := 0) (N := some 48) (v := ?_) (a' := ?_) #[true, false, false, false, false, false, false, false, false, false, false, false, false, false, false, false] rfl rfl (any_of HT_.out (by kernel_rfl)) (fun _ _ _ h => h) (Or.inl ⟨by rfl, ?_⟩) ?_ ?_
                        rotate_left
                        · intro w'
                          go_simp
                          with_reducible rfl
                        rotate_left
                        · simp only [Act.put, List.setIfInBounds_toArray, List.set_cons_zero, List.set_cons_succ, i64_w, i32_w]
                          rfl
                        refine pure_ (i := 1) (N := some 49) (v := ?_) (a' := ?_) #[true, true, false, false, false, false, false, false, false, false, false, false, false, false, false, false] rfl rfl (any_of HT_.out (by kernel_rfl)) (fun _ _ _ h => h) (Or.inl ⟨by rfl, ?_⟩) ?_ ?_
                        rotate_left
                        · intro w'
                          go_simp
                          with_reducible rfl
                        rotate_left
                        · simp only [Act.put, List.setIfInBounds_toArray, List.set_cons_zero, List.set_cons_succ, i64_w, i32_w]
                          rfl
                        refine pure_ (i := 3) (N := some 51) (v := ?_) (a' := ?_) #[true, true, false, true, false, false, false, false, false, false, false, false, false, false, false, false] rfl rfl (any_of HT_.out (by kernel_rfl)) (fun _ _ _ h => h) (Or.inl ⟨by rfl, ?_⟩) ?_ ?_
                        rotate_left
                        · intro w'
                          go_simp
                          with_reducible rfl
                        rotate_left
                        · simp only [Act.put, List.setIfInBounds_toArray, List.set_cons_zero, List.set_cons_succ, i64_w, i32_w]
                          rfl
                        refine pure_ (i := 6) (N := some 54) (v := ?_) (a' := ?_) #[true, true, false, true, false, false, true, false, false, false, false, false, false, false, false, false] rfl rfl (any_of HT_.out (by kernel_rfl)) (fun _ _ _ h => h) (Or.inl ⟨by rfl, ?_⟩) ?_ ?_
                        rotate_left
                        · intro w'
                          go_simp
                          with_reducible rfl
                        rotate_left
                        · simp only [Act.put, List.setIfInBounds_toArray, List.set_cons_zero, List.set_cons_succ, i64_w, i32_w]
                          rfl
                        refine pure_ (i := 8) (N := some 56) (v := ?_) (a' := ?_) #[true, true, false, true, false, false, true, false, true, false, false, false, false, false, false, false] rfl rfl (any_of HT_.out (by kernel_rfl)) (fun _ _ _ h => h) (Or.inl ⟨by rfl, ?_⟩) ?_ ?_
                        rotate_left
                        · intro w'
                          go_simp
                          with_reducible rfl
                        rotate_left
                        · simp only [Act.put, List.setIfInBounds_toArray, List.set_cons_zero, List.set_cons_succ, i64_w, i32_w]
                          rfl
                        refine pure_ (i := 9) (N := some 57) (v := ?_) (a' := ?_) #[true, true, false, true, false, false, true, false, true, true, false, false, false, false, false, false] rfl rfl (any_of HT_.out (by kernel_rfl)) (fun _ _ _ h => h) (Or.inl ⟨by rfl, ?_⟩) ?_ ?_
                        rotate_left
                        · intro w'
                          go_simp
                          with_reducible rfl
                        rotate_left
                        · simp only [Act.put, List.setIfInBounds_toArray, List.set_cons_zero, List.set_cons_succ, i64_w, i32_w]
                          rfl
                        refine take_ (i := 2) (N := some 50) (v := ?_) (a' := ?_) #[true, true, true, true, false, false, true, false, true, true, false, false, false, false, false, false] rfl rfl (take_ofW HT_.out HW_.out (by kernel_rfl)) (fun _ _ _ h => h) (Or.inl ⟨by rfl, ?_⟩) hHeld ?_ ?_
                        rotate_left
                        · rintro w' ⟨s0, s1, s2, s3, s4, s5⟩
                          go_simp
                          with_reducible rfl
                        rotate_left
                        · simp only [Act.put, List.setIfInBounds_toArray, List.set_cons_zero, List.set_cons_succ, i64_w, i32_w]
                          rfl
                        refine pure_ (i := 4) (N := some 52) (v := ?_) (a' := ?_) #[true, true, true, true, true, false, true, false, true, true, false, false, false, false, false, false] rfl rfl (any_of HT_.out (by kernel_rfl)) (fun _ _ _ h => h) (Or.inl ⟨by rfl, ?_⟩) ?_ ?_
                        rotate_left
                        · intro w'
                          go_simp
                          with_reducible rfl
                        rotate_left
                        · simp only [Act.put, List.setIfInBounds_toArray, List.set_cons_zero, List.set_cons_succ, i64_w, i32_w]
                          rfl
                        refine take_ (i := 5) (N := some 53) (v := ?_) (a' := ?_) #[true, true, true, true, true, true, true, false, true, true, false, false, false, false, false, false] rfl rfl (take_ofW HT_.out HW_.out (by kernel_rfl)) (fun _ _ _ h => h) (Or.inl ⟨by rfl, ?_⟩) hHeld ?_ ?_
                        rotate_left
                        · rintro w' ⟨s0, s1, s2, s3, s4, s5⟩
                          go_simp
                          with_reducible rfl
                        rotate_left
                        · simp only [Act.put, List.setIfInBounds_toArray, List.set_cons_zero, List.set_cons_succ, i64_w, i32_w]
                          rfl
                        refine take_ (i := 7) (N := some 55) (v := ?_) (a' := ?_) #[true, true, true, true, true, true, true, true, true, true, false, false, false, false, false, false] rfl rfl (take_ofW HT_.out HW_.out (by kernel_rfl)) (fun _ _ _ h => h) (Or.inl ⟨by rfl, ?_⟩) hHeld ?_ ?_
                        rotate_left
                        · rintro w' ⟨s0, s1, s2, s3, s4, s5⟩
                          go_simp
                          with_reducible rfl
                        rotate_left
                        · simp only [Act.put, List.setIfInBounds_toArray, List.set_cons_zero, List.set_cons_succ, i64_w, i32_w]
                          rfl
                        refine pure_ (i := 10) (N := some 58) (v := ?_) (a' := ?_) #[true, true, true, true, true, true, true, true, true, true, true, false, false, false, false, false] rfl rfl (any_of HT_.out (by kernel_rfl)) (fun _ _ _ h => h) (Or.inl ⟨by rfl, ?_⟩) ?_ ?_
                        rotate_left
                        · intro w'
                          go_simp
                          with_reducible rfl
                        rotate_left
                        · simp only [Act.put, List.setIfInBounds_toArray, List.set_cons_zero, List.set_cons_succ, i64_w, i32_w]
                          rfl
                        refine take_ (i := 11) (N := some 59) (v := ?_) (a' := ?_) #[true, true, true, true, true, true, true, true, true, true, true, true, false, false, false, false] rfl rfl (take_ofW HT_.out HW_.out (by kernel_rfl)) (fun _ _ _ h => h) (Or.inl ⟨by rfl, ?_⟩) hHeld ?_ ?_
                        rotate_left
                        · rintro w' ⟨s0, s1, s2, s3, s4, s5⟩
                          go_simp
                          with_reducible rfl
                        rotate_left
                        · simp only [Act.put, List.setIfInBounds_toArray, List.set_cons_zero, List.set_cons_succ, i64_w, i32_w]
                          rfl
                        refine pure_ (i := 12) (N := some 60) (v := ?_) (a' := ?_) #[true, true, true, true, true, true, true, true, true, true, true, true, true, false, false, false] rfl rfl (any_of HT_.out (by kernel_rfl)) (fun _ _ _ h => h) (Or.inl ⟨by rfl, ?_⟩) ?_ ?_
                        rotate_left
                        · intro w'
                          go_simp
                          with_reducible rfl
                        rotate_left
                        · simp only [Act.put, List.setIfInBounds_toArray, List.set_cons_zero, List.set_cons_succ, i64_w, i32_w]
                          rfl
                        refine one_ (i := 13) (N := some 61) #[true, true, true, true, true, true, true, true, true, true, true, true, true, true, false, false] rfl rfl (one_of HT_.out (by kernel_rfl)) (by decide) (fun K hK => ?_)
                        refine goes_ Try.func56 (by kernel_rfl) rfl #[.int .i64 (wrap64 ((rd l0_3 x5_1) - (rd l0_3 (ji24))))] (by rfl) rfl rfl (by (try simp only [List.map_toArray, List.map_cons, List.map_nil]); first | done | (simp only [hji24]; rfl) | rfl | (simp only [List.length_drop, List.length_take]; rfl)) ?_
                        with_reducible refine (juratref02_Put.calls k1 (wrap64 ((rd l0_3 x5_1) - (rd l0_3 (ji24)))) t381 _ A27.out).mono ?_
                        rintro e w31 ⟨rfl, hb⟩
                        refine ⟨_, rfl, ?_⟩
                        have n0_ := Aside0.mk (blk_below (g := gb369) (o := .cells #[.int .i64 a0_0, .int .i64 a0_1, .int .i64 a0_2, .slice (some ad379) l0_3.length c0_3] 30 (0, 0)) (by (with_reducible repeat (first | refine blk_drewN ?_ _ | refine blk_drew ?_ | refine blk_alloc ?_ _)); exact BK369.out) hb)
                        have n1_ := Aside0.mk (below_step (by repeat (first | (with_reducible first | exact HB.out | apply below_alloc | apply pw_below_drewN | apply below_drew1 | refine below_set ?_ GE369.out) | exact HB.out)) hb)
                        clear BK369
                        clear HB
                        have BK369 := n0_
                        have HB := n1_
                        clear n0_ n1_
                        (try clear hb)
                        (try clear hb2)
                        (try clear hk)
                        (try clear hi)
                        refine hK.out _ _ ⟨(blk_cell BK369.out 0).trans rfl, (blk_cell BK369.out 1).trans rfl, (blk_cell BK369.out 2).trans rfl, (blk_cell BK369.out 3).trans rfl, ((HB.out.cell (World.block_lt_of_cell? w _ hw379_0)).trans hw379_0), ((HB.out.cell (World.block_lt_of_cell? w _ hw380_0)).trans hw380_0)⟩ (fun hHeld => ?_)
                        clear hK K
                        refine norm_ (a' := ?_) ?_ ?_
                        rotate_left
                        · show Act.put _ (some 61) _ = _
                          simp only [Act.put, List.setIfInBounds_toArray, List.set_cons_zero, List.set_cons_succ, i64_w, i32_w]
                          rfl
                        refine pure_ (i := 14) (N := some 62) (v := ?_) (a' := ?_) #[true, true, true, true, true, true, true, true, true, true, true, true, true, true, true, false] rfl rfl (any_of HT_.out (by kernel_rfl)) (fun _ _ _ h => h) (Or.inl ⟨by rfl, ?_⟩) ?_ ?_
                        rotate_left
                        · intro w'
                          go_simp
                          with_reducible rfl
                        rotate_left
                        · simp only [Act.put, List.setIfInBounds_toArray, List.set_cons_zero, List.set_cons_succ, i64_w, i32_w]
                          rfl
                        refine pure_ (i := 15) (N := some 4) (v := ?_) (a' := ?_) #[true, true, true, true, true, true, true, true, true, true, true, true, true, true, true, true] rfl rfl (any_of HT_.out (by kernel_rfl)) (fun _ _ _ h => h) (Or.inl ⟨by rfl, ?_⟩) ?_ ?_
                        rotate_left
                        · intro w'
                          go_simp
                          with_reducible rfl
                        rotate_left
                        · simp only [Act.put, List.setIfInBounds_toArray, List.set_cons_zero, List.set_cons_succ, i64_w, i32_w]
                          rfl
                        refine done_ (done_of HT_.out (by kernel_rfl)) ?_
                        try go_wp2
                        go_roundg k1
                        case measure => have := HK1.out; omega
                        case rel => exact ⟨(x4_1 ++ t381), (wrap64 (x5_1 + 1)), (by first | rfl | (simp; done) | (simp [*]; done)), (by first | rfl | (simp; done) | (simp [*]; done)), H', ⟨by have := HK1.out; omega⟩, ⟨by (with_reducible repeat (first | refine blk_drewN ?_ _ | refine blk_drew ?_ | refine blk_alloc ?_ _)); exact BK369.out⟩, ⟨by repeat (first | (with_reducible first | exact HB.out | apply below_alloc | apply pw_below_drewN | apply below_drew1 | refine below_set ?_ GE369.out) | exact HB.out)⟩⟩
                      · rw [if_neg c28] at H
                        exact absurd H (by simp)
                    · rw [if_neg c26] at H
                      exact absurd H (by simp)
                  · rw [if_neg c25] at H
                    exact absurd H (by simp)
                · rw [if_neg c23] at H
                  exact absurd H (by simp)
            · rw [if_neg c16] at H
              have c16b0 : decide (x5_1 < (l0_3.length : Int)) = false := decide_eq_false c16
              clear c16
              simp only [Option.some.injEq, Prod.mk.injEq] at H
              obtain ⟨rfl, rfl⟩ := H
              have hcz32_0 : wr.cell? ⟨gb369, 0, none⟩ = some (.int .i64 a0_0) := (blk_cell BK369.out 0).trans rfl
              have hcz32_1 : wr.cell? ⟨gb369, 1, none⟩ = some (.int .i64 a0_1) := (blk_cell BK369.out 1).trans rfl
              have hcz32_2 : wr.cell? ⟨gb369, 2, none⟩ = some (.int .i64 a0_2) := (blk_cell BK369.out 2).trans rfl
              have hcz32_3 : wr.cell? ⟨gb369, 3, none⟩ = some (.slice A0_3 l0_3.length c0_3) := (blk_cell BK369.out 3).trans rfl
              have hfz32_0 := blk_frozen BK369.out 0
              have hfz32_1 := blk_frozen BK369.out 1
              have hfz32_2 := blk_frozen BK369.out 2
              have hfz32_3 := blk_frozen BK369.out 3
              go_wp2
              go_ret2
              exact ⟨by first | rfl | (simp [errW_none, errW_some] <;> rfl) | (simp [*, errW_none, errW_some] <;> rfl), by repeat (first | (with_reducible first | exact HB.out | apply below_alloc | apply pw_below_drewN | apply below_drew1 | refine below_set ?_ GE369.out) | exact HB.out)⟩
      · rw [if_neg c6] at H
        exact absurd H (by simp)
    · rw [if_neg c4] at H
      have c4b0 : (a0_0 == 4) = false := beq_eq_false_iff_ne.mpr c4
      have c4b1 : (a0_0 != 4) = true := bne_iff_ne.mpr c4
      replace H := Option.bind_eq_some_iff.mp H
      obtain ⟨t374, A330, H⟩ := H
      replace H : (if (strOfNums y371).size + t374.size ≤ 9223372036854775807 then ((juratref02_Put.f k a0_2).bind fun t375 => (if ((strOfNums y371) ++ t374).size + t375.size ≤ 9223372036854775807 then (some (((strOfNums y371) ++ t374) ++ t375, 0)) else (none))) else (none)) = some (r1, r2) := H
      have A33 := Aside0.mk A330
      clear A330
      by_cases c34 : (strOfNums y371).size + t374.size ≤ 9223372036854775807
      · rw [if_pos c34] at H
        have c34b0 := eq_true c34
        have c34b1 : decide ((strOfNums y371).size + t374.size ≤ 9223372036854775807) = true := decide_eq_true c34
        try have c34b2 : (9223372036854775807 < (strOfNums y371).size + t374.size) = False := eq_false (Nat.not_lt.2 c34)
        replace H := Option.bind_eq_some_iff.mp H
        obtain ⟨t375, A350, H⟩ := H
        replace H : (if ((strOfNums y371) ++ t374).size + t375.size ≤ 9223372036854775807 then (some (((strOfNums y371) ++ t374) ++ t375, 0)) else (none)) = some (r1, r2) := H
        have A35 := Aside0.mk A350
        clear A350
        by_cases c36 : ((strOfNums y371) ++ t374).size + t375.size ≤ 9223372036854775807
        · rw [if_pos c36] at H
          have c36b0 := eq_true c36
          have c36b1 : decide (((strOfNums y371) ++ t374).size + t375.size ≤ 9223372036854775807) = true := decide_eq_true c36
          try have c36b2 : (9223372036854775807 < ((strOfNums y371) ++ t374).size + t375.size) = False := eq_false (Nat.not_lt.2 c36)
          (try (have c36n0 := c36b0; simp only [ByteArray.size_extract, ByteArray.size_append, Nat.min_self, Nat.sub_zero] at c36n0))
          (try (have c36n1 := c36b1; simp only [ByteArray.size_extract, ByteArray.size_append, Nat.min_self, Nat.sub_zero] at c36n1))
          (try (have c36n2 := c36b2; simp only [ByteArray.size_extract, ByteArray.size_append, Nat.min_self, Nat.sub_zero] at c36n2))
          (try (have c36n3 := c36b3; simp only [ByteArray.size_extract, ByteArray.size_append, Nat.min_self, Nat.sub_zero] at c36n3))
          simp only [Option.some.injEq, Prod.mk.injEq] at H
          obtain ⟨rfl, rfl⟩ := H
          go_enter Try.func49, Try.ntmps49
          try go_wp2_with (first | ((with_reducible refine gate_dst (N := 1) rfl ?_); refine box_event ?hg (N := 1) ?hd (cs := #[.int .i64 a0_0, .int .i64 a0_1, .int .i64 a0_2, .slice A0_3 l0_3.length c0_3]) (t := 30) ?hr ?_; (case hd => rfl); (case hg => rfl); (case hr => first | (go_simp; done) | (go_simp; rfl)); intro gb369 hg w37 hbox hb; have n0_ := Aside0.mk (below_step (by repeat (first | (with_reducible first | exact HB.out | apply below_alloc | apply pw_below_drewN | apply below_drew1) | exact HB.out)) hb); have n1_ := Aside0.mk (hbox); have n2_ := Aside0.mk ((by rw [hg]; exact (below_size (by repeat (first | (with_reducible first | exact HB.out | apply below_alloc | apply pw_below_drewN | apply below_drew1) | exact HB.out))) : w.heap.size ≤ gb369)); have n3_ := Aside0.mk ((by rw [hg]; exact (below_size (by repeat (first | (with_reducible first | exact HB.out | apply below_alloc | apply pw_below_drewN | apply below_drew1) | exact HB.out))) : w.heap.size ≤ gb369)); clear HB; have HB := n0_; have BK369 := n1_; have GW369 := n2_; have GE369 := n3_; clear n0_ n1_ n2_ n3_; clear hb hbox hg; have hcz38_0 : w37.cell? ⟨gb369, 0, none⟩ = some (.int .i64 a0_0) := (blk_cell BK369.out 0).trans rfl; have hcz38_1 : w37.cell? ⟨gb369, 1, none⟩ = some (.int .i64 a0_1) := (blk_cell BK369.out 1).trans rfl; have hcz38_2 : w37.cell? ⟨gb369, 2, none⟩ = some (.int .i64 a0_2) := (blk_cell BK369.out 2).trans rfl; have hcz38_3 : w37.cell? ⟨gb369, 3, none⟩ = some (.slice A0_3 l0_3.length c0_3) := (blk_cell BK369.out 3).trans rfl; have hfz38_0 := blk_frozen BK369.out 0; have hfz38_1 := blk_frozen BK369.out 1; have hfz38_2 := blk_frozen BK369.out 2; have hfz38_3 := blk_frozen BK369.out 3) | ((with_reducible refine gate_callee (f := 48) rfl ?_); refine goesL_ (some 7) rfl rfl Try.func48 (by kernel_rfl) rfl #[.agg #[.int .i64 a0_0, .int .i64 a0_1, .int .i64 a0_2, .slice A0_3 l0_3.length c0_3]] rfl (by (try simp only [List.map_toArray, List.map_cons, List.map_nil]); first | done | rfl | (simp only [List.length_drop, List.length_take]; rfl)) ?_; (with_reducible refine (juratref28_Check.calls k a0_0 a0_1 a0_2 _ _ l0_3 true _ ?side1 ?side2 A2.out).mono ?_); (case side1 => repeat (first | exact (Kd.C_below HR0_3.out HB.out) | (with_reducible refine Kd.C_alloc ?_ _) | (with_reducible refine Kd.C_drewN ?_ _) | (with_reducible refine Kd.C_drew ?_))); (case side2 => exact HC0_3.out); rintro e w39 ⟨rfl, hb⟩; refine ⟨_, rfl, ?_⟩; have n0_ := Aside0.mk (blk_below (g := gb369) (o := .cells #[.int .i64 a0_0, .int .i64 a0_1, .int .i64 a0_2, .slice A0_3 l0_3.length c0_3] 30 (0, 0)) (by (with_reducible repeat (first | refine blk_drewN ?_ _ | refine blk_drew ?_ | refine blk_alloc ?_ _)); exact BK369.out) hb); have n1_ := Aside0.mk (below_step (by repeat (first | (with_reducible first | exact HB.out | apply below_alloc | apply pw_below_drewN | apply below_drew1 | refine below_set ?_ GE369.out) | exact HB.out)) hb); clear BK369; clear HB; have BK369 := n0_; have HB := n1_; clear n0_ n1_; (try clear hb); (try clear hb2); (try clear hk); (try clear hi); have hcz40_0 : w39.cell? ⟨gb369, 0, none⟩ = some (.int .i64 a0_0) := (blk_cell BK369.out 0).trans rfl; have hcz40_1 : w39.cell? ⟨gb369, 1, none⟩ = some (.int .i64 a0_1) := (blk_cell BK369.out 1).trans rfl; have hcz40_2 : w39.cell? ⟨gb369, 2, none⟩ = some (.int .i64 a0_2) := (blk_cell BK369.out 2).trans rfl; have hcz40_3 : w39.cell? ⟨gb369, 3, none⟩ = some (.slice A0_3 l0_3.length c0_3) := (blk_cell BK369.out 3).trans rfl; have hfz40_0 := blk_frozen BK369.out 0; have hfz40_1 := blk_frozen BK369.out 1; have hfz40_2 := blk_frozen BK369.out 2; have hfz40_3 := blk_frozen BK369.out 3) | ((with_reducible refine gate_dst (N := 12) rfl ?_); refine Kd.R_lit (Kd.int .u8) _ 5 ?hg (N := 12) ?hd (xs := ([(a0_0) % 256] : List Int)) (inner := [.int .u8 ((a0_0) % 256)]) (ok := fun _ => True) (okp := fun _ => True) ?hr ?hp (fun _ hk => hk) trivial (Below.refl _ _) (Nat.le_refl _) (by simp) ?_; (case hd => rfl); (case hg => rfl); (case hr => first | (go_simp; done) | (go_simp; rfl)); (case hp => exact (Reps.one (show Kd.M (Kd.int .u8) _ _ _ ((a0_0) % 256) [.int .u8 ((a0_0) % 256)] from rfl) (Reps.none _ _))); intro v372 w41 ho42 hb hg_ hnew_; clear hg_ hnew_; (first | rw [← Ny371.out] at ho42 | (simp only [Int.reduceToNat] at ho42; rw [← Ny371.out] at ho42)); have n0_ := Aside0.mk (Kd.R_lower ho42 (below_size (by repeat (first | (with_reducible first | exact HB.out | apply below_alloc | apply pw_below_drewN | apply below_drew1 | refine below_set ?_ GE369.out) | exact HB.out)))); have n1_ := Aside0.mk (blk_below (g := gb369) (o := .cells #[.int .i64 a0_0, .int .i64 a0_1, .int .i64 a0_2, .slice A0_3 l0_3.length c0_3] 30 (0, 0)) (by (with_reducible repeat (first | refine blk_drewN ?_ _ | refine blk_drew ?_ | refine blk_alloc ?_ _)); exact BK369.out) hb); have n2_ := Aside0.mk (below_step (by repeat (first | (with_reducible first | exact HB.out | apply below_alloc | apply pw_below_drewN | apply below_drew1 | refine below_set ?_ GE369.out) | exact HB.out)) hb); clear BK369; clear HB; have HO373 := n0_; have BK369 := n1_; have HB := n2_; clear n0_ n1_ n2_; clear hb ho42; have hcv43 := own_string (P := Try.prog) Try.underlying79 Try.underlying5 Try.underlying9 (Kd.own_of_R HO373.out); have hcz44_0 : w41.cell? ⟨gb369, 0, none⟩ = some (.int .i64 a0_0) := (blk_cell BK369.out 0).trans rfl; have hcz44_1 : w41.cell? ⟨gb369, 1, none⟩ = some (.int .i64 a0_1) := (blk_cell BK369.out 1).trans rfl; have hcz44_2 : w41.cell? ⟨gb369, 2, none⟩ = some (.int .i64 a0_2) := (blk_cell BK369.out 2).trans rfl; have hcz44_3 : w41.cell? ⟨gb369, 3, none⟩ = some (.slice A0_3 l0_3.length c0_3) := (blk_cell BK369.out 3).trans rfl; have hfz44_0 := blk_frozen BK369.out 0; have hfz44_1 := blk_frozen BK369.out 1; have hfz44_2 := blk_frozen BK369.out 2; have hfz44_3 := blk_frozen BK369.out 3))
          have n0_ := Aside0.mk (Kd.R_drew HO373.out)
          have n1_ := Aside0.mk (blk_drew BK369.out)
          have n2_ := Aside0.mk (below_drew1 HB.out)
          clear HO373
          clear BK369
          clear HB
          have HO373 := n0_
          have BK369 := n1_
          have HB := n2_
          clear n0_ n1_ n2_
          refine start_ (n := 11) (S := fun w' => w'.cell? ⟨gb369, 0, none⟩ = some (.int .i64 a0_0) ∧ w'.cell? ⟨gb369, 1, none⟩ = some (.int .i64 a0_1) ∧ w'.cell? ⟨gb369, 2, none⟩ = some (.int .i64 a0_2) ∧ w'.cell? ⟨gb369, 3, none⟩ = some (.slice A0_3 l0_3.length c0_3)) (ds := []) #[false, false, false, false, false, false, false, false, false, false, false] (by kernel_rfl) rfl rfl ⟨(blk_cell BK369.out 0).trans rfl, (blk_cell BK369.out 1).trans rfl, (blk_cell BK369.out 2).trans rfl, (blk_cell BK369.out 3).trans rfl⟩ (fun hHeld => ?_); refine with_tabW juratref28_Put.tab5 juratref28_Put.bits5 (fun HT_ HW_ => ?_)
          generalize w41.drew = w45 at HO373 BK369 HB hHeld ⊢
          refine pure_ (i := 0) (N := some 17) (v := ?_) (a' := ?_) #[true, false, false, false, false, false, false, false, false, false, false] rfl rfl (any_of HT_.out (by kernel_rfl)) (fun _ _ _ h => h) (Or.inl ⟨by rfl, ?_⟩) ?_ ?_
          rotate_left
          · intro w'
            go_simp
            with_reducible rfl
          rotate_left
          · simp only [Act.put, List.setIfInBounds_toArray, List.set_cons_zero, List.set_cons_succ, i64_w, i32_w]
            rfl
          refine pure_ (i := 1) (N := some 18) (v := ?_) (a' := ?_) #[true, true, false, false, false, false, false, false, false, false, false] rfl rfl (any_of HT_.out (by kernel_rfl)) (fun _ _ _ h => h) (Or.inl ⟨by rfl, ?_⟩) ?_ ?_
          rotate_left
          · intro w'
            go_simp
            with_reducible rfl
          rotate_left
          · simp only [Act.put, List.setIfInBounds_toArray, List.set_cons_zero, List.set_cons_succ, i64_w, i32_w]
            rfl
          refine pure_ (i := 5) (N := some 22) (v := ?_) (a' := ?_) #[true, true, false, false, false, true, false, false, false, false, false] rfl rfl (any_of HT_.out (by kernel_rfl)) (fun _ _ _ h => h) (Or.inl ⟨by rfl, ?_⟩) ?_ ?_
          rotate_left
          · intro w'
            go_simp
            with_reducible rfl
          rotate_left
          · simp only [Act.put, List.setIfInBounds_toArray, List.set_cons_zero, List.set_cons_succ, i64_w, i32_w]
            rfl
          refine take_ (i := 2) (N := some 19) (v := ?_) (a' := ?_) #[true, true, true, false, false, true, false, false, false, false, false] rfl rfl (take_ofW HT_.out HW_.out (by kernel_rfl)) (fun _ _ _ h => h) (Or.inl ⟨by rfl, ?_⟩) hHeld ?_ ?_
          rotate_left
          · rintro w' ⟨s0, s1, s2, s3⟩
            go_simp
            with_reducible rfl
          rotate_left
          · simp only [Act.put, List.setIfInBounds_toArray, List.set_cons_zero, List.set_cons_succ, i64_w, i32_w]
            rfl
          refine take_ (i := 6) (N := some 23) (v := ?_) (a' := ?_) #[true, true, true, false, false, true, true, false, false, false, false] rfl rfl (take_ofW HT_.out HW_.out (by kernel_rfl)) (fun _ _ _ h => h) (Or.inl ⟨by rfl, ?_⟩) hHeld ?_ ?_
          rotate_left
          · rintro w' ⟨s0, s1, s2, s3⟩
            go_simp
            with_reducible rfl
          rotate_left
          · simp only [Act.put, List.setIfInBounds_toArray, List.set_cons_zero, List.set_cons_succ, i64_w, i32_w]
            rfl
          refine one_ (i := 3) (N := some 20) #[true, true, true, true, false, true, true, false, false, false, false] rfl rfl (one_of HT_.out (by kernel_rfl)) (by decide) (fun K hK => ?_)
          refine goes_ Try.func56 (by kernel_rfl) rfl #[.int .i64 a0_1] (by rfl) rfl rfl (by (try simp only [List.map_toArray, List.map_cons, List.map_nil]); first | done | rfl | (simp only [List.length_drop, List.length_take]; rfl)) ?_
          with_reducible refine (juratref02_Put.calls k a0_1 t374 _ A33.out).mono ?_
          rintro e w46 ⟨rfl, hb⟩
          refine ⟨_, rfl, ?_⟩
          have n0_ := Aside0.mk (Kd.R_below (by (with_reducible repeat (first | apply Kd.R_alloc | apply Kd.R_drewN | apply Kd.R_drew)); exact HO373.out) hb)
          have n1_ := Aside0.mk (blk_below (g := gb369) (o := .cells #[.int .i64 a0_0, .int .i64 a0_1, .int .i64 a0_2, .slice A0_3 l0_3.length c0_3] 30 (0, 0)) (by (with_reducible repeat (first | refine blk_drewN ?_ _ | refine blk_drew ?_ | refine blk_alloc ?_ _)); exact BK369.out) hb)
          have n2_ := Aside0.mk (below_step (by repeat (first | (with_reducible first | exact HB.out | apply below_alloc | apply pw_below_drewN | apply below_drew1 | refine below_set ?_ GE369.out) | exact HB.out)) hb)
          clear HO373
          clear BK369
          clear HB
          have HO373 := n0_
          have BK369 := n1_
          have HB := n2_
          clear n0_ n1_ n2_
          (try clear hb)
          (try clear hb2)
          (try clear hk)
          (try clear hi)
          refine hK.out _ _ ⟨(blk_cell BK369.out 0).trans rfl, (blk_cell BK369.out 1).trans rfl, (blk_cell BK369.out 2).trans rfl, (blk_cell BK369.out 3).trans rfl⟩ (fun hHeld => ?_)
          clear hK K
          refine norm_ (a' := ?_) ?_ ?_
          rotate_left
          · show Act.put _ (some 20) _ = _
            simp only [Act.put, List.setIfInBounds_toArray, List.set_cons_zero, List.set_cons_succ, i64_w, i32_w]
            rfl
          refine pure_ (i := 4) (N := some 21) (v := ?_) (a' := ?_) #[true, true, true, true, true, true, true, false, false, false, false] rfl rfl (any_of HT_.out (by kernel_rfl)) (fun _ _ _ h => h) (Or.inl ⟨by rfl, ?_⟩) ?_ ?_
          rotate_left
          · intro w'
            go_simp
            with_reducible rfl
          rotate_left
          · simp only [Act.put, List.setIfInBounds_toArray, List.set_cons_zero, List.set_cons_succ, i64_w, i32_w]
            rfl
          refine one_ (i := 7) (N := some 24) #[true, true, true, true, true, true, true, true, false, false, false] rfl rfl (one_of HT_.out (by kernel_rfl)) (by decide) (fun K hK => ?_)
          refine goes_ Try.func56 (by kernel_rfl) rfl #[.int .i64 a0_2] (by rfl) rfl rfl (by (try simp only [List.map_toArray, List.map_cons, List.map_nil]); first | done | rfl | (simp only [List.length_drop, List.length_take]; rfl)) ?_
          with_reducible refine (juratref02_Put.calls k a0_2 t375 _ A35.out).mono ?_
          rintro e w47 ⟨rfl, hb⟩
          refine ⟨_, rfl, ?_⟩
          have n0_ := Aside0.mk (Kd.R_below (by (with_reducible repeat (first | apply Kd.R_alloc | apply Kd.R_drewN | apply Kd.R_drew)); exact HO373.out) hb)
          have n1_ := Aside0.mk (blk_below (g := gb369) (o := .cells #[.int .i64 a0_0, .int .i64 a0_1, .int .i64 a0_2, .slice A0_3 l0_3.length c0_3] 30 (0, 0)) (by (with_reducible repeat (first | refine blk_drewN ?_ _ | refine blk_drew ?_ | refine blk_alloc ?_ _)); exact BK369.out) hb)
          have n2_ := Aside0.mk (below_step (by repeat (first | (with_reducible first | exact HB.out | apply below_alloc | apply pw_below_drewN | apply below_drew1 | refine below_set ?_ GE369.out) | exact HB.out)) hb)
          clear HO373
          clear BK369
          clear HB
          have HO373 := n0_
          have BK369 := n1_
          have HB := n2_
          clear n0_ n1_ n2_
          (try clear hb)
          (try clear hb2)
          (try clear hk)
          (try clear hi)
          refine hK.out _ _ ⟨(blk_cell BK369.out 0).trans rfl, (blk_cell BK369.out 1).trans rfl, (blk_cell BK369.out 2).trans rfl, (blk_cell BK369.out 3).trans rfl⟩ (fun hHeld => ?_)
          clear hK K
          refine norm_ (a' := ?_) ?_ ?_
          rotate_left
          · show Act.put _ (some 24) _ = _
            simp only [Act.put, List.setIfInBounds_toArray, List.set_cons_zero, List.set_cons_succ, i64_w, i32_w]
            rfl
          refine pure_ (i := 8) (N := some 25) (v := ?_) (a' := ?_) #[true, true, true, true, true, true, true, true, true, false, false] rfl rfl (any_of HT_.out (by kernel_rfl)) (fun _ _ _ h => h) (Or.inl ⟨by rfl, ?_⟩) ?_ ?_
          rotate_left
          · intro w'
            go_simp
            with_reducible rfl
          rotate_left
          · simp only [Act.put, List.setIfInBounds_toArray, List.set_cons_zero, List.set_cons_succ, i64_w, i32_w]
            rfl
          refine pure_ (i := 9) (N := some 2) (v := ?_) (a' := ?_) #[true, true, true, true, true, true, true, true, true, true, false] rfl rfl (any_of HT_.out (by kernel_rfl)) (fun _ _ _ h => h) (Or.inl ⟨by rfl, ?_⟩) ?_ ?_
          rotate_left
          · intro w'
            go_simp
            with_reducible rfl
          rotate_left
          · simp only [Act.put, List.setIfInBounds_toArray, List.set_cons_zero, List.set_cons_succ, i64_w, i32_w]
            rfl
          refine pure_ (i := 10) (N := some 3) (v := ?_) (a' := ?_) #[true, true, true, true, true, true, true, true, true, true, true] rfl rfl (any_of HT_.out (by kernel_rfl)) (fun _ _ _ h => h) (Or.inl ⟨by rfl, ?_⟩) ?_ ?_
          rotate_left
          · intro w'
            go_simp
            with_reducible rfl
          rotate_left
          · simp only [Act.put, List.setIfInBounds_toArray, List.set_cons_zero, List.set_cons_succ, i64_w, i32_w]
            rfl
          refine done_ (done_of HT_.out (by kernel_rfl)) ?_
          try go_wp2
          go_ret2
          exact ⟨by first | rfl | (simp [errW_none, errW_some] <;> rfl) | (simp [*, errW_none, errW_some] <;> rfl), by repeat (first | (with_reducible first | exact HB.out | apply below_alloc | apply pw_below_drewN | apply below_drew1 | refine below_set ?_ GE369.out) | exact HB.out)⟩
        · rw [if_neg c36] at H
          exact absurd H (by simp)
      · rw [if_neg c34] at H
        exact absurd H (by simp)
  · replace c3 := Bool.eq_false_iff.mpr c3
    subst c3
    have H1 : (some ((⟨#[]⟩ : ByteArray), 2)) = some (r1, r2) := by rw [if_neg (show ¬ (false = true) by decide)] at H; exact H
    clear H
    have H := H1
    clear H1
    simp only [Option.some.injEq, Prod.mk.injEq] at H
    obtain ⟨rfl, rfl⟩ := H
    go_enter Try.func49, Try.ntmps49
    go_wp2_with (first | ((with_reducible refine gate_dst (N := 1) rfl ?_); refine box_event ?hg (N := 1) ?hd (cs := #[.int .i64 a0_0, .int .i64 a0_1, .int .i64 a0_2, .slice A0_3 l0_3.length c0_3]) (t := 30) ?hr ?_; (case hd => rfl); (case hg => rfl); (case hr => first | (go_simp; done) | (go_simp; rfl)); intro gb369 hg w48 hbox hb; have n0_ := Aside0.mk (below_step (by repeat (first | (with_reducible first | exact HB.out | apply below_alloc | apply pw_below_drewN | apply below_drew1) | exact HB.out)) hb); have n1_ := Aside0.mk (hbox); have n2_ := Aside0.mk ((by rw [hg]; exact (below_size (by repeat (first | (with_reducible first | exact HB.out | apply below_alloc | apply pw_below_drewN | apply below_drew1) | exact HB.out))) : w.heap.size ≤ gb369)); have n3_ := Aside0.mk ((by rw [hg]; exact (below_size (by repeat (first | (with_reducible first | exact HB.out | apply below_alloc | apply pw_below_drewN | apply below_drew1) | exact HB.out))) : w.heap.size ≤ gb369)); clear HB; have HB := n0_; have BK369 := n1_; have GW369 := n2_; have GE369 := n3_; clear n0_ n1_ n2_ n3_; clear hb hbox hg; have hcz49_0 : w48.cell? ⟨gb369, 0, none⟩ = some (.int .i64 a0_0) := (blk_cell BK369.out 0).trans rfl; have hcz49_1 : w48.cell? ⟨gb369, 1, none⟩ = some (.int .i64 a0_1) := (blk_cell BK369.out 1).trans rfl; have hcz49_2 : w48.cell? ⟨gb369, 2, none⟩ = some (.int .i64 a0_2) := (blk_cell BK369.out 2).trans rfl; have hcz49_3 : w48.cell? ⟨gb369, 3, none⟩ = some (.slice A0_3 l0_3.length c0_3) := (blk_cell BK369.out 3).trans rfl; have hfz49_0 := blk_frozen BK369.out 0; have hfz49_1 := blk_frozen BK369.out 1; have hfz49_2 := blk_frozen BK369.out 2; have hfz49_3 := blk_frozen BK369.out 3) | ((with_reducible refine gate_callee (f := 48) rfl ?_); refine goesL_ (some 7) rfl rfl Try.func48 (by kernel_rfl) rfl #[.agg #[.int .i64 a0_0, .int .i64 a0_1, .int .i64 a0_2, .slice A0_3 l0_3.length c0_3]] rfl (by (try simp only [List.map_toArray, List.map_cons, List.map_nil]); first | done | rfl | (simp only [List.length_drop, List.length_take]; rfl)) ?_; (with_reducible refine (juratref28_Check.calls k a0_0 a0_1 a0_2 _ _ l0_3 false _ ?side1 ?side2 A2.out).mono ?_); (case side1 => repeat (first | exact (Kd.C_below HR0_3.out HB.out) | (with_reducible refine Kd.C_alloc ?_ _) | (with_reducible refine Kd.C_drewN ?_ _) | (with_reducible refine Kd.C_drew ?_))); (case side2 => exact HC0_3.out); rintro e w50 ⟨rfl, hb⟩; refine ⟨_, rfl, ?_⟩; have n0_ := Aside0.mk (blk_below (g := gb369) (o := .cells #[.int .i64 a0_0, .int .i64 a0_1, .int .i64 a0_2, .slice A0_3 l0_3.length c0_3] 30 (0, 0)) (by (with_reducible repeat (first | refine blk_drewN ?_ _ | refine blk_drew ?_ | refine blk_alloc ?_ _)); exact BK369.out) hb); have n1_ := Aside0.mk (below_step (by repeat (first | (with_reducible first | exact HB.out | apply below_alloc | apply pw_below_drewN | apply below_drew1 | refine below_set ?_ GE369.out) | exact HB.out)) hb); clear BK369; clear HB; have BK369 := n0_; have HB := n1_; clear n0_ n1_; (try clear hb); (try clear hb2); (try clear hk); (try clear hi)))
    go_ret2
    exact ⟨by first | rfl | (simp [errW_none, errW_some] <;> rfl) | (simp [*, errW_none, errW_some] <;> rfl), by repeat (first | (with_reducible first | exact HB.out | apply below_alloc | apply pw_below_drewN | apply below_drew1 | refine below_set ?_ GE369.out) | exact HB.out)⟩
def juratref30_Told.l0 : Nat → List (S30) → ByteArray → Int → Option (ByteArray)
  | 0, _, _, _ => none
  | k + 1, x3, x4, x5 => if x5 < (x3.length : Int) then (if x5 < (wrap64 ((x3.length : Int) - 1)) then (if 0 ≤ x5 then ((juratref28_Put.f k ((rd_T30 x3 x5).f0) ((rd_T30 x3 x5).f1) ((rd_T30 x3 x5).f2) ((rd_T30 x3 x5).f3)).bind fun bt386 => (if x4.size + bt386.1.size ≤ 9223372036854775807 then (juratref30_Told.l0 k x3 (x4 ++ bt386.1) (wrap64 (x5 + 1))) else (none))) else (none)) else (if 0 ≤ x5 then (if ((rd_T30 x3 x5).f0) = 6 then ((juratref28_Put.f k ((rd_T30 x3 x5).f0) ((rd_T30 x3 x5).f1) ((rd_T30 x3 x5).f2) ((rd_T30 x3 x5).f3)).bind fun bt390 => (if x4.size + bt390.1.size ≤ 9223372036854775807 then (juratref30_Told.l0 k x3 (x4 ++ bt390.1) (wrap64 (x5 + 1))) else (none))) else (juratref30_Told.l0 k x3 x4 (wrap64 (x5 + 1)))) else (none))) else (some x4)
def juratref30_Told.f (k : Nat) (l0 : List (S30)) : Option (ByteArray) := (juratref27_All.f k l0).bind fun t382 => (juratref30_Told.l0 k t382 (⟨#[]⟩ : ByteArray) 0)
set_option maxHeartbeats 8000000 in
set_option maxRecDepth 100000 in
theorem juratref30_Told.calls (k : Nat) (A0 : Option Addr) (c0 : Nat) (l0 : List (S30)) (r : ByteArray) (w : World) (hr0 : Kd.C k30 w A0 l0.length l0) (hc0 : l0.length ≤ c0) (h : juratref30_Told.f k l0 = some r) :
    Calls Try.prog 29 #[.slice A0 l0.length c0] w fun e w' => e = .returned (.string r) ∧ Below w.heap.size w w' := by
  have hu30 := Try.underlying30
  have HR0 := Aside0.mk hr0
  have HC0 := Aside0.mk hc0
  clear hr0 hc0
  have HB := Aside0.mk (Below.refl w.heap.size w)
  have H : ((juratref27_All.f k l0).bind fun t382 => (juratref30_Told.l0 k t382 (⟨#[]⟩ : ByteArray) 0)) = some r := h
  clear h
  replace H := Option.bind_eq_some_iff.mp H
  obtain ⟨t382, A20, H⟩ := H
  replace H : (juratref30_Told.l0 k t382 (⟨#[]⟩ : ByteArray) 0) = some r := H
  have A2 := Aside0.mk A20
  clear A20
  have H' := Aside0.mk H
  clear H
  go_enter Try.func29, Try.ntmps29
  go_wp2_with (first | ((with_reducible refine gate_callee (f := 33) rfl ?_); refine goesL_ (some 9) rfl rfl Try.func33 (by kernel_rfl) rfl #[.slice A0 l0.length c0] rfl (by (try simp only [List.map_toArray, List.map_cons, List.map_nil]); first | done | rfl | (simp only [List.length_drop, List.length_take]; rfl)) ?_; (with_reducible refine (juratref27_All.calls k (fun k_ => k_ < w.heap.size) _ _ l0 t382 _ ?side1 A2.out).mono ?_); (case side1 => exact Kd.V_mk HC0.out (Kd.F_below (Kd.C_F k30_heap HR0.out) (by repeat (first | (with_reducible first | exact HB.out | apply below_alloc | apply pw_below_drewN | apply below_drew1) | exact HB.out)))); rintro e w3 ⟨v383, rfl, ho0, hb⟩; refine ⟨_, rfl, ?_⟩; have n0_ := Aside0.mk (Kd.N_lower (Kd.N_mono (ok' := fun k_ => True) ho0 (fun k_ hk_ => trivial)) (below_size (by repeat (first | (with_reducible first | exact HB.out | apply below_alloc | apply pw_below_drewN | apply below_drew1) | exact HB.out)))); have n1_ := Aside0.mk (below_step (by repeat (first | (with_reducible first | exact HB.out | apply below_alloc | apply pw_below_drewN | apply below_drew1) | exact HB.out)) hb); clear HB; have HO384 := n0_; have HB := n1_; clear n0_ n1_; (try clear hb); (try clear hb2); (try clear hk); (try clear hi); (try clear ho0)))
  go_loopg [4, 5] k (fun kq v4 v5 w' => ∃ (x4_1 : ByteArray) (x5_1 : Int), v4 = .string x4_1 ∧ v5 = .int .i64 x5_1 ∧ Aside0 (juratref30_Told.l0 kq t382 x4_1 x5_1 = some r) ∧ Aside0 (kq ≤ k) ∧ Aside0 (Kd.N k30 30 w' w.heap.size (fun _ => True) v383 t382) ∧ Aside0 (Below w.heap.size w w'))
  case atStart => exact ⟨((⟨#[]⟩ : ByteArray)), (0), (by first | rfl | (simp; done) | (simp [*]; done)), (by first | rfl | (simp; done) | (simp [*]; done)), H', ⟨Nat.le_refl _⟩, ⟨by (with_reducible repeat (first | apply Kd.N_alloc | apply Kd.N_drewN | apply Kd.N_drew)); exact HO384.out⟩, ⟨by repeat (first | (with_reducible first | exact HB.out | apply below_alloc | apply pw_below_drewN | apply below_drew1) | exact HB.out)⟩⟩
  case round =>
    clear H'
    try clear c2
    try clear p2
    try clear c3
    obtain ⟨x4_1, x5_1, rfl, rfl, HA, HK1, HO_3, HB⟩ := hrel
    cases gk with
    | zero => exact absurd HA.out (by simp [juratref30_Told.l0])
    | succ k1 =>
      have H := HA.out
      clear HA
      simp only [juratref30_Told.l0] at H
      by_cases c4 : x5_1 < (t382.length : Int)
      · rw [if_pos c4] at H
        have c4b0 : decide (x5_1 < (t382.length : Int)) = true := decide_eq_true c4
        clear c4
        by_cases c5 : x5_1 < (wrap64 ((t382.length : Int) - 1))
        · rw [if_pos c5] at H
          have c5b0 : decide (x5_1 < (wrap64 ((t382.length : Int) - 1))) = true := decide_eq_true c5
          clear c5
          by_cases c6 : 0 ≤ x5_1
          · rw [if_pos c6] at H
            have c6b0 : decide (0 ≤ x5_1) = true := decide_eq_true c6
            clear c6
            replace H := Option.bind_eq_some_iff.mp H
            obtain ⟨⟨t386, t387⟩, A70, H⟩ := H
            replace H : (if x4_1.size + t386.size ≤ 9223372036854775807 then (juratref30_Told.l0 k1 t382 (x4_1 ++ t386) (wrap64 (x5_1 + 1))) else (none)) = some r := H
            have A7 := Aside0.mk A70
            clear A70
            by_cases c8 : x4_1.size + t386.size ≤ 9223372036854775807
            · rw [if_pos c8] at H
              have c8b0 := eq_true c8
              have c8b1 : decide (x4_1.size + t386.size ≤ 9223372036854775807) = true := decide_eq_true c8
              try have c8b2 : (9223372036854775807 < x4_1.size + t386.size) = False := eq_false (Nat.not_lt.2 c8)
              have H' := Aside0.mk H
              clear H
              obtain ⟨Ao9, co9, eo9⟩ := Kd.N_slice HO_3.out
              subst eo9
              have p385 : 0 ≤ (x5_1 : Int) := of_decide_eq_true (by first | (with_reducible assumption) | assumption)
              have q385 : x5_1 < (t382.length : Int) := of_decide_eq_true (by first | (with_reducible assumption) | assumption)
              obtain ⟨ad385, A385_3, c385_3, e385, hx385_0, hx385_1, hx385_2, hx385_3, hl385_3, hi385_3⟩ := at_T30 (Kd.N_reads' HO_3.out).2.2 x5_1 p385 q385
              cases e385
              obtain ⟨ce385, hce385, hMe385, hcc385⟩ := Kd.N_get HO_3.out z30 x5_1 p385 (by first | exact q385 | exact of_decide_eq_true (by first | (with_reducible assumption) | assumption) | (have e_ := (Kd.N_reads' HO_3.out).1; omega))
              obtain ⟨ua385_3, uc385_3, rfl, ul385_3, ge385_3⟩ := k30_openF hMe385
              have hv385_3 := hcc385 3 _ rfl
              rw [add_field _ _ 3 (by omega)] at hv385_3
              replace hv385_3 := Option.some.inj (hv385_3.symm.trans hx385_3)
              injection hv385_3 with hva_ hvn_ hvc_
              rw [hva_] at ge385_3
              rw [hvc_] at ul385_3
              have HL385_3 := Aside0.mk (show Kd.V (Kd.int .i64) 3 _ w.heap.size _ _ ((rd_T30 t382 x5_1).f3) from Kd.V_mk ul385_3 ge385_3)
              clear hva_ hvn_ hvc_ ge385_3 ul385_3
              clear hcc385 hce385
              have HR385_3 := Aside0.mk hi385_3
              have HC385_3 := Aside0.mk hl385_3
              clear hi385_3 hl385_3
              replace p385 := eq_true p385
              replace q385 := eq_true q385
              go_wp2_with (first | ((with_reducible refine gate_callee (f := 49) rfl ?_); refine goesL_ (some 34) rfl rfl Try.func49 (by kernel_rfl) rfl #[.agg #[.int .i64 ((rd_T30 t382 x5_1).f0), .int .i64 ((rd_T30 t382 x5_1).f1), .int .i64 ((rd_T30 t382 x5_1).f2), .slice A385_3 ((rd_T30 t382 x5_1).f3).length c385_3]] rfl (by (try simp only [List.map_toArray, List.map_cons, List.map_nil]); first | done | rfl | (simp only [List.length_drop, List.length_take]; rfl)) ?_; (with_reducible refine (juratref28_Put.calls k1 ((rd_T30 t382 x5_1).f0) ((rd_T30 t382 x5_1).f1) ((rd_T30 t382 x5_1).f2) _ _ ((rd_T30 t382 x5_1).f3) t386 t387 _ ?side1 ?side2 A7.out).mono ?_); (case side1 => repeat (first | exact (by repeat (first | (with_reducible exact HR385_3.out) | (with_reducible refine Kd.C_alloc ?_ _) | (with_reducible refine Kd.C_drewN ?_ _) | (with_reducible refine Kd.C_drew ?_) | exact HR385_3.out)) | (with_reducible refine Kd.C_alloc ?_ _) | (with_reducible refine Kd.C_drewN ?_ _) | (with_reducible refine Kd.C_drew ?_))); (case side2 => exact HC385_3.out); rintro e w10 ⟨rfl, hb⟩; refine ⟨_, rfl, ?_⟩; have n0_ := Aside0.mk (Kd.N_below (by (with_reducible repeat (first | apply Kd.N_alloc | apply Kd.N_drewN | apply Kd.N_drew)); exact HO_3.out) hb); have n1_ := Aside0.mk (Kd.V_below (by (with_reducible repeat (first | apply Kd.V_alloc | apply Kd.V_drewN | apply Kd.V_drew)); exact HL385_3.out) hb); have n2_ := Aside0.mk (Kd.C_below (by repeat (first | (with_reducible exact HR385_3.out) | (with_reducible refine Kd.C_alloc ?_ _) | (with_reducible refine Kd.C_drewN ?_ _) | (with_reducible refine Kd.C_drew ?_) | exact HR385_3.out)) hb); have n3_ := Aside0.mk (below_step (by repeat (first | (with_reducible first | exact HB.out | apply below_alloc | apply pw_below_drewN | apply below_drew1) | exact HB.out)) hb); clear HO_3; clear HL385_3; clear HR385_3; clear HB; have HO_3 := n0_; have HL385_3 := n1_; have HR385_3 := n2_; have HB := n3_; clear n0_ n1_ n2_ n3_; (try clear hb); (try clear hb2); (try clear hk); (try clear hi)))
              go_roundg k1
              case measure => have := HK1.out; omega
              case rel => exact ⟨(x4_1 ++ t386), (wrap64 (x5_1 + 1)), (by first | rfl | (simp; done) | (simp [*]; done)), (by first | rfl | (simp; done) | (simp [*]; done)), H', ⟨by have := HK1.out; omega⟩, ⟨by (with_reducible repeat (first | apply Kd.N_alloc | apply Kd.N_drewN | apply Kd.N_drew)); exact HO_3.out⟩, ⟨by repeat (first | (with_reducible first | exact HB.out | apply below_alloc | apply pw_below_drewN | apply below_drew1) | exact HB.out)⟩⟩
            · rw [if_neg c8] at H
              exact absurd H (by simp)
          · rw [if_neg c6] at H
            exact absurd H (by simp)
        · rw [if_neg c5] at H
          have c5b0 : decide (x5_1 < (wrap64 ((t382.length : Int) - 1))) = false := decide_eq_false c5
          clear c5
          by_cases c11 : 0 ≤ x5_1
          · rw [if_pos c11] at H
            have c11b0 : decide (0 ≤ x5_1) = true := decide_eq_true c11
            clear c11
            by_cases c12 : ((rd_T30 t382 x5_1).f0) = 6
            · rw [if_pos c12] at H
              have c12b0 : (((rd_T30 t382 x5_1).f0) == 6) = true := beq_iff_eq.mpr c12
              have c12b1 : (((rd_T30 t382 x5_1).f0) != 6) = false := bne_eq_false_iff_eq.mpr c12
              clear c12
              replace H := Option.bind_eq_some_iff.mp H
              obtain ⟨⟨t390, t391⟩, A130, H⟩ := H
              replace H : (if x4_1.size + t390.size ≤ 9223372036854775807 then (juratref30_Told.l0 k1 t382 (x4_1 ++ t390) (wrap64 (x5_1 + 1))) else (none)) = some r := H
              have A13 := Aside0.mk A130
              clear A130
              by_cases c14 : x4_1.size + t390.size ≤ 9223372036854775807
              · rw [if_pos c14] at H
                have c14b0 := eq_true c14
                have c14b1 : decide (x4_1.size + t390.size ≤ 9223372036854775807) = true := decide_eq_true c14
                try have c14b2 : (9223372036854775807 < x4_1.size + t390.size) = False := eq_false (Nat.not_lt.2 c14)
                have H' := Aside0.mk H
                clear H
                obtain ⟨Ao15, co15, eo15⟩ := Kd.N_slice HO_3.out
                subst eo15
                have p388 : 0 ≤ (x5_1 : Int) := of_decide_eq_true (by first | (with_reducible assumption) | assumption)
                have q388 : x5_1 < (t382.length : Int) := of_decide_eq_true (by first | (with_reducible assumption) | assumption)
                obtain ⟨ad388, A388_3, c388_3, e388, hx388_0, hx388_1, hx388_2, hx388_3, hl388_3, hi388_3⟩ := at_T30 (Kd.N_reads' HO_3.out).2.2 x5_1 p388 q388
                cases e388
                obtain ⟨ce388, hce388, hMe388, hcc388⟩ := Kd.N_get HO_3.out z30 x5_1 p388 (by first | exact q388 | exact of_decide_eq_true (by first | (with_reducible assumption) | assumption) | (have e_ := (Kd.N_reads' HO_3.out).1; omega))
                obtain ⟨ua388_3, uc388_3, rfl, ul388_3, ge388_3⟩ := k30_openF hMe388
                have hv388_3 := hcc388 3 _ rfl
                rw [add_field _ _ 3 (by omega)] at hv388_3
                replace hv388_3 := Option.some.inj (hv388_3.symm.trans hx388_3)
                injection hv388_3 with hva_ hvn_ hvc_
                rw [hva_] at ge388_3
                rw [hvc_] at ul388_3
                have HL388_3 := Aside0.mk (show Kd.V (Kd.int .i64) 3 _ w.heap.size _ _ ((rd_T30 t382 x5_1).f3) from Kd.V_mk ul388_3 ge388_3)
                clear hva_ hvn_ hvc_ ge388_3 ul388_3
                clear hcc388 hce388
                have HR388_3 := Aside0.mk hi388_3
                have HC388_3 := Aside0.mk hl388_3
                clear hi388_3 hl388_3
                replace p388 := eq_true p388
                replace q388 := eq_true q388
                have p389 : 0 ≤ (x5_1 : Int) := of_decide_eq_true (by first | (with_reducible assumption) | assumption)
                have q389 : x5_1 < (t382.length : Int) := of_decide_eq_true (by first | (with_reducible assumption) | assumption)
                obtain ⟨ad389, A389_3, c389_3, e389, hx389_0, hx389_1, hx389_2, hx389_3, hl389_3, hi389_3⟩ := at_T30 (Kd.N_reads' HO_3.out).2.2 x5_1 p389 q389
                obtain rfl : ad388 = ad389 := (by injection e389)
                obtain ⟨ce389, hce389, hMe389, hcc389⟩ := Kd.N_get HO_3.out z30 x5_1 p389 (by first | exact q389 | exact of_decide_eq_true (by first | (with_reducible assumption) | assumption) | (have e_ := (Kd.N_reads' HO_3.out).1; omega))
                obtain ⟨ua389_3, uc389_3, rfl, ul389_3, ge389_3⟩ := k30_openF hMe389
                have hv389_3 := hcc389 3 _ rfl
                rw [add_field _ _ 3 (by omega)] at hv389_3
                replace hv389_3 := Option.some.inj (hv389_3.symm.trans hx389_3)
                injection hv389_3 with hva_ hvn_ hvc_
                rw [hva_] at ge389_3
                rw [hvc_] at ul389_3
                have HL389_3 := Aside0.mk (show Kd.V (Kd.int .i64) 3 _ w.heap.size _ _ ((rd_T30 t382 x5_1).f3) from Kd.V_mk ul389_3 ge389_3)
                clear hva_ hvn_ hvc_ ge389_3 ul389_3
                clear hcc389 hce389
                have HR389_3 := Aside0.mk hi389_3
                have HC389_3 := Aside0.mk hl389_3
                clear hi389_3 hl389_3
                replace p389 := eq_true p389
                replace q389 := eq_true q389
                have ea_ := Option.some.inj (hx388_3.symm.trans hx389_3)
                injection ea_ with ea_ en_ ec_
                subst ea_
                subst ec_
                clear en_
                go_wp2_with (first | ((with_reducible refine gate_callee (f := 49) rfl ?_); refine goesL_ (some 34) rfl rfl Try.func49 (by kernel_rfl) rfl #[.agg #[.int .i64 ((rd_T30 t382 x5_1).f0), .int .i64 ((rd_T30 t382 x5_1).f1), .int .i64 ((rd_T30 t382 x5_1).f2), .slice A388_3 ((rd_T30 t382 x5_1).f3).length c388_3]] rfl (by (try simp only [List.map_toArray, List.map_cons, List.map_nil]); first | done | rfl | (simp only [List.length_drop, List.length_take]; rfl)) ?_; (with_reducible refine (juratref28_Put.calls k1 ((rd_T30 t382 x5_1).f0) ((rd_T30 t382 x5_1).f1) ((rd_T30 t382 x5_1).f2) _ _ ((rd_T30 t382 x5_1).f3) t390 t391 _ ?side1 ?side2 A13.out).mono ?_); (case side1 => repeat (first | exact (by repeat (first | (with_reducible exact HR389_3.out) | (with_reducible refine Kd.C_alloc ?_ _) | (with_reducible refine Kd.C_drewN ?_ _) | (with_reducible refine Kd.C_drew ?_) | exact HR389_3.out)) | (with_reducible refine Kd.C_alloc ?_ _) | (with_reducible refine Kd.C_drewN ?_ _) | (with_reducible refine Kd.C_drew ?_))); (case side2 => exact HC389_3.out); rintro e w16 ⟨rfl, hb⟩; refine ⟨_, rfl, ?_⟩; have n0_ := Aside0.mk (Kd.N_below (by (with_reducible repeat (first | apply Kd.N_alloc | apply Kd.N_drewN | apply Kd.N_drew)); exact HO_3.out) hb); have n1_ := Aside0.mk (Kd.V_below (by (with_reducible repeat (first | apply Kd.V_alloc | apply Kd.V_drewN | apply Kd.V_drew)); exact HL388_3.out) hb); have n2_ := Aside0.mk (Kd.V_below (by (with_reducible repeat (first | apply Kd.V_alloc | apply Kd.V_drewN | apply Kd.V_drew)); exact HL389_3.out) hb); have n3_ := Aside0.mk (Kd.C_below (by repeat (first | (with_reducible exact HR388_3.out) | (with_reducible refine Kd.C_alloc ?_ _) | (with_reducible refine Kd.C_drewN ?_ _) | (with_reducible refine Kd.C_drew ?_) | exact HR388_3.out)) hb); have n4_ := Aside0.mk (Kd.C_below (by repeat (first | (with_reducible exact HR389_3.out) | (with_reducible refine Kd.C_alloc ?_ _) | (with_reducible refine Kd.C_drewN ?_ _) | (with_reducible refine Kd.C_drew ?_) | exact HR389_3.out)) hb); have n5_ := Aside0.mk (below_step (by repeat (first | (with_reducible first | exact HB.out | apply below_alloc | apply pw_below_drewN | apply below_drew1) | exact HB.out)) hb); clear HO_3; clear HL388_3; clear HL389_3; clear HR388_3; clear HR389_3; clear HB; have HO_3 := n0_; have HL388_3 := n1_; have HL389_3 := n2_; have HR388_3 := n3_; have HR389_3 := n4_; have HB := n5_; clear n0_ n1_ n2_ n3_ n4_ n5_; (try clear hb); (try clear hb2); (try clear hk); (try clear hi)))
                go_roundg k1
                case measure => have := HK1.out; omega
                case rel => exact ⟨(x4_1 ++ t390), (wrap64 (x5_1 + 1)), (by first | rfl | (simp; done) | (simp [*]; done)), (by first | rfl | (simp; done) | (simp [*]; done)), H', ⟨by have := HK1.out; omega⟩, ⟨by (with_reducible repeat (first | apply Kd.N_alloc | apply Kd.N_drewN | apply Kd.N_drew)); exact HO_3.out⟩, ⟨by repeat (first | (with_reducible first | exact HB.out | apply below_alloc | apply pw_below_drewN | apply below_drew1) | exact HB.out)⟩⟩
              · rw [if_neg c14] at H
                exact absurd H (by simp)
            · rw [if_neg c12] at H
              have c12b0 : (((rd_T30 t382 x5_1).f0) == 6) = false := beq_eq_false_iff_ne.mpr c12
              have c12b1 : (((rd_T30 t382 x5_1).f0) != 6) = true := bne_iff_ne.mpr c12
              have H' := Aside0.mk H
              clear H
              obtain ⟨Ao17, co17, eo17⟩ := Kd.N_slice HO_3.out
              subst eo17
              have p388 : 0 ≤ (x5_1 : Int) := of_decide_eq_true (by first | (with_reducible assumption) | assumption)
              have q388 : x5_1 < (t382.length : Int) := of_decide_eq_true (by first | (with_reducible assumption) | assumption)
              obtain ⟨ad388, A388_3, c388_3, e388, hx388_0, hx388_1, hx388_2, hx388_3, hl388_3, hi388_3⟩ := at_T30 (Kd.N_reads' HO_3.out).2.2 x5_1 p388 q388
              cases e388
              obtain ⟨ce388, hce388, hMe388, hcc388⟩ := Kd.N_get HO_3.out z30 x5_1 p388 (by first | exact q388 | exact of_decide_eq_true (by first | (with_reducible assumption) | assumption) | (have e_ := (Kd.N_reads' HO_3.out).1; omega))
              obtain ⟨ua388_3, uc388_3, rfl, ul388_3, ge388_3⟩ := k30_openF hMe388
              have hv388_3 := hcc388 3 _ rfl
              rw [add_field _ _ 3 (by omega)] at hv388_3
              replace hv388_3 := Option.some.inj (hv388_3.symm.trans hx388_3)
              injection hv388_3 with hva_ hvn_ hvc_
              rw [hva_] at ge388_3
              rw [hvc_] at ul388_3
              have HL388_3 := Aside0.mk (show Kd.V (Kd.int .i64) 3 _ w.heap.size _ _ ((rd_T30 t382 x5_1).f3) from Kd.V_mk ul388_3 ge388_3)
              clear hva_ hvn_ hvc_ ge388_3 ul388_3
              clear hcc388 hce388
              have HR388_3 := Aside0.mk hi388_3
              have HC388_3 := Aside0.mk hl388_3
              clear hi388_3 hl388_3
              replace p388 := eq_true p388
              replace q388 := eq_true q388
              go_wp2
              go_roundg k1
              case measure => have := HK1.out; omega
              case rel => exact ⟨(x4_1), (wrap64 (x5_1 + 1)), (by first | rfl | (simp; done) | (simp [*]; done)), (by first | rfl | (simp; done) | (simp [*]; done)), H', ⟨by have := HK1.out; omega⟩, ⟨by (with_reducible repeat (first | apply Kd.N_alloc | apply Kd.N_drewN | apply Kd.N_drew)); exact HO_3.out⟩, ⟨by repeat (first | (with_reducible first | exact HB.out | apply below_alloc | apply pw_below_drewN | apply below_drew1) | exact HB.out)⟩⟩
          · rw [if_neg c11] at H
            exact absurd H (by simp)
      · rw [if_neg c4] at H
        have c4b0 : decide (x5_1 < (t382.length : Int)) = false := decide_eq_false c4
        clear c4
        obtain rfl := Option.some.inj H
        obtain ⟨Ao18, co18, eo18⟩ := Kd.N_slice HO_3.out
        subst eo18
        go_wp2
        go_ret
        exact ⟨by first | rfl | (simp [errW_none, errW_some] <;> rfl) | (simp [*, errW_none, errW_some] <;> rfl), by repeat (first | (with_reducible first | exact HB.out | apply below_alloc | apply pw_below_drewN | apply below_drew1) | exact HB.out)⟩
end Go.Proofs.Ytejcopppchaneaa.PF
end
