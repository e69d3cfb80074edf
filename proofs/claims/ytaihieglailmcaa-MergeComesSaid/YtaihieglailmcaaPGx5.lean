-- By a program of this session (the kit's print, patched), for this seat.
import Derived.Test.YtaihieglailmcaaPGx0
import Derived.Test.YtaihieglailmcaaPGx4
import Derived.Test.YtaihieglailmcaaXtrb
namespace Go.Proofs.Ytaihieglailmcaa.PG
open Go.RowKit Go.Proofs.YtaihieglailmcaaW.PrintWords Go.Proofs.YtaihieglailmcaaW.PrintLast Go.Proofs.YtaihieglailmcaaW.PrintMore
attribute [local go_sem] max2_int min2_int max_two min_two max_three min_three max_four min_four   -- for this text's walks alone
set_option linter.unusedVariables false
set_option linter.unusedSimpArgs false

/-! ### juratref27_All: function 12 -/
def juratref27_All.l0 : Nat → List (S28) → List (S28) → Int → Option ((List (S28)))
  | 0, _, _, _ => none
  | k + 1, x0, x3, x4 => if x4 < (x0.length : Int) then (if (x3.length : Int) > 0 then (if 0 ≤ (wrap64 ((x3.length : Int) - 1)) then (if (wrap64 ((x3.length : Int) - 1)) < (x3.length : Int) then (if 0 ≤ x4 then ((juratref27_Two.f k ((rd_T28 x3 (wrap64 ((x3.length : Int) - 1))).f0) ((rd_T28 x3 (wrap64 ((x3.length : Int) - 1))).f1) ((rd_T28 x3 (wrap64 ((x3.length : Int) - 1))).f2) ((rd_T28 x3 (wrap64 ((x3.length : Int) - 1))).f3) ((rd_T28 x0 x4).f0) ((rd_T28 x0 x4).f1) ((rd_T28 x0 x4).f2) ((rd_T28 x0 x4).f3)).bind fun bt186 => (if bt186.2.2.2.2 = true then (juratref27_All.l0 k x0 (x3.set ((wrap64 ((x3.length : Int) - 1)) : Int).toNat (⟨bt186.1, bt186.2.1, bt186.2.2.1, bt186.2.2.2.1⟩ : S28)) (wrap64 (x4 + 1))) else (if x3.length < 2932031007402 then (juratref27_All.l0 k x0 (x3 ++ [(⟨(rd_T28 x0 x4).f0, (rd_T28 x0 x4).f1, (rd_T28 x0 x4).f2, (rd_T28 x0 x4).f3⟩ : S28)]) (wrap64 (x4 + 1))) else (none)))) else (none)) else (none)) else (none)) else (if 0 ≤ x4 then (if x3.length < 2932031007402 then (juratref27_All.l0 k x0 (x3 ++ [(⟨(rd_T28 x0 x4).f0, (rd_T28 x0 x4).f1, (rd_T28 x0 x4).f2, (rd_T28 x0 x4).f3⟩ : S28)]) (wrap64 (x4 + 1))) else (none)) else (none))) else (some x3)
def juratref27_All.f (k : Nat) (l0 : List (S28)) : Option ((List (S28))) := juratref27_All.l0 k l0 (([] : List (S28))) 0
theorem juratref27_All.mono_l : ∀ k, (∀ y0 y1 y2, LeO (juratref27_All.l0 k y0 y1 y2) (juratref27_All.l0 (k + 1) y0 y1 y2))
  | 0 => fun _ _ _ r h => by simp [juratref27_All.l0] at h
  | k + 1 => by
    have ih0 := juratref27_All.mono_l k
    · intro y0 y1 y2
      unfold juratref27_All.l0
      repeat' first
      | (with_reducible exact ih0 _ _ _)
      | (with_reducible exact juratref27_Two.mono _ _ _ _ _ _ _ _ _)
      | (with_reducible exact LeO.refl _)
      | (with_reducible exact LeO.none _)
      | (with_reducible refine LeO.ite ?_ ?_)
      | (with_reducible refine LeO.bind ?_ (fun _ => ?_))
      | exact ih0 _ _ _
      | exact juratref27_Two.mono _ _ _ _ _ _ _ _ _
      | exact LeO.none _
      | refine LeO.ite ?_ ?_
      | refine LeO.bind ?_ (fun _ => ?_)
theorem juratref27_All.mono : ∀ a0 k, LeO (juratref27_All.f k a0) (juratref27_All.f (k + 1) a0) := by
  intro a0 k
  have ih0 := juratref27_All.mono_l k
  unfold juratref27_All.f
  repeat' first
      | (with_reducible exact ih0 _ _ _)
      | (with_reducible exact juratref27_Two.mono _ _ _ _ _ _ _ _ _)
      | (with_reducible exact LeO.refl _)
      | (with_reducible exact LeO.none _)
      | (with_reducible refine LeO.ite ?_ ?_)
      | (with_reducible refine LeO.bind ?_ (fun _ => ?_))
      | exact ih0 _ _ _
      | exact juratref27_Two.mono _ _ _ _ _ _ _ _ _
      | exact LeO.none _
      | refine LeO.ite ?_ ?_
      | refine LeO.bind ?_ (fun _ => ?_)
def juratref27_All.T6 : Bool × List (List Nat × List Nat) := (true, [([], []), ([], []), ([1], [1]), ([2], [2]), ([0, 3], [0, 3]), ([4], [4]), ([], []), ([], []), ([6, 7], [6, 7]), ([8], [8]), ([5, 9], [5, 9]), ([10], [10]), ([11], [11]), ([11], [11]), ([], []), ([14, 12, 10, 0, 1, 2, 3, 4, 5, 6, 7, 8, 9, 10, 11, 12, 14], [12, 14]), ([13, 15, 0, 1, 2, 3, 4, 5, 6, 7, 8, 9, 10, 11, 12, 13, 14, 15], [13])])
def juratref27_All.B6 : List Nat := [0, 0, 2, 6, 15, 31, 0, 0, 192, 448, 1023, 2047, 4095, 4095, 0, 24575, 65535]
theorem juratref27_All.tab6 : rtab .any (opsOf Try.f12 6) = juratref27_All.T6 := by kernel_rfl
theorem juratref27_All.bits6 : waitsOk juratref27_All.T6.2 juratref27_All.B6 = true := by kernel_rfl
set_option maxHeartbeats 8000000 in
set_option maxRecDepth 100000 in
theorem juratref27_All.calls (k : Nat) (P0_ : Nat → Prop) (A0 : Option Addr) (c0 : Nat) (l0 : List (S28)) (r : List (S28)) (w : World) (hs0 : Kd.V k28 28 w w.heap.size (fun k_ => P0_ k_) (.slice A0 l0.length c0) l0) (h : juratref27_All.f k l0 = some r) :
    Calls Try.prog 12 #[.slice A0 l0.length c0] w fun e w' => ∃ v0_ : Value, e = .returned (v0_) ∧ Kd.N k28 28 w' w.heap.size (fun k_ => (P0_ k_ ∨ w.heap.size ≤ k_)) v0_ r ∧ Below w.heap.size w w' := by
  have hu28 := Try.underlying28
  have HO0 := Aside0.mk (show Kd.V k28 28 w w.heap.size (fun k_ => (P0_ k_ ∨ w.heap.size ≤ k_)) (.slice A0 l0.length c0) l0 from Kd.V_mono hs0 (fun k_ hk => .inl hk))
  have HB := Aside0.mk (Below.refl w.heap.size w)
  have H : (juratref27_All.l0 k l0 (([] : List (S28))) 0) = some r := h
  clear h
  obtain ⟨y181, hy181⟩ : ∃ y_ : List (S28), y_ = (([] : List (S28))) := ⟨_, rfl⟩
  replace H : (juratref27_All.l0 k l0 y181 0) = some r := by first | (rw [hy181]; with_reducible exact H) | (have H2_ := (Option.bind_some _ _).symm.trans H; rw [hy181]; with_reducible exact H2_) | (have H2_ := (Option.bind_some _ _).symm.trans H; with_reducible exact H2_) | with_reducible exact H | (rw [hy181]; exact H) | exact H
  have Ny181 := Aside0.mk hy181
  clear hy181
  have H' := Aside0.mk H
  clear H
  go_enter Try.func12, Try.ntmps12
  go_wp2_with (first | ((with_reducible refine gate_dst (N := 7) rfl ?_); refine Kd.N_lit k28 _ 28 ?hg (N' := 7) ?hd (xs := ([] : List (S28))) (inner := []) (ok := (fun k_ => (P0_ k_ ∨ w.heap.size ≤ k_))) (okp := (fun k_ => (P0_ k_ ∨ w.heap.size ≤ k_))) ?hr ?hp (fun _ hk => hk) ((show ∀ k_, w.heap.size ≤ k_ → (fun k_ => (P0_ k_ ∨ w.heap.size ≤ k_)) k_ from fun k_ hk => (.inr (Nat.le_trans (below_size (by repeat (first | (with_reducible first | exact HB.out | apply below_alloc | apply pw_below_drewN | apply below_drew1) | exact HB.out))) hk))) _ (Nat.le_refl _)) (Below.refl _ _) (Nat.le_refl _) (by simp) ?_; (case hd => rfl); (case hg => rfl); (case hr => first | (go_simp; done) | (go_simp; rfl)); (case hp => exact (Reps.none _ _)); intro v182 w2 ho3 hb hg_ hnew_; clear hg_ hnew_; (first | rw [← Ny181.out] at ho3 | (simp only [Int.reduceToNat] at ho3; rw [← Ny181.out] at ho3)); have n0_ := Aside0.mk (Kd.V_elder' (by (with_reducible repeat (first | apply Kd.V_alloc | apply Kd.V_drewN | apply Kd.V_drew)); exact HO0.out) (Kd.N_base ho3) hb); have n1_ := Aside0.mk (Kd.N_lower ho3 (below_size (by repeat (first | (with_reducible first | exact HB.out | apply below_alloc | apply pw_below_drewN | apply below_drew1) | exact HB.out)))); have n2_ := Aside0.mk (below_step (by repeat (first | (with_reducible first | exact HB.out | apply below_alloc | apply pw_below_drewN | apply below_drew1) | exact HB.out)) hb); clear HO0; clear HB; have HO0 := n0_; have HO183 := n1_; have HB := n2_; clear n0_ n1_ n2_; clear hb ho3))
  go_loopg [3, 4] k (fun kq v3 v4 w' => ∃ (x0_1 : List (S28)) (x3_1 : List (S28)) (x4_1 : Int), v4 = .int .i64 x4_1 ∧ Aside0 (juratref27_All.l0 kq x0_1 x3_1 x4_1 = some r) ∧ Aside0 (kq ≤ k) ∧ Aside0 (Kd.V k28 28 w' w.heap.size (fun k_ => (P0_ k_ ∨ w.heap.size ≤ k_) ∧ some k_ ≠ (v3 : Value).ownBlock) (.slice A0 l0.length c0) x0_1) ∧ Aside0 (Kd.N k28 28 w' w.heap.size (fun k_ => (P0_ k_ ∨ w.heap.size ≤ k_)) v3 x3_1) ∧ Aside0 (Below w.heap.size w w'))
  case atStart => exact ⟨(l0), (y181), (0), (by first | rfl | (simp; done) | (simp [*]; done)), H', ⟨Nat.le_refl _⟩, ⟨by (with_reducible repeat (first | apply Kd.V_alloc | apply Kd.V_drewN | apply Kd.V_drew)); exact HO0.out⟩, ⟨by (with_reducible repeat (first | apply Kd.N_alloc | apply Kd.N_drewN | apply Kd.N_drew)); exact HO183.out⟩, ⟨by repeat (first | (with_reducible first | exact HB.out | apply below_alloc | apply pw_below_drewN | apply below_drew1) | exact HB.out)⟩⟩
  case round =>
    clear H'
    try clear c1
    try clear p2
    obtain ⟨x0_1, x3_1, x4_1, rfl, HA, HK1, HO_0, HO_3, HB⟩ := hrel
    have hl0_1 := (Kd.V_reads' HO_0.out).1
    rw [hl0_1] at HO_0
    (try simp only [hl0_1])
    (try simp only [hl0_1] at HO_3)
    cases gk with
    | zero => exact absurd HA.out (by simp [juratref27_All.l0])
    | succ k1 =>
      have H := HA.out
      clear HA
      simp only [juratref27_All.l0] at H
      by_cases c4 : x4_1 < (x0_1.length : Int)
      · rw [if_pos c4] at H
        have c4b0 : decide (x4_1 < (x0_1.length : Int)) = true := decide_eq_true c4
        clear c4
        by_cases c5 : (x3_1.length : Int) > 0
        · rw [if_pos c5] at H
          have c5b0 : decide (0 < (x3_1.length : Int)) = true := decide_eq_true c5
          have c5b1 : decide (0 < x3_1.length) = true := decide_eq_true (by omega)
          clear c5
          obtain ⟨ji6, hji6⟩ : ∃ j_ : Int, (wrap64 ((x3_1.length : Int) - 1)) = j_ := ⟨_, rfl⟩
          replace H : (if 0 ≤ (ji6) then (if (ji6) < (x3_1.length : Int) then (if 0 ≤ x4_1 then ((juratref27_Two.f k1 ((rd_T28 x3_1 (ji6)).f0) ((rd_T28 x3_1 (ji6)).f1) ((rd_T28 x3_1 (ji6)).f2) ((rd_T28 x3_1 (ji6)).f3) ((rd_T28 x0_1 x4_1).f0) ((rd_T28 x0_1 x4_1).f1) ((rd_T28 x0_1 x4_1).f2) ((rd_T28 x0_1 x4_1).f3)).bind fun bt186 => (if bt186.2.2.2.2 = true then (juratref27_All.l0 k1 x0_1 (x3_1.set ((ji6) : Int).toNat (⟨bt186.1, bt186.2.1, bt186.2.2.1, bt186.2.2.2.1⟩ : S28)) (wrap64 (x4_1 + 1))) else (if x3_1.length < 2932031007402 then (juratref27_All.l0 k1 x0_1 (x3_1 ++ [(⟨(rd_T28 x0_1 x4_1).f0, (rd_T28 x0_1 x4_1).f1, (rd_T28 x0_1 x4_1).f2, (rd_T28 x0_1 x4_1).f3⟩ : S28)]) (wrap64 (x4_1 + 1))) else (none)))) else (none)) else (none)) else (none)) = some r := by first | (rw [hji6] at H; exact H) | (simp only [hji6] at H ⊢; exact H)
          have hji6w : (IntKind.i64.wrap ((x3_1.length : Int) - 1)) = ji6 := (i64_w _).trans hji6
          by_cases c7 : 0 ≤ (ji6)
          · rw [if_pos c7] at H
            have c7b0 : decide (0 ≤ (ji6)) = true := decide_eq_true c7
            clear c7
            by_cases c8 : (ji6) < (x3_1.length : Int)
            · rw [if_pos c8] at H
              have c8b0 : decide ((ji6) < (x3_1.length : Int)) = true := decide_eq_true c8
              clear c8
              by_cases c9 : 0 ≤ x4_1
              · rw [if_pos c9] at H
                have c9b0 : decide (0 ≤ x4_1) = true := decide_eq_true c9
                clear c9
                replace H := Option.bind_eq_some_iff.mp H
                obtain ⟨⟨t186, t187, t188, t189, t192⟩, A100, H⟩ := H
                replace H : (if t192 = true then (juratref27_All.l0 k1 x0_1 (x3_1.set ((ji6) : Int).toNat (⟨t186, t187, t188, t189⟩ : S28)) (wrap64 (x4_1 + 1))) else (if x3_1.length < 2932031007402 then (juratref27_All.l0 k1 x0_1 (x3_1 ++ [(⟨(rd_T28 x0_1 x4_1).f0, (rd_T28 x0_1 x4_1).f1, (rd_T28 x0_1 x4_1).f2, (rd_T28 x0_1 x4_1).f3⟩ : S28)]) (wrap64 (x4_1 + 1))) else (none))) = some r := H
                have A10 := Aside0.mk A100
                clear A100
                by_cases c11 : t192 = true
                · subst c11
                  have H1 : (juratref27_All.l0 k1 x0_1 (x3_1.set ((ji6) : Int).toNat (⟨t186, t187, t188, t189⟩ : S28)) (wrap64 (x4_1 + 1))) = some r := by rw [if_pos rfl] at H; exact H
                  clear H
                  have H := H1
                  clear H1
                  obtain ⟨y194, hy194⟩ : ∃ y_ : List (S28), y_ = (x3_1.set ((ji6) : Int).toNat (⟨t186, t187, t188, t189⟩ : S28)) := ⟨_, rfl⟩
                  replace H : (juratref27_All.l0 k1 x0_1 y194 (wrap64 (x4_1 + 1))) = some r := by first | (rw [hy194]; with_reducible exact H) | (have H2_ := (Option.bind_some _ _).symm.trans H; rw [hy194]; with_reducible exact H2_) | (have H2_ := (Option.bind_some _ _).symm.trans H; with_reducible exact H2_) | with_reducible exact H | (rw [hy194]; exact H) | exact H
                  have Ny194 := Aside0.mk hy194
                  clear hy194
                  have H' := Aside0.mk H
                  clear H
                  obtain ⟨Ao13, co13, eo13⟩ := Kd.N_slice HO_3.out
                  subst eo13
                  try go_wp2
                  (try (rw [drewN_self wr]; generalize hq_ : World.drewN wr _ = wr; have n0_ : Aside0 (Kd.V k28 28 wr w.heap.size (fun k_ => (P0_ k_ ∨ w.heap.size ≤ k_) ∧ some k_ ≠ (.slice Ao13 x3_1.length co13 : Value).ownBlock) (.slice A0 x0_1.length c0) x0_1) := ⟨by rw [← hq_]; exact (by (with_reducible repeat (first | apply Kd.V_alloc | apply Kd.V_drewN | apply Kd.V_drew)); exact HO_0.out)⟩; have n1_ : Aside0 (Kd.N k28 28 wr w.heap.size (fun k_ => (P0_ k_ ∨ w.heap.size ≤ k_)) (.slice Ao13 x3_1.length co13) x3_1) := ⟨by rw [← hq_]; exact (by (with_reducible repeat (first | apply Kd.N_alloc | apply Kd.N_drewN | apply Kd.N_drew)); exact HO_3.out)⟩; have n2_ : Aside0 (Below w.heap.size w wr) := ⟨by rw [← hq_]; exact (by repeat (first | (with_reducible first | exact HB.out | apply below_alloc | apply pw_below_drewN | apply below_drew1) | exact HB.out))⟩; clear HO_0 HO_3 HB hq_; have HO_0 := n0_; have HO_3 := n1_; have HB := n2_; clear n0_ n1_ n2_))
                  have n0_ := Aside0.mk (Kd.V_drew HO_0.out)
                  have n1_ := Aside0.mk (Kd.N_drew HO_3.out)
                  have n2_ := Aside0.mk (below_drew1 HB.out)
                  clear HO_0
                  clear HO_3
                  clear HB
                  have HO_0 := n0_
                  have HO_3 := n1_
                  have HB := n2_
                  clear n0_ n1_ n2_
                  have p184 : 0 ≤ ((ji6) : Int) := of_decide_eq_true (by first | (with_reducible assumption) | assumption)
                  have q184 : (ji6) < (x3_1.length : Int) := of_decide_eq_true (by first | (with_reducible assumption) | assumption)
                  obtain ⟨ad184, A184_3, c184_3, e184, hx184_0, hx184_1, hx184_2, hx184_3, hl184_3, hi184_3⟩ := at_T28 (Kd.N_reads' HO_3.out).2.2 (ji6) p184 q184
                  cases e184
                  obtain ⟨ce184, hce184, hMe184, hcc184⟩ := Kd.N_get HO_3.out z28 (ji6) p184 (by first | exact q184 | exact of_decide_eq_true (by first | (with_reducible assumption) | assumption) | (have e_ := (Kd.N_reads' HO_3.out).1; omega))
                  obtain ⟨ua184_3, uc184_3, rfl, ul184_3, ge184_3⟩ := k28_openF hMe184
                  have hv184_3 := hcc184 3 _ rfl
                  rw [add_field _ _ 3 (by omega)] at hv184_3
                  replace hv184_3 := Option.some.inj (hv184_3.symm.trans hx184_3)
                  injection hv184_3 with hva_ hvn_ hvc_
                  rw [hva_] at ge184_3
                  rw [hvc_] at ul184_3
                  have HL184_3 := Aside0.mk (show Kd.V (Kd.int .i64) 3 _ w.heap.size _ _ ((rd_T28 x3_1 (ji6)).f3) from Kd.V_mk ul184_3 ge184_3)
                  clear hva_ hvn_ hvc_ ge184_3 ul184_3
                  clear hcc184 hce184
                  have HR184_3 := Aside0.mk hi184_3
                  have HC184_3 := Aside0.mk hl184_3
                  clear hi184_3 hl184_3
                  replace p184 := eq_true p184
                  replace q184 := eq_true q184
                  have p185 : 0 ≤ (x4_1 : Int) := of_decide_eq_true (by first | (with_reducible assumption) | assumption)
                  have q185 : x4_1 < (x0_1.length : Int) := of_decide_eq_true (by first | (with_reducible assumption) | assumption)
                  obtain ⟨ad185, A185_3, c185_3, e185, hx185_0, hx185_1, hx185_2, hx185_3, hl185_3, hi185_3⟩ := at_T28 (Kd.V_reads' HO_0.out).2.2 x4_1 p185 q185
                  cases e185
                  obtain ⟨ce185, hce185, hMe185, hcc185⟩ := Kd.V_get HO_0.out z28 x4_1 p185 (by first | exact q185 | exact of_decide_eq_true (by first | (with_reducible assumption) | assumption) | (have e_ := (Kd.V_reads' HO_0.out).1; omega))
                  obtain ⟨ua185_3, uc185_3, rfl, ul185_3, ge185_3⟩ := k28_openF hMe185
                  have hv185_3 := hcc185 3 _ rfl
                  rw [add_field _ _ 3 (by omega)] at hv185_3
                  replace hv185_3 := Option.some.inj (hv185_3.symm.trans hx185_3)
                  injection hv185_3 with hva_ hvn_ hvc_
                  rw [hva_] at ge185_3
                  rw [hvc_] at ul185_3
                  have HL185_3 := Aside0.mk (show Kd.V (Kd.int .i64) 3 _ w.heap.size _ _ ((rd_T28 x0_1 x4_1).f3) from Kd.V_mk ul185_3 ge185_3)
                  clear hva_ hvn_ hvc_ ge185_3 ul185_3
                  clear hcc185 hce185
                  have HR185_3 := Aside0.mk hi185_3
                  have HC185_3 := Aside0.mk hl185_3
                  clear hi185_3 hl185_3
                  replace p185 := eq_true p185
                  replace q185 := eq_true q185
                  refine start_ (n := 17) (S := fun w' => w'.cell? (ad184.add (((ji6)).toNat * 4)) = some (.int .i64 ((rd_T28 x3_1 (ji6)).f0)) ∧ w'.cell? ⟨(ad184.add (((ji6)).toNat * 4)).block, (ad184.add (((ji6)).toNat * 4)).off + 1, none⟩ = some (.int .i64 ((rd_T28 x3_1 (ji6)).f1)) ∧ w'.cell? ⟨(ad184.add (((ji6)).toNat * 4)).block, (ad184.add (((ji6)).toNat * 4)).off + 2, none⟩ = some (.int .i64 ((rd_T28 x3_1 (ji6)).f2)) ∧ w'.cell? ⟨(ad184.add (((ji6)).toNat * 4)).block, (ad184.add (((ji6)).toNat * 4)).off + 3, none⟩ = some (.slice A184_3 ((rd_T28 x3_1 (ji6)).f3).length c184_3) ∧ w'.cell? (ad185.add ((x4_1).toNat * 4)) = some (.int .i64 ((rd_T28 x0_1 x4_1).f0)) ∧ w'.cell? ⟨(ad185.add ((x4_1).toNat * 4)).block, (ad185.add ((x4_1).toNat * 4)).off + 1, none⟩ = some (.int .i64 ((rd_T28 x0_1 x4_1).f1)) ∧ w'.cell? ⟨(ad185.add ((x4_1).toNat * 4)).block, (ad185.add ((x4_1).toNat * 4)).off + 2, none⟩ = some (.int .i64 ((rd_T28 x0_1 x4_1).f2)) ∧ w'.cell? ⟨(ad185.add ((x4_1).toNat * 4)).block, (ad185.add ((x4_1).toNat * 4)).off + 3, none⟩ = some (.slice A185_3 ((rd_T28 x0_1 x4_1).f3).length c185_3)) (ds := []) #[false, false, false, false, false, false, false, false, false, false, false, false, false, false, false, false, false] (by kernel_rfl) rfl rfl ⟨hx184_0, hx184_1, hx184_2, hx184_3, hx185_0, hx185_1, hx185_2, hx185_3⟩ (fun hHeld => ?_); refine with_tabW juratref27_All.tab6 juratref27_All.bits6 (fun HT_ HW_ => ?_)
                  generalize wr.drew = w14 at HO_0 HO_3 HB HL184_3 HL185_3 HR184_3 HR185_3 hx184_0 hx184_1 hx184_2 hx184_3 hx185_0 hx185_1 hx185_2 hx185_3 hHeld ⊢
                  refine pure_ (i := 0) (N := some 18) (v := ?_) (a' := ?_) #[true, false, false, false, false, false, false, false, false, false, false, false, false, false, false, false, false] rfl rfl (any_of HT_.out (by kernel_rfl)) (fun _ _ _ h => h) (Or.inl ⟨by rfl, ?_⟩) ?_ ?_
                  rotate_left
                  · intro w'
                    go_simp
                    with_reducible rfl
                  rotate_left
                  · simp only [Act.put, List.setIfInBounds_toArray, List.set_cons_zero, List.set_cons_succ, i64_w, i32_w]
                    rfl
                  refine pure_ (i := 1) (N := some 19) (v := ?_) (a' := ?_) #[true, true, false, false, false, false, false, false, false, false, false, false, false, false, false, false, false] rfl rfl (any_of HT_.out (by kernel_rfl)) (fun _ _ _ h => h) (Or.inl ⟨by rfl, ?_⟩) ?_ ?_
                  rotate_left
                  · intro w'
                    go_simp
                    with_reducible rfl
                  rotate_left
                  · simp only [Act.put, List.setIfInBounds_toArray, List.set_cons_zero, List.set_cons_succ, i64_w, i32_w]
                    rfl
                  refine pure_ (i := 2) (N := some 20) (v := ?_) (a' := ?_) #[true, true, true, false, false, false, false, false, false, false, false, false, false, false, false, false, false] rfl rfl (any_of HT_.out (by kernel_rfl)) (fun _ _ _ h => h) (Or.inl ⟨by rfl, ?_⟩) ?_ ?_
                  rotate_left
                  · intro w'
                    go_simp
                    with_reducible rfl
                  rotate_left
                  · simp only [Act.put, List.setIfInBounds_toArray, List.set_cons_zero, List.set_cons_succ, i64_w, i32_w]
                    rfl
                  refine pure_ (i := 3) (N := some 21) (v := ?_) (a' := ?_) #[true, true, true, true, false, false, false, false, false, false, false, false, false, false, false, false, false] rfl rfl (any_of HT_.out (by kernel_rfl)) (fun _ _ _ h => h) (Or.inl ⟨by rfl, ?_⟩) ?_ ?_
                  rotate_left
                  · intro w'
                    go_simp
                    with_reducible rfl
                  rotate_left
                  · simp only [Act.put, List.setIfInBounds_toArray, List.set_cons_zero, List.set_cons_succ, i64_w, i32_w]
                    rfl
                  refine pure_ (i := 4) (N := some 22) (v := ?_) (a' := ?_) #[true, true, true, true, true, false, false, false, false, false, false, false, false, false, false, false, false] rfl rfl (any_of HT_.out (by kernel_rfl)) (fun _ _ _ h => h) (Or.inl ⟨by rfl, ?_⟩) ?_ ?_
                  rotate_left
                  · intro w'
                    go_simp
                    with_reducible rfl
                  rotate_left
                  · simp only [Act.put, List.setIfInBounds_toArray, List.set_cons_zero, List.set_cons_succ, i64_w, i32_w]
                    rfl
                  refine pure_ (i := 6) (N := some 24) (v := ?_) (a' := ?_) #[true, true, true, true, true, false, true, false, false, false, false, false, false, false, false, false, false] rfl rfl (any_of HT_.out (by kernel_rfl)) (fun _ _ _ h => h) (Or.inl ⟨by rfl, ?_⟩) ?_ ?_
                  rotate_left
                  · intro w'
                    go_simp
                    with_reducible rfl
                  rotate_left
                  · simp only [Act.put, List.setIfInBounds_toArray, List.set_cons_zero, List.set_cons_succ, i64_w, i32_w]
                    rfl
                  refine pure_ (i := 7) (N := some 25) (v := ?_) (a' := ?_) #[true, true, true, true, true, false, true, true, false, false, false, false, false, false, false, false, false] rfl rfl (any_of HT_.out (by kernel_rfl)) (fun _ _ _ h => h) (Or.inl ⟨by rfl, ?_⟩) ?_ ?_
                  rotate_left
                  · intro w'
                    go_simp
                    with_reducible rfl
                  rotate_left
                  · simp only [Act.put, List.setIfInBounds_toArray, List.set_cons_zero, List.set_cons_succ, i64_w, i32_w]
                    rfl
                  refine pure_ (i := 8) (N := some 26) (v := ?_) (a' := ?_) #[true, true, true, true, true, false, true, true, true, false, false, false, false, false, false, false, false] rfl rfl (any_of HT_.out (by kernel_rfl)) (fun _ _ _ h => h) (Or.inl ⟨by rfl, ?_⟩) ?_ ?_
                  rotate_left
                  · intro w'
                    go_simp
                    with_reducible rfl
                  rotate_left
                  · simp only [Act.put, List.setIfInBounds_toArray, List.set_cons_zero, List.set_cons_succ, i64_w, i32_w]
                    rfl
                  refine take_ (i := 5) (N := some 23) (v := ?_) (a' := ?_) #[true, true, true, true, true, true, true, true, true, false, false, false, false, false, false, false, false] rfl rfl (take_ofW HT_.out HW_.out (by kernel_rfl)) (fun _ _ _ h => h) (Or.inl ⟨by rfl, ?_⟩) hHeld ?_ ?_
                  rotate_left
                  · rintro w' ⟨s0, s1, s2, s3, s4, s5, s6, s7⟩
                    go_simp
                    with_reducible rfl
                  rotate_left
                  · simp only [Act.put, List.setIfInBounds_toArray, List.set_cons_zero, List.set_cons_succ, i64_w, i32_w]
                    rfl
                  refine take_ (i := 9) (N := some 27) (v := ?_) (a' := ?_) #[true, true, true, true, true, true, true, true, true, true, false, false, false, false, false, false, false] rfl rfl (take_ofW HT_.out HW_.out (by kernel_rfl)) (fun _ _ _ h => h) (Or.inl ⟨by rfl, ?_⟩) hHeld ?_ ?_
                  rotate_left
                  · rintro w' ⟨s0, s1, s2, s3, s4, s5, s6, s7⟩
                    go_simp
                    with_reducible rfl
                  rotate_left
                  · simp only [Act.put, List.setIfInBounds_toArray, List.set_cons_zero, List.set_cons_succ, i64_w, i32_w]
                    rfl
                  refine join_ (σ := Value × Nat) 2 #[true, true, true, true, true, true, true, true, true, true, true, true, true, true, true, false, false] (fun s_ => [(28, .tuple #[.agg #[.int .i64 t186, .int .i64 t187, .int .i64 t188, s_.1], .bool true]), (5, .pointer (some ⟨s_.2, 0, none⟩)), (17, .tuple #[.agg #[.int .i64 t186, .int .i64 t187, .int .i64 t188, s_.1], .bool true]), (29, .agg #[.int .i64 t186, .int .i64 t187, .int .i64 t188, s_.1]), (30, .bool true)]) (fun s_ w' => (w'.cell? (ad184.add (((ji6)).toNat * 4)) = some (.int .i64 ((rd_T28 x3_1 (ji6)).f0)) ∧ w'.cell? ⟨(ad184.add (((ji6)).toNat * 4)).block, (ad184.add (((ji6)).toNat * 4)).off + 1, none⟩ = some (.int .i64 ((rd_T28 x3_1 (ji6)).f1)) ∧ w'.cell? ⟨(ad184.add (((ji6)).toNat * 4)).block, (ad184.add (((ji6)).toNat * 4)).off + 2, none⟩ = some (.int .i64 ((rd_T28 x3_1 (ji6)).f2)) ∧ w'.cell? ⟨(ad184.add (((ji6)).toNat * 4)).block, (ad184.add (((ji6)).toNat * 4)).off + 3, none⟩ = some (.slice A184_3 ((rd_T28 x3_1 (ji6)).f3).length c184_3) ∧ w'.cell? (ad185.add ((x4_1).toNat * 4)) = some (.int .i64 ((rd_T28 x0_1 x4_1).f0)) ∧ w'.cell? ⟨(ad185.add ((x4_1).toNat * 4)).block, (ad185.add ((x4_1).toNat * 4)).off + 1, none⟩ = some (.int .i64 ((rd_T28 x0_1 x4_1).f1)) ∧ w'.cell? ⟨(ad185.add ((x4_1).toNat * 4)).block, (ad185.add ((x4_1).toNat * 4)).off + 2, none⟩ = some (.int .i64 ((rd_T28 x0_1 x4_1).f2)) ∧ w'.cell? ⟨(ad185.add ((x4_1).toNat * 4)).block, (ad185.add ((x4_1).toNat * 4)).off + 3, none⟩ = some (.slice A185_3 ((rd_T28 x0_1 x4_1).f3).length c185_3)) ∧ (Kd.V (Kd.int .i64) 3 w' w.heap.size (fun k_ => (P0_ k_ ∨ w.heap.size ≤ k_) ∧ some k_ ≠ (s_.1 : Value).ownBlock ∧ some k_ ≠ (.slice (some ad184) x3_1.length co13 : Value).ownBlock ∧ k_ ≠ s_.2) (.slice A184_3 ((rd_T28 x3_1 (ji6)).f3).length c184_3) ((rd_T28 x3_1 (ji6)).f3)) ∧ (Kd.V (Kd.int .i64) 3 w' w.heap.size (fun k_ => (P0_ k_ ∨ w.heap.size ≤ k_) ∧ some k_ ≠ (s_.1 : Value).ownBlock ∧ some k_ ≠ (.slice (some ad184) x3_1.length co13 : Value).ownBlock ∧ k_ ≠ s_.2) (.slice A185_3 ((rd_T28 x0_1 x4_1).f3).length c185_3) ((rd_T28 x0_1 x4_1).f3)) ∧ (Kd.R (Kd.int .i64) 3 w' w.heap.size (fun k_ => (w.heap.size ≤ k_)) s_.1 t189) ∧ (Kd.V k28 28 w' w.heap.size (fun k_ => (P0_ k_ ∨ w.heap.size ≤ k_) ∧ some k_ ≠ (s_.1 : Value).ownBlock ∧ some k_ ≠ (.slice (some ad184) x3_1.length co13 : Value).ownBlock ∧ k_ ≠ s_.2) (.slice (some ad185) x0_1.length c0) x0_1) ∧ (Kd.N k28 28 w' w.heap.size (fun k_ => (P0_ k_ ∨ w.heap.size ≤ k_) ∧ some k_ ≠ (s_.1 : Value).ownBlock ∧ k_ ≠ s_.2) (.slice (some ad184) x3_1.length co13) x3_1) ∧ (w'.heap[s_.2]? = some (.cells #[.int .i64 0, .int .i64 0, .int .i64 0, .slice none 0 0] 28 (0, 0))) ∧ (w.heap.size ≤ s_.2) ∧ (w.heap.size ≤ s_.2) ∧ (Below w.heap.size w w')) ?_ ?_
                  rotate_left
                  · intro hCont
                    refine two_ (i := 10) (j := 14) (Ni := some 28) (Nj := some 5) #[true, true, true, true, true, true, true, true, true, true, true, false, false, false, false, false, false] #[true, true, true, true, true, true, true, true, true, true, false, false, false, false, true, false, false] rfl rfl rfl rfl (two_of HT_.out (by kernel_rfl)) (by decide) (by decide) (fun K hK => ?_) (fun K hK => ?_)
                    · skip
                      refine goes_ Try.func16 (by kernel_rfl) rfl #[.agg #[.int .i64 ((rd_T28 x3_1 (ji6)).f0), .int .i64 ((rd_T28 x3_1 (ji6)).f1), .int .i64 ((rd_T28 x3_1 (ji6)).f2), .slice A184_3 ((rd_T28 x3_1 (ji6)).f3).length c184_3], .agg #[.int .i64 ((rd_T28 x0_1 x4_1).f0), .int .i64 ((rd_T28 x0_1 x4_1).f1), .int .i64 ((rd_T28 x0_1 x4_1).f2), .slice A185_3 ((rd_T28 x0_1 x4_1).f3).length c185_3]] (by rfl) rfl rfl (by (try simp only [List.map_toArray, List.map_cons, List.map_nil]); first | done | (simp only [hji6]; rfl) | rfl | (simp only [List.length_drop, List.length_take]; rfl)) ?_
                      with_reducible refine (juratref27_Two.calls k1 ((rd_T28 x3_1 (ji6)).f0) ((rd_T28 x3_1 (ji6)).f1) ((rd_T28 x3_1 (ji6)).f2) _ _ ((rd_T28 x3_1 (ji6)).f3) ((rd_T28 x0_1 x4_1).f0) ((rd_T28 x0_1 x4_1).f1) ((rd_T28 x0_1 x4_1).f2) _ _ ((rd_T28 x0_1 x4_1).f3) t186 t187 t188 t189 true _ ?side1 ?side2 ?side3 ?side4 A10.out).mono ?_
                      (case side1 => repeat (first | exact (by repeat (first | (with_reducible exact HR184_3.out) | (with_reducible refine Kd.C_alloc ?_ _) | (with_reducible refine Kd.C_drewN ?_ _) | (with_reducible refine Kd.C_drew ?_) | exact HR184_3.out)) | (with_reducible refine Kd.C_alloc ?_ _) | (with_reducible refine Kd.C_drewN ?_ _) | (with_reducible refine Kd.C_drew ?_)))
                      (case side2 => exact HC184_3.out)
                      (case side3 => repeat (first | exact (by repeat (first | (with_reducible exact HR185_3.out) | (with_reducible refine Kd.C_alloc ?_ _) | (with_reducible refine Kd.C_drewN ?_ _) | (with_reducible refine Kd.C_drew ?_) | exact HR185_3.out)) | (with_reducible refine Kd.C_alloc ?_ _) | (with_reducible refine Kd.C_drewN ?_ _) | (with_reducible refine Kd.C_drew ?_)))
                      (case side4 => exact HC185_3.out)
                      rintro e w15 ⟨v190, rfl, ho0, hb⟩
                      have HS0_ := (hb.cell (World.block_lt_of_cell? _ _ (hHeld.1))).trans (hHeld.1)
                      have HS1_ := (hb.cell (World.block_lt_of_cell? _ _ (hHeld.2.1))).trans (hHeld.2.1)
                      have HS2_ := (hb.cell (World.block_lt_of_cell? _ _ (hHeld.2.2.1))).trans (hHeld.2.2.1)
                      have HS3_ := (hb.cell (World.block_lt_of_cell? _ _ (hHeld.2.2.2.1))).trans (hHeld.2.2.2.1)
                      have HS4_ := (hb.cell (World.block_lt_of_cell? _ _ (hHeld.2.2.2.2.1))).trans (hHeld.2.2.2.2.1)
                      have HS5_ := (hb.cell (World.block_lt_of_cell? _ _ (hHeld.2.2.2.2.2.1))).trans (hHeld.2.2.2.2.2.1)
                      have HS6_ := (hb.cell (World.block_lt_of_cell? _ _ (hHeld.2.2.2.2.2.2.1))).trans (hHeld.2.2.2.2.2.2.1)
                      have HS7_ := (hb.cell (World.block_lt_of_cell? _ _ (hHeld.2.2.2.2.2.2.2))).trans (hHeld.2.2.2.2.2.2.2)
                      refine ⟨_, rfl, ?_⟩
                      have n0_ := Aside0.mk (Kd.V_elder' (by (with_reducible repeat (first | apply Kd.V_alloc | apply Kd.V_drewN | apply Kd.V_drew)); exact HO_0.out) (Kd.R_base ho0) hb)
                      have n1_ := Aside0.mk (Kd.N_elder' (by (with_reducible repeat (first | apply Kd.N_alloc | apply Kd.N_drewN | apply Kd.N_drew)); exact HO_3.out) (Kd.R_base ho0) hb)
                      have n2_ := Aside0.mk (Kd.V_elder' (by (with_reducible repeat (first | apply Kd.V_alloc | apply Kd.V_drewN | apply Kd.V_drew)); exact HL184_3.out) (Kd.R_base ho0) hb)
                      have n3_ := Aside0.mk (Kd.V_elder' (by (with_reducible repeat (first | apply Kd.V_alloc | apply Kd.V_drewN | apply Kd.V_drew)); exact HL185_3.out) (Kd.R_base ho0) hb)
                      have n4_ := Aside0.mk (Kd.R_lower (Kd.R_newM (M := fun k_ => (w.heap.size ≤ k_)) ho0 (below_size (by repeat (first | (with_reducible first | exact HB.out | apply below_alloc | apply pw_below_drewN | apply below_drew1) | exact HB.out))) (fun k_ h_ => h_)) (below_size (by repeat (first | (with_reducible first | exact HB.out | apply below_alloc | apply pw_below_drewN | apply below_drew1) | exact HB.out))))
                      have n5_ := Aside0.mk (Kd.C_below (by repeat (first | (with_reducible exact HR184_3.out) | (with_reducible refine Kd.C_alloc ?_ _) | (with_reducible refine Kd.C_drewN ?_ _) | (with_reducible refine Kd.C_drew ?_) | exact HR184_3.out)) hb)
                      have n6_ := Aside0.mk (Kd.C_below (by repeat (first | (with_reducible exact HR185_3.out) | (with_reducible refine Kd.C_alloc ?_ _) | (with_reducible refine Kd.C_drewN ?_ _) | (with_reducible refine Kd.C_drew ?_) | exact HR185_3.out)) hb)
                      have n7_ := Aside0.mk (below_step (by repeat (first | (with_reducible first | exact HB.out | apply below_alloc | apply pw_below_drewN | apply below_drew1) | exact HB.out)) hb)
                      clear HO_0
                      clear HO_3
                      clear HL184_3
                      clear HL185_3
                      clear HR184_3
                      clear HR185_3
                      clear HB
                      have HO_0 := n0_
                      have HO_3 := n1_
                      have HL184_3 := n2_
                      have HL185_3 := n3_
                      have HO191 := n4_
                      have HR184_3 := n5_
                      have HR185_3 := n6_
                      have HB := n7_
                      clear n0_ n1_ n2_ n3_ n4_ n5_ n6_ n7_
                      (try clear hb)
                      (try clear hb2)
                      (try clear hk)
                      (try clear hi)
                      (try clear ho0)
                      refine hK.out _ _ ⟨HS0_, HS1_, HS2_, HS3_, HS4_, HS5_, HS6_, HS7_⟩ (fun hHeld => ?_)
                      clear hK K
                      refine norm_ (a' := ?_) ?_ ?_
                      rotate_left
                      · show Act.put _ (some 28) _ = _
                        simp only [Act.put, List.setIfInBounds_toArray, List.set_cons_zero, List.set_cons_succ, i64_w, i32_w]
                        rfl
                      refine pure_ (i := 11) (N := some 17) (v := ?_) (a' := ?_) #[true, true, true, true, true, true, true, true, true, true, true, true, false, false, false, false, false] rfl rfl (any_of HT_.out (by kernel_rfl)) (fun _ _ _ h => h) (Or.inl ⟨by rfl, ?_⟩) ?_ ?_
                      rotate_left
                      · intro w'
                        go_simp
                        with_reducible rfl
                      rotate_left
                      · simp only [Act.put, List.setIfInBounds_toArray, List.set_cons_zero, List.set_cons_succ, i64_w, i32_w]
                        rfl
                      refine pure_ (i := 12) (N := some 29) (v := ?_) (a' := ?_) #[true, true, true, true, true, true, true, true, true, true, true, true, true, false, false, false, false] rfl rfl (any_of HT_.out (by kernel_rfl)) (fun _ _ _ h => h) (Or.inl ⟨by rfl, ?_⟩) ?_ ?_
                      rotate_left
                      · intro w'
                        go_simp
                        with_reducible rfl
                      rotate_left
                      · simp only [Act.put, List.setIfInBounds_toArray, List.set_cons_zero, List.set_cons_succ, i64_w, i32_w]
                        rfl
                      refine pure_ (i := 13) (N := some 30) (v := ?_) (a' := ?_) #[true, true, true, true, true, true, true, true, true, true, true, true, true, true, false, false, false] rfl rfl (any_of HT_.out (by kernel_rfl)) (fun _ _ _ h => h) (Or.inl ⟨by rfl, ?_⟩) ?_ ?_
                      rotate_left
                      · intro w'
                        go_simp
                        with_reducible rfl
                      rotate_left
                      · simp only [Act.put, List.setIfInBounds_toArray, List.set_cons_zero, List.set_cons_succ, i64_w, i32_w]
                        rfl
                      refine one_ (i := 14) (N := some 5) #[true, true, true, true, true, true, true, true, true, true, true, true, true, true, true, false, false] rfl rfl (one_of HT_.out (by kernel_rfl)) (by decide) (fun K hK => ?_)
                      refine box_step ?hg (N := 5) ?hd (cs := #[.int .i64 0, .int .i64 0, .int .i64 0, .slice none 0 0]) (t := 28) ?hr ?_; (case hd => rfl); (case hg => rfl); (case hr => first | (go_simp; done) | (go_simp; rfl))
                      intro gb193 hg w16 hbox hb
                      have HS0_ := (hb.cell (World.block_lt_of_cell? _ _ (hHeld.1))).trans (hHeld.1)
                      have HS1_ := (hb.cell (World.block_lt_of_cell? _ _ (hHeld.2.1))).trans (hHeld.2.1)
                      have HS2_ := (hb.cell (World.block_lt_of_cell? _ _ (hHeld.2.2.1))).trans (hHeld.2.2.1)
                      have HS3_ := (hb.cell (World.block_lt_of_cell? _ _ (hHeld.2.2.2.1))).trans (hHeld.2.2.2.1)
                      have HS4_ := (hb.cell (World.block_lt_of_cell? _ _ (hHeld.2.2.2.2.1))).trans (hHeld.2.2.2.2.1)
                      have HS5_ := (hb.cell (World.block_lt_of_cell? _ _ (hHeld.2.2.2.2.2.1))).trans (hHeld.2.2.2.2.2.1)
                      have HS6_ := (hb.cell (World.block_lt_of_cell? _ _ (hHeld.2.2.2.2.2.2.1))).trans (hHeld.2.2.2.2.2.2.1)
                      have HS7_ := (hb.cell (World.block_lt_of_cell? _ _ (hHeld.2.2.2.2.2.2.2))).trans (hHeld.2.2.2.2.2.2.2)
                      have n0_ := Aside0.mk (Kd.V_below (Kd.V_elderB (by (with_reducible repeat (first | apply Kd.V_alloc | apply Kd.V_drewN | apply Kd.V_drew)); exact HO_0.out) gb193 (Nat.le_of_eq hg.symm)) hb)
                      have n1_ := Aside0.mk (Kd.N_below (Kd.N_elderB (by (with_reducible repeat (first | apply Kd.N_alloc | apply Kd.N_drewN | apply Kd.N_drew)); exact HO_3.out) gb193 (Nat.le_of_eq hg.symm)) hb)
                      have n2_ := Aside0.mk (Kd.V_below (Kd.V_elderB (by (with_reducible repeat (first | apply Kd.V_alloc | apply Kd.V_drewN | apply Kd.V_drew)); exact HL184_3.out) gb193 (Nat.le_of_eq hg.symm)) hb)
                      have n3_ := Aside0.mk (Kd.V_below (Kd.V_elderB (by (with_reducible repeat (first | apply Kd.V_alloc | apply Kd.V_drewN | apply Kd.V_drew)); exact HL185_3.out) gb193 (Nat.le_of_eq hg.symm)) hb)
                      have n4_ := Aside0.mk (Kd.R_below (by (with_reducible repeat (first | apply Kd.R_alloc | apply Kd.R_drewN | apply Kd.R_drew)); exact HO191.out) hb)
                      have n5_ := Aside0.mk (Kd.C_below (by repeat (first | (with_reducible exact HR184_3.out) | (with_reducible refine Kd.C_alloc ?_ _) | (with_reducible refine Kd.C_drewN ?_ _) | (with_reducible refine Kd.C_drew ?_) | exact HR184_3.out)) hb)
                      have n6_ := Aside0.mk (Kd.C_below (by repeat (first | (with_reducible exact HR185_3.out) | (with_reducible refine Kd.C_alloc ?_ _) | (with_reducible refine Kd.C_drewN ?_ _) | (with_reducible refine Kd.C_drew ?_) | exact HR185_3.out)) hb)
                      have n7_ := Aside0.mk (below_step (by repeat (first | (with_reducible first | exact HB.out | apply below_alloc | apply pw_below_drewN | apply below_drew1) | exact HB.out)) hb)
                      have n8_ := Aside0.mk (hbox)
                      have n9_ := Aside0.mk ((by rw [hg]; exact (below_size (by repeat (first | (with_reducible first | exact HB.out | apply below_alloc | apply pw_below_drewN | apply below_drew1) | exact HB.out))) : w.heap.size ≤ gb193))
                      have n10_ := Aside0.mk ((by rw [hg]; exact (below_size (by repeat (first | (with_reducible first | exact HB.out | apply below_alloc | apply pw_below_drewN | apply below_drew1) | exact HB.out))) : w.heap.size ≤ gb193))
                      clear HO_0
                      clear HO_3
                      clear HL184_3
                      clear HL185_3
                      clear HO191
                      clear HR184_3
                      clear HR185_3
                      clear HB
                      have HO_0 := n0_
                      have HO_3 := n1_
                      have HL184_3 := n2_
                      have HL185_3 := n3_
                      have HO191 := n4_
                      have HR184_3 := n5_
                      have HR185_3 := n6_
                      have HB := n7_
                      have BK193 := n8_
                      have GW193 := n9_
                      have GE193 := n10_
                      clear n0_ n1_ n2_ n3_ n4_ n5_ n6_ n7_ n8_ n9_ n10_
                      clear hb hbox hg
                      refine hK.out _ _ ⟨HS0_, HS1_, HS2_, HS3_, HS4_, HS5_, HS6_, HS7_⟩ (fun hHeld => ?_)
                      clear hK K
                      refine norm_ (a' := ?_) ?_ ?_
                      rotate_left
                      · show Act.put _ (some 5) _ = _
                        simp only [Act.put, List.setIfInBounds_toArray, List.set_cons_zero, List.set_cons_succ, i64_w, i32_w]
                        rfl
                      exact norm_ (by simp only [putAll, Act.put, List.setIfInBounds_toArray, List.set_cons_zero, List.set_cons_succ]) (hCont (v190, gb193) _ ⟨hHeld, (by (with_reducible repeat (first | apply Kd.V_alloc | apply Kd.V_drewN | apply Kd.V_drew)); exact Kd.V_mono HL184_3.out (fun _ hk => ⟨hk.1.1.1, ⟨hk.1.2, ⟨hk.1.1.2, hk.2⟩⟩⟩)), (by (with_reducible repeat (first | apply Kd.V_alloc | apply Kd.V_drewN | apply Kd.V_drew)); exact Kd.V_mono HL185_3.out (fun _ hk => ⟨hk.1.1.1, ⟨hk.1.2, ⟨hk.1.1.2, hk.2⟩⟩⟩)), (by (with_reducible repeat (first | apply Kd.R_alloc | apply Kd.R_drewN | apply Kd.R_drew)); exact Kd.R_mono HO191.out (fun _ hk => hk.1)), (by (with_reducible repeat (first | apply Kd.V_alloc | apply Kd.V_drewN | apply Kd.V_drew)); exact Kd.V_mono HO_0.out (fun _ hk => ⟨hk.1.1.1, ⟨hk.1.2, ⟨hk.1.1.2, hk.2⟩⟩⟩)), (by (with_reducible repeat (first | apply Kd.N_alloc | apply Kd.N_drewN | apply Kd.N_drew)); exact Kd.N_mono HO_3.out (fun _ hk => ⟨hk.1.1, ⟨hk.1.2, hk.2⟩⟩)), (by (with_reducible repeat (first | refine blk_drewN ?_ _ | refine blk_drew ?_ | refine blk_alloc ?_ _)); exact BK193.out), GW193.out, GE193.out, (by repeat (first | (with_reducible first | exact HB.out | apply below_alloc | apply pw_below_drewN | apply below_drew1 | refine below_set ?_ GE193.out) | exact HB.out))⟩)
                    · skip
                      refine box_step ?hg (N := 5) ?hd (cs := #[.int .i64 0, .int .i64 0, .int .i64 0, .slice none 0 0]) (t := 28) ?hr ?_; (case hd => rfl); (case hg => rfl); (case hr => first | (go_simp; done) | (go_simp; rfl))
                      intro gb193 hg w15 hbox hb
                      have HS0_ := (hb.cell (World.block_lt_of_cell? _ _ (hHeld.1))).trans (hHeld.1)
                      have HS1_ := (hb.cell (World.block_lt_of_cell? _ _ (hHeld.2.1))).trans (hHeld.2.1)
                      have HS2_ := (hb.cell (World.block_lt_of_cell? _ _ (hHeld.2.2.1))).trans (hHeld.2.2.1)
                      have HS3_ := (hb.cell (World.block_lt_of_cell? _ _ (hHeld.2.2.2.1))).trans (hHeld.2.2.2.1)
                      have HS4_ := (hb.cell (World.block_lt_of_cell? _ _ (hHeld.2.2.2.2.1))).trans (hHeld.2.2.2.2.1)
                      have HS5_ := (hb.cell (World.block_lt_of_cell? _ _ (hHeld.2.2.2.2.2.1))).trans (hHeld.2.2.2.2.2.1)
                      have HS6_ := (hb.cell (World.block_lt_of_cell? _ _ (hHeld.2.2.2.2.2.2.1))).trans (hHeld.2.2.2.2.2.2.1)
                      have HS7_ := (hb.cell (World.block_lt_of_cell? _ _ (hHeld.2.2.2.2.2.2.2))).trans (hHeld.2.2.2.2.2.2.2)
                      have n0_ := Aside0.mk (Kd.V_below (Kd.V_elderB (by (with_reducible repeat (first | apply Kd.V_alloc | apply Kd.V_drewN | apply Kd.V_drew)); exact HO_0.out) gb193 (Nat.le_of_eq hg.symm)) hb)
                      have n1_ := Aside0.mk (Kd.N_below (Kd.N_elderB (by (with_reducible repeat (first | apply Kd.N_alloc | apply Kd.N_drewN | apply Kd.N_drew)); exact HO_3.out) gb193 (Nat.le_of_eq hg.symm)) hb)
                      have n2_ := Aside0.mk (Kd.V_below (Kd.V_elderB (by (with_reducible repeat (first | apply Kd.V_alloc | apply Kd.V_drewN | apply Kd.V_drew)); exact HL184_3.out) gb193 (Nat.le_of_eq hg.symm)) hb)
                      have n3_ := Aside0.mk (Kd.V_below (Kd.V_elderB (by (with_reducible repeat (first | apply Kd.V_alloc | apply Kd.V_drewN | apply Kd.V_drew)); exact HL185_3.out) gb193 (Nat.le_of_eq hg.symm)) hb)
                      have n4_ := Aside0.mk (Kd.C_below (by repeat (first | (with_reducible exact HR184_3.out) | (with_reducible refine Kd.C_alloc ?_ _) | (with_reducible refine Kd.C_drewN ?_ _) | (with_reducible refine Kd.C_drew ?_) | exact HR184_3.out)) hb)
                      have n5_ := Aside0.mk (Kd.C_below (by repeat (first | (with_reducible exact HR185_3.out) | (with_reducible refine Kd.C_alloc ?_ _) | (with_reducible refine Kd.C_drewN ?_ _) | (with_reducible refine Kd.C_drew ?_) | exact HR185_3.out)) hb)
                      have n6_ := Aside0.mk (below_step (by repeat (first | (with_reducible first | exact HB.out | apply below_alloc | apply pw_below_drewN | apply below_drew1) | exact HB.out)) hb)
                      have n7_ := Aside0.mk (hbox)
                      have n8_ := Aside0.mk ((by rw [hg]; exact (below_size (by repeat (first | (with_reducible first | exact HB.out | apply below_alloc | apply pw_below_drewN | apply below_drew1) | exact HB.out))) : w.heap.size ≤ gb193))
                      have n9_ := Aside0.mk ((by rw [hg]; exact (below_size (by repeat (first | (with_reducible first | exact HB.out | apply below_alloc | apply pw_below_drewN | apply below_drew1) | exact HB.out))) : w.heap.size ≤ gb193))
                      clear HO_0
                      clear HO_3
                      clear HL184_3
                      clear HL185_3
                      clear HR184_3
                      clear HR185_3
                      clear HB
                      have HO_0 := n0_
                      have HO_3 := n1_
                      have HL184_3 := n2_
                      have HL185_3 := n3_
                      have HR184_3 := n4_
                      have HR185_3 := n5_
                      have HB := n6_
                      have BK193 := n7_
                      have GW193 := n8_
                      have GE193 := n9_
                      clear n0_ n1_ n2_ n3_ n4_ n5_ n6_ n7_ n8_ n9_
                      clear hb hbox hg
                      refine hK.out _ _ ⟨HS0_, HS1_, HS2_, HS3_, HS4_, HS5_, HS6_, HS7_⟩ (fun hHeld => ?_)
                      clear hK K
                      refine norm_ (a' := ?_) ?_ ?_
                      rotate_left
                      · show Act.put _ (some 5) _ = _
                        simp only [Act.put, List.setIfInBounds_toArray, List.set_cons_zero, List.set_cons_succ, i64_w, i32_w]
                        rfl
                      refine one_ (i := 10) (N := some 28) #[true, true, true, true, true, true, true, true, true, true, true, false, false, false, true, false, false] rfl rfl (one_of HT_.out (by kernel_rfl)) (by decide) (fun K hK => ?_)
                      refine goes_ Try.func16 (by kernel_rfl) rfl #[.agg #[.int .i64 ((rd_T28 x3_1 (ji6)).f0), .int .i64 ((rd_T28 x3_1 (ji6)).f1), .int .i64 ((rd_T28 x3_1 (ji6)).f2), .slice A184_3 ((rd_T28 x3_1 (ji6)).f3).length c184_3], .agg #[.int .i64 ((rd_T28 x0_1 x4_1).f0), .int .i64 ((rd_T28 x0_1 x4_1).f1), .int .i64 ((rd_T28 x0_1 x4_1).f2), .slice A185_3 ((rd_T28 x0_1 x4_1).f3).length c185_3]] (by rfl) rfl rfl (by (try simp only [List.map_toArray, List.map_cons, List.map_nil]); first | done | (simp only [hji6]; rfl) | rfl | (simp only [List.length_drop, List.length_take]; rfl)) ?_
                      with_reducible refine (juratref27_Two.calls k1 ((rd_T28 x3_1 (ji6)).f0) ((rd_T28 x3_1 (ji6)).f1) ((rd_T28 x3_1 (ji6)).f2) _ _ ((rd_T28 x3_1 (ji6)).f3) ((rd_T28 x0_1 x4_1).f0) ((rd_T28 x0_1 x4_1).f1) ((rd_T28 x0_1 x4_1).f2) _ _ ((rd_T28 x0_1 x4_1).f3) t186 t187 t188 t189 true _ ?side1 ?side2 ?side3 ?side4 A10.out).mono ?_
                      (case side1 => repeat (first | exact (by repeat (first | (with_reducible exact HR184_3.out) | (with_reducible refine Kd.C_alloc ?_ _) | (with_reducible refine Kd.C_drewN ?_ _) | (with_reducible refine Kd.C_drew ?_) | exact HR184_3.out)) | (with_reducible refine Kd.C_alloc ?_ _) | (with_reducible refine Kd.C_drewN ?_ _) | (with_reducible refine Kd.C_drew ?_)))
                      (case side2 => exact HC184_3.out)
                      (case side3 => repeat (first | exact (by repeat (first | (with_reducible exact HR185_3.out) | (with_reducible refine Kd.C_alloc ?_ _) | (with_reducible refine Kd.C_drewN ?_ _) | (with_reducible refine Kd.C_drew ?_) | exact HR185_3.out)) | (with_reducible refine Kd.C_alloc ?_ _) | (with_reducible refine Kd.C_drewN ?_ _) | (with_reducible refine Kd.C_drew ?_)))
                      (case side4 => exact HC185_3.out)
                      rintro e w16 ⟨v190, rfl, ho0, hb⟩
                      have HS0_ := (hb.cell (World.block_lt_of_cell? _ _ (hHeld.1))).trans (hHeld.1)
                      have HS1_ := (hb.cell (World.block_lt_of_cell? _ _ (hHeld.2.1))).trans (hHeld.2.1)
                      have HS2_ := (hb.cell (World.block_lt_of_cell? _ _ (hHeld.2.2.1))).trans (hHeld.2.2.1)
                      have HS3_ := (hb.cell (World.block_lt_of_cell? _ _ (hHeld.2.2.2.1))).trans (hHeld.2.2.2.1)
                      have HS4_ := (hb.cell (World.block_lt_of_cell? _ _ (hHeld.2.2.2.2.1))).trans (hHeld.2.2.2.2.1)
                      have HS5_ := (hb.cell (World.block_lt_of_cell? _ _ (hHeld.2.2.2.2.2.1))).trans (hHeld.2.2.2.2.2.1)
                      have HS6_ := (hb.cell (World.block_lt_of_cell? _ _ (hHeld.2.2.2.2.2.2.1))).trans (hHeld.2.2.2.2.2.2.1)
                      have HS7_ := (hb.cell (World.block_lt_of_cell? _ _ (hHeld.2.2.2.2.2.2.2))).trans (hHeld.2.2.2.2.2.2.2)
                      refine ⟨_, rfl, ?_⟩
                      have n0_ := Aside0.mk (Kd.V_elder' (by (with_reducible repeat (first | apply Kd.V_alloc | apply Kd.V_drewN | apply Kd.V_drew)); exact HO_0.out) (Kd.R_base ho0) hb)
                      have n1_ := Aside0.mk (Kd.N_elder' (by (with_reducible repeat (first | apply Kd.N_alloc | apply Kd.N_drewN | apply Kd.N_drew)); exact HO_3.out) (Kd.R_base ho0) hb)
                      have n2_ := Aside0.mk (Kd.V_elder' (by (with_reducible repeat (first | apply Kd.V_alloc | apply Kd.V_drewN | apply Kd.V_drew)); exact HL184_3.out) (Kd.R_base ho0) hb)
                      have n3_ := Aside0.mk (Kd.V_elder' (by (with_reducible repeat (first | apply Kd.V_alloc | apply Kd.V_drewN | apply Kd.V_drew)); exact HL185_3.out) (Kd.R_base ho0) hb)
                      have n4_ := Aside0.mk (Kd.R_lower (Kd.R_newM (M := fun k_ => (w.heap.size ≤ k_)) ho0 (below_size (by repeat (first | (with_reducible first | exact HB.out | apply below_alloc | apply pw_below_drewN | apply below_drew1 | refine below_set ?_ GE193.out) | exact HB.out))) (fun k_ h_ => h_)) (below_size (by repeat (first | (with_reducible first | exact HB.out | apply below_alloc | apply pw_below_drewN | apply below_drew1 | refine below_set ?_ GE193.out) | exact HB.out))))
                      have n5_ := Aside0.mk (Kd.C_below (by repeat (first | (with_reducible exact HR184_3.out) | (with_reducible refine Kd.C_alloc ?_ _) | (with_reducible refine Kd.C_drewN ?_ _) | (with_reducible refine Kd.C_drew ?_) | exact HR184_3.out)) hb)
                      have n6_ := Aside0.mk (Kd.C_below (by repeat (first | (with_reducible exact HR185_3.out) | (with_reducible refine Kd.C_alloc ?_ _) | (with_reducible refine Kd.C_drewN ?_ _) | (with_reducible refine Kd.C_drew ?_) | exact HR185_3.out)) hb)
                      have n7_ := Aside0.mk (blk_below (g := gb193) (o := .cells #[.int .i64 0, .int .i64 0, .int .i64 0, .slice none 0 0] 28 (0, 0)) (by (with_reducible repeat (first | refine blk_drewN ?_ _ | refine blk_drew ?_ | refine blk_alloc ?_ _)); exact BK193.out) hb)
                      have n8_ := Aside0.mk (below_step (by repeat (first | (with_reducible first | exact HB.out | apply below_alloc | apply pw_below_drewN | apply below_drew1 | refine below_set ?_ GE193.out) | exact HB.out)) hb)
                      clear HO_0
                      clear HO_3
                      clear HL184_3
                      clear HL185_3
                      clear HR184_3
                      clear HR185_3
                      clear BK193
                      clear HB
                      have HO_0 := n0_
                      have HO_3 := n1_
                      have HL184_3 := n2_
                      have HL185_3 := n3_
                      have HO191 := n4_
                      have HR184_3 := n5_
                      have HR185_3 := n6_
                      have BK193 := n7_
                      have HB := n8_
                      clear n0_ n1_ n2_ n3_ n4_ n5_ n6_ n7_ n8_
                      (try clear hb)
                      (try clear hb2)
                      (try clear hk)
                      (try clear hi)
                      (try clear ho0)
                      refine hK.out _ _ ⟨HS0_, HS1_, HS2_, HS3_, HS4_, HS5_, HS6_, HS7_⟩ (fun hHeld => ?_)
                      clear hK K
                      refine norm_ (a' := ?_) ?_ ?_
                      rotate_left
                      · show Act.put _ (some 28) _ = _
                        simp only [Act.put, List.setIfInBounds_toArray, List.set_cons_zero, List.set_cons_succ, i64_w, i32_w]
                        rfl
                      refine pure_ (i := 11) (N := some 17) (v := ?_) (a' := ?_) #[true, true, true, true, true, true, true, true, true, true, true, true, false, false, true, false, false] rfl rfl (any_of HT_.out (by kernel_rfl)) (fun _ _ _ h => h) (Or.inl ⟨by rfl, ?_⟩) ?_ ?_
                      rotate_left
                      · intro w'
                        go_simp
                        with_reducible rfl
                      rotate_left
                      · simp only [Act.put, List.setIfInBounds_toArray, List.set_cons_zero, List.set_cons_succ, i64_w, i32_w]
                        rfl
                      refine pure_ (i := 12) (N := some 29) (v := ?_) (a' := ?_) #[true, true, true, true, true, true, true, true, true, true, true, true, true, false, true, false, false] rfl rfl (any_of HT_.out (by kernel_rfl)) (fun _ _ _ h => h) (Or.inl ⟨by rfl, ?_⟩) ?_ ?_
                      rotate_left
                      · intro w'
                        go_simp
                        with_reducible rfl
                      rotate_left
                      · simp only [Act.put, List.setIfInBounds_toArray, List.set_cons_zero, List.set_cons_succ, i64_w, i32_w]
                        rfl
                      refine pure_ (i := 13) (N := some 30) (v := ?_) (a' := ?_) #[true, true, true, true, true, true, true, true, true, true, true, true, true, true, true, false, false] rfl rfl (any_of HT_.out (by kernel_rfl)) (fun _ _ _ h => h) (Or.inl ⟨by rfl, ?_⟩) ?_ ?_
                      rotate_left
                      · intro w'
                        go_simp
                        with_reducible rfl
                      rotate_left
                      · simp only [Act.put, List.setIfInBounds_toArray, List.set_cons_zero, List.set_cons_succ, i64_w, i32_w]
                        rfl
                      exact norm_ (by simp only [putAll, Act.put, List.setIfInBounds_toArray, List.set_cons_zero, List.set_cons_succ]) (hCont (v190, gb193) _ ⟨hHeld, (by (with_reducible repeat (first | apply Kd.V_alloc | apply Kd.V_drewN | apply Kd.V_drew)); exact Kd.V_mono HL184_3.out (fun _ hk => ⟨hk.1.1.1, ⟨hk.2, ⟨hk.1.1.2, hk.1.2⟩⟩⟩)), (by (with_reducible repeat (first | apply Kd.V_alloc | apply Kd.V_drewN | apply Kd.V_drew)); exact Kd.V_mono HL185_3.out (fun _ hk => ⟨hk.1.1.1, ⟨hk.2, ⟨hk.1.1.2, hk.1.2⟩⟩⟩)), (by (with_reducible repeat (first | apply Kd.R_alloc | apply Kd.R_drewN | apply Kd.R_drew)); exact Kd.R_mono HO191.out (fun _ hk => hk.1)), (by (with_reducible repeat (first | apply Kd.V_alloc | apply Kd.V_drewN | apply Kd.V_drew)); exact Kd.V_mono HO_0.out (fun _ hk => ⟨hk.1.1.1, ⟨hk.2, ⟨hk.1.1.2, hk.1.2⟩⟩⟩)), (by (with_reducible repeat (first | apply Kd.N_alloc | apply Kd.N_drewN | apply Kd.N_drew)); exact Kd.N_mono HO_3.out (fun _ hk => ⟨hk.1.1, ⟨hk.2, hk.1.2⟩⟩)), (by (with_reducible repeat (first | refine blk_drewN ?_ _ | refine blk_drew ?_ | refine blk_alloc ?_ _)); exact BK193.out), GW193.out, GE193.out, (by repeat (first | (with_reducible first | exact HB.out | apply below_alloc | apply pw_below_drewN | apply below_drew1 | refine below_set ?_ GE193.out) | exact HB.out))⟩)
                  rintro ⟨v190, gb193⟩ w17 ⟨hS_, h0_, h1_, h2_, h3_, h4_, h5_, h6_, h7_, h8_⟩
                  have n0_ : Aside0 (Kd.V (Kd.int .i64) 3 w17 w.heap.size (fun k_ => (P0_ k_ ∨ w.heap.size ≤ k_) ∧ some k_ ≠ (v190 : Value).ownBlock ∧ some k_ ≠ (.slice (some ad184) x3_1.length co13 : Value).ownBlock ∧ k_ ≠ gb193) (.slice A184_3 ((rd_T28 x3_1 (ji6)).f3).length c184_3) ((rd_T28 x3_1 (ji6)).f3)) := ⟨h0_⟩
                  have n1_ : Aside0 (Kd.V (Kd.int .i64) 3 w17 w.heap.size (fun k_ => (P0_ k_ ∨ w.heap.size ≤ k_) ∧ some k_ ≠ (v190 : Value).ownBlock ∧ some k_ ≠ (.slice (some ad184) x3_1.length co13 : Value).ownBlock ∧ k_ ≠ gb193) (.slice A185_3 ((rd_T28 x0_1 x4_1).f3).length c185_3) ((rd_T28 x0_1 x4_1).f3)) := ⟨h1_⟩
                  have n2_ : Aside0 (Kd.R (Kd.int .i64) 3 w17 w.heap.size (fun k_ => (w.heap.size ≤ k_)) v190 t189) := ⟨h2_⟩
                  have n3_ : Aside0 (Kd.V k28 28 w17 w.heap.size (fun k_ => (P0_ k_ ∨ w.heap.size ≤ k_) ∧ some k_ ≠ (v190 : Value).ownBlock ∧ some k_ ≠ (.slice (some ad184) x3_1.length co13 : Value).ownBlock ∧ k_ ≠ gb193) (.slice (some ad185) x0_1.length c0) x0_1) := ⟨h3_⟩
                  have n4_ : Aside0 (Kd.N k28 28 w17 w.heap.size (fun k_ => (P0_ k_ ∨ w.heap.size ≤ k_) ∧ some k_ ≠ (v190 : Value).ownBlock ∧ k_ ≠ gb193) (.slice (some ad184) x3_1.length co13) x3_1) := ⟨h4_⟩
                  have n5_ : Aside0 (w17.heap[gb193]? = some (.cells #[.int .i64 0, .int .i64 0, .int .i64 0, .slice none 0 0] 28 (0, 0))) := ⟨h5_⟩
                  have n6_ : Aside0 (w.heap.size ≤ gb193) := ⟨h6_⟩
                  have n7_ : Aside0 (w.heap.size ≤ gb193) := ⟨h7_⟩
                  have n8_ : Aside0 (Below w.heap.size w w17) := ⟨h8_⟩
                  clear HO_0
                  clear HO_3
                  clear HB
                  clear h0_ h1_ h2_ h3_ h4_ h5_ h6_ h7_ h8_
                  have HL184_3 := n0_
                  have HL185_3 := n1_
                  have HO191 := n2_
                  have HO_0 := n3_
                  have HO_3 := n4_
                  have BK193 := n5_
                  have GW193 := n6_
                  have GE193 := n7_
                  have HB := n8_
                  clear n0_ n1_ n2_ n3_ n4_ n5_ n6_ n7_ n8_
                  have hHeld : w17.cell? (ad184.add (((ji6)).toNat * 4)) = some (.int .i64 ((rd_T28 x3_1 (ji6)).f0)) ∧ w17.cell? ⟨(ad184.add (((ji6)).toNat * 4)).block, (ad184.add (((ji6)).toNat * 4)).off + 1, none⟩ = some (.int .i64 ((rd_T28 x3_1 (ji6)).f1)) ∧ w17.cell? ⟨(ad184.add (((ji6)).toNat * 4)).block, (ad184.add (((ji6)).toNat * 4)).off + 2, none⟩ = some (.int .i64 ((rd_T28 x3_1 (ji6)).f2)) ∧ w17.cell? ⟨(ad184.add (((ji6)).toNat * 4)).block, (ad184.add (((ji6)).toNat * 4)).off + 3, none⟩ = some (.slice A184_3 ((rd_T28 x3_1 (ji6)).f3).length c184_3) ∧ w17.cell? (ad185.add ((x4_1).toNat * 4)) = some (.int .i64 ((rd_T28 x0_1 x4_1).f0)) ∧ w17.cell? ⟨(ad185.add ((x4_1).toNat * 4)).block, (ad185.add ((x4_1).toNat * 4)).off + 1, none⟩ = some (.int .i64 ((rd_T28 x0_1 x4_1).f1)) ∧ w17.cell? ⟨(ad185.add ((x4_1).toNat * 4)).block, (ad185.add ((x4_1).toNat * 4)).off + 2, none⟩ = some (.int .i64 ((rd_T28 x0_1 x4_1).f2)) ∧ w17.cell? ⟨(ad185.add ((x4_1).toNat * 4)).block, (ad185.add ((x4_1).toNat * 4)).off + 3, none⟩ = some (.slice A185_3 ((rd_T28 x0_1 x4_1).f3).length c185_3) := hS_
                  obtain ⟨Ao21, co21, eo21⟩ := Kd.R_slice HO191.out
                  (first | subst eo21 | (injection eo21 with f1_ f2_ f3_; have f4_ := f1_.symm; have f5_ := f3_.symm; clear f1_ f2_ f3_; subst f4_; subst f5_))
                  refine norm_ (a' := ?_) ?_ ?_
                  rotate_left
                  · simp only [putAll, Act.put, List.setIfInBounds_toArray, List.set_cons_zero, List.set_cons_succ]
                    rfl
                  refine one_ (i := 15) (N := none) #[true, true, true, true, true, true, true, true, true, true, true, true, true, true, true, true, false] rfl rfl (one_of HT_.out (by kernel_rfl)) (by decide) (fun K hK => ?_)
                  have hs18 : w17.cell? ⟨gb193, 0, none⟩ = some (.int .i64 0) := (blk_cell BK193.out 0).trans rfl
                  have hfs18 := blk_frozen BK193.out 0
                  have hs19 : w17.cell? ⟨gb193, 1, none⟩ = some (.int .i64 0) := (blk_cell BK193.out 1).trans rfl
                  have hfs19 := blk_frozen BK193.out 1
                  have hs20 : w17.cell? ⟨gb193, 2, none⟩ = some (.int .i64 0) := (blk_cell BK193.out 2).trans rfl
                  have hfs20 := blk_frozen BK193.out 2
                  have hs22 : w17.cell? ⟨gb193, 3, none⟩ = some (.slice none 0 0) := (blk_cell BK193.out 3).trans rfl
                  have hfs22 := blk_frozen BK193.out 3
                  refine skip_ (w1 := ?_) (by rfl) rfl ?_ ?_
                  rotate_left
                  · go_simp
                    rfl
                  refine hK.out _ _ ⟨((cell_far (p := ⟨gb193, _, none⟩) (by first | exact Kd.own_blk (Kd.N_away HO_3.out (fun _ hk => hk.2.2)) | (rw [add_block]; exact Kd.own_blk (Kd.N_away HO_3.out (fun _ hk => hk.2.2))) | (show (Addr.add _ _).block ≠ _; rw [add_block]; exact Kd.own_blk (Kd.N_away HO_3.out (fun _ hk => hk.2.2))) | (dsimp only; exact Kd.own_blk (Kd.N_away HO_3.out (fun _ hk => hk.2.2)))) _).trans (((cell_far (p := ⟨gb193, _, none⟩) (by first | exact Kd.own_blk (Kd.N_away HO_3.out (fun _ hk => hk.2.2)) | (rw [add_block]; exact Kd.own_blk (Kd.N_away HO_3.out (fun _ hk => hk.2.2))) | (show (Addr.add _ _).block ≠ _; rw [add_block]; exact Kd.own_blk (Kd.N_away HO_3.out (fun _ hk => hk.2.2))) | (dsimp only; exact Kd.own_blk (Kd.N_away HO_3.out (fun _ hk => hk.2.2)))) _).trans (((cell_far (p := ⟨gb193, _, none⟩) (by first | exact Kd.own_blk (Kd.N_away HO_3.out (fun _ hk => hk.2.2)) | (rw [add_block]; exact Kd.own_blk (Kd.N_away HO_3.out (fun _ hk => hk.2.2))) | (show (Addr.add _ _).block ≠ _; rw [add_block]; exact Kd.own_blk (Kd.N_away HO_3.out (fun _ hk => hk.2.2))) | (dsimp only; exact Kd.own_blk (Kd.N_away HO_3.out (fun _ hk => hk.2.2)))) _).trans (((cell_far (p := ⟨gb193, _, none⟩) (by first | exact Kd.own_blk (Kd.N_away HO_3.out (fun _ hk => hk.2.2)) | (rw [add_block]; exact Kd.own_blk (Kd.N_away HO_3.out (fun _ hk => hk.2.2))) | (show (Addr.add _ _).block ≠ _; rw [add_block]; exact Kd.own_blk (Kd.N_away HO_3.out (fun _ hk => hk.2.2))) | (dsimp only; exact Kd.own_blk (Kd.N_away HO_3.out (fun _ hk => hk.2.2)))) _).trans (hHeld.1)))))))), ((cell_far (p := ⟨gb193, _, none⟩) (by first | exact Kd.own_blk (Kd.N_away HO_3.out (fun _ hk => hk.2.2)) | (rw [add_block]; exact Kd.own_blk (Kd.N_away HO_3.out (fun _ hk => hk.2.2))) | (show (Addr.add _ _).block ≠ _; rw [add_block]; exact Kd.own_blk (Kd.N_away HO_3.out (fun _ hk => hk.2.2))) | (dsimp only; exact Kd.own_blk (Kd.N_away HO_3.out (fun _ hk => hk.2.2)))) _).trans (((cell_far (p := ⟨gb193, _, none⟩) (by first | exact Kd.own_blk (Kd.N_away HO_3.out (fun _ hk => hk.2.2)) | (rw [add_block]; exact Kd.own_blk (Kd.N_away HO_3.out (fun _ hk => hk.2.2))) | (show (Addr.add _ _).block ≠ _; rw [add_block]; exact Kd.own_blk (Kd.N_away HO_3.out (fun _ hk => hk.2.2))) | (dsimp only; exact Kd.own_blk (Kd.N_away HO_3.out (fun _ hk => hk.2.2)))) _).trans (((cell_far (p := ⟨gb193, _, none⟩) (by first | exact Kd.own_blk (Kd.N_away HO_3.out (fun _ hk => hk.2.2)) | (rw [add_block]; exact Kd.own_blk (Kd.N_away HO_3.out (fun _ hk => hk.2.2))) | (show (Addr.add _ _).block ≠ _; rw [add_block]; exact Kd.own_blk (Kd.N_away HO_3.out (fun _ hk => hk.2.2))) | (dsimp only; exact Kd.own_blk (Kd.N_away HO_3.out (fun _ hk => hk.2.2)))) _).trans (((cell_far (p := ⟨gb193, _, none⟩) (by first | exact Kd.own_blk (Kd.N_away HO_3.out (fun _ hk => hk.2.2)) | (rw [add_block]; exact Kd.own_blk (Kd.N_away HO_3.out (fun _ hk => hk.2.2))) | (show (Addr.add _ _).block ≠ _; rw [add_block]; exact Kd.own_blk (Kd.N_away HO_3.out (fun _ hk => hk.2.2))) | (dsimp only; exact Kd.own_blk (Kd.N_away HO_3.out (fun _ hk => hk.2.2)))) _).trans (hHeld.2.1)))))))), ((cell_far (p := ⟨gb193, _, none⟩) (by first | exact Kd.own_blk (Kd.N_away HO_3.out (fun _ hk => hk.2.2)) | (rw [add_block]; exact Kd.own_blk (Kd.N_away HO_3.out (fun _ hk => hk.2.2))) | (show (Addr.add _ _).block ≠ _; rw [add_block]; exact Kd.own_blk (Kd.N_away HO_3.out (fun _ hk => hk.2.2))) | (dsimp only; exact Kd.own_blk (Kd.N_away HO_3.out (fun _ hk => hk.2.2)))) _).trans (((cell_far (p := ⟨gb193, _, none⟩) (by first | exact Kd.own_blk (Kd.N_away HO_3.out (fun _ hk => hk.2.2)) | (rw [add_block]; exact Kd.own_blk (Kd.N_away HO_3.out (fun _ hk => hk.2.2))) | (show (Addr.add _ _).block ≠ _; rw [add_block]; exact Kd.own_blk (Kd.N_away HO_3.out (fun _ hk => hk.2.2))) | (dsimp only; exact Kd.own_blk (Kd.N_away HO_3.out (fun _ hk => hk.2.2)))) _).trans (((cell_far (p := ⟨gb193, _, none⟩) (by first | exact Kd.own_blk (Kd.N_away HO_3.out (fun _ hk => hk.2.2)) | (rw [add_block]; exact Kd.own_blk (Kd.N_away HO_3.out (fun _ hk => hk.2.2))) | (show (Addr.add _ _).block ≠ _; rw [add_block]; exact Kd.own_blk (Kd.N_away HO_3.out (fun _ hk => hk.2.2))) | (dsimp only; exact Kd.own_blk (Kd.N_away HO_3.out (fun _ hk => hk.2.2)))) _).trans (((cell_far (p := ⟨gb193, _, none⟩) (by first | exact Kd.own_blk (Kd.N_away HO_3.out (fun _ hk => hk.2.2)) | (rw [add_block]; exact Kd.own_blk (Kd.N_away HO_3.out (fun _ hk => hk.2.2))) | (show (Addr.add _ _).block ≠ _; rw [add_block]; exact Kd.own_blk (Kd.N_away HO_3.out (fun _ hk => hk.2.2))) | (dsimp only; exact Kd.own_blk (Kd.N_away HO_3.out (fun _ hk => hk.2.2)))) _).trans (hHeld.2.2.1)))))))), ((cell_far (p := ⟨gb193, _, none⟩) (by first | exact Kd.own_blk (Kd.N_away HO_3.out (fun _ hk => hk.2.2)) | (rw [add_block]; exact Kd.own_blk (Kd.N_away HO_3.out (fun _ hk => hk.2.2))) | (show (Addr.add _ _).block ≠ _; rw [add_block]; exact Kd.own_blk (Kd.N_away HO_3.out (fun _ hk => hk.2.2))) | (dsimp only; exact Kd.own_blk (Kd.N_away HO_3.out (fun _ hk => hk.2.2)))) _).trans (((cell_far (p := ⟨gb193, _, none⟩) (by first | exact Kd.own_blk (Kd.N_away HO_3.out (fun _ hk => hk.2.2)) | (rw [add_block]; exact Kd.own_blk (Kd.N_away HO_3.out (fun _ hk => hk.2.2))) | (show (Addr.add _ _).block ≠ _; rw [add_block]; exact Kd.own_blk (Kd.N_away HO_3.out (fun _ hk => hk.2.2))) | (dsimp only; exact Kd.own_blk (Kd.N_away HO_3.out (fun _ hk => hk.2.2)))) _).trans (((cell_far (p := ⟨gb193, _, none⟩) (by first | exact Kd.own_blk (Kd.N_away HO_3.out (fun _ hk => hk.2.2)) | (rw [add_block]; exact Kd.own_blk (Kd.N_away HO_3.out (fun _ hk => hk.2.2))) | (show (Addr.add _ _).block ≠ _; rw [add_block]; exact Kd.own_blk (Kd.N_away HO_3.out (fun _ hk => hk.2.2))) | (dsimp only; exact Kd.own_blk (Kd.N_away HO_3.out (fun _ hk => hk.2.2)))) _).trans (((cell_far (p := ⟨gb193, _, none⟩) (by first | exact Kd.own_blk (Kd.N_away HO_3.out (fun _ hk => hk.2.2)) | (rw [add_block]; exact Kd.own_blk (Kd.N_away HO_3.out (fun _ hk => hk.2.2))) | (show (Addr.add _ _).block ≠ _; rw [add_block]; exact Kd.own_blk (Kd.N_away HO_3.out (fun _ hk => hk.2.2))) | (dsimp only; exact Kd.own_blk (Kd.N_away HO_3.out (fun _ hk => hk.2.2)))) _).trans (hHeld.2.2.2.1)))))))), ((cell_far (p := ⟨gb193, _, none⟩) (by first | exact (Kd.V_blk HO_0.out (fun _ hk => hk.2.2.2) p185 q185 (by decide) z28) | (rw [add_block]; exact (Kd.V_blk HO_0.out (fun _ hk => hk.2.2.2) p185 q185 (by decide) z28)) | (show (Addr.add _ _).block ≠ _; rw [add_block]; exact (Kd.V_blk HO_0.out (fun _ hk => hk.2.2.2) p185 q185 (by decide) z28)) | (dsimp only; exact (Kd.V_blk HO_0.out (fun _ hk => hk.2.2.2) p185 q185 (by decide) z28))) _).trans (((cell_far (p := ⟨gb193, _, none⟩) (by first | exact (Kd.V_blk HO_0.out (fun _ hk => hk.2.2.2) p185 q185 (by decide) z28) | (rw [add_block]; exact (Kd.V_blk HO_0.out (fun _ hk => hk.2.2.2) p185 q185 (by decide) z28)) | (show (Addr.add _ _).block ≠ _; rw [add_block]; exact (Kd.V_blk HO_0.out (fun _ hk => hk.2.2.2) p185 q185 (by decide) z28)) | (dsimp only; exact (Kd.V_blk HO_0.out (fun _ hk => hk.2.2.2) p185 q185 (by decide) z28))) _).trans (((cell_far (p := ⟨gb193, _, none⟩) (by first | exact (Kd.V_blk HO_0.out (fun _ hk => hk.2.2.2) p185 q185 (by decide) z28) | (rw [add_block]; exact (Kd.V_blk HO_0.out (fun _ hk => hk.2.2.2) p185 q185 (by decide) z28)) | (show (Addr.add _ _).block ≠ _; rw [add_block]; exact (Kd.V_blk HO_0.out (fun _ hk => hk.2.2.2) p185 q185 (by decide) z28)) | (dsimp only; exact (Kd.V_blk HO_0.out (fun _ hk => hk.2.2.2) p185 q185 (by decide) z28))) _).trans (((cell_far (p := ⟨gb193, _, none⟩) (by first | exact (Kd.V_blk HO_0.out (fun _ hk => hk.2.2.2) p185 q185 (by decide) z28) | (rw [add_block]; exact (Kd.V_blk HO_0.out (fun _ hk => hk.2.2.2) p185 q185 (by decide) z28)) | (show (Addr.add _ _).block ≠ _; rw [add_block]; exact (Kd.V_blk HO_0.out (fun _ hk => hk.2.2.2) p185 q185 (by decide) z28)) | (dsimp only; exact (Kd.V_blk HO_0.out (fun _ hk => hk.2.2.2) p185 q185 (by decide) z28))) _).trans (hHeld.2.2.2.2.1)))))))), ((cell_far (p := ⟨gb193, _, none⟩) (by first | exact (Kd.V_blk HO_0.out (fun _ hk => hk.2.2.2) p185 q185 (by decide) z28) | (rw [add_block]; exact (Kd.V_blk HO_0.out (fun _ hk => hk.2.2.2) p185 q185 (by decide) z28)) | (show (Addr.add _ _).block ≠ _; rw [add_block]; exact (Kd.V_blk HO_0.out (fun _ hk => hk.2.2.2) p185 q185 (by decide) z28)) | (dsimp only; exact (Kd.V_blk HO_0.out (fun _ hk => hk.2.2.2) p185 q185 (by decide) z28))) _).trans (((cell_far (p := ⟨gb193, _, none⟩) (by first | exact (Kd.V_blk HO_0.out (fun _ hk => hk.2.2.2) p185 q185 (by decide) z28) | (rw [add_block]; exact (Kd.V_blk HO_0.out (fun _ hk => hk.2.2.2) p185 q185 (by decide) z28)) | (show (Addr.add _ _).block ≠ _; rw [add_block]; exact (Kd.V_blk HO_0.out (fun _ hk => hk.2.2.2) p185 q185 (by decide) z28)) | (dsimp only; exact (Kd.V_blk HO_0.out (fun _ hk => hk.2.2.2) p185 q185 (by decide) z28))) _).trans (((cell_far (p := ⟨gb193, _, none⟩) (by first | exact (Kd.V_blk HO_0.out (fun _ hk => hk.2.2.2) p185 q185 (by decide) z28) | (rw [add_block]; exact (Kd.V_blk HO_0.out (fun _ hk => hk.2.2.2) p185 q185 (by decide) z28)) | (show (Addr.add _ _).block ≠ _; rw [add_block]; exact (Kd.V_blk HO_0.out (fun _ hk => hk.2.2.2) p185 q185 (by decide) z28)) | (dsimp only; exact (Kd.V_blk HO_0.out (fun _ hk => hk.2.2.2) p185 q185 (by decide) z28))) _).trans (((cell_far (p := ⟨gb193, _, none⟩) (by first | exact (Kd.V_blk HO_0.out (fun _ hk => hk.2.2.2) p185 q185 (by decide) z28) | (rw [add_block]; exact (Kd.V_blk HO_0.out (fun _ hk => hk.2.2.2) p185 q185 (by decide) z28)) | (show (Addr.add _ _).block ≠ _; rw [add_block]; exact (Kd.V_blk HO_0.out (fun _ hk => hk.2.2.2) p185 q185 (by decide) z28)) | (dsimp only; exact (Kd.V_blk HO_0.out (fun _ hk => hk.2.2.2) p185 q185 (by decide) z28))) _).trans (hHeld.2.2.2.2.2.1)))))))), ((cell_far (p := ⟨gb193, _, none⟩) (by first | exact (Kd.V_blk HO_0.out (fun _ hk => hk.2.2.2) p185 q185 (by decide) z28) | (rw [add_block]; exact (Kd.V_blk HO_0.out (fun _ hk => hk.2.2.2) p185 q185 (by decide) z28)) | (show (Addr.add _ _).block ≠ _; rw [add_block]; exact (Kd.V_blk HO_0.out (fun _ hk => hk.2.2.2) p185 q185 (by decide) z28)) | (dsimp only; exact (Kd.V_blk HO_0.out (fun _ hk => hk.2.2.2) p185 q185 (by decide) z28))) _).trans (((cell_far (p := ⟨gb193, _, none⟩) (by first | exact (Kd.V_blk HO_0.out (fun _ hk => hk.2.2.2) p185 q185 (by decide) z28) | (rw [add_block]; exact (Kd.V_blk HO_0.out (fun _ hk => hk.2.2.2) p185 q185 (by decide) z28)) | (show (Addr.add _ _).block ≠ _; rw [add_block]; exact (Kd.V_blk HO_0.out (fun _ hk => hk.2.2.2) p185 q185 (by decide) z28)) | (dsimp only; exact (Kd.V_blk HO_0.out (fun _ hk => hk.2.2.2) p185 q185 (by decide) z28))) _).trans (((cell_far (p := ⟨gb193, _, none⟩) (by first | exact (Kd.V_blk HO_0.out (fun _ hk => hk.2.2.2) p185 q185 (by decide) z28) | (rw [add_block]; exact (Kd.V_blk HO_0.out (fun _ hk => hk.2.2.2) p185 q185 (by decide) z28)) | (show (Addr.add _ _).block ≠ _; rw [add_block]; exact (Kd.V_blk HO_0.out (fun _ hk => hk.2.2.2) p185 q185 (by decide) z28)) | (dsimp only; exact (Kd.V_blk HO_0.out (fun _ hk => hk.2.2.2) p185 q185 (by decide) z28))) _).trans (((cell_far (p := ⟨gb193, _, none⟩) (by first | exact (Kd.V_blk HO_0.out (fun _ hk => hk.2.2.2) p185 q185 (by decide) z28) | (rw [add_block]; exact (Kd.V_blk HO_0.out (fun _ hk => hk.2.2.2) p185 q185 (by decide) z28)) | (show (Addr.add _ _).block ≠ _; rw [add_block]; exact (Kd.V_blk HO_0.out (fun _ hk => hk.2.2.2) p185 q185 (by decide) z28)) | (dsimp only; exact (Kd.V_blk HO_0.out (fun _ hk => hk.2.2.2) p185 q185 (by decide) z28))) _).trans (hHeld.2.2.2.2.2.2.1)))))))), ((cell_far (p := ⟨gb193, _, none⟩) (by first | exact (Kd.V_blk HO_0.out (fun _ hk => hk.2.2.2) p185 q185 (by decide) z28) | (rw [add_block]; exact (Kd.V_blk HO_0.out (fun _ hk => hk.2.2.2) p185 q185 (by decide) z28)) | (show (Addr.add _ _).block ≠ _; rw [add_block]; exact (Kd.V_blk HO_0.out (fun _ hk => hk.2.2.2) p185 q185 (by decide) z28)) | (dsimp only; exact (Kd.V_blk HO_0.out (fun _ hk => hk.2.2.2) p185 q185 (by decide) z28))) _).trans (((cell_far (p := ⟨gb193, _, none⟩) (by first | exact (Kd.V_blk HO_0.out (fun _ hk => hk.2.2.2) p185 q185 (by decide) z28) | (rw [add_block]; exact (Kd.V_blk HO_0.out (fun _ hk => hk.2.2.2) p185 q185 (by decide) z28)) | (show (Addr.add _ _).block ≠ _; rw [add_block]; exact (Kd.V_blk HO_0.out (fun _ hk => hk.2.2.2) p185 q185 (by decide) z28)) | (dsimp only; exact (Kd.V_blk HO_0.out (fun _ hk => hk.2.2.2) p185 q185 (by decide) z28))) _).trans (((cell_far (p := ⟨gb193, _, none⟩) (by first | exact (Kd.V_blk HO_0.out (fun _ hk => hk.2.2.2) p185 q185 (by decide) z28) | (rw [add_block]; exact (Kd.V_blk HO_0.out (fun _ hk => hk.2.2.2) p185 q185 (by decide) z28)) | (show (Addr.add _ _).block ≠ _; rw [add_block]; exact (Kd.V_blk HO_0.out (fun _ hk => hk.2.2.2) p185 q185 (by decide) z28)) | (dsimp only; exact (Kd.V_blk HO_0.out (fun _ hk => hk.2.2.2) p185 q185 (by decide) z28))) _).trans (((cell_far (p := ⟨gb193, _, none⟩) (by first | exact (Kd.V_blk HO_0.out (fun _ hk => hk.2.2.2) p185 q185 (by decide) z28) | (rw [add_block]; exact (Kd.V_blk HO_0.out (fun _ hk => hk.2.2.2) p185 q185 (by decide) z28)) | (show (Addr.add _ _).block ≠ _; rw [add_block]; exact (Kd.V_blk HO_0.out (fun _ hk => hk.2.2.2) p185 q185 (by decide) z28)) | (dsimp only; exact (Kd.V_blk HO_0.out (fun _ hk => hk.2.2.2) p185 q185 (by decide) z28))) _).trans (hHeld.2.2.2.2.2.2.2))))))))⟩ (fun hHeld => ?_)
                  clear hK K
                  refine pure_ (i := 16) (N := some 6) (v := ?_) (a' := ?_) #[true, true, true, true, true, true, true, true, true, true, true, true, true, true, true, true, true] rfl rfl (any_of HT_.out (by kernel_rfl)) (fun _ _ _ h => h) (Or.inl ⟨by rfl, ?_⟩) ?_ ?_
                  rotate_left
                  · intro w'
                    go_simp
                    with_reducible rfl
                  rotate_left
                  · simp only [Act.put, List.setIfInBounds_toArray, List.set_cons_zero, List.set_cons_succ, i64_w, i32_w]
                    rfl
                  refine done_ (done_of HT_.out (by kernel_rfl)) ?_
                  have n0_ : Aside0 (Kd.V k28 28 ((((w17.setCell ⟨gb193, 0, none⟩ (.int .i64 t186)).setCell ⟨gb193, 1, none⟩ (.int .i64 t187)).setCell ⟨gb193, 2, none⟩ (.int .i64 t188)).setCell ⟨gb193, 3, none⟩ (.slice Ao21 t189.length co21)) w.heap.size (fun k_ => (P0_ k_ ∨ w.heap.size ≤ k_) ∧ some k_ ≠ (.slice (some ad184) x3_1.length co13 : Value).ownBlock ∧ some k_ ≠ (.slice Ao21 t189.length co21 : Value).ownBlock ∧ k_ ≠ gb193) (.slice (some ad185) x0_1.length c0) x0_1) := ⟨by (with_reducible repeat (first | apply Kd.V_alloc | apply Kd.V_drewN | apply Kd.V_drew)); exact Kd.V_mono (Kd.V_far (p := ⟨gb193, 3, none⟩) (Kd.V_far (p := ⟨gb193, 2, none⟩) (Kd.V_far (p := ⟨gb193, 1, none⟩) (Kd.V_far (p := ⟨gb193, 0, none⟩) (Kd.V_mono HO_0.out (fun k_ hk => (⟨hk, hk.2.2.2⟩ : _ ∧ k_ ≠ gb193))) (fun _ hk => hk.2) (.int .i64 t186)) (fun _ hk => hk.2) (.int .i64 t187)) (fun _ hk => hk.2) (.int .i64 t188)) (fun _ hk => hk.2) (.slice Ao21 t189.length co21)) (fun _ hk => ⟨hk.1.1, ⟨hk.1.2.2.1, ⟨hk.1.2.1, hk.1.2.2.2⟩⟩⟩)⟩
                  have n1_ : Aside0 (Kd.N k28 28 ((((w17.setCell ⟨gb193, 0, none⟩ (.int .i64 t186)).setCell ⟨gb193, 1, none⟩ (.int .i64 t187)).setCell ⟨gb193, 2, none⟩ (.int .i64 t188)).setCell ⟨gb193, 3, none⟩ (.slice Ao21 t189.length co21)) w.heap.size (fun k_ => (P0_ k_ ∨ w.heap.size ≤ k_) ∧ some k_ ≠ (.slice Ao21 t189.length co21 : Value).ownBlock ∧ k_ ≠ gb193) (.slice (some ad184) x3_1.length co13) x3_1) := ⟨by (with_reducible repeat (first | apply Kd.N_alloc | apply Kd.N_drewN | apply Kd.N_drew)); exact Kd.N_mono (Kd.N_far (p := ⟨gb193, 3, none⟩) (Kd.N_far (p := ⟨gb193, 2, none⟩) (Kd.N_far (p := ⟨gb193, 1, none⟩) (Kd.N_far (p := ⟨gb193, 0, none⟩) (Kd.N_mono HO_3.out (fun k_ hk => (⟨hk, hk.2.2⟩ : _ ∧ k_ ≠ gb193))) (fun _ hk => hk.2) (.int .i64 t186)) (fun _ hk => hk.2) (.int .i64 t187)) (fun _ hk => hk.2) (.int .i64 t188)) (fun _ hk => hk.2) (.slice Ao21 t189.length co21)) (fun _ hk => ⟨hk.1.1, ⟨hk.1.2.1, hk.1.2.2⟩⟩)⟩
                  have n2_ : Aside0 (Kd.V (Kd.int .i64) 3 ((((w17.setCell ⟨gb193, 0, none⟩ (.int .i64 t186)).setCell ⟨gb193, 1, none⟩ (.int .i64 t187)).setCell ⟨gb193, 2, none⟩ (.int .i64 t188)).setCell ⟨gb193, 3, none⟩ (.slice Ao21 t189.length co21)) w.heap.size (fun k_ => (P0_ k_ ∨ w.heap.size ≤ k_) ∧ some k_ ≠ (.slice (some ad184) x3_1.length co13 : Value).ownBlock ∧ some k_ ≠ (.slice Ao21 t189.length co21 : Value).ownBlock ∧ k_ ≠ gb193) (.slice A184_3 ((rd_T28 x3_1 (ji6)).f3).length c184_3) ((rd_T28 x3_1 (ji6)).f3)) := ⟨by (with_reducible repeat (first | apply Kd.V_alloc | apply Kd.V_drewN | apply Kd.V_drew)); exact Kd.V_mono (Kd.V_far (p := ⟨gb193, 3, none⟩) (Kd.V_far (p := ⟨gb193, 2, none⟩) (Kd.V_far (p := ⟨gb193, 1, none⟩) (Kd.V_far (p := ⟨gb193, 0, none⟩) (Kd.V_mono HL184_3.out (fun k_ hk => (⟨hk, hk.2.2.2⟩ : _ ∧ k_ ≠ gb193))) (fun _ hk => hk.2) (.int .i64 t186)) (fun _ hk => hk.2) (.int .i64 t187)) (fun _ hk => hk.2) (.int .i64 t188)) (fun _ hk => hk.2) (.slice Ao21 t189.length co21)) (fun _ hk => ⟨hk.1.1, ⟨hk.1.2.2.1, ⟨hk.1.2.1, hk.1.2.2.2⟩⟩⟩)⟩
                  have n3_ : Aside0 (Kd.V (Kd.int .i64) 3 ((((w17.setCell ⟨gb193, 0, none⟩ (.int .i64 t186)).setCell ⟨gb193, 1, none⟩ (.int .i64 t187)).setCell ⟨gb193, 2, none⟩ (.int .i64 t188)).setCell ⟨gb193, 3, none⟩ (.slice Ao21 t189.length co21)) w.heap.size (fun k_ => (P0_ k_ ∨ w.heap.size ≤ k_) ∧ some k_ ≠ (.slice (some ad184) x3_1.length co13 : Value).ownBlock ∧ some k_ ≠ (.slice Ao21 t189.length co21 : Value).ownBlock ∧ k_ ≠ gb193) (.slice A185_3 ((rd_T28 x0_1 x4_1).f3).length c185_3) ((rd_T28 x0_1 x4_1).f3)) := ⟨by (with_reducible repeat (first | apply Kd.V_alloc | apply Kd.V_drewN | apply Kd.V_drew)); exact Kd.V_mono (Kd.V_far (p := ⟨gb193, 3, none⟩) (Kd.V_far (p := ⟨gb193, 2, none⟩) (Kd.V_far (p := ⟨gb193, 1, none⟩) (Kd.V_far (p := ⟨gb193, 0, none⟩) (Kd.V_mono HL185_3.out (fun k_ hk => (⟨hk, hk.2.2.2⟩ : _ ∧ k_ ≠ gb193))) (fun _ hk => hk.2) (.int .i64 t186)) (fun _ hk => hk.2) (.int .i64 t187)) (fun _ hk => hk.2) (.int .i64 t188)) (fun _ hk => hk.2) (.slice Ao21 t189.length co21)) (fun _ hk => ⟨hk.1.1, ⟨hk.1.2.2.1, ⟨hk.1.2.1, hk.1.2.2.2⟩⟩⟩)⟩
                  have n4_ : Aside0 (Kd.R (Kd.int .i64) 3 ((((w17.setCell ⟨gb193, 0, none⟩ (.int .i64 t186)).setCell ⟨gb193, 1, none⟩ (.int .i64 t187)).setCell ⟨gb193, 2, none⟩ (.int .i64 t188)).setCell ⟨gb193, 3, none⟩ (.slice Ao21 t189.length co21)) w.heap.size (fun k_ => (w.heap.size ≤ k_)) (.slice Ao21 t189.length co21) t189) := ⟨by (with_reducible repeat (first | apply Kd.R_alloc | apply Kd.R_drewN | apply Kd.R_drew)); exact Kd.R_mono (Kd.R_far (p := ⟨gb193, 3, none⟩) (Kd.R_far (p := ⟨gb193, 2, none⟩) (Kd.R_far (p := ⟨gb193, 1, none⟩) (Kd.R_far (p := ⟨gb193, 0, none⟩) (Kd.R_types HO191.out BK193.out (by decide)) (fun _ hk => hk.2) (.int .i64 t186)) (fun _ hk => hk.2) (.int .i64 t187)) (fun _ hk => hk.2) (.int .i64 t188)) (fun _ hk => hk.2) (.slice Ao21 t189.length co21)) (fun _ hk => hk.1)⟩
                  have n5_ : Aside0 (((((w17.setCell ⟨gb193, 0, none⟩ (.int .i64 t186)).setCell ⟨gb193, 1, none⟩ (.int .i64 t187)).setCell ⟨gb193, 2, none⟩ (.int .i64 t188)).setCell ⟨gb193, 3, none⟩ (.slice Ao21 t189.length co21)).heap[gb193]? = some (.cells #[.int .i64 t186, .int .i64 t187, .int .i64 t188, .slice Ao21 t189.length co21] 28 (0, 0))) := ⟨by (with_reducible repeat (first | refine blk_drewN ?_ _ | refine blk_drew ?_ | refine blk_alloc ?_ _)); refine blk_put (cs := #[.int .i64 t186, .int .i64 t187, .int .i64 t188, .slice none 0 0]) ?_ 3 _ rfl; (with_reducible repeat (first | refine blk_drewN ?_ _ | refine blk_drew ?_ | refine blk_alloc ?_ _)); refine blk_put (cs := #[.int .i64 t186, .int .i64 t187, .int .i64 0, .slice none 0 0]) ?_ 2 _ rfl; (with_reducible repeat (first | refine blk_drewN ?_ _ | refine blk_drew ?_ | refine blk_alloc ?_ _)); refine blk_put (cs := #[.int .i64 t186, .int .i64 0, .int .i64 0, .slice none 0 0]) ?_ 1 _ rfl; (with_reducible repeat (first | refine blk_drewN ?_ _ | refine blk_drew ?_ | refine blk_alloc ?_ _)); refine blk_put (cs := #[.int .i64 0, .int .i64 0, .int .i64 0, .slice none 0 0]) ?_ 0 _ rfl; (with_reducible repeat (first | refine blk_drewN ?_ _ | refine blk_drew ?_ | refine blk_alloc ?_ _)); exact BK193.out⟩
                  have n6_ : Aside0 (Below w.heap.size w ((((w17.setCell ⟨gb193, 0, none⟩ (.int .i64 t186)).setCell ⟨gb193, 1, none⟩ (.int .i64 t187)).setCell ⟨gb193, 2, none⟩ (.int .i64 t188)).setCell ⟨gb193, 3, none⟩ (.slice Ao21 t189.length co21))) := ⟨by repeat (first | (with_reducible first | exact HB.out | apply below_alloc | apply pw_below_drewN | apply below_drew1 | refine below_set ?_ GE193.out) | exact HB.out)⟩
                  (try clear HO_0)
                  (try clear HO_3)
                  (try clear HL184_3)
                  (try clear HL185_3)
                  (try clear HO191)
                  (try clear BK193)
                  (try clear HB)
                  generalize ((((w17.setCell ⟨gb193, 0, none⟩ (.int .i64 t186)).setCell ⟨gb193, 1, none⟩ (.int .i64 t187)).setCell ⟨gb193, 2, none⟩ (.int .i64 t188)).setCell ⟨gb193, 3, none⟩ (.slice Ao21 t189.length co21)) = w23 at n0_ n1_ n2_ n3_ n4_ n5_ n6_ ⊢
                  have HO_0 := n0_
                  have HO_3 := n1_
                  have HL184_3 := n2_
                  have HL185_3 := n3_
                  have HO191 := n4_
                  have BK193 := n5_
                  have HB := n6_
                  clear n0_ n1_ n2_ n3_ n4_ n5_ n6_
                  have hcz24_0 : w23.cell? ⟨gb193, 0, none⟩ = some (.int .i64 t186) := (blk_cell BK193.out 0).trans rfl
                  have hcz24_1 : w23.cell? ⟨gb193, 1, none⟩ = some (.int .i64 t187) := (blk_cell BK193.out 1).trans rfl
                  have hcz24_2 : w23.cell? ⟨gb193, 2, none⟩ = some (.int .i64 t188) := (blk_cell BK193.out 2).trans rfl
                  have hcz24_3 : w23.cell? ⟨gb193, 3, none⟩ = some (.slice Ao21 t189.length co21) := (blk_cell BK193.out 3).trans rfl
                  have hfz24_0 := blk_frozen BK193.out 0
                  have hfz24_1 := blk_frozen BK193.out 1
                  have hfz24_2 := blk_frozen BK193.out 2
                  have hfz24_3 := blk_frozen BK193.out 3
                  have p12 : 0 ≤ ((ji6) : Int) := of_decide_eq_true (by first | (with_reducible assumption) | assumption)
                  have q12 : ((ji6) : Int) < ((x3_1.length : Int) : Int) := of_decide_eq_true (by first | (with_reducible assumption) | assumption)
                  obtain ⟨go12, co12, eo12, gb12, gl12, cl12, HG12⟩ := Kd.N_form HO_3.out (by omega)
                  (first | cases eo12 | (injection eo12 with ea_ en_ ec_; (first | subst ea_ | (injection ea_ with ea_; subst ea_)); subst ec_; clear en_))
                  have GB12 := Aside0.mk gb12
                  have GG12 := Aside0.mk HG12
                  clear gb12 gl12 HG12
                  (first | simp only [add_plain] at hx184_0 | skip)
                  (first | simp only [add_plain] at hx184_1 | skip)
                  (first | simp only [add_plain] at hx184_2 | skip)
                  (first | simp only [add_plain] at hx184_3 | skip)
                  obtain ⟨ce12, hcl12, hM12, hcc12, hfr12⟩ := Kd.N_elem HO_3.out z28 ((ji6) : Int) p12 q12
                  obtain ⟨ua12_3, uc12_3, rfl, ul12_3, ge12_3⟩ := k28_openF hM12
                  have hx12_0 : w23.cell? ⟨go12, ((ji6) : Int).toNat * 4, none⟩ = some (.int .i64 ((rd_T28 x3_1 (ji6)).f0)) := hcc12 0 _ rfl
                  have hx12_1 : w23.cell? ⟨go12, ((ji6) : Int).toNat * 4 + 1, none⟩ = some (.int .i64 ((rd_T28 x3_1 (ji6)).f1)) := hcc12 1 _ rfl
                  have hx12_2 : w23.cell? ⟨go12, ((ji6) : Int).toNat * 4 + 2, none⟩ = some (.int .i64 ((rd_T28 x3_1 (ji6)).f2)) := hcc12 2 _ rfl
                  have hx12_3 : w23.cell? ⟨go12, ((ji6) : Int).toNat * 4 + 3, none⟩ = some (.slice ua12_3 ((rd_T28 x3_1 (ji6)).f3).length uc12_3) := hcc12 3 _ rfl
                  have hf12_0 : w23.frozen? ⟨go12, ((ji6) : Int).toNat * 4, none⟩ = false := hfr12 0
                  have hf12_1 : w23.frozen? ⟨go12, ((ji6) : Int).toNat * 4 + 1, none⟩ = false := hfr12 1
                  have hf12_2 : w23.frozen? ⟨go12, ((ji6) : Int).toNat * 4 + 2, none⟩ = false := hfr12 2
                  have hf12_3 : w23.frozen? ⟨go12, ((ji6) : Int).toNat * 4 + 3, none⟩ = false := hfr12 3
                  clear hcl12 hcc12 hfr12 hM12
                  replace p12 := eq_true p12
                  replace q12 := eq_true q12
                  have HX25 := Aside0.mk (show Kd.N k28 28 w23 w.heap.size (fun k_ => (P0_ k_ ∨ w.heap.size ≤ k_) ∧ k_ ≠ gb193) (.slice (some ⟨go12, 0, none⟩) x3_1.length co13) x3_1 from (by (with_reducible repeat (first | apply Kd.N_alloc | apply Kd.N_drewN | apply Kd.N_drew)); exact Kd.N_mono HO_3.out (fun _ hk => ⟨hk.1, hk.2.2⟩)))
                  obtain ⟨ce25, hcl25, hM25, hcc25, hfr25⟩ := Kd.N_elem HX25.out z28 ((ji6) : Int) (of_decide_eq_true (by first | (with_reducible assumption) | assumption)) (by have h_ : ((ji6) : Int) < ((x3_1.length : Int) : Int) := of_decide_eq_true (by first | (with_reducible assumption) | assumption); first | exact h_ | (have e_ := (Kd.N_reads' HO_3.out).1; omega) | simpa using h_)
                  obtain ⟨ua25_3, uc25_3, rfl, ul25_3, ge25_3⟩ := k28_openF hM25
                  have HP25 := Kd.N_seg HX25.out ((ji6) : Int) (of_decide_eq_true (by first | (with_reducible assumption) | assumption)) (by have h_ : ((ji6) : Int) < ((x3_1.length : Int) : Int) := of_decide_eq_true (by first | (with_reducible assumption) | assumption); first | exact h_ | (have e_ := (Kd.N_reads' HO_3.out).1; omega) | simpa using h_) (seg := [.int .i64 t186, .int .i64 t187, .int .i64 t188, .slice Ao21 t189.length co21]) (j := 0) hcl25 hcc25 (show 4 ≤ 4 from by decide) (x' := (⟨t186, t187, t188, t189⟩ : S28)) (k28_mkF _ _ (⟨t186, t187, t188, t189⟩ : S28) (Kd.R_reads' (Kd.R_mono (ok' := (fun k_ => ((fun k_ => (P0_ k_ ∨ w.heap.size ≤ k_) ∧ k_ ≠ gb193)) k_ ∧ k_ ≠ go12)) (Kd.R_types (Kd.R_apart' (HO191.out) (Kd.N_typed HO_3.out) (by decide)) BK193.out (by decide)) (fun k_ hk => ⟨⟨(.inr (hk.1.1)), hk.2⟩, fun e_ => (hk.1.2) (by rw [e_]; rfl)⟩))).2.1 (Kd.R_F (Kd.R_mono (ok' := (fun k_ => ((fun k_ => (P0_ k_ ∨ w.heap.size ≤ k_) ∧ k_ ≠ gb193)) k_ ∧ k_ ≠ go12)) (Kd.R_types (Kd.R_apart' (HO191.out) (Kd.N_typed HO_3.out) (by decide)) BK193.out (by decide)) (fun k_ hk => ⟨⟨(.inr (hk.1.1)), hk.2⟩, fun e_ => (hk.1.2) (by rw [e_]; rfl)⟩)))) (fun _ hk => hk)
                  have hx25_0 := hcc25 0 _ rfl
                  (try simp only [show (k28).sz = 4 from rfl, Nat.mul_one, Nat.add_zero] at hx25_0)
                  have hf25_0 := hfr25 0
                  (try simp only [show (k28).sz = 4 from rfl, Nat.mul_one, Nat.add_zero] at hf25_0)
                  have hx25_1 := hcc25 1 _ rfl
                  (try simp only [show (k28).sz = 4 from rfl, Nat.mul_one, Nat.add_zero] at hx25_1)
                  have hf25_1 := hfr25 1
                  (try simp only [show (k28).sz = 4 from rfl, Nat.mul_one, Nat.add_zero] at hf25_1)
                  have hx25_2 := hcc25 2 _ rfl
                  (try simp only [show (k28).sz = 4 from rfl, Nat.mul_one, Nat.add_zero] at hx25_2)
                  have hf25_2 := hfr25 2
                  (try simp only [show (k28).sz = 4 from rfl, Nat.mul_one, Nat.add_zero] at hf25_2)
                  have hx25_3 := hcc25 3 _ rfl
                  (try simp only [show (k28).sz = 4 from rfl, Nat.mul_one, Nat.add_zero] at hx25_3)
                  have hf25_3 := hfr25 3
                  (try simp only [show (k28).sz = 4 from rfl, Nat.mul_one, Nat.add_zero] at hf25_3)
                  clear hcl25 hcc25 hfr25 hM25
                  try go_wp2_with (first | ((with_reducible refine gate_store (t := 28) (p := 37) rfl ?_); refine store_event (t := 28) (p := 37) (v := ?vo_w26) (w1 := ((((w23.setCell ⟨go12, ((ji6) : Int).toNat * 4, none⟩ (.int .i64 t186)).setCell ⟨go12, ((ji6) : Int).toNat * 4 + 1, none⟩ (.int .i64 t187)).setCell ⟨go12, ((ji6) : Int).toNat * 4 + 2, none⟩ (.int .i64 t188)).setCell ⟨go12, ((ji6) : Int).toNat * 4 + 3, none⟩ (.slice Ao21 t189.length co21))) ?hg ?ho ?hn ?hr ?_; (case ho => rfl); (case hg => rfl); (case hn => rfl); (case hr => first | (go_simp; done) | (go_simp; rfl)); intro w26 hw; have hg : w23.grownBy w26 (some go12) := (by rw [hw]; exact HP25.2); have hp_ : Kd.N k28 28 w26 w.heap.size (fun k_ => (P0_ k_ ∨ w.heap.size ≤ k_) ∧ k_ ≠ gb193) (.slice (some ⟨go12, 0, none⟩) x3_1.length co13) y194 := (by rw [hw, Ny194.out]; exact HP25.1); clear HP25; have n0_ := Aside0.mk (Kd.V_afterv (v := (.slice (some ⟨go12, 0, none⟩) x3_1.length co13)) (v1 := (.slice (some ⟨go12, 0, none⟩) x3_1.length co13)) (ok := (fun k_ => (P0_ k_ ∨ w.heap.size ≤ k_) ∧ some k_ ≠ (.slice Ao21 t189.length co21 : Value).ownBlock ∧ k_ ≠ gb193)) (by (with_reducible repeat (first | apply Kd.V_alloc | apply Kd.V_drewN | apply Kd.V_drew)); exact Kd.V_mono HO_0.out (fun _ hk => ⟨⟨hk.1, ⟨hk.2.2.1, hk.2.2.2⟩⟩, hk.2.1⟩)) hg (.inl rfl)); have n1_ := Aside0.mk (hp_); have n2_ := Aside0.mk (Kd.V_afterv (v := (.slice (some ⟨go12, 0, none⟩) x3_1.length co13)) (v1 := (.slice (some ⟨go12, 0, none⟩) x3_1.length co13)) (ok := (fun k_ => (P0_ k_ ∨ w.heap.size ≤ k_) ∧ some k_ ≠ (.slice Ao21 t189.length co21 : Value).ownBlock ∧ k_ ≠ gb193)) (by (with_reducible repeat (first | apply Kd.V_alloc | apply Kd.V_drewN | apply Kd.V_drew)); exact Kd.V_mono HL184_3.out (fun _ hk => ⟨⟨hk.1, ⟨hk.2.2.1, hk.2.2.2⟩⟩, hk.2.1⟩)) hg (.inl rfl)); have n3_ := Aside0.mk (Kd.V_afterv (v := (.slice (some ⟨go12, 0, none⟩) x3_1.length co13)) (v1 := (.slice (some ⟨go12, 0, none⟩) x3_1.length co13)) (ok := (fun k_ => (P0_ k_ ∨ w.heap.size ≤ k_) ∧ some k_ ≠ (.slice Ao21 t189.length co21 : Value).ownBlock ∧ k_ ≠ gb193)) (by (with_reducible repeat (first | apply Kd.V_alloc | apply Kd.V_drewN | apply Kd.V_drew)); exact Kd.V_mono HL185_3.out (fun _ hk => ⟨⟨hk.1, ⟨hk.2.2.1, hk.2.2.2⟩⟩, hk.2.1⟩)) hg (.inl rfl)); have n4_ := Aside0.mk (blk_grown (g := gb193) (o := .cells #[.int .i64 t186, .int .i64 t187, .int .i64 t188, .slice Ao21 t189.length co21] 28 (0, 0)) (by (with_reducible repeat (first | refine blk_drewN ?_ _ | refine blk_drew ?_ | refine blk_alloc ?_ _)); exact BK193.out) hg (Kd.N_away HO_3.out (fun _ hk => hk.2.2))); have n5_ := Aside0.mk ((by rw [hw]; exact below_set (below_set (below_set (below_set (HB.out) GB12.out) GB12.out) GB12.out) GB12.out : Below w.heap.size w w26)); clear HO_0; clear HO_3; clear HL184_3; clear HL185_3; clear BK193; clear HB; clear HO191; have HO_0 := n0_; have HO_3 := n1_; have HL184_3 := n2_; have HL185_3 := n3_; have BK193 := n4_; have HB := n5_; clear n0_ n1_ n2_ n3_ n4_ n5_; clear hg hw hp_))
                  (try simp only [← hl0_1])
                  go_roundg k1
                  case measure => have := HK1.out; omega
                  case rel => exact ⟨(x0_1), (y194), (wrap64 (x4_1 + 1)), (by first | rfl | (simp; done) | (simp [*]; done)), H', ⟨by have := HK1.out; omega⟩, ⟨by (try simp only [hl0_1]); (with_reducible repeat (first | apply Kd.V_alloc | apply Kd.V_drewN | apply Kd.V_drew)); exact Kd.V_mono HO_0.out (fun _ hk => ⟨hk.1.1, hk.2⟩)⟩, ⟨by (try simp only [hl0_1]); (with_reducible repeat (first | apply Kd.N_alloc | apply Kd.N_drewN | apply Kd.N_drew)); exact Kd.N_mono HO_3.out (fun _ hk => hk.1)⟩, ⟨by repeat (first | (with_reducible first | exact HB.out | apply below_alloc | apply pw_below_drewN | apply below_drew1 | refine below_set ?_ GE193.out) | exact HB.out)⟩⟩
                · replace c11 := Bool.eq_false_iff.mpr c11
                  subst c11
                  have H1 : (if x3_1.length < 2932031007402 then (juratref27_All.l0 k1 x0_1 (x3_1 ++ [(⟨(rd_T28 x0_1 x4_1).f0, (rd_T28 x0_1 x4_1).f1, (rd_T28 x0_1 x4_1).f2, (rd_T28 x0_1 x4_1).f3⟩ : S28)]) (wrap64 (x4_1 + 1))) else (none)) = some r := by rw [if_neg (show ¬ (false = true) by decide)] at H; exact H
                  clear H
                  have H := H1
                  clear H1
                  by_cases c27 : x3_1.length < 2932031007402
                  · rw [if_pos c27] at H
                    have LMc27 := Aside0.mk c27
                    clear c27
                    obtain ⟨y196, hy196⟩ : ∃ y_ : List (S28), y_ = (x3_1 ++ [(⟨(rd_T28 x0_1 x4_1).f0, (rd_T28 x0_1 x4_1).f1, (rd_T28 x0_1 x4_1).f2, (rd_T28 x0_1 x4_1).f3⟩ : S28)]) := ⟨_, rfl⟩
                    replace H : (juratref27_All.l0 k1 x0_1 y196 (wrap64 (x4_1 + 1))) = some r := by first | (rw [hy196]; with_reducible exact H) | (have H2_ := (Option.bind_some _ _).symm.trans H; rw [hy196]; with_reducible exact H2_) | (have H2_ := (Option.bind_some _ _).symm.trans H; with_reducible exact H2_) | with_reducible exact H | (rw [hy196]; exact H) | exact H
                    have Ny196 := Aside0.mk hy196
                    clear hy196
                    have H' := Aside0.mk H
                    clear H
                    obtain ⟨Ao28, co28, eo28⟩ := Kd.N_slice HO_3.out
                    subst eo28
                    try go_wp2
                    (try (rw [drewN_self wr]; generalize hq_ : World.drewN wr _ = wr; have n0_ : Aside0 (Kd.V k28 28 wr w.heap.size (fun k_ => (P0_ k_ ∨ w.heap.size ≤ k_) ∧ some k_ ≠ (.slice Ao28 x3_1.length co28 : Value).ownBlock) (.slice A0 x0_1.length c0) x0_1) := ⟨by rw [← hq_]; exact (by (with_reducible repeat (first | apply Kd.V_alloc | apply Kd.V_drewN | apply Kd.V_drew)); exact HO_0.out)⟩; have n1_ : Aside0 (Kd.N k28 28 wr w.heap.size (fun k_ => (P0_ k_ ∨ w.heap.size ≤ k_)) (.slice Ao28 x3_1.length co28) x3_1) := ⟨by rw [← hq_]; exact (by (with_reducible repeat (first | apply Kd.N_alloc | apply Kd.N_drewN | apply Kd.N_drew)); exact HO_3.out)⟩; have n2_ : Aside0 (Below w.heap.size w wr) := ⟨by rw [← hq_]; exact (by repeat (first | (with_reducible first | exact HB.out | apply below_alloc | apply pw_below_drewN | apply below_drew1) | exact HB.out))⟩; clear HO_0 HO_3 HB hq_; have HO_0 := n0_; have HO_3 := n1_; have HB := n2_; clear n0_ n1_ n2_))
                    have n0_ := Aside0.mk (Kd.V_drew HO_0.out)
                    have n1_ := Aside0.mk (Kd.N_drew HO_3.out)
                    have n2_ := Aside0.mk (below_drew1 HB.out)
                    clear HO_0
                    clear HO_3
                    clear HB
                    have HO_0 := n0_
                    have HO_3 := n1_
                    have HB := n2_
                    clear n0_ n1_ n2_
                    have p184 : 0 ≤ ((ji6) : Int) := of_decide_eq_true (by first | (with_reducible assumption) | assumption)
                    have q184 : (ji6) < (x3_1.length : Int) := of_decide_eq_true (by first | (with_reducible assumption) | assumption)
                    obtain ⟨ad184, A184_3, c184_3, e184, hx184_0, hx184_1, hx184_2, hx184_3, hl184_3, hi184_3⟩ := at_T28 (Kd.N_reads' HO_3.out).2.2 (ji6) p184 q184
                    cases e184
                    obtain ⟨ce184, hce184, hMe184, hcc184⟩ := Kd.N_get HO_3.out z28 (ji6) p184 (by first | exact q184 | exact of_decide_eq_true (by first | (with_reducible assumption) | assumption) | (have e_ := (Kd.N_reads' HO_3.out).1; omega))
                    obtain ⟨ua184_3, uc184_3, rfl, ul184_3, ge184_3⟩ := k28_openF hMe184
                    have hv184_3 := hcc184 3 _ rfl
                    rw [add_field _ _ 3 (by omega)] at hv184_3
                    replace hv184_3 := Option.some.inj (hv184_3.symm.trans hx184_3)
                    injection hv184_3 with hva_ hvn_ hvc_
                    rw [hva_] at ge184_3
                    rw [hvc_] at ul184_3
                    have HL184_3 := Aside0.mk (show Kd.V (Kd.int .i64) 3 _ w.heap.size _ _ ((rd_T28 x3_1 (ji6)).f3) from Kd.V_mk ul184_3 ge184_3)
                    clear hva_ hvn_ hvc_ ge184_3 ul184_3
                    clear hcc184 hce184
                    have HR184_3 := Aside0.mk hi184_3
                    have HC184_3 := Aside0.mk hl184_3
                    clear hi184_3 hl184_3
                    replace p184 := eq_true p184
                    replace q184 := eq_true q184
                    have p185 : 0 ≤ (x4_1 : Int) := of_decide_eq_true (by first | (with_reducible assumption) | assumption)
                    have q185 : x4_1 < (x0_1.length : Int) := of_decide_eq_true (by first | (with_reducible assumption) | assumption)
                    obtain ⟨ad185, A185_3, c185_3, e185, hx185_0, hx185_1, hx185_2, hx185_3, hl185_3, hi185_3⟩ := at_T28 (Kd.V_reads' HO_0.out).2.2 x4_1 p185 q185
                    cases e185
                    obtain ⟨ce185, hce185, hMe185, hcc185⟩ := Kd.V_get HO_0.out z28 x4_1 p185 (by first | exact q185 | exact of_decide_eq_true (by first | (with_reducible assumption) | assumption) | (have e_ := (Kd.V_reads' HO_0.out).1; omega))
                    obtain ⟨ua185_3, uc185_3, rfl, ul185_3, ge185_3⟩ := k28_openF hMe185
                    have hv185_3 := hcc185 3 _ rfl
                    rw [add_field _ _ 3 (by omega)] at hv185_3
                    replace hv185_3 := Option.some.inj (hv185_3.symm.trans hx185_3)
                    injection hv185_3 with hva_ hvn_ hvc_
                    rw [hva_] at ge185_3
                    rw [hvc_] at ul185_3
                    have HL185_3 := Aside0.mk (show Kd.V (Kd.int .i64) 3 _ w.heap.size _ _ ((rd_T28 x0_1 x4_1).f3) from Kd.V_mk ul185_3 ge185_3)
                    clear hva_ hvn_ hvc_ ge185_3 ul185_3
                    clear hcc185 hce185
                    have HR185_3 := Aside0.mk hi185_3
                    have HC185_3 := Aside0.mk hl185_3
                    clear hi185_3 hl185_3
                    replace p185 := eq_true p185
                    replace q185 := eq_true q185
                    refine start_ (n := 17) (S := fun w' => w'.cell? (ad184.add (((ji6)).toNat * 4)) = some (.int .i64 ((rd_T28 x3_1 (ji6)).f0)) ∧ w'.cell? ⟨(ad184.add (((ji6)).toNat * 4)).block, (ad184.add (((ji6)).toNat * 4)).off + 1, none⟩ = some (.int .i64 ((rd_T28 x3_1 (ji6)).f1)) ∧ w'.cell? ⟨(ad184.add (((ji6)).toNat * 4)).block, (ad184.add (((ji6)).toNat * 4)).off + 2, none⟩ = some (.int .i64 ((rd_T28 x3_1 (ji6)).f2)) ∧ w'.cell? ⟨(ad184.add (((ji6)).toNat * 4)).block, (ad184.add (((ji6)).toNat * 4)).off + 3, none⟩ = some (.slice A184_3 ((rd_T28 x3_1 (ji6)).f3).length c184_3) ∧ w'.cell? (ad185.add ((x4_1).toNat * 4)) = some (.int .i64 ((rd_T28 x0_1 x4_1).f0)) ∧ w'.cell? ⟨(ad185.add ((x4_1).toNat * 4)).block, (ad185.add ((x4_1).toNat * 4)).off + 1, none⟩ = some (.int .i64 ((rd_T28 x0_1 x4_1).f1)) ∧ w'.cell? ⟨(ad185.add ((x4_1).toNat * 4)).block, (ad185.add ((x4_1).toNat * 4)).off + 2, none⟩ = some (.int .i64 ((rd_T28 x0_1 x4_1).f2)) ∧ w'.cell? ⟨(ad185.add ((x4_1).toNat * 4)).block, (ad185.add ((x4_1).toNat * 4)).off + 3, none⟩ = some (.slice A185_3 ((rd_T28 x0_1 x4_1).f3).length c185_3)) (ds := []) #[false, false, false, false, false, false, false, false, false, false, false, false, false, false, false, false, false] (by kernel_rfl) rfl rfl ⟨hx184_0, hx184_1, hx184_2, hx184_3, hx185_0, hx185_1, hx185_2, hx185_3⟩ (fun hHeld => ?_); refine with_tabW juratref27_All.tab6 juratref27_All.bits6 (fun HT_ HW_ => ?_)
                    generalize wr.drew = w29 at HO_0 HO_3 HB HL184_3 HL185_3 HR184_3 HR185_3 hx184_0 hx184_1 hx184_2 hx184_3 hx185_0 hx185_1 hx185_2 hx185_3 hHeld ⊢
                    refine pure_ (i := 0) (N := some 18) (v := ?_) (a' := ?_) #[true, false, false, false, false, false, false, false, false, false, false, false, false, false, false, false, false] rfl rfl (any_of HT_.out (by kernel_rfl)) (fun _ _ _ h => h) (Or.inl ⟨by rfl, ?_⟩) ?_ ?_
                    rotate_left
                    · intro w'
                      go_simp
                      with_reducible rfl
                    rotate_left
                    · simp only [Act.put, List.setIfInBounds_toArray, List.set_cons_zero, List.set_cons_succ, i64_w, i32_w]
                      rfl
                    refine pure_ (i := 1) (N := some 19) (v := ?_) (a' := ?_) #[true, true, false, false, false, false, false, false, false, false, false, false, false, false, false, false, false] rfl rfl (any_of HT_.out (by kernel_rfl)) (fun _ _ _ h => h) (Or.inl ⟨by rfl, ?_⟩) ?_ ?_
                    rotate_left
                    · intro w'
                      go_simp
                      with_reducible rfl
                    rotate_left
                    · simp only [Act.put, List.setIfInBounds_toArray, List.set_cons_zero, List.set_cons_succ, i64_w, i32_w]
                      rfl
                    refine pure_ (i := 2) (N := some 20) (v := ?_) (a' := ?_) #[true, true, true, false, false, false, false, false, false, false, false, false, false, false, false, false, false] rfl rfl (any_of HT_.out (by kernel_rfl)) (fun _ _ _ h => h) (Or.inl ⟨by rfl, ?_⟩) ?_ ?_
                    rotate_left
                    · intro w'
                      go_simp
                      with_reducible rfl
                    rotate_left
                    · simp only [Act.put, List.setIfInBounds_toArray, List.set_cons_zero, List.set_cons_succ, i64_w, i32_w]
                      rfl
                    refine pure_ (i := 3) (N := some 21) (v := ?_) (a' := ?_) #[true, true, true, true, false, false, false, false, false, false, false, false, false, false, false, false, false] rfl rfl (any_of HT_.out (by kernel_rfl)) (fun _ _ _ h => h) (Or.inl ⟨by rfl, ?_⟩) ?_ ?_
                    rotate_left
                    · intro w'
                      go_simp
                      with_reducible rfl
                    rotate_left
                    · simp only [Act.put, List.setIfInBounds_toArray, List.set_cons_zero, List.set_cons_succ, i64_w, i32_w]
                      rfl
                    refine pure_ (i := 4) (N := some 22) (v := ?_) (a' := ?_) #[true, true, true, true, true, false, false, false, false, false, false, false, false, false, false, false, false] rfl rfl (any_of HT_.out (by kernel_rfl)) (fun _ _ _ h => h) (Or.inl ⟨by rfl, ?_⟩) ?_ ?_
                    rotate_left
                    · intro w'
                      go_simp
                      with_reducible rfl
                    rotate_left
                    · simp only [Act.put, List.setIfInBounds_toArray, List.set_cons_zero, List.set_cons_succ, i64_w, i32_w]
                      rfl
                    refine pure_ (i := 6) (N := some 24) (v := ?_) (a' := ?_) #[true, true, true, true, true, false, true, false, false, false, false, false, false, false, false, false, false] rfl rfl (any_of HT_.out (by kernel_rfl)) (fun _ _ _ h => h) (Or.inl ⟨by rfl, ?_⟩) ?_ ?_
                    rotate_left
                    · intro w'
                      go_simp
                      with_reducible rfl
                    rotate_left
                    · simp only [Act.put, List.setIfInBounds_toArray, List.set_cons_zero, List.set_cons_succ, i64_w, i32_w]
                      rfl
                    refine pure_ (i := 7) (N := some 25) (v := ?_) (a' := ?_) #[true, true, true, true, true, false, true, true, false, false, false, false, false, false, false, false, false] rfl rfl (any_of HT_.out (by kernel_rfl)) (fun _ _ _ h => h) (Or.inl ⟨by rfl, ?_⟩) ?_ ?_
                    rotate_left
                    · intro w'
                      go_simp
                      with_reducible rfl
                    rotate_left
                    · simp only [Act.put, List.setIfInBounds_toArray, List.set_cons_zero, List.set_cons_succ, i64_w, i32_w]
                      rfl
                    refine pure_ (i := 8) (N := some 26) (v := ?_) (a' := ?_) #[true, true, true, true, true, false, true, true, true, false, false, false, false, false, false, false, false] rfl rfl (any_of HT_.out (by kernel_rfl)) (fun _ _ _ h => h) (Or.inl ⟨by rfl, ?_⟩) ?_ ?_
                    rotate_left
                    · intro w'
                      go_simp
                      with_reducible rfl
                    rotate_left
                    · simp only [Act.put, List.setIfInBounds_toArray, List.set_cons_zero, List.set_cons_succ, i64_w, i32_w]
                      rfl
                    refine take_ (i := 5) (N := some 23) (v := ?_) (a' := ?_) #[true, true, true, true, true, true, true, true, true, false, false, false, false, false, false, false, false] rfl rfl (take_ofW HT_.out HW_.out (by kernel_rfl)) (fun _ _ _ h => h) (Or.inl ⟨by rfl, ?_⟩) hHeld ?_ ?_
                    rotate_left
                    · rintro w' ⟨s0, s1, s2, s3, s4, s5, s6, s7⟩
                      go_simp
                      with_reducible rfl
                    rotate_left
                    · simp only [Act.put, List.setIfInBounds_toArray, List.set_cons_zero, List.set_cons_succ, i64_w, i32_w]
                      rfl
                    refine take_ (i := 9) (N := some 27) (v := ?_) (a' := ?_) #[true, true, true, true, true, true, true, true, true, true, false, false, false, false, false, false, false] rfl rfl (take_ofW HT_.out HW_.out (by kernel_rfl)) (fun _ _ _ h => h) (Or.inl ⟨by rfl, ?_⟩) hHeld ?_ ?_
                    rotate_left
                    · rintro w' ⟨s0, s1, s2, s3, s4, s5, s6, s7⟩
                      go_simp
                      with_reducible rfl
                    rotate_left
                    · simp only [Act.put, List.setIfInBounds_toArray, List.set_cons_zero, List.set_cons_succ, i64_w, i32_w]
                      rfl
                    refine join_ (σ := Value × Nat) 2 #[true, true, true, true, true, true, true, true, true, true, true, true, true, true, true, false, false] (fun s_ => [(28, .tuple #[.agg #[.int .i64 t186, .int .i64 t187, .int .i64 t188, s_.1], .bool false]), (5, .pointer (some ⟨s_.2, 0, none⟩)), (17, .tuple #[.agg #[.int .i64 t186, .int .i64 t187, .int .i64 t188, s_.1], .bool false]), (29, .agg #[.int .i64 t186, .int .i64 t187, .int .i64 t188, s_.1]), (30, .bool false)]) (fun s_ w' => (w'.cell? (ad184.add (((ji6)).toNat * 4)) = some (.int .i64 ((rd_T28 x3_1 (ji6)).f0)) ∧ w'.cell? ⟨(ad184.add (((ji6)).toNat * 4)).block, (ad184.add (((ji6)).toNat * 4)).off + 1, none⟩ = some (.int .i64 ((rd_T28 x3_1 (ji6)).f1)) ∧ w'.cell? ⟨(ad184.add (((ji6)).toNat * 4)).block, (ad184.add (((ji6)).toNat * 4)).off + 2, none⟩ = some (.int .i64 ((rd_T28 x3_1 (ji6)).f2)) ∧ w'.cell? ⟨(ad184.add (((ji6)).toNat * 4)).block, (ad184.add (((ji6)).toNat * 4)).off + 3, none⟩ = some (.slice A184_3 ((rd_T28 x3_1 (ji6)).f3).length c184_3) ∧ w'.cell? (ad185.add ((x4_1).toNat * 4)) = some (.int .i64 ((rd_T28 x0_1 x4_1).f0)) ∧ w'.cell? ⟨(ad185.add ((x4_1).toNat * 4)).block, (ad185.add ((x4_1).toNat * 4)).off + 1, none⟩ = some (.int .i64 ((rd_T28 x0_1 x4_1).f1)) ∧ w'.cell? ⟨(ad185.add ((x4_1).toNat * 4)).block, (ad185.add ((x4_1).toNat * 4)).off + 2, none⟩ = some (.int .i64 ((rd_T28 x0_1 x4_1).f2)) ∧ w'.cell? ⟨(ad185.add ((x4_1).toNat * 4)).block, (ad185.add ((x4_1).toNat * 4)).off + 3, none⟩ = some (.slice A185_3 ((rd_T28 x0_1 x4_1).f3).length c185_3)) ∧ (Kd.V (Kd.int .i64) 3 w' w.heap.size (fun k_ => (P0_ k_ ∨ w.heap.size ≤ k_) ∧ some k_ ≠ (s_.1 : Value).ownBlock ∧ some k_ ≠ (.slice (some ad184) x3_1.length co28 : Value).ownBlock ∧ k_ ≠ s_.2) (.slice A184_3 ((rd_T28 x3_1 (ji6)).f3).length c184_3) ((rd_T28 x3_1 (ji6)).f3)) ∧ (Kd.V (Kd.int .i64) 3 w' w.heap.size (fun k_ => (P0_ k_ ∨ w.heap.size ≤ k_) ∧ some k_ ≠ (s_.1 : Value).ownBlock ∧ some k_ ≠ (.slice (some ad184) x3_1.length co28 : Value).ownBlock ∧ k_ ≠ s_.2) (.slice A185_3 ((rd_T28 x0_1 x4_1).f3).length c185_3) ((rd_T28 x0_1 x4_1).f3)) ∧ (Kd.R (Kd.int .i64) 3 w' w.heap.size (fun k_ => (w.heap.size ≤ k_)) s_.1 t189) ∧ (Kd.V k28 28 w' w.heap.size (fun k_ => (P0_ k_ ∨ w.heap.size ≤ k_) ∧ some k_ ≠ (s_.1 : Value).ownBlock ∧ some k_ ≠ (.slice (some ad184) x3_1.length co28 : Value).ownBlock ∧ k_ ≠ s_.2) (.slice (some ad185) x0_1.length c0) x0_1) ∧ (Kd.N k28 28 w' w.heap.size (fun k_ => (P0_ k_ ∨ w.heap.size ≤ k_) ∧ some k_ ≠ (s_.1 : Value).ownBlock ∧ k_ ≠ s_.2) (.slice (some ad184) x3_1.length co28) x3_1) ∧ (w'.heap[s_.2]? = some (.cells #[.int .i64 0, .int .i64 0, .int .i64 0, .slice none 0 0] 28 (0, 0))) ∧ (w.heap.size ≤ s_.2) ∧ (w.heap.size ≤ s_.2) ∧ (Below w.heap.size w w')) ?_ ?_
                    rotate_left
                    · intro hCont
                      refine two_ (i := 10) (j := 14) (Ni := some 28) (Nj := some 5) #[true, true, true, true, true, true, true, true, true, true, true, false, false, false, false, false, false] #[true, true, true, true, true, true, true, true, true, true, false, false, false, false, true, false, false] rfl rfl rfl rfl (two_of HT_.out (by kernel_rfl)) (by decide) (by decide) (fun K hK => ?_) (fun K hK => ?_)
                      · skip
                        refine goes_ Try.func16 (by kernel_rfl) rfl #[.agg #[.int .i64 ((rd_T28 x3_1 (ji6)).f0), .int .i64 ((rd_T28 x3_1 (ji6)).f1), .int .i64 ((rd_T28 x3_1 (ji6)).f2), .slice A184_3 ((rd_T28 x3_1 (ji6)).f3).length c184_3], .agg #[.int .i64 ((rd_T28 x0_1 x4_1).f0), .int .i64 ((rd_T28 x0_1 x4_1).f1), .int .i64 ((rd_T28 x0_1 x4_1).f2), .slice A185_3 ((rd_T28 x0_1 x4_1).f3).length c185_3]] (by rfl) rfl rfl (by (try simp only [List.map_toArray, List.map_cons, List.map_nil]); first | done | (simp only [hji6]; rfl) | rfl | (simp only [List.length_drop, List.length_take]; rfl)) ?_
                        with_reducible refine (juratref27_Two.calls k1 ((rd_T28 x3_1 (ji6)).f0) ((rd_T28 x3_1 (ji6)).f1) ((rd_T28 x3_1 (ji6)).f2) _ _ ((rd_T28 x3_1 (ji6)).f3) ((rd_T28 x0_1 x4_1).f0) ((rd_T28 x0_1 x4_1).f1) ((rd_T28 x0_1 x4_1).f2) _ _ ((rd_T28 x0_1 x4_1).f3) t186 t187 t188 t189 false _ ?side1 ?side2 ?side3 ?side4 A10.out).mono ?_
                        (case side1 => repeat (first | exact (by repeat (first | (with_reducible exact HR184_3.out) | (with_reducible refine Kd.C_alloc ?_ _) | (with_reducible refine Kd.C_drewN ?_ _) | (with_reducible refine Kd.C_drew ?_) | exact HR184_3.out)) | (with_reducible refine Kd.C_alloc ?_ _) | (with_reducible refine Kd.C_drewN ?_ _) | (with_reducible refine Kd.C_drew ?_)))
                        (case side2 => exact HC184_3.out)
                        (case side3 => repeat (first | exact (by repeat (first | (with_reducible exact HR185_3.out) | (with_reducible refine Kd.C_alloc ?_ _) | (with_reducible refine Kd.C_drewN ?_ _) | (with_reducible refine Kd.C_drew ?_) | exact HR185_3.out)) | (with_reducible refine Kd.C_alloc ?_ _) | (with_reducible refine Kd.C_drewN ?_ _) | (with_reducible refine Kd.C_drew ?_)))
                        (case side4 => exact HC185_3.out)
                        rintro e w30 ⟨v190, rfl, ho0, hb⟩
                        have HS0_ := (hb.cell (World.block_lt_of_cell? _ _ (hHeld.1))).trans (hHeld.1)
                        have HS1_ := (hb.cell (World.block_lt_of_cell? _ _ (hHeld.2.1))).trans (hHeld.2.1)
                        have HS2_ := (hb.cell (World.block_lt_of_cell? _ _ (hHeld.2.2.1))).trans (hHeld.2.2.1)
                        have HS3_ := (hb.cell (World.block_lt_of_cell? _ _ (hHeld.2.2.2.1))).trans (hHeld.2.2.2.1)
                        have HS4_ := (hb.cell (World.block_lt_of_cell? _ _ (hHeld.2.2.2.2.1))).trans (hHeld.2.2.2.2.1)
                        have HS5_ := (hb.cell (World.block_lt_of_cell? _ _ (hHeld.2.2.2.2.2.1))).trans (hHeld.2.2.2.2.2.1)
                        have HS6_ := (hb.cell (World.block_lt_of_cell? _ _ (hHeld.2.2.2.2.2.2.1))).trans (hHeld.2.2.2.2.2.2.1)
                        have HS7_ := (hb.cell (World.block_lt_of_cell? _ _ (hHeld.2.2.2.2.2.2.2))).trans (hHeld.2.2.2.2.2.2.2)
                        refine ⟨_, rfl, ?_⟩
                        have n0_ := Aside0.mk (Kd.V_elder' (by (with_reducible repeat (first | apply Kd.V_alloc | apply Kd.V_drewN | apply Kd.V_drew)); exact HO_0.out) (Kd.R_base ho0) hb)
                        have n1_ := Aside0.mk (Kd.N_elder' (by (with_reducible repeat (first | apply Kd.N_alloc | apply Kd.N_drewN | apply Kd.N_drew)); exact HO_3.out) (Kd.R_base ho0) hb)
                        have n2_ := Aside0.mk (Kd.V_elder' (by (with_reducible repeat (first | apply Kd.V_alloc | apply Kd.V_drewN | apply Kd.V_drew)); exact HL184_3.out) (Kd.R_base ho0) hb)
                        have n3_ := Aside0.mk (Kd.V_elder' (by (with_reducible repeat (first | apply Kd.V_alloc | apply Kd.V_drewN | apply Kd.V_drew)); exact HL185_3.out) (Kd.R_base ho0) hb)
                        have n4_ := Aside0.mk (Kd.R_lower (Kd.R_newM (M := fun k_ => (w.heap.size ≤ k_)) ho0 (below_size (by repeat (first | (with_reducible first | exact HB.out | apply below_alloc | apply pw_below_drewN | apply below_drew1) | exact HB.out))) (fun k_ h_ => h_)) (below_size (by repeat (first | (with_reducible first | exact HB.out | apply below_alloc | apply pw_below_drewN | apply below_drew1) | exact HB.out))))
                        have n5_ := Aside0.mk (Kd.C_below (by repeat (first | (with_reducible exact HR184_3.out) | (with_reducible refine Kd.C_alloc ?_ _) | (with_reducible refine Kd.C_drewN ?_ _) | (with_reducible refine Kd.C_drew ?_) | exact HR184_3.out)) hb)
                        have n6_ := Aside0.mk (Kd.C_below (by repeat (first | (with_reducible exact HR185_3.out) | (with_reducible refine Kd.C_alloc ?_ _) | (with_reducible refine Kd.C_drewN ?_ _) | (with_reducible refine Kd.C_drew ?_) | exact HR185_3.out)) hb)
                        have n7_ := Aside0.mk (below_step (by repeat (first | (with_reducible first | exact HB.out | apply below_alloc | apply pw_below_drewN | apply below_drew1) | exact HB.out)) hb)
                        clear HO_0
                        clear HO_3
                        clear HL184_3
                        clear HL185_3
                        clear HR184_3
                        clear HR185_3
                        clear HB
                        have HO_0 := n0_
                        have HO_3 := n1_
                        have HL184_3 := n2_
                        have HL185_3 := n3_
                        have HO191 := n4_
                        have HR184_3 := n5_
                        have HR185_3 := n6_
                        have HB := n7_
                        clear n0_ n1_ n2_ n3_ n4_ n5_ n6_ n7_
                        (try clear hb)
                        (try clear hb2)
                        (try clear hk)
                        (try clear hi)
                        (try clear ho0)
                        refine hK.out _ _ ⟨HS0_, HS1_, HS2_, HS3_, HS4_, HS5_, HS6_, HS7_⟩ (fun hHeld => ?_)
                        clear hK K
                        refine norm_ (a' := ?_) ?_ ?_
                        rotate_left
                        · show Act.put _ (some 28) _ = _
                          simp only [Act.put, List.setIfInBounds_toArray, List.set_cons_zero, List.set_cons_succ, i64_w, i32_w]
                          rfl
                        refine pure_ (i := 11) (N := some 17) (v := ?_) (a' := ?_) #[true, true, true, true, true, true, true, true, true, true, true, true, false, false, false, false, false] rfl rfl (any_of HT_.out (by kernel_rfl)) (fun _ _ _ h => h) (Or.inl ⟨by rfl, ?_⟩) ?_ ?_
                        rotate_left
                        · intro w'
                          go_simp
                          with_reducible rfl
                        rotate_left
                        · simp only [Act.put, List.setIfInBounds_toArray, List.set_cons_zero, List.set_cons_succ, i64_w, i32_w]
                          rfl
                        refine pure_ (i := 12) (N := some 29) (v := ?_) (a' := ?_) #[true, true, true, true, true, true, true, true, true, true, true, true, true, false, false, false, false] rfl rfl (any_of HT_.out (by kernel_rfl)) (fun _ _ _ h => h) (Or.inl ⟨by rfl, ?_⟩) ?_ ?_
                        rotate_left
                        · intro w'
                          go_simp
                          with_reducible rfl
                        rotate_left
                        · simp only [Act.put, List.setIfInBounds_toArray, List.set_cons_zero, List.set_cons_succ, i64_w, i32_w]
                          rfl
                        refine pure_ (i := 13) (N := some 30) (v := ?_) (a' := ?_) #[true, true, true, true, true, true, true, true, true, true, true, true, true, true, false, false, false] rfl rfl (any_of HT_.out (by kernel_rfl)) (fun _ _ _ h => h) (Or.inl ⟨by rfl, ?_⟩) ?_ ?_
                        rotate_left
                        · intro w'
                          go_simp
                          with_reducible rfl
                        rotate_left
                        · simp only [Act.put, List.setIfInBounds_toArray, List.set_cons_zero, List.set_cons_succ, i64_w, i32_w]
                          rfl
                        refine one_ (i := 14) (N := some 5) #[true, true, true, true, true, true, true, true, true, true, true, true, true, true, true, false, false] rfl rfl (one_of HT_.out (by kernel_rfl)) (by decide) (fun K hK => ?_)
                        refine box_step ?hg (N := 5) ?hd (cs := #[.int .i64 0, .int .i64 0, .int .i64 0, .slice none 0 0]) (t := 28) ?hr ?_; (case hd => rfl); (case hg => rfl); (case hr => first | (go_simp; done) | (go_simp; rfl))
                        intro gb193 hg w31 hbox hb
                        have HS0_ := (hb.cell (World.block_lt_of_cell? _ _ (hHeld.1))).trans (hHeld.1)
                        have HS1_ := (hb.cell (World.block_lt_of_cell? _ _ (hHeld.2.1))).trans (hHeld.2.1)
                        have HS2_ := (hb.cell (World.block_lt_of_cell? _ _ (hHeld.2.2.1))).trans (hHeld.2.2.1)
                        have HS3_ := (hb.cell (World.block_lt_of_cell? _ _ (hHeld.2.2.2.1))).trans (hHeld.2.2.2.1)
                        have HS4_ := (hb.cell (World.block_lt_of_cell? _ _ (hHeld.2.2.2.2.1))).trans (hHeld.2.2.2.2.1)
                        have HS5_ := (hb.cell (World.block_lt_of_cell? _ _ (hHeld.2.2.2.2.2.1))).trans (hHeld.2.2.2.2.2.1)
                        have HS6_ := (hb.cell (World.block_lt_of_cell? _ _ (hHeld.2.2.2.2.2.2.1))).trans (hHeld.2.2.2.2.2.2.1)
                        have HS7_ := (hb.cell (World.block_lt_of_cell? _ _ (hHeld.2.2.2.2.2.2.2))).trans (hHeld.2.2.2.2.2.2.2)
                        have n0_ := Aside0.mk (Kd.V_below (Kd.V_elderB (by (with_reducible repeat (first | apply Kd.V_alloc | apply Kd.V_drewN | apply Kd.V_drew)); exact HO_0.out) gb193 (Nat.le_of_eq hg.symm)) hb)
                        have n1_ := Aside0.mk (Kd.N_below (Kd.N_elderB (by (with_reducible repeat (first | apply Kd.N_alloc | apply Kd.N_drewN | apply Kd.N_drew)); exact HO_3.out) gb193 (Nat.le_of_eq hg.symm)) hb)
                        have n2_ := Aside0.mk (Kd.V_below (Kd.V_elderB (by (with_reducible repeat (first | apply Kd.V_alloc | apply Kd.V_drewN | apply Kd.V_drew)); exact HL184_3.out) gb193 (Nat.le_of_eq hg.symm)) hb)
                        have n3_ := Aside0.mk (Kd.V_below (Kd.V_elderB (by (with_reducible repeat (first | apply Kd.V_alloc | apply Kd.V_drewN | apply Kd.V_drew)); exact HL185_3.out) gb193 (Nat.le_of_eq hg.symm)) hb)
                        have n4_ := Aside0.mk (Kd.R_below (by (with_reducible repeat (first | apply Kd.R_alloc | apply Kd.R_drewN | apply Kd.R_drew)); exact HO191.out) hb)
                        have n5_ := Aside0.mk (Kd.C_below (by repeat (first | (with_reducible exact HR184_3.out) | (with_reducible refine Kd.C_alloc ?_ _) | (with_reducible refine Kd.C_drewN ?_ _) | (with_reducible refine Kd.C_drew ?_) | exact HR184_3.out)) hb)
                        have n6_ := Aside0.mk (Kd.C_below (by repeat (first | (with_reducible exact HR185_3.out) | (with_reducible refine Kd.C_alloc ?_ _) | (with_reducible refine Kd.C_drewN ?_ _) | (with_reducible refine Kd.C_drew ?_) | exact HR185_3.out)) hb)
                        have n7_ := Aside0.mk (below_step (by repeat (first | (with_reducible first | exact HB.out | apply below_alloc | apply pw_below_drewN | apply below_drew1) | exact HB.out)) hb)
                        have n8_ := Aside0.mk (hbox)
                        have n9_ := Aside0.mk ((by rw [hg]; exact (below_size (by repeat (first | (with_reducible first | exact HB.out | apply below_alloc | apply pw_below_drewN | apply below_drew1) | exact HB.out))) : w.heap.size ≤ gb193))
                        have n10_ := Aside0.mk ((by rw [hg]; exact (below_size (by repeat (first | (with_reducible first | exact HB.out | apply below_alloc | apply pw_below_drewN | apply below_drew1) | exact HB.out))) : w.heap.size ≤ gb193))
                        clear HO_0
                        clear HO_3
                        clear HL184_3
                        clear HL185_3
                        clear HO191
                        clear HR184_3
                        clear HR185_3
                        clear HB
                        have HO_0 := n0_
                        have HO_3 := n1_
                        have HL184_3 := n2_
                        have HL185_3 := n3_
                        have HO191 := n4_
                        have HR184_3 := n5_
                        have HR185_3 := n6_
                        have HB := n7_
                        have BK193 := n8_
                        have GW193 := n9_
                        have GE193 := n10_
                        clear n0_ n1_ n2_ n3_ n4_ n5_ n6_ n7_ n8_ n9_ n10_
                        clear hb hbox hg
                        refine hK.out _ _ ⟨HS0_, HS1_, HS2_, HS3_, HS4_, HS5_, HS6_, HS7_⟩ (fun hHeld => ?_)
                        clear hK K
                        refine norm_ (a' := ?_) ?_ ?_
                        rotate_left
                        · show Act.put _ (some 5) _ = _
                          simp only [Act.put, List.setIfInBounds_toArray, List.set_cons_zero, List.set_cons_succ, i64_w, i32_w]
                          rfl
                        exact norm_ (by simp only [putAll, Act.put, List.setIfInBounds_toArray, List.set_cons_zero, List.set_cons_succ]) (hCont (v190, gb193) _ ⟨hHeld, (by (with_reducible repeat (first | apply Kd.V_alloc | apply Kd.V_drewN | apply Kd.V_drew)); exact Kd.V_mono HL184_3.out (fun _ hk => ⟨hk.1.1.1, ⟨hk.1.2, ⟨hk.1.1.2, hk.2⟩⟩⟩)), (by (with_reducible repeat (first | apply Kd.V_alloc | apply Kd.V_drewN | apply Kd.V_drew)); exact Kd.V_mono HL185_3.out (fun _ hk => ⟨hk.1.1.1, ⟨hk.1.2, ⟨hk.1.1.2, hk.2⟩⟩⟩)), (by (with_reducible repeat (first | apply Kd.R_alloc | apply Kd.R_drewN | apply Kd.R_drew)); exact Kd.R_mono HO191.out (fun _ hk => hk.1)), (by (with_reducible repeat (first | apply Kd.V_alloc | apply Kd.V_drewN | apply Kd.V_drew)); exact Kd.V_mono HO_0.out (fun _ hk => ⟨hk.1.1.1, ⟨hk.1.2, ⟨hk.1.1.2, hk.2⟩⟩⟩)), (by (with_reducible repeat (first | apply Kd.N_alloc | apply Kd.N_drewN | apply Kd.N_drew)); exact Kd.N_mono HO_3.out (fun _ hk => ⟨hk.1.1, ⟨hk.1.2, hk.2⟩⟩)), (by (with_reducible repeat (first | refine blk_drewN ?_ _ | refine blk_drew ?_ | refine blk_alloc ?_ _)); exact BK193.out), GW193.out, GE193.out, (by repeat (first | (with_reducible first | exact HB.out | apply below_alloc | apply pw_below_drewN | apply below_drew1 | refine below_set ?_ GE193.out) | exact HB.out))⟩)
                      · skip
                        refine box_step ?hg (N := 5) ?hd (cs := #[.int .i64 0, .int .i64 0, .int .i64 0, .slice none 0 0]) (t := 28) ?hr ?_; (case hd => rfl); (case hg => rfl); (case hr => first | (go_simp; done) | (go_simp; rfl))
                        intro gb193 hg w30 hbox hb
                        have HS0_ := (hb.cell (World.block_lt_of_cell? _ _ (hHeld.1))).trans (hHeld.1)
                        have HS1_ := (hb.cell (World.block_lt_of_cell? _ _ (hHeld.2.1))).trans (hHeld.2.1)
                        have HS2_ := (hb.cell (World.block_lt_of_cell? _ _ (hHeld.2.2.1))).trans (hHeld.2.2.1)
                        have HS3_ := (hb.cell (World.block_lt_of_cell? _ _ (hHeld.2.2.2.1))).trans (hHeld.2.2.2.1)
                        have HS4_ := (hb.cell (World.block_lt_of_cell? _ _ (hHeld.2.2.2.2.1))).trans (hHeld.2.2.2.2.1)
                        have HS5_ := (hb.cell (World.block_lt_of_cell? _ _ (hHeld.2.2.2.2.2.1))).trans (hHeld.2.2.2.2.2.1)
                        have HS6_ := (hb.cell (World.block_lt_of_cell? _ _ (hHeld.2.2.2.2.2.2.1))).trans (hHeld.2.2.2.2.2.2.1)
                        have HS7_ := (hb.cell (World.block_lt_of_cell? _ _ (hHeld.2.2.2.2.2.2.2))).trans (hHeld.2.2.2.2.2.2.2)
                        have n0_ := Aside0.mk (Kd.V_below (Kd.V_elderB (by (with_reducible repeat (first | apply Kd.V_alloc | apply Kd.V_drewN | apply Kd.V_drew)); exact HO_0.out) gb193 (Nat.le_of_eq hg.symm)) hb)
                        have n1_ := Aside0.mk (Kd.N_below (Kd.N_elderB (by (with_reducible repeat (first | apply Kd.N_alloc | apply Kd.N_drewN | apply Kd.N_drew)); exact HO_3.out) gb193 (Nat.le_of_eq hg.symm)) hb)
                        have n2_ := Aside0.mk (Kd.V_below (Kd.V_elderB (by (with_reducible repeat (first | apply Kd.V_alloc | apply Kd.V_drewN | apply Kd.V_drew)); exact HL184_3.out) gb193 (Nat.le_of_eq hg.symm)) hb)
                        have n3_ := Aside0.mk (Kd.V_below (Kd.V_elderB (by (with_reducible repeat (first | apply Kd.V_alloc | apply Kd.V_drewN | apply Kd.V_drew)); exact HL185_3.out) gb193 (Nat.le_of_eq hg.symm)) hb)
                        have n4_ := Aside0.mk (Kd.C_below (by repeat (first | (with_reducible exact HR184_3.out) | (with_reducible refine Kd.C_alloc ?_ _) | (with_reducible refine Kd.C_drewN ?_ _) | (with_reducible refine Kd.C_drew ?_) | exact HR184_3.out)) hb)
                        have n5_ := Aside0.mk (Kd.C_below (by repeat (first | (with_reducible exact HR185_3.out) | (with_reducible refine Kd.C_alloc ?_ _) | (with_reducible refine Kd.C_drewN ?_ _) | (with_reducible refine Kd.C_drew ?_) | exact HR185_3.out)) hb)
                        have n6_ := Aside0.mk (below_step (by repeat (first | (with_reducible first | exact HB.out | apply below_alloc | apply pw_below_drewN | apply below_drew1) | exact HB.out)) hb)
                        have n7_ := Aside0.mk (hbox)
                        have n8_ := Aside0.mk ((by rw [hg]; exact (below_size (by repeat (first | (with_reducible first | exact HB.out | apply below_alloc | apply pw_below_drewN | apply below_drew1) | exact HB.out))) : w.heap.size ≤ gb193))
                        have n9_ := Aside0.mk ((by rw [hg]; exact (below_size (by repeat (first | (with_reducible first | exact HB.out | apply below_alloc | apply pw_below_drewN | apply below_drew1) | exact HB.out))) : w.heap.size ≤ gb193))
                        clear HO_0
                        clear HO_3
                        clear HL184_3
                        clear HL185_3
                        clear HR184_3
                        clear HR185_3
                        clear HB
                        have HO_0 := n0_
                        have HO_3 := n1_
                        have HL184_3 := n2_
                        have HL185_3 := n3_
                        have HR184_3 := n4_
                        have HR185_3 := n5_
                        have HB := n6_
                        have BK193 := n7_
                        have GW193 := n8_
                        have GE193 := n9_
                        clear n0_ n1_ n2_ n3_ n4_ n5_ n6_ n7_ n8_ n9_
                        clear hb hbox hg
                        refine hK.out _ _ ⟨HS0_, HS1_, HS2_, HS3_, HS4_, HS5_, HS6_, HS7_⟩ (fun hHeld => ?_)
                        clear hK K
                        refine norm_ (a' := ?_) ?_ ?_
                        rotate_left
                        · show Act.put _ (some 5) _ = _
                          simp only [Act.put, List.setIfInBounds_toArray, List.set_cons_zero, List.set_cons_succ, i64_w, i32_w]
                          rfl
                        refine one_ (i := 10) (N := some 28) #[true, true, true, true, true, true, true, true, true, true, true, false, false, false, true, false, false] rfl rfl (one_of HT_.out (by kernel_rfl)) (by decide) (fun K hK => ?_)
                        refine goes_ Try.func16 (by kernel_rfl) rfl #[.agg #[.int .i64 ((rd_T28 x3_1 (ji6)).f0), .int .i64 ((rd_T28 x3_1 (ji6)).f1), .int .i64 ((rd_T28 x3_1 (ji6)).f2), .slice A184_3 ((rd_T28 x3_1 (ji6)).f3).length c184_3], .agg #[.int .i64 ((rd_T28 x0_1 x4_1).f0), .int .i64 ((rd_T28 x0_1 x4_1).f1), .int .i64 ((rd_T28 x0_1 x4_1).f2), .slice A185_3 ((rd_T28 x0_1 x4_1).f3).length c185_3]] (by rfl) rfl rfl (by (try simp only [List.map_toArray, List.map_cons, List.map_nil]); first | done | (simp only [hji6]; rfl) | rfl | (simp only [List.length_drop, List.length_take]; rfl)) ?_
                        with_reducible refine (juratref27_Two.calls k1 ((rd_T28 x3_1 (ji6)).f0) ((rd_T28 x3_1 (ji6)).f1) ((rd_T28 x3_1 (ji6)).f2) _ _ ((rd_T28 x3_1 (ji6)).f3) ((rd_T28 x0_1 x4_1).f0) ((rd_T28 x0_1 x4_1).f1) ((rd_T28 x0_1 x4_1).f2) _ _ ((rd_T28 x0_1 x4_1).f3) t186 t187 t188 t189 false _ ?side1 ?side2 ?side3 ?side4 A10.out).mono ?_
                        (case side1 => repeat (first | exact (by repeat (first | (with_reducible exact HR184_3.out) | (with_reducible refine Kd.C_alloc ?_ _) | (with_reducible refine Kd.C_drewN ?_ _) | (with_reducible refine Kd.C_drew ?_) | exact HR184_3.out)) | (with_reducible refine Kd.C_alloc ?_ _) | (with_reducible refine Kd.C_drewN ?_ _) | (with_reducible refine Kd.C_drew ?_)))
                        (case side2 => exact HC184_3.out)
                        (case side3 => repeat (first | exact (by repeat (first | (with_reducible exact HR185_3.out) | (with_reducible refine Kd.C_alloc ?_ _) | (with_reducible refine Kd.C_drewN ?_ _) | (with_reducible refine Kd.C_drew ?_) | exact HR185_3.out)) | (with_reducible refine Kd.C_alloc ?_ _) | (with_reducible refine Kd.C_drewN ?_ _) | (with_reducible refine Kd.C_drew ?_)))
                        (case side4 => exact HC185_3.out)
                        rintro e w31 ⟨v190, rfl, ho0, hb⟩
                        have HS0_ := (hb.cell (World.block_lt_of_cell? _ _ (hHeld.1))).trans (hHeld.1)
                        have HS1_ := (hb.cell (World.block_lt_of_cell? _ _ (hHeld.2.1))).trans (hHeld.2.1)
                        have HS2_ := (hb.cell (World.block_lt_of_cell? _ _ (hHeld.2.2.1))).trans (hHeld.2.2.1)
                        have HS3_ := (hb.cell (World.block_lt_of_cell? _ _ (hHeld.2.2.2.1))).trans (hHeld.2.2.2.1)
                        have HS4_ := (hb.cell (World.block_lt_of_cell? _ _ (hHeld.2.2.2.2.1))).trans (hHeld.2.2.2.2.1)
                        have HS5_ := (hb.cell (World.block_lt_of_cell? _ _ (hHeld.2.2.2.2.2.1))).trans (hHeld.2.2.2.2.2.1)
                        have HS6_ := (hb.cell (World.block_lt_of_cell? _ _ (hHeld.2.2.2.2.2.2.1))).trans (hHeld.2.2.2.2.2.2.1)
                        have HS7_ := (hb.cell (World.block_lt_of_cell? _ _ (hHeld.2.2.2.2.2.2.2))).trans (hHeld.2.2.2.2.2.2.2)
                        refine ⟨_, rfl, ?_⟩
                        have n0_ := Aside0.mk (Kd.V_elder' (by (with_reducible repeat (first | apply Kd.V_alloc | apply Kd.V_drewN | apply Kd.V_drew)); exact HO_0.out) (Kd.R_base ho0) hb)
                        have n1_ := Aside0.mk (Kd.N_elder' (by (with_reducible repeat (first | apply Kd.N_alloc | apply Kd.N_drewN | apply Kd.N_drew)); exact HO_3.out) (Kd.R_base ho0) hb)
                        have n2_ := Aside0.mk (Kd.V_elder' (by (with_reducible repeat (first | apply Kd.V_alloc | apply Kd.V_drewN | apply Kd.V_drew)); exact HL184_3.out) (Kd.R_base ho0) hb)
                        have n3_ := Aside0.mk (Kd.V_elder' (by (with_reducible repeat (first | apply Kd.V_alloc | apply Kd.V_drewN | apply Kd.V_drew)); exact HL185_3.out) (Kd.R_base ho0) hb)
                        have n4_ := Aside0.mk (Kd.R_lower (Kd.R_newM (M := fun k_ => (w.heap.size ≤ k_)) ho0 (below_size (by repeat (first | (with_reducible first | exact HB.out | apply below_alloc | apply pw_below_drewN | apply below_drew1 | refine below_set ?_ GE193.out) | exact HB.out))) (fun k_ h_ => h_)) (below_size (by repeat (first | (with_reducible first | exact HB.out | apply below_alloc | apply pw_below_drewN | apply below_drew1 | refine below_set ?_ GE193.out) | exact HB.out))))
                        have n5_ := Aside0.mk (Kd.C_below (by repeat (first | (with_reducible exact HR184_3.out) | (with_reducible refine Kd.C_alloc ?_ _) | (with_reducible refine Kd.C_drewN ?_ _) | (with_reducible refine Kd.C_drew ?_) | exact HR184_3.out)) hb)
                        have n6_ := Aside0.mk (Kd.C_below (by repeat (first | (with_reducible exact HR185_3.out) | (with_reducible refine Kd.C_alloc ?_ _) | (with_reducible refine Kd.C_drewN ?_ _) | (with_reducible refine Kd.C_drew ?_) | exact HR185_3.out)) hb)
                        have n7_ := Aside0.mk (blk_below (g := gb193) (o := .cells #[.int .i64 0, .int .i64 0, .int .i64 0, .slice none 0 0] 28 (0, 0)) (by (with_reducible repeat (first | refine blk_drewN ?_ _ | refine blk_drew ?_ | refine blk_alloc ?_ _)); exact BK193.out) hb)
                        have n8_ := Aside0.mk (below_step (by repeat (first | (with_reducible first | exact HB.out | apply below_alloc | apply pw_below_drewN | apply below_drew1 | refine below_set ?_ GE193.out) | exact HB.out)) hb)
                        clear HO_0
                        clear HO_3
                        clear HL184_3
                        clear HL185_3
                        clear HR184_3
                        clear HR185_3
                        clear BK193
                        clear HB
                        have HO_0 := n0_
                        have HO_3 := n1_
                        have HL184_3 := n2_
                        have HL185_3 := n3_
                        have HO191 := n4_
                        have HR184_3 := n5_
                        have HR185_3 := n6_
                        have BK193 := n7_
                        have HB := n8_
                        clear n0_ n1_ n2_ n3_ n4_ n5_ n6_ n7_ n8_
                        (try clear hb)
                        (try clear hb2)
                        (try clear hk)
                        (try clear hi)
                        (try clear ho0)
                        refine hK.out _ _ ⟨HS0_, HS1_, HS2_, HS3_, HS4_, HS5_, HS6_, HS7_⟩ (fun hHeld => ?_)
                        clear hK K
                        refine norm_ (a' := ?_) ?_ ?_
                        rotate_left
                        · show Act.put _ (some 28) _ = _
                          simp only [Act.put, List.setIfInBounds_toArray, List.set_cons_zero, List.set_cons_succ, i64_w, i32_w]
                          rfl
                        refine pure_ (i := 11) (N := some 17) (v := ?_) (a' := ?_) #[true, true, true, true, true, true, true, true, true, true, true, true, false, false, true, false, false] rfl rfl (any_of HT_.out (by kernel_rfl)) (fun _ _ _ h => h) (Or.inl ⟨by rfl, ?_⟩) ?_ ?_
                        rotate_left
                        · intro w'
                          go_simp
                          with_reducible rfl
                        rotate_left
                        · simp only [Act.put, List.setIfInBounds_toArray, List.set_cons_zero, List.set_cons_succ, i64_w, i32_w]
                          rfl
                        refine pure_ (i := 12) (N := some 29) (v := ?_) (a' := ?_) #[true, true, true, true, true, true, true, true, true, true, true, true, true, false, true, false, false] rfl rfl (any_of HT_.out (by kernel_rfl)) (fun _ _ _ h => h) (Or.inl ⟨by rfl, ?_⟩) ?_ ?_
                        rotate_left
                        · intro w'
                          go_simp
                          with_reducible rfl
                        rotate_left
                        · simp only [Act.put, List.setIfInBounds_toArray, List.set_cons_zero, List.set_cons_succ, i64_w, i32_w]
                          rfl
                        refine pure_ (i := 13) (N := some 30) (v := ?_) (a' := ?_) #[true, true, true, true, true, true, true, true, true, true, true, true, true, true, true, false, false] rfl rfl (any_of HT_.out (by kernel_rfl)) (fun _ _ _ h => h) (Or.inl ⟨by rfl, ?_⟩) ?_ ?_
                        rotate_left
                        · intro w'
                          go_simp
                          with_reducible rfl
                        rotate_left
                        · simp only [Act.put, List.setIfInBounds_toArray, List.set_cons_zero, List.set_cons_succ, i64_w, i32_w]
                          rfl
                        exact norm_ (by simp only [putAll, Act.put, List.setIfInBounds_toArray, List.set_cons_zero, List.set_cons_succ]) (hCont (v190, gb193) _ ⟨hHeld, (by (with_reducible repeat (first | apply Kd.V_alloc | apply Kd.V_drewN | apply Kd.V_drew)); exact Kd.V_mono HL184_3.out (fun _ hk => ⟨hk.1.1.1, ⟨hk.2, ⟨hk.1.1.2, hk.1.2⟩⟩⟩)), (by (with_reducible repeat (first | apply Kd.V_alloc | apply Kd.V_drewN | apply Kd.V_drew)); exact Kd.V_mono HL185_3.out (fun _ hk => ⟨hk.1.1.1, ⟨hk.2, ⟨hk.1.1.2, hk.1.2⟩⟩⟩)), (by (with_reducible repeat (first | apply Kd.R_alloc | apply Kd.R_drewN | apply Kd.R_drew)); exact Kd.R_mono HO191.out (fun _ hk => hk.1)), (by (with_reducible repeat (first | apply Kd.V_alloc | apply Kd.V_drewN | apply Kd.V_drew)); exact Kd.V_mono HO_0.out (fun _ hk => ⟨hk.1.1.1, ⟨hk.2, ⟨hk.1.1.2, hk.1.2⟩⟩⟩)), (by (with_reducible repeat (first | apply Kd.N_alloc | apply Kd.N_drewN | apply Kd.N_drew)); exact Kd.N_mono HO_3.out (fun _ hk => ⟨hk.1.1, ⟨hk.2, hk.1.2⟩⟩)), (by (with_reducible repeat (first | refine blk_drewN ?_ _ | refine blk_drew ?_ | refine blk_alloc ?_ _)); exact BK193.out), GW193.out, GE193.out, (by repeat (first | (with_reducible first | exact HB.out | apply below_alloc | apply pw_below_drewN | apply below_drew1 | refine below_set ?_ GE193.out) | exact HB.out))⟩)
                    rintro ⟨v190, gb193⟩ w32 ⟨hS_, h0_, h1_, h2_, h3_, h4_, h5_, h6_, h7_, h8_⟩
                    have n0_ : Aside0 (Kd.V (Kd.int .i64) 3 w32 w.heap.size (fun k_ => (P0_ k_ ∨ w.heap.size ≤ k_) ∧ some k_ ≠ (v190 : Value).ownBlock ∧ some k_ ≠ (.slice (some ad184) x3_1.length co28 : Value).ownBlock ∧ k_ ≠ gb193) (.slice A184_3 ((rd_T28 x3_1 (ji6)).f3).length c184_3) ((rd_T28 x3_1 (ji6)).f3)) := ⟨h0_⟩
                    have n1_ : Aside0 (Kd.V (Kd.int .i64) 3 w32 w.heap.size (fun k_ => (P0_ k_ ∨ w.heap.size ≤ k_) ∧ some k_ ≠ (v190 : Value).ownBlock ∧ some k_ ≠ (.slice (some ad184) x3_1.length co28 : Value).ownBlock ∧ k_ ≠ gb193) (.slice A185_3 ((rd_T28 x0_1 x4_1).f3).length c185_3) ((rd_T28 x0_1 x4_1).f3)) := ⟨h1_⟩
                    have n2_ : Aside0 (Kd.R (Kd.int .i64) 3 w32 w.heap.size (fun k_ => (w.heap.size ≤ k_)) v190 t189) := ⟨h2_⟩
                    have n3_ : Aside0 (Kd.V k28 28 w32 w.heap.size (fun k_ => (P0_ k_ ∨ w.heap.size ≤ k_) ∧ some k_ ≠ (v190 : Value).ownBlock ∧ some k_ ≠ (.slice (some ad184) x3_1.length co28 : Value).ownBlock ∧ k_ ≠ gb193) (.slice (some ad185) x0_1.length c0) x0_1) := ⟨h3_⟩
                    have n4_ : Aside0 (Kd.N k28 28 w32 w.heap.size (fun k_ => (P0_ k_ ∨ w.heap.size ≤ k_) ∧ some k_ ≠ (v190 : Value).ownBlock ∧ k_ ≠ gb193) (.slice (some ad184) x3_1.length co28) x3_1) := ⟨h4_⟩
                    have n5_ : Aside0 (w32.heap[gb193]? = some (.cells #[.int .i64 0, .int .i64 0, .int .i64 0, .slice none 0 0] 28 (0, 0))) := ⟨h5_⟩
                    have n6_ : Aside0 (w.heap.size ≤ gb193) := ⟨h6_⟩
                    have n7_ : Aside0 (w.heap.size ≤ gb193) := ⟨h7_⟩
                    have n8_ : Aside0 (Below w.heap.size w w32) := ⟨h8_⟩
                    clear HO_0
                    clear HO_3
                    clear HB
                    clear h0_ h1_ h2_ h3_ h4_ h5_ h6_ h7_ h8_
                    have HL184_3 := n0_
                    have HL185_3 := n1_
                    have HO191 := n2_
                    have HO_0 := n3_
                    have HO_3 := n4_
                    have BK193 := n5_
                    have GW193 := n6_
                    have GE193 := n7_
                    have HB := n8_
                    clear n0_ n1_ n2_ n3_ n4_ n5_ n6_ n7_ n8_
                    have hHeld : w32.cell? (ad184.add (((ji6)).toNat * 4)) = some (.int .i64 ((rd_T28 x3_1 (ji6)).f0)) ∧ w32.cell? ⟨(ad184.add (((ji6)).toNat * 4)).block, (ad184.add (((ji6)).toNat * 4)).off + 1, none⟩ = some (.int .i64 ((rd_T28 x3_1 (ji6)).f1)) ∧ w32.cell? ⟨(ad184.add (((ji6)).toNat * 4)).block, (ad184.add (((ji6)).toNat * 4)).off + 2, none⟩ = some (.int .i64 ((rd_T28 x3_1 (ji6)).f2)) ∧ w32.cell? ⟨(ad184.add (((ji6)).toNat * 4)).block, (ad184.add (((ji6)).toNat * 4)).off + 3, none⟩ = some (.slice A184_3 ((rd_T28 x3_1 (ji6)).f3).length c184_3) ∧ w32.cell? (ad185.add ((x4_1).toNat * 4)) = some (.int .i64 ((rd_T28 x0_1 x4_1).f0)) ∧ w32.cell? ⟨(ad185.add ((x4_1).toNat * 4)).block, (ad185.add ((x4_1).toNat * 4)).off + 1, none⟩ = some (.int .i64 ((rd_T28 x0_1 x4_1).f1)) ∧ w32.cell? ⟨(ad185.add ((x4_1).toNat * 4)).block, (ad185.add ((x4_1).toNat * 4)).off + 2, none⟩ = some (.int .i64 ((rd_T28 x0_1 x4_1).f2)) ∧ w32.cell? ⟨(ad185.add ((x4_1).toNat * 4)).block, (ad185.add ((x4_1).toNat * 4)).off + 3, none⟩ = some (.slice A185_3 ((rd_T28 x0_1 x4_1).f3).length c185_3) := hS_
                    obtain ⟨Ao36, co36, eo36⟩ := Kd.R_slice HO191.out
                    (first | subst eo36 | (injection eo36 with f1_ f2_ f3_; have f4_ := f1_.symm; have f5_ := f3_.symm; clear f1_ f2_ f3_; subst f4_; subst f5_))
                    refine norm_ (a' := ?_) ?_ ?_
                    rotate_left
                    · simp only [putAll, Act.put, List.setIfInBounds_toArray, List.set_cons_zero, List.set_cons_succ]
                      rfl
                    refine one_ (i := 15) (N := none) #[true, true, true, true, true, true, true, true, true, true, true, true, true, true, true, true, false] rfl rfl (one_of HT_.out (by kernel_rfl)) (by decide) (fun K hK => ?_)
                    have hs33 : w32.cell? ⟨gb193, 0, none⟩ = some (.int .i64 0) := (blk_cell BK193.out 0).trans rfl
                    have hfs33 := blk_frozen BK193.out 0
                    have hs34 : w32.cell? ⟨gb193, 1, none⟩ = some (.int .i64 0) := (blk_cell BK193.out 1).trans rfl
                    have hfs34 := blk_frozen BK193.out 1
                    have hs35 : w32.cell? ⟨gb193, 2, none⟩ = some (.int .i64 0) := (blk_cell BK193.out 2).trans rfl
                    have hfs35 := blk_frozen BK193.out 2
                    have hs37 : w32.cell? ⟨gb193, 3, none⟩ = some (.slice none 0 0) := (blk_cell BK193.out 3).trans rfl
                    have hfs37 := blk_frozen BK193.out 3
                    refine skip_ (w1 := ?_) (by rfl) rfl ?_ ?_
                    rotate_left
                    · go_simp
                      rfl
                    refine hK.out _ _ ⟨((cell_far (p := ⟨gb193, _, none⟩) (by first | exact Kd.own_blk (Kd.N_away HO_3.out (fun _ hk => hk.2.2)) | (rw [add_block]; exact Kd.own_blk (Kd.N_away HO_3.out (fun _ hk => hk.2.2))) | (show (Addr.add _ _).block ≠ _; rw [add_block]; exact Kd.own_blk (Kd.N_away HO_3.out (fun _ hk => hk.2.2))) | (dsimp only; exact Kd.own_blk (Kd.N_away HO_3.out (fun _ hk => hk.2.2)))) _).trans (((cell_far (p := ⟨gb193, _, none⟩) (by first | exact Kd.own_blk (Kd.N_away HO_3.out (fun _ hk => hk.2.2)) | (rw [add_block]; exact Kd.own_blk (Kd.N_away HO_3.out (fun _ hk => hk.2.2))) | (show (Addr.add _ _).block ≠ _; rw [add_block]; exact Kd.own_blk (Kd.N_away HO_3.out (fun _ hk => hk.2.2))) | (dsimp only; exact Kd.own_blk (Kd.N_away HO_3.out (fun _ hk => hk.2.2)))) _).trans (((cell_far (p := ⟨gb193, _, none⟩) (by first | exact Kd.own_blk (Kd.N_away HO_3.out (fun _ hk => hk.2.2)) | (rw [add_block]; exact Kd.own_blk (Kd.N_away HO_3.out (fun _ hk => hk.2.2))) | (show (Addr.add _ _).block ≠ _; rw [add_block]; exact Kd.own_blk (Kd.N_away HO_3.out (fun _ hk => hk.2.2))) | (dsimp only; exact Kd.own_blk (Kd.N_away HO_3.out (fun _ hk => hk.2.2)))) _).trans (((cell_far (p := ⟨gb193, _, none⟩) (by first | exact Kd.own_blk (Kd.N_away HO_3.out (fun _ hk => hk.2.2)) | (rw [add_block]; exact Kd.own_blk (Kd.N_away HO_3.out (fun _ hk => hk.2.2))) | (show (Addr.add _ _).block ≠ _; rw [add_block]; exact Kd.own_blk (Kd.N_away HO_3.out (fun _ hk => hk.2.2))) | (dsimp only; exact Kd.own_blk (Kd.N_away HO_3.out (fun _ hk => hk.2.2)))) _).trans (hHeld.1)))))))), ((cell_far (p := ⟨gb193, _, none⟩) (by first | exact Kd.own_blk (Kd.N_away HO_3.out (fun _ hk => hk.2.2)) | (rw [add_block]; exact Kd.own_blk (Kd.N_away HO_3.out (fun _ hk => hk.2.2))) | (show (Addr.add _ _).block ≠ _; rw [add_block]; exact Kd.own_blk (Kd.N_away HO_3.out (fun _ hk => hk.2.2))) | (dsimp only; exact Kd.own_blk (Kd.N_away HO_3.out (fun _ hk => hk.2.2)))) _).trans (((cell_far (p := ⟨gb193, _, none⟩) (by first | exact Kd.own_blk (Kd.N_away HO_3.out (fun _ hk => hk.2.2)) | (rw [add_block]; exact Kd.own_blk (Kd.N_away HO_3.out (fun _ hk => hk.2.2))) | (show (Addr.add _ _).block ≠ _; rw [add_block]; exact Kd.own_blk (Kd.N_away HO_3.out (fun _ hk => hk.2.2))) | (dsimp only; exact Kd.own_blk (Kd.N_away HO_3.out (fun _ hk => hk.2.2)))) _).trans (((cell_far (p := ⟨gb193, _, none⟩) (by first | exact Kd.own_blk (Kd.N_away HO_3.out (fun _ hk => hk.2.2)) | (rw [add_block]; exact Kd.own_blk (Kd.N_away HO_3.out (fun _ hk => hk.2.2))) | (show (Addr.add _ _).block ≠ _; rw [add_block]; exact Kd.own_blk (Kd.N_away HO_3.out (fun _ hk => hk.2.2))) | (dsimp only; exact Kd.own_blk (Kd.N_away HO_3.out (fun _ hk => hk.2.2)))) _).trans (((cell_far (p := ⟨gb193, _, none⟩) (by first | exact Kd.own_blk (Kd.N_away HO_3.out (fun _ hk => hk.2.2)) | (rw [add_block]; exact Kd.own_blk (Kd.N_away HO_3.out (fun _ hk => hk.2.2))) | (show (Addr.add _ _).block ≠ _; rw [add_block]; exact Kd.own_blk (Kd.N_away HO_3.out (fun _ hk => hk.2.2))) | (dsimp only; exact Kd.own_blk (Kd.N_away HO_3.out (fun _ hk => hk.2.2)))) _).trans (hHeld.2.1)))))))), ((cell_far (p := ⟨gb193, _, none⟩) (by first | exact Kd.own_blk (Kd.N_away HO_3.out (fun _ hk => hk.2.2)) | (rw [add_block]; exact Kd.own_blk (Kd.N_away HO_3.out (fun _ hk => hk.2.2))) | (show (Addr.add _ _).block ≠ _; rw [add_block]; exact Kd.own_blk (Kd.N_away HO_3.out (fun _ hk => hk.2.2))) | (dsimp only; exact Kd.own_blk (Kd.N_away HO_3.out (fun _ hk => hk.2.2)))) _).trans (((cell_far (p := ⟨gb193, _, none⟩) (by first | exact Kd.own_blk (Kd.N_away HO_3.out (fun _ hk => hk.2.2)) | (rw [add_block]; exact Kd.own_blk (Kd.N_away HO_3.out (fun _ hk => hk.2.2))) | (show (Addr.add _ _).block ≠ _; rw [add_block]; exact Kd.own_blk (Kd.N_away HO_3.out (fun _ hk => hk.2.2))) | (dsimp only; exact Kd.own_blk (Kd.N_away HO_3.out (fun _ hk => hk.2.2)))) _).trans (((cell_far (p := ⟨gb193, _, none⟩) (by first | exact Kd.own_blk (Kd.N_away HO_3.out (fun _ hk => hk.2.2)) | (rw [add_block]; exact Kd.own_blk (Kd.N_away HO_3.out (fun _ hk => hk.2.2))) | (show (Addr.add _ _).block ≠ _; rw [add_block]; exact Kd.own_blk (Kd.N_away HO_3.out (fun _ hk => hk.2.2))) | (dsimp only; exact Kd.own_blk (Kd.N_away HO_3.out (fun _ hk => hk.2.2)))) _).trans (((cell_far (p := ⟨gb193, _, none⟩) (by first | exact Kd.own_blk (Kd.N_away HO_3.out (fun _ hk => hk.2.2)) | (rw [add_block]; exact Kd.own_blk (Kd.N_away HO_3.out (fun _ hk => hk.2.2))) | (show (Addr.add _ _).block ≠ _; rw [add_block]; exact Kd.own_blk (Kd.N_away HO_3.out (fun _ hk => hk.2.2))) | (dsimp only; exact Kd.own_blk (Kd.N_away HO_3.out (fun _ hk => hk.2.2)))) _).trans (hHeld.2.2.1)))))))), ((cell_far (p := ⟨gb193, _, none⟩) (by first | exact Kd.own_blk (Kd.N_away HO_3.out (fun _ hk => hk.2.2)) | (rw [add_block]; exact Kd.own_blk (Kd.N_away HO_3.out (fun _ hk => hk.2.2))) | (show (Addr.add _ _).block ≠ _; rw [add_block]; exact Kd.own_blk (Kd.N_away HO_3.out (fun _ hk => hk.2.2))) | (dsimp only; exact Kd.own_blk (Kd.N_away HO_3.out (fun _ hk => hk.2.2)))) _).trans (((cell_far (p := ⟨gb193, _, none⟩) (by first | exact Kd.own_blk (Kd.N_away HO_3.out (fun _ hk => hk.2.2)) | (rw [add_block]; exact Kd.own_blk (Kd.N_away HO_3.out (fun _ hk => hk.2.2))) | (show (Addr.add _ _).block ≠ _; rw [add_block]; exact Kd.own_blk (Kd.N_away HO_3.out (fun _ hk => hk.2.2))) | (dsimp only; exact Kd.own_blk (Kd.N_away HO_3.out (fun _ hk => hk.2.2)))) _).trans (((cell_far (p := ⟨gb193, _, none⟩) (by first | exact Kd.own_blk (Kd.N_away HO_3.out (fun _ hk => hk.2.2)) | (rw [add_block]; exact Kd.own_blk (Kd.N_away HO_3.out (fun _ hk => hk.2.2))) | (show (Addr.add _ _).block ≠ _; rw [add_block]; exact Kd.own_blk (Kd.N_away HO_3.out (fun _ hk => hk.2.2))) | (dsimp only; exact Kd.own_blk (Kd.N_away HO_3.out (fun _ hk => hk.2.2)))) _).trans (((cell_far (p := ⟨gb193, _, none⟩) (by first | exact Kd.own_blk (Kd.N_away HO_3.out (fun _ hk => hk.2.2)) | (rw [add_block]; exact Kd.own_blk (Kd.N_away HO_3.out (fun _ hk => hk.2.2))) | (show (Addr.add _ _).block ≠ _; rw [add_block]; exact Kd.own_blk (Kd.N_away HO_3.out (fun _ hk => hk.2.2))) | (dsimp only; exact Kd.own_blk (Kd.N_away HO_3.out (fun _ hk => hk.2.2)))) _).trans (hHeld.2.2.2.1)))))))), ((cell_far (p := ⟨gb193, _, none⟩) (by first | exact (Kd.V_blk HO_0.out (fun _ hk => hk.2.2.2) p185 q185 (by decide) z28) | (rw [add_block]; exact (Kd.V_blk HO_0.out (fun _ hk => hk.2.2.2) p185 q185 (by decide) z28)) | (show (Addr.add _ _).block ≠ _; rw [add_block]; exact (Kd.V_blk HO_0.out (fun _ hk => hk.2.2.2) p185 q185 (by decide) z28)) | (dsimp only; exact (Kd.V_blk HO_0.out (fun _ hk => hk.2.2.2) p185 q185 (by decide) z28))) _).trans (((cell_far (p := ⟨gb193, _, none⟩) (by first | exact (Kd.V_blk HO_0.out (fun _ hk => hk.2.2.2) p185 q185 (by decide) z28) | (rw [add_block]; exact (Kd.V_blk HO_0.out (fun _ hk => hk.2.2.2) p185 q185 (by decide) z28)) | (show (Addr.add _ _).block ≠ _; rw [add_block]; exact (Kd.V_blk HO_0.out (fun _ hk => hk.2.2.2) p185 q185 (by decide) z28)) | (dsimp only; exact (Kd.V_blk HO_0.out (fun _ hk => hk.2.2.2) p185 q185 (by decide) z28))) _).trans (((cell_far (p := ⟨gb193, _, none⟩) (by first | exact (Kd.V_blk HO_0.out (fun _ hk => hk.2.2.2) p185 q185 (by decide) z28) | (rw [add_block]; exact (Kd.V_blk HO_0.out (fun _ hk => hk.2.2.2) p185 q185 (by decide) z28)) | (show (Addr.add _ _).block ≠ _; rw [add_block]; exact (Kd.V_blk HO_0.out (fun _ hk => hk.2.2.2) p185 q185 (by decide) z28)) | (dsimp only; exact (Kd.V_blk HO_0.out (fun _ hk => hk.2.2.2) p185 q185 (by decide) z28))) _).trans (((cell_far (p := ⟨gb193, _, none⟩) (by first | exact (Kd.V_blk HO_0.out (fun _ hk => hk.2.2.2) p185 q185 (by decide) z28) | (rw [add_block]; exact (Kd.V_blk HO_0.out (fun _ hk => hk.2.2.2) p185 q185 (by decide) z28)) | (show (Addr.add _ _).block ≠ _; rw [add_block]; exact (Kd.V_blk HO_0.out (fun _ hk => hk.2.2.2) p185 q185 (by decide) z28)) | (dsimp only; exact (Kd.V_blk HO_0.out (fun _ hk => hk.2.2.2) p185 q185 (by decide) z28))) _).trans (hHeld.2.2.2.2.1)))))))), ((cell_far (p := ⟨gb193, _, none⟩) (by first | exact (Kd.V_blk HO_0.out (fun _ hk => hk.2.2.2) p185 q185 (by decide) z28) | (rw [add_block]; exact (Kd.V_blk HO_0.out (fun _ hk => hk.2.2.2) p185 q185 (by decide) z28)) | (show (Addr.add _ _).block ≠ _; rw [add_block]; exact (Kd.V_blk HO_0.out (fun _ hk => hk.2.2.2) p185 q185 (by decide) z28)) | (dsimp only; exact (Kd.V_blk HO_0.out (fun _ hk => hk.2.2.2) p185 q185 (by decide) z28))) _).trans (((cell_far (p := ⟨gb193, _, none⟩) (by first | exact (Kd.V_blk HO_0.out (fun _ hk => hk.2.2.2) p185 q185 (by decide) z28) | (rw [add_block]; exact (Kd.V_blk HO_0.out (fun _ hk => hk.2.2.2) p185 q185 (by decide) z28)) | (show (Addr.add _ _).block ≠ _; rw [add_block]; exact (Kd.V_blk HO_0.out (fun _ hk => hk.2.2.2) p185 q185 (by decide) z28)) | (dsimp only; exact (Kd.V_blk HO_0.out (fun _ hk => hk.2.2.2) p185 q185 (by decide) z28))) _).trans (((cell_far (p := ⟨gb193, _, none⟩) (by first | exact (Kd.V_blk HO_0.out (fun _ hk => hk.2.2.2) p185 q185 (by decide) z28) | (rw [add_block]; exact (Kd.V_blk HO_0.out (fun _ hk => hk.2.2.2) p185 q185 (by decide) z28)) | (show (Addr.add _ _).block ≠ _; rw [add_block]; exact (Kd.V_blk HO_0.out (fun _ hk => hk.2.2.2) p185 q185 (by decide) z28)) | (dsimp only; exact (Kd.V_blk HO_0.out (fun _ hk => hk.2.2.2) p185 q185 (by decide) z28))) _).trans (((cell_far (p := ⟨gb193, _, none⟩) (by first | exact (Kd.V_blk HO_0.out (fun _ hk => hk.2.2.2) p185 q185 (by decide) z28) | (rw [add_block]; exact (Kd.V_blk HO_0.out (fun _ hk => hk.2.2.2) p185 q185 (by decide) z28)) | (show (Addr.add _ _).block ≠ _; rw [add_block]; exact (Kd.V_blk HO_0.out (fun _ hk => hk.2.2.2) p185 q185 (by decide) z28)) | (dsimp only; exact (Kd.V_blk HO_0.out (fun _ hk => hk.2.2.2) p185 q185 (by decide) z28))) _).trans (hHeld.2.2.2.2.2.1)))))))), ((cell_far (p := ⟨gb193, _, none⟩) (by first | exact (Kd.V_blk HO_0.out (fun _ hk => hk.2.2.2) p185 q185 (by decide) z28) | (rw [add_block]; exact (Kd.V_blk HO_0.out (fun _ hk => hk.2.2.2) p185 q185 (by decide) z28)) | (show (Addr.add _ _).block ≠ _; rw [add_block]; exact (Kd.V_blk HO_0.out (fun _ hk => hk.2.2.2) p185 q185 (by decide) z28)) | (dsimp only; exact (Kd.V_blk HO_0.out (fun _ hk => hk.2.2.2) p185 q185 (by decide) z28))) _).trans (((cell_far (p := ⟨gb193, _, none⟩) (by first | exact (Kd.V_blk HO_0.out (fun _ hk => hk.2.2.2) p185 q185 (by decide) z28) | (rw [add_block]; exact (Kd.V_blk HO_0.out (fun _ hk => hk.2.2.2) p185 q185 (by decide) z28)) | (show (Addr.add _ _).block ≠ _; rw [add_block]; exact (Kd.V_blk HO_0.out (fun _ hk => hk.2.2.2) p185 q185 (by decide) z28)) | (dsimp only; exact (Kd.V_blk HO_0.out (fun _ hk => hk.2.2.2) p185 q185 (by decide) z28))) _).trans (((cell_far (p := ⟨gb193, _, none⟩) (by first | exact (Kd.V_blk HO_0.out (fun _ hk => hk.2.2.2) p185 q185 (by decide) z28) | (rw [add_block]; exact (Kd.V_blk HO_0.out (fun _ hk => hk.2.2.2) p185 q185 (by decide) z28)) | (show (Addr.add _ _).block ≠ _; rw [add_block]; exact (Kd.V_blk HO_0.out (fun _ hk => hk.2.2.2) p185 q185 (by decide) z28)) | (dsimp only; exact (Kd.V_blk HO_0.out (fun _ hk => hk.2.2.2) p185 q185 (by decide) z28))) _).trans (((cell_far (p := ⟨gb193, _, none⟩) (by first | exact (Kd.V_blk HO_0.out (fun _ hk => hk.2.2.2) p185 q185 (by decide) z28) | (rw [add_block]; exact (Kd.V_blk HO_0.out (fun _ hk => hk.2.2.2) p185 q185 (by decide) z28)) | (show (Addr.add _ _).block ≠ _; rw [add_block]; exact (Kd.V_blk HO_0.out (fun _ hk => hk.2.2.2) p185 q185 (by decide) z28)) | (dsimp only; exact (Kd.V_blk HO_0.out (fun _ hk => hk.2.2.2) p185 q185 (by decide) z28))) _).trans (hHeld.2.2.2.2.2.2.1)))))))), ((cell_far (p := ⟨gb193, _, none⟩) (by first | exact (Kd.V_blk HO_0.out (fun _ hk => hk.2.2.2) p185 q185 (by decide) z28) | (rw [add_block]; exact (Kd.V_blk HO_0.out (fun _ hk => hk.2.2.2) p185 q185 (by decide) z28)) | (show (Addr.add _ _).block ≠ _; rw [add_block]; exact (Kd.V_blk HO_0.out (fun _ hk => hk.2.2.2) p185 q185 (by decide) z28)) | (dsimp only; exact (Kd.V_blk HO_0.out (fun _ hk => hk.2.2.2) p185 q185 (by decide) z28))) _).trans (((cell_far (p := ⟨gb193, _, none⟩) (by first | exact (Kd.V_blk HO_0.out (fun _ hk => hk.2.2.2) p185 q185 (by decide) z28) | (rw [add_block]; exact (Kd.V_blk HO_0.out (fun _ hk => hk.2.2.2) p185 q185 (by decide) z28)) | (show (Addr.add _ _).block ≠ _; rw [add_block]; exact (Kd.V_blk HO_0.out (fun _ hk => hk.2.2.2) p185 q185 (by decide) z28)) | (dsimp only; exact (Kd.V_blk HO_0.out (fun _ hk => hk.2.2.2) p185 q185 (by decide) z28))) _).trans (((cell_far (p := ⟨gb193, _, none⟩) (by first | exact (Kd.V_blk HO_0.out (fun _ hk => hk.2.2.2) p185 q185 (by decide) z28) | (rw [add_block]; exact (Kd.V_blk HO_0.out (fun _ hk => hk.2.2.2) p185 q185 (by decide) z28)) | (show (Addr.add _ _).block ≠ _; rw [add_block]; exact (Kd.V_blk HO_0.out (fun _ hk => hk.2.2.2) p185 q185 (by decide) z28)) | (dsimp only; exact (Kd.V_blk HO_0.out (fun _ hk => hk.2.2.2) p185 q185 (by decide) z28))) _).trans (((cell_far (p := ⟨gb193, _, none⟩) (by first | exact (Kd.V_blk HO_0.out (fun _ hk => hk.2.2.2) p185 q185 (by decide) z28) | (rw [add_block]; exact (Kd.V_blk HO_0.out (fun _ hk => hk.2.2.2) p185 q185 (by decide) z28)) | (show (Addr.add _ _).block ≠ _; rw [add_block]; exact (Kd.V_blk HO_0.out (fun _ hk => hk.2.2.2) p185 q185 (by decide) z28)) | (dsimp only; exact (Kd.V_blk HO_0.out (fun _ hk => hk.2.2.2) p185 q185 (by decide) z28))) _).trans (hHeld.2.2.2.2.2.2.2))))))))⟩ (fun hHeld => ?_)
                    clear hK K
                    refine pure_ (i := 16) (N := some 6) (v := ?_) (a' := ?_) #[true, true, true, true, true, true, true, true, true, true, true, true, true, true, true, true, true] rfl rfl (any_of HT_.out (by kernel_rfl)) (fun _ _ _ h => h) (Or.inl ⟨by rfl, ?_⟩) ?_ ?_
                    rotate_left
                    · intro w'
                      go_simp
                      with_reducible rfl
                    rotate_left
                    · simp only [Act.put, List.setIfInBounds_toArray, List.set_cons_zero, List.set_cons_succ, i64_w, i32_w]
                      rfl
                    refine done_ (done_of HT_.out (by kernel_rfl)) ?_
                    have n0_ : Aside0 (Kd.V k28 28 ((((w32.setCell ⟨gb193, 0, none⟩ (.int .i64 t186)).setCell ⟨gb193, 1, none⟩ (.int .i64 t187)).setCell ⟨gb193, 2, none⟩ (.int .i64 t188)).setCell ⟨gb193, 3, none⟩ (.slice Ao36 t189.length co36)) w.heap.size (fun k_ => (P0_ k_ ∨ w.heap.size ≤ k_) ∧ some k_ ≠ (.slice (some ad184) x3_1.length co28 : Value).ownBlock ∧ some k_ ≠ (.slice Ao36 t189.length co36 : Value).ownBlock ∧ k_ ≠ gb193) (.slice (some ad185) x0_1.length c0) x0_1) := ⟨by (with_reducible repeat (first | apply Kd.V_alloc | apply Kd.V_drewN | apply Kd.V_drew)); exact Kd.V_mono (Kd.V_far (p := ⟨gb193, 3, none⟩) (Kd.V_far (p := ⟨gb193, 2, none⟩) (Kd.V_far (p := ⟨gb193, 1, none⟩) (Kd.V_far (p := ⟨gb193, 0, none⟩) (Kd.V_mono HO_0.out (fun k_ hk => (⟨hk, hk.2.2.2⟩ : _ ∧ k_ ≠ gb193))) (fun _ hk => hk.2) (.int .i64 t186)) (fun _ hk => hk.2) (.int .i64 t187)) (fun _ hk => hk.2) (.int .i64 t188)) (fun _ hk => hk.2) (.slice Ao36 t189.length co36)) (fun _ hk => ⟨hk.1.1, ⟨hk.1.2.2.1, ⟨hk.1.2.1, hk.1.2.2.2⟩⟩⟩)⟩
                    have n1_ : Aside0 (Kd.N k28 28 ((((w32.setCell ⟨gb193, 0, none⟩ (.int .i64 t186)).setCell ⟨gb193, 1, none⟩ (.int .i64 t187)).setCell ⟨gb193, 2, none⟩ (.int .i64 t188)).setCell ⟨gb193, 3, none⟩ (.slice Ao36 t189.length co36)) w.heap.size (fun k_ => (P0_ k_ ∨ w.heap.size ≤ k_) ∧ some k_ ≠ (.slice Ao36 t189.length co36 : Value).ownBlock ∧ k_ ≠ gb193) (.slice (some ad184) x3_1.length co28) x3_1) := ⟨by (with_reducible repeat (first | apply Kd.N_alloc | apply Kd.N_drewN | apply Kd.N_drew)); exact Kd.N_mono (Kd.N_far (p := ⟨gb193, 3, none⟩) (Kd.N_far (p := ⟨gb193, 2, none⟩) (Kd.N_far (p := ⟨gb193, 1, none⟩) (Kd.N_far (p := ⟨gb193, 0, none⟩) (Kd.N_mono HO_3.out (fun k_ hk => (⟨hk, hk.2.2⟩ : _ ∧ k_ ≠ gb193))) (fun _ hk => hk.2) (.int .i64 t186)) (fun _ hk => hk.2) (.int .i64 t187)) (fun _ hk => hk.2) (.int .i64 t188)) (fun _ hk => hk.2) (.slice Ao36 t189.length co36)) (fun _ hk => ⟨hk.1.1, ⟨hk.1.2.1, hk.1.2.2⟩⟩)⟩
                    have n2_ : Aside0 (Kd.V (Kd.int .i64) 3 ((((w32.setCell ⟨gb193, 0, none⟩ (.int .i64 t186)).setCell ⟨gb193, 1, none⟩ (.int .i64 t187)).setCell ⟨gb193, 2, none⟩ (.int .i64 t188)).setCell ⟨gb193, 3, none⟩ (.slice Ao36 t189.length co36)) w.heap.size (fun k_ => (P0_ k_ ∨ w.heap.size ≤ k_) ∧ some k_ ≠ (.slice (some ad184) x3_1.length co28 : Value).ownBlock ∧ some k_ ≠ (.slice Ao36 t189.length co36 : Value).ownBlock ∧ k_ ≠ gb193) (.slice A184_3 ((rd_T28 x3_1 (ji6)).f3).length c184_3) ((rd_T28 x3_1 (ji6)).f3)) := ⟨by (with_reducible repeat (first | apply Kd.V_alloc | apply Kd.V_drewN | apply Kd.V_drew)); exact Kd.V_mono (Kd.V_far (p := ⟨gb193, 3, none⟩) (Kd.V_far (p := ⟨gb193, 2, none⟩) (Kd.V_far (p := ⟨gb193, 1, none⟩) (Kd.V_far (p := ⟨gb193, 0, none⟩) (Kd.V_mono HL184_3.out (fun k_ hk => (⟨hk, hk.2.2.2⟩ : _ ∧ k_ ≠ gb193))) (fun _ hk => hk.2) (.int .i64 t186)) (fun _ hk => hk.2) (.int .i64 t187)) (fun _ hk => hk.2) (.int .i64 t188)) (fun _ hk => hk.2) (.slice Ao36 t189.length co36)) (fun _ hk => ⟨hk.1.1, ⟨hk.1.2.2.1, ⟨hk.1.2.1, hk.1.2.2.2⟩⟩⟩)⟩
                    have n3_ : Aside0 (Kd.V (Kd.int .i64) 3 ((((w32.setCell ⟨gb193, 0, none⟩ (.int .i64 t186)).setCell ⟨gb193, 1, none⟩ (.int .i64 t187)).setCell ⟨gb193, 2, none⟩ (.int .i64 t188)).setCell ⟨gb193, 3, none⟩ (.slice Ao36 t189.length co36)) w.heap.size (fun k_ => (P0_ k_ ∨ w.heap.size ≤ k_) ∧ some k_ ≠ (.slice (some ad184) x3_1.length co28 : Value).ownBlock ∧ some k_ ≠ (.slice Ao36 t189.length co36 : Value).ownBlock ∧ k_ ≠ gb193) (.slice A185_3 ((rd_T28 x0_1 x4_1).f3).length c185_3) ((rd_T28 x0_1 x4_1).f3)) := ⟨by (with_reducible repeat (first | apply Kd.V_alloc | apply Kd.V_drewN | apply Kd.V_drew)); exact Kd.V_mono (Kd.V_far (p := ⟨gb193, 3, none⟩) (Kd.V_far (p := ⟨gb193, 2, none⟩) (Kd.V_far (p := ⟨gb193, 1, none⟩) (Kd.V_far (p := ⟨gb193, 0, none⟩) (Kd.V_mono HL185_3.out (fun k_ hk => (⟨hk, hk.2.2.2⟩ : _ ∧ k_ ≠ gb193))) (fun _ hk => hk.2) (.int .i64 t186)) (fun _ hk => hk.2) (.int .i64 t187)) (fun _ hk => hk.2) (.int .i64 t188)) (fun _ hk => hk.2) (.slice Ao36 t189.length co36)) (fun _ hk => ⟨hk.1.1, ⟨hk.1.2.2.1, ⟨hk.1.2.1, hk.1.2.2.2⟩⟩⟩)⟩
                    have n4_ : Aside0 (Kd.R (Kd.int .i64) 3 ((((w32.setCell ⟨gb193, 0, none⟩ (.int .i64 t186)).setCell ⟨gb193, 1, none⟩ (.int .i64 t187)).setCell ⟨gb193, 2, none⟩ (.int .i64 t188)).setCell ⟨gb193, 3, none⟩ (.slice Ao36 t189.length co36)) w.heap.size (fun k_ => (w.heap.size ≤ k_)) (.slice Ao36 t189.length co36) t189) := ⟨by (with_reducible repeat (first | apply Kd.R_alloc | apply Kd.R_drewN | apply Kd.R_drew)); exact Kd.R_mono (Kd.R_far (p := ⟨gb193, 3, none⟩) (Kd.R_far (p := ⟨gb193, 2, none⟩) (Kd.R_far (p := ⟨gb193, 1, none⟩) (Kd.R_far (p := ⟨gb193, 0, none⟩) (Kd.R_types HO191.out BK193.out (by decide)) (fun _ hk => hk.2) (.int .i64 t186)) (fun _ hk => hk.2) (.int .i64 t187)) (fun _ hk => hk.2) (.int .i64 t188)) (fun _ hk => hk.2) (.slice Ao36 t189.length co36)) (fun _ hk => hk.1)⟩
                    have n5_ : Aside0 (((((w32.setCell ⟨gb193, 0, none⟩ (.int .i64 t186)).setCell ⟨gb193, 1, none⟩ (.int .i64 t187)).setCell ⟨gb193, 2, none⟩ (.int .i64 t188)).setCell ⟨gb193, 3, none⟩ (.slice Ao36 t189.length co36)).heap[gb193]? = some (.cells #[.int .i64 t186, .int .i64 t187, .int .i64 t188, .slice Ao36 t189.length co36] 28 (0, 0))) := ⟨by (with_reducible repeat (first | refine blk_drewN ?_ _ | refine blk_drew ?_ | refine blk_alloc ?_ _)); refine blk_put (cs := #[.int .i64 t186, .int .i64 t187, .int .i64 t188, .slice none 0 0]) ?_ 3 _ rfl; (with_reducible repeat (first | refine blk_drewN ?_ _ | refine blk_drew ?_ | refine blk_alloc ?_ _)); refine blk_put (cs := #[.int .i64 t186, .int .i64 t187, .int .i64 0, .slice none 0 0]) ?_ 2 _ rfl; (with_reducible repeat (first | refine blk_drewN ?_ _ | refine blk_drew ?_ | refine blk_alloc ?_ _)); refine blk_put (cs := #[.int .i64 t186, .int .i64 0, .int .i64 0, .slice none 0 0]) ?_ 1 _ rfl; (with_reducible repeat (first | refine blk_drewN ?_ _ | refine blk_drew ?_ | refine blk_alloc ?_ _)); refine blk_put (cs := #[.int .i64 0, .int .i64 0, .int .i64 0, .slice none 0 0]) ?_ 0 _ rfl; (with_reducible repeat (first | refine blk_drewN ?_ _ | refine blk_drew ?_ | refine blk_alloc ?_ _)); exact BK193.out⟩
                    have n6_ : Aside0 (Below w.heap.size w ((((w32.setCell ⟨gb193, 0, none⟩ (.int .i64 t186)).setCell ⟨gb193, 1, none⟩ (.int .i64 t187)).setCell ⟨gb193, 2, none⟩ (.int .i64 t188)).setCell ⟨gb193, 3, none⟩ (.slice Ao36 t189.length co36))) := ⟨by repeat (first | (with_reducible first | exact HB.out | apply below_alloc | apply pw_below_drewN | apply below_drew1 | refine below_set ?_ GE193.out) | exact HB.out)⟩
                    (try clear HO_0)
                    (try clear HO_3)
                    (try clear HL184_3)
                    (try clear HL185_3)
                    (try clear HO191)
                    (try clear BK193)
                    (try clear HB)
                    generalize ((((w32.setCell ⟨gb193, 0, none⟩ (.int .i64 t186)).setCell ⟨gb193, 1, none⟩ (.int .i64 t187)).setCell ⟨gb193, 2, none⟩ (.int .i64 t188)).setCell ⟨gb193, 3, none⟩ (.slice Ao36 t189.length co36)) = w38 at n0_ n1_ n2_ n3_ n4_ n5_ n6_ ⊢
                    have HO_0 := n0_
                    have HO_3 := n1_
                    have HL184_3 := n2_
                    have HL185_3 := n3_
                    have HO191 := n4_
                    have BK193 := n5_
                    have HB := n6_
                    clear n0_ n1_ n2_ n3_ n4_ n5_ n6_
                    have p195 : 0 ≤ (x4_1 : Int) := of_decide_eq_true (by first | (with_reducible assumption) | assumption)
                    have q195 : x4_1 < (x0_1.length : Int) := of_decide_eq_true (by first | (with_reducible assumption) | assumption)
                    obtain ⟨ad195, A195_3, c195_3, e195, hx195_0, hx195_1, hx195_2, hx195_3, hl195_3, hi195_3⟩ := at_T28 (Kd.V_reads' HO_0.out).2.2 x4_1 p195 q195
                    obtain rfl : ad185 = ad195 := (by injection e195)
                    obtain ⟨ce195, hce195, hMe195, hcc195⟩ := Kd.V_get HO_0.out z28 x4_1 p195 (by first | exact q195 | exact of_decide_eq_true (by first | (with_reducible assumption) | assumption) | (have e_ := (Kd.V_reads' HO_0.out).1; omega))
                    obtain ⟨ua195_3, uc195_3, rfl, ul195_3, ge195_3⟩ := k28_openF hMe195
                    have hv195_3 := hcc195 3 _ rfl
                    rw [add_field _ _ 3 (by omega)] at hv195_3
                    replace hv195_3 := Option.some.inj (hv195_3.symm.trans hx195_3)
                    injection hv195_3 with hva_ hvn_ hvc_
                    rw [hva_] at ge195_3
                    rw [hvc_] at ul195_3
                    have HL195_3 := Aside0.mk (show Kd.V (Kd.int .i64) 3 _ w.heap.size _ _ ((rd_T28 x0_1 x4_1).f3) from Kd.V_mk ul195_3 ge195_3)
                    clear hva_ hvn_ hvc_ ge195_3 ul195_3
                    clear hcc195 hce195
                    have HR195_3 := Aside0.mk hi195_3
                    have HC195_3 := Aside0.mk hl195_3
                    clear hi195_3 hl195_3
                    replace p195 := eq_true p195
                    replace q195 := eq_true q195
                    try go_wp2_with (first | ((with_reducible refine gate_builtin (b := .append) (xs := #[.tmp 38, .tmp 43]) rfl ?_); at_builtin; refine Kd.N_append k28 (w0 := w) w.heap.size rfl (.tmp 38) (.tmp 43) 22 28 (.agg #[(.int .i64 0), (.int .i64 0), (.int .i64 0), (.slice none 0 0)]) 48 rfl Try.underlying22 info28 rfl (by decide) (by omega) (.slice (some ad184) x3_1.length co28) x3_1 (⟨(rd_T28 x0_1 x4_1).f0, (rd_T28 x0_1 x4_1).f1, (rd_T28 x0_1 x4_1).f2, (rd_T28 x0_1 x4_1).f3⟩ : S28) [.int .i64 ((rd_T28 x0_1 x4_1).f0), .int .i64 ((rd_T28 x0_1 x4_1).f1), .int .i64 ((rd_T28 x0_1 x4_1).f2), .slice A195_3 ((rd_T28 x0_1 x4_1).f3).length c195_3] (fun k_ => (P0_ k_ ∨ w.heap.size ≤ k_) ∧ some k_ ≠ (.slice Ao36 t189.length co36 : Value).ownBlock ∧ k_ ≠ gb193) (fun k_ => ((fun k_ => (P0_ k_ ∨ w.heap.size ≤ k_) ∧ some k_ ≠ (.slice Ao36 t189.length co36 : Value).ownBlock ∧ k_ ≠ gb193)) k_ ∧ some k_ ≠ (.slice (some ad184) x3_1.length co28 : Value).ownBlock) rfl rfl ?aP (fun _ hk => hk) ?aF ?aO ?aB ?aS ?aL ?_; (case aP => exact (k28_mkF _ _ (⟨(rd_T28 x0_1 x4_1).f0, (rd_T28 x0_1 x4_1).f1, (rd_T28 x0_1 x4_1).f2, (rd_T28 x0_1 x4_1).f3⟩ : S28) (Kd.V_reads' (Kd.V_mono (ok' := (fun k_ => ((fun k_ => (P0_ k_ ∨ w.heap.size ≤ k_) ∧ some k_ ≠ (.slice Ao36 t189.length co36 : Value).ownBlock ∧ k_ ≠ gb193)) k_ ∧ some k_ ≠ (.slice (some ad184) x3_1.length co28 : Value).ownBlock)) (HL195_3.out) (fun k_ hk => ⟨⟨hk.1, ⟨hk.2.2.1, hk.2.2.2⟩⟩, hk.2.1⟩))).2.1 (Kd.V_F (Kd.V_mono (ok' := (fun k_ => ((fun k_ => (P0_ k_ ∨ w.heap.size ≤ k_) ∧ some k_ ≠ (.slice Ao36 t189.length co36 : Value).ownBlock ∧ k_ ≠ gb193)) k_ ∧ some k_ ≠ (.slice (some ad184) x3_1.length co28 : Value).ownBlock)) (HL195_3.out) (fun k_ hk => ⟨⟨hk.1, ⟨hk.2.2.1, hk.2.2.2⟩⟩, hk.2.1⟩))))); (case aB => exact (by repeat (first | (with_reducible first | exact HB.out | apply below_alloc | apply pw_below_drewN | apply below_drew1 | refine below_set ?_ GE193.out) | exact HB.out))); (case aF => exact (fun k_ hk => ⟨(.inr (Nat.le_trans (below_size (by repeat (first | (with_reducible first | exact HB.out | apply below_alloc | apply pw_below_drewN | apply below_drew1 | refine below_set ?_ GE193.out) | exact HB.out))) hk)), Kd.fresh' (Kd.R_lt (by (with_reducible repeat (first | apply Kd.R_alloc | apply Kd.R_drewN | apply Kd.R_drew)); exact HO191.out)) k_ hk, Kd.freshB (g := gb193) (o := .cells #[.int .i64 t186, .int .i64 t187, .int .i64 t188, .slice Ao36 t189.length co36] 28 (0, 0)) (by (with_reducible repeat (first | refine blk_drewN ?_ _ | refine blk_drew ?_ | refine blk_alloc ?_ _)); exact BK193.out) k_ hk⟩)); (case aO => exact (by (with_reducible repeat (first | apply Kd.N_alloc | apply Kd.N_drewN | apply Kd.N_drew)); exact HO_3.out)); (case aS => exact (below_size (by repeat (first | (with_reducible first | exact HB.out | apply below_alloc | apply pw_below_drewN | apply below_drew1 | refine below_set ?_ GE193.out) | exact HB.out)))); (case aL => have := LMc27.out; omega); intro v197 w39 ho hb hg hat; rw [← Ny196.out] at ho; have n0_ := Aside0.mk (Kd.V_afterv (ok := (fun k_ => (P0_ k_ ∨ w.heap.size ≤ k_) ∧ some k_ ≠ (.slice Ao36 t189.length co36 : Value).ownBlock ∧ k_ ≠ gb193)) (by (with_reducible repeat (first | apply Kd.V_alloc | apply Kd.V_drewN | apply Kd.V_drew)); exact Kd.V_mono HO_0.out (fun _ hk => ⟨⟨hk.1, ⟨hk.2.2.1, hk.2.2.2⟩⟩, hk.2.1⟩)) hg hat); have n1_ := Aside0.mk (Kd.V_afterv (ok := (fun k_ => (P0_ k_ ∨ w.heap.size ≤ k_) ∧ some k_ ≠ (.slice Ao36 t189.length co36 : Value).ownBlock ∧ k_ ≠ gb193)) (by (with_reducible repeat (first | apply Kd.V_alloc | apply Kd.V_drewN | apply Kd.V_drew)); exact Kd.V_mono HL184_3.out (fun _ hk => ⟨⟨hk.1, ⟨hk.2.2.1, hk.2.2.2⟩⟩, hk.2.1⟩)) hg hat); have n2_ := Aside0.mk (Kd.V_afterv (ok := (fun k_ => (P0_ k_ ∨ w.heap.size ≤ k_) ∧ some k_ ≠ (.slice Ao36 t189.length co36 : Value).ownBlock ∧ k_ ≠ gb193)) (by (with_reducible repeat (first | apply Kd.V_alloc | apply Kd.V_drewN | apply Kd.V_drew)); exact Kd.V_mono HL185_3.out (fun _ hk => ⟨⟨hk.1, ⟨hk.2.2.1, hk.2.2.2⟩⟩, hk.2.1⟩)) hg hat); have n3_ := Aside0.mk (Kd.R_over' (by (with_reducible repeat (first | apply Kd.R_alloc | apply Kd.R_drewN | apply Kd.R_drew)); exact HO191.out) (Kd.N_typed (by (with_reducible repeat (first | apply Kd.N_alloc | apply Kd.N_drewN | apply Kd.N_drew)); exact HO_3.out)) (by decide) hg); have n4_ := Aside0.mk (blk_grown (g := gb193) (o := .cells #[.int .i64 t186, .int .i64 t187, .int .i64 t188, .slice Ao36 t189.length co36] 28 (0, 0)) (by (with_reducible repeat (first | refine blk_drewN ?_ _ | refine blk_drew ?_ | refine blk_alloc ?_ _)); exact BK193.out) hg (Kd.N_away HO_3.out (fun _ hk => hk.2.2))); have n5_ := Aside0.mk (Kd.V_afterv (ok := (fun k_ => (P0_ k_ ∨ w.heap.size ≤ k_) ∧ some k_ ≠ (.slice Ao36 t189.length co36 : Value).ownBlock ∧ k_ ≠ gb193)) (by (with_reducible repeat (first | apply Kd.V_alloc | apply Kd.V_drewN | apply Kd.V_drew)); exact Kd.V_mono HL195_3.out (fun _ hk => ⟨⟨hk.1, ⟨hk.2.2.1, hk.2.2.2⟩⟩, hk.2.1⟩)) hg hat); have n6_ := Aside0.mk (hb); have n7_ := Aside0.mk (ho); clear HO_0; clear HL184_3; clear HL185_3; clear HO191; clear BK193; clear HL195_3; clear HB; clear HO_3; have HO_0 := n0_; have HL184_3 := n1_; have HL185_3 := n2_; have HO191 := n3_; have BK193 := n4_; have HL195_3 := n5_; have HB := n6_; have HO198 := n7_; clear n0_ n1_ n2_ n3_ n4_ n5_ n6_ n7_; clear ho hb hg hat))
                    (try simp only [← hl0_1])
                    go_roundg k1
                    case measure => have := HK1.out; omega
                    case rel => exact ⟨(x0_1), (y196), (wrap64 (x4_1 + 1)), (by first | rfl | (simp; done) | (simp [*]; done)), H', ⟨by have := HK1.out; omega⟩, ⟨by (try simp only [hl0_1]); (with_reducible repeat (first | apply Kd.V_alloc | apply Kd.V_drewN | apply Kd.V_drew)); exact Kd.V_mono HO_0.out (fun _ hk => ⟨hk.1.1, hk.2⟩)⟩, ⟨by (try simp only [hl0_1]); (with_reducible repeat (first | apply Kd.N_alloc | apply Kd.N_drewN | apply Kd.N_drew)); exact Kd.N_mono HO198.out (fun _ hk => hk.1)⟩, ⟨by repeat (first | (with_reducible first | exact HB.out | apply below_alloc | apply pw_below_drewN | apply below_drew1 | refine below_set ?_ GE193.out) | exact HB.out)⟩⟩
                  · rw [if_neg c27] at H
                    exact absurd H (by simp)
              · rw [if_neg c9] at H
                exact absurd H (by simp)
            · rw [if_neg c8] at H
              exact absurd H (by simp)
          · rw [if_neg c7] at H
            exact absurd H (by simp)
        · rw [if_neg c5] at H
          have c5b0 : decide (0 < (x3_1.length : Int)) = false := decide_eq_false c5
          have c5b1 : decide (0 < x3_1.length) = false := decide_eq_false (by omega)
          clear c5
          by_cases c40 : 0 ≤ x4_1
          · rw [if_pos c40] at H
            have c40b0 : decide (0 ≤ x4_1) = true := decide_eq_true c40
            clear c40
            by_cases c41 : x3_1.length < 2932031007402
            · rw [if_pos c41] at H
              have LMc41 := Aside0.mk c41
              clear c41
              obtain ⟨y200, hy200⟩ : ∃ y_ : List (S28), y_ = (x3_1 ++ [(⟨(rd_T28 x0_1 x4_1).f0, (rd_T28 x0_1 x4_1).f1, (rd_T28 x0_1 x4_1).f2, (rd_T28 x0_1 x4_1).f3⟩ : S28)]) := ⟨_, rfl⟩
              replace H : (juratref27_All.l0 k1 x0_1 y200 (wrap64 (x4_1 + 1))) = some r := by first | (rw [hy200]; with_reducible exact H) | (have H2_ := (Option.bind_some _ _).symm.trans H; rw [hy200]; with_reducible exact H2_) | (have H2_ := (Option.bind_some _ _).symm.trans H; with_reducible exact H2_) | with_reducible exact H | (rw [hy200]; exact H) | exact H
              have Ny200 := Aside0.mk hy200
              clear hy200
              have H' := Aside0.mk H
              clear H
              obtain ⟨Ao42, co42, eo42⟩ := Kd.N_slice HO_3.out
              subst eo42
              have p199 : 0 ≤ (x4_1 : Int) := of_decide_eq_true (by first | (with_reducible assumption) | assumption)
              have q199 : x4_1 < (x0_1.length : Int) := of_decide_eq_true (by first | (with_reducible assumption) | assumption)
              obtain ⟨ad199, A199_3, c199_3, e199, hx199_0, hx199_1, hx199_2, hx199_3, hl199_3, hi199_3⟩ := at_T28 (Kd.V_reads' HO_0.out).2.2 x4_1 p199 q199
              cases e199
              obtain ⟨ce199, hce199, hMe199, hcc199⟩ := Kd.V_get HO_0.out z28 x4_1 p199 (by first | exact q199 | exact of_decide_eq_true (by first | (with_reducible assumption) | assumption) | (have e_ := (Kd.V_reads' HO_0.out).1; omega))
              obtain ⟨ua199_3, uc199_3, rfl, ul199_3, ge199_3⟩ := k28_openF hMe199
              have hv199_3 := hcc199 3 _ rfl
              rw [add_field _ _ 3 (by omega)] at hv199_3
              replace hv199_3 := Option.some.inj (hv199_3.symm.trans hx199_3)
              injection hv199_3 with hva_ hvn_ hvc_
              rw [hva_] at ge199_3
              rw [hvc_] at ul199_3
              have HL199_3 := Aside0.mk (show Kd.V (Kd.int .i64) 3 _ w.heap.size _ _ ((rd_T28 x0_1 x4_1).f3) from Kd.V_mk ul199_3 ge199_3)
              clear hva_ hvn_ hvc_ ge199_3 ul199_3
              clear hcc199 hce199
              have HR199_3 := Aside0.mk hi199_3
              have HC199_3 := Aside0.mk hl199_3
              clear hi199_3 hl199_3
              replace p199 := eq_true p199
              replace q199 := eq_true q199
              go_wp2_with (first | ((with_reducible refine gate_builtin (b := .append) (xs := #[.tmp 38, .tmp 43]) rfl ?_); at_builtin; refine Kd.N_append k28 (w0 := w) w.heap.size rfl (.tmp 38) (.tmp 43) 22 28 (.agg #[(.int .i64 0), (.int .i64 0), (.int .i64 0), (.slice none 0 0)]) 48 rfl Try.underlying22 info28 rfl (by decide) (by omega) (.slice Ao42 x3_1.length co42) x3_1 (⟨(rd_T28 x0_1 x4_1).f0, (rd_T28 x0_1 x4_1).f1, (rd_T28 x0_1 x4_1).f2, (rd_T28 x0_1 x4_1).f3⟩ : S28) [.int .i64 ((rd_T28 x0_1 x4_1).f0), .int .i64 ((rd_T28 x0_1 x4_1).f1), .int .i64 ((rd_T28 x0_1 x4_1).f2), .slice A199_3 ((rd_T28 x0_1 x4_1).f3).length c199_3] (fun k_ => (P0_ k_ ∨ w.heap.size ≤ k_)) (fun k_ => ((fun k_ => (P0_ k_ ∨ w.heap.size ≤ k_))) k_ ∧ some k_ ≠ (.slice Ao42 x3_1.length co42 : Value).ownBlock) rfl rfl ?aP (fun _ hk => hk) ?aF ?aO ?aB ?aS ?aL ?_; (case aP => exact (k28_mkF _ _ (⟨(rd_T28 x0_1 x4_1).f0, (rd_T28 x0_1 x4_1).f1, (rd_T28 x0_1 x4_1).f2, (rd_T28 x0_1 x4_1).f3⟩ : S28) (Kd.V_reads' (Kd.V_mono (ok' := (fun k_ => ((fun k_ => (P0_ k_ ∨ w.heap.size ≤ k_))) k_ ∧ some k_ ≠ (.slice Ao42 x3_1.length co42 : Value).ownBlock)) (HL199_3.out) (fun k_ hk => ⟨hk.1, hk.2⟩))).2.1 (Kd.V_F (Kd.V_mono (ok' := (fun k_ => ((fun k_ => (P0_ k_ ∨ w.heap.size ≤ k_))) k_ ∧ some k_ ≠ (.slice Ao42 x3_1.length co42 : Value).ownBlock)) (HL199_3.out) (fun k_ hk => ⟨hk.1, hk.2⟩))))); (case aB => exact (by repeat (first | (with_reducible first | exact HB.out | apply below_alloc | apply pw_below_drewN | apply below_drew1) | exact HB.out))); (case aF => exact (fun k_ hk => (.inr (Nat.le_trans (below_size (by repeat (first | (with_reducible first | exact HB.out | apply below_alloc | apply pw_below_drewN | apply below_drew1) | exact HB.out))) hk)))); (case aO => exact (by (with_reducible repeat (first | apply Kd.N_alloc | apply Kd.N_drewN | apply Kd.N_drew)); exact HO_3.out)); (case aS => exact (below_size (by repeat (first | (with_reducible first | exact HB.out | apply below_alloc | apply pw_below_drewN | apply below_drew1) | exact HB.out)))); (case aL => have := LMc41.out; omega); intro v201 w43 ho hb hg hat; rw [← Ny200.out] at ho; have n0_ := Aside0.mk (Kd.V_afterv (ok := (fun k_ => (P0_ k_ ∨ w.heap.size ≤ k_))) (by (with_reducible repeat (first | apply Kd.V_alloc | apply Kd.V_drewN | apply Kd.V_drew)); exact HO_0.out) hg hat); have n1_ := Aside0.mk (Kd.V_afterv (ok := (fun k_ => (P0_ k_ ∨ w.heap.size ≤ k_))) (by (with_reducible repeat (first | apply Kd.V_alloc | apply Kd.V_drewN | apply Kd.V_drew)); exact HL199_3.out) hg hat); have n2_ := Aside0.mk (hb); have n3_ := Aside0.mk (ho); clear HO_0; clear HL199_3; clear HB; clear HO_3; have HO_0 := n0_; have HL199_3 := n1_; have HB := n2_; have HO202 := n3_; clear n0_ n1_ n2_ n3_; clear ho hb hg hat))
              (try simp only [← hl0_1])
              go_roundg k1
              case measure => have := HK1.out; omega
              case rel => exact ⟨(x0_1), (y200), (wrap64 (x4_1 + 1)), (by first | rfl | (simp; done) | (simp [*]; done)), H', ⟨by have := HK1.out; omega⟩, ⟨by (try simp only [hl0_1]); (with_reducible repeat (first | apply Kd.V_alloc | apply Kd.V_drewN | apply Kd.V_drew)); exact HO_0.out⟩, ⟨by (try simp only [hl0_1]); (with_reducible repeat (first | apply Kd.N_alloc | apply Kd.N_drewN | apply Kd.N_drew)); exact HO202.out⟩, ⟨by repeat (first | (with_reducible first | exact HB.out | apply below_alloc | apply pw_below_drewN | apply below_drew1) | exact HB.out)⟩⟩
            · rw [if_neg c41] at H
              exact absurd H (by simp)
          · rw [if_neg c40] at H
            exact absurd H (by simp)
      · rw [if_neg c4] at H
        have c4b0 : decide (x4_1 < (x0_1.length : Int)) = false := decide_eq_false c4
        clear c4
        obtain rfl := Option.some.inj H
        go_wp2
        go_ret
        exact ⟨_, by first | rfl | (simp [errW_none, errW_some] <;> rfl) | (simp [*, errW_none, errW_some] <;> rfl), by (with_reducible repeat (first | apply Kd.N_alloc | apply Kd.N_drewN | apply Kd.N_drew)); exact HO_3.out, by repeat (first | (with_reducible first | exact HB.out | apply below_alloc | apply pw_below_drewN | apply below_drew1) | exact HB.out)⟩

end Go.Proofs.Ytaihieglailmcaa.PG
