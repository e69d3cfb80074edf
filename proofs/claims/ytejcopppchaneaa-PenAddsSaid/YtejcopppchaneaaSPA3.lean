/- Merged for a claim, what it doesn't need left out: words of the kit's print (W..), what that print, patched, wrote (P..), and texts of this session: PFx11, PFx12, PFx13, RecPut, PFx14, PFx1, PFx3, PMerger, PenB, Bytes, HVarint, LRec, LMer, LRTwo, LRef. -/
import Derived.RegionTactic
import Derived.Deep.RegionWith
import Derived.Shelf.Strings.BuilderK
import Derived.Lib.Bytes
import Derived.Lib.Strings
import Derived.Test.YtejcopppchaneaaSPA2
section
namespace Go.Proofs.Ytejcopppchaneaa.PF
open Go.RowKit Go.Proofs.YtejcopppchaneaaW.PrintWords Go.Proofs.YtejcopppchaneaaW.PrintLast Go.Proofs.YtejcopppchaneaaW.PrintMore
attribute [local go_sem] max2_int min2_int max_two min_two max_three min_three max_four min_four   -- for this text's walks alone
set_option linter.unusedVariables false
set_option linter.unusedSimpArgs false
def juratref27_Few.l0 : Nat → List (S30) → Int → Option (Bool)
  | 0, _, _ => none
  | k + 1, x0, x5 => if x5 < (x0.length : Int) then (if 0 ≤ x5 then (if (((rd_T30 x0 x5).f3).length : Int) > 30 then (some false) else (juratref27_Few.l0 k x0 (wrap64 (x5 + 1)))) else (none)) else (some true)
def juratref27_Few.f (k : Nat) (l0 : List (S30)) (a1 : Int) : Option (Bool) := if (l0.length : Int) > a1 then (some false) else (juratref27_Few.l0 k l0 0)
set_option maxHeartbeats 8000000 in
set_option maxRecDepth 100000 in
theorem juratref27_Few.calls (k : Nat) (A0 : Option Addr) (c0 : Nat) (l0 : List (S30)) (a1 : Int) (r : Bool) (w : World) (hr0 : Kd.C k30 w A0 l0.length l0) (hc0 : l0.length ≤ c0) (h : juratref27_Few.f k l0 a1 = some r) :
    Calls Try.prog 23 #[.slice A0 l0.length c0, .int .i64 a1] w fun e w' => e = .returned (.bool r) ∧ Drawn0 w w' := by
  have HR0 := Aside0.mk hr0
  have HC0 := Aside0.mk hc0
  clear hr0 hc0
  have H : (if (l0.length : Int) > a1 then (some false) else (juratref27_Few.l0 k l0 0)) = some r := h
  clear h
  by_cases c3 : (l0.length : Int) > a1
  · rw [if_pos c3] at H
    have c3b0 : decide (a1 < (l0.length : Int)) = true := decide_eq_true c3
    clear c3
    obtain rfl := Option.some.inj H
    go_enter Try.func23, Try.ntmps23
    go_wp2
    go_ret
    exact ⟨by first | rfl | (simp; done) | (simp [*]; done), by repeat (first | exact Drawn0.refl _ | apply Drawn0.step)⟩
  · rw [if_neg c3] at H
    have c3b0 : decide (a1 < (l0.length : Int)) = false := decide_eq_false c3
    clear c3
    have H' := Aside0.mk H
    clear H
    go_enter Try.func23, Try.ntmps23
    go_wp2
    go_loopg [5] k (fun kq v5 w' => ∃ (x5_1 : Int), v5 = .int .i64 x5_1 ∧ Aside0 (juratref27_Few.l0 kq l0 x5_1 = some r) ∧ Aside0 (kq ≤ k) ∧ Drawn0 w w')
    case atStart => exact ⟨(0), (by first | rfl | (simp; done) | (simp [*]; done)), H', ⟨Nat.le_refl _⟩, by repeat (first | exact Drawn0.refl _ | apply Drawn0.step)⟩
    case round =>
      clear H'
      try clear c2
      try clear p2
      try clear c3
      try clear c3b0
      obtain ⟨x5_1, rfl, HA, HK1, ⟨m1, rfl⟩⟩ := hrel
      cases gk with
      | zero => exact absurd HA.out (by simp [juratref27_Few.l0])
      | succ k1 =>
        have H := HA.out
        clear HA
        simp only [juratref27_Few.l0] at H
        by_cases c4 : x5_1 < (l0.length : Int)
        · rw [if_pos c4] at H
          have c4b0 : decide (x5_1 < (l0.length : Int)) = true := decide_eq_true c4
          clear c4
          by_cases c5 : 0 ≤ x5_1
          · rw [if_pos c5] at H
            have c5b0 : decide (0 ≤ x5_1) = true := decide_eq_true c5
            clear c5
            by_cases c6 : (((rd_T30 l0 x5_1).f3).length : Int) > 30
            · rw [if_pos c6] at H
              have c6b0 : decide (30 < (((rd_T30 l0 x5_1).f3).length : Int)) = true := decide_eq_true c6
              have c6b1 : decide (30 < ((rd_T30 l0 x5_1).f3).length) = true := decide_eq_true (by omega)
              clear c6
              obtain rfl := Option.some.inj H
              have p402 : 0 ≤ (x5_1 : Int) := of_decide_eq_true (by first | (with_reducible assumption) | assumption)
              have q402 : x5_1 < (l0.length : Int) := of_decide_eq_true (by first | (with_reducible assumption) | assumption)
              obtain ⟨ad402, A402_3, c402_3, e402, hx402_0, hx402_1, hx402_2, hx402_3, hl402_3, hi402_3⟩ := at_T30 HR0.out x5_1 p402 q402
              cases e402
              have HR402_3 := Aside0.mk hi402_3
              have HC402_3 := Aside0.mk hl402_3
              clear hi402_3 hl402_3
              replace p402 := eq_true p402
              replace q402 := eq_true q402
              go_wp2
              go_ret
              exact ⟨by first | rfl | (simp; done) | (simp [*]; done), by repeat (first | exact Drawn0.refl _ | apply Drawn0.step)⟩
            · rw [if_neg c6] at H
              have c6b0 : decide (30 < (((rd_T30 l0 x5_1).f3).length : Int)) = false := decide_eq_false c6
              have c6b1 : decide (30 < ((rd_T30 l0 x5_1).f3).length) = false := decide_eq_false (by omega)
              clear c6
              have H' := Aside0.mk H
              clear H
              have p402 : 0 ≤ (x5_1 : Int) := of_decide_eq_true (by first | (with_reducible assumption) | assumption)
              have q402 : x5_1 < (l0.length : Int) := of_decide_eq_true (by first | (with_reducible assumption) | assumption)
              obtain ⟨ad402, A402_3, c402_3, e402, hx402_0, hx402_1, hx402_2, hx402_3, hl402_3, hi402_3⟩ := at_T30 HR0.out x5_1 p402 q402
              cases e402
              have HR402_3 := Aside0.mk hi402_3
              have HC402_3 := Aside0.mk hl402_3
              clear hi402_3 hl402_3
              replace p402 := eq_true p402
              replace q402 := eq_true q402
              go_wp2
              go_roundg k1
              case measure => have := HK1.out; omega
              case rel => exact ⟨(wrap64 (x5_1 + 1)), (by first | rfl | (simp; done) | (simp [*]; done)), H', ⟨by have := HK1.out; omega⟩, by repeat (first | exact Drawn0.refl _ | apply Drawn0.step)⟩
          · rw [if_neg c5] at H
            exact absurd H (by simp)
        · rw [if_neg c4] at H
          have c4b0 : decide (x5_1 < (l0.length : Int)) = false := decide_eq_false c4
          clear c4
          obtain rfl := Option.some.inj H
          go_wp2
          go_ret
          exact ⟨by first | rfl | (simp; done) | (simp [*]; done), by repeat (first | exact Drawn0.refl _ | apply Drawn0.step)⟩
def juratlaw30_skip.f (a0 : Int) : Option (Int × Int × Int × List Int) := some (1, 2, a0, ([] : List Int))
set_option maxHeartbeats 8000000 in
set_option maxRecDepth 100000 in
theorem juratlaw30_skip.calls (a0 : Int) (r1 : Int) (r2 : Int) (r3 : Int) (r4 : List Int) (w : World) (h : juratlaw30_skip.f a0 = some (r1, r2, r3, r4)) :
    Calls Try.prog 31 #[.int .i64 a0] w fun e w' => ∃ v3_ : Value, e = .returned (.agg #[.int .i64 r1, .int .i64 r2, .int .i64 r3, v3_]) ∧ Kd.R (Kd.int .i64) 3 w' w.heap.size (fun _ => True) v3_ r4 ∧ Below w.heap.size w w' := by
  have hu30 := Try.underlying30
  have HB := Aside0.mk (Below.refl w.heap.size w)
  have H : (some (1, 2, a0, ([] : List Int))) = some (r1, r2, r3, r4) := h
  clear h
  simp only [Option.some.injEq, Prod.mk.injEq] at H
  obtain ⟨rfl, rfl, rfl, rfl⟩ := H
  go_enter Try.func31, Try.ntmps31
  go_wp2_with (first | ((with_reducible refine gate_dst (N := 2) rfl ?_); refine box_event ?hg (N := 2) ?hd (cs := #[.int .i64 0, .int .i64 0, .int .i64 0, .slice none 0 0]) (t := 30) ?hr ?_; (case hd => rfl); (case hg => rfl); (case hr => first | (go_simp; done) | (go_simp; rfl)); intro gb403 hg w2 hbox hb; have n0_ := Aside0.mk (below_step (by repeat (first | (with_reducible first | exact HB.out | apply below_alloc | apply pw_below_drewN | apply below_drew1) | exact HB.out)) hb); have n1_ := Aside0.mk (hbox); have n2_ := Aside0.mk ((by rw [hg]; exact (below_size (by repeat (first | (with_reducible first | exact HB.out | apply below_alloc | apply pw_below_drewN | apply below_drew1) | exact HB.out))) : w.heap.size ≤ gb403)); have n3_ := Aside0.mk ((by rw [hg]; exact (below_size (by repeat (first | (with_reducible first | exact HB.out | apply below_alloc | apply pw_below_drewN | apply below_drew1) | exact HB.out))) : w.heap.size ≤ gb403)); clear HB; have HB := n0_; have BK403 := n1_; have GW403 := n2_; have GE403 := n3_; clear n0_ n1_ n2_ n3_; clear hb hbox hg; have hcz3_0 : w2.cell? ⟨gb403, 0, none⟩ = some (.int .i64 0) := (blk_cell BK403.out 0).trans rfl; have hcz3_1 : w2.cell? ⟨gb403, 1, none⟩ = some (.int .i64 0) := (blk_cell BK403.out 1).trans rfl; have hcz3_2 : w2.cell? ⟨gb403, 2, none⟩ = some (.int .i64 0) := (blk_cell BK403.out 2).trans rfl; have hcz3_3 : w2.cell? ⟨gb403, 3, none⟩ = some (.slice none 0 0) := (blk_cell BK403.out 3).trans rfl; have hfz3_0 := blk_frozen BK403.out 0; have hfz3_1 := blk_frozen BK403.out 1; have hfz3_2 := blk_frozen BK403.out 2; have hfz3_3 := blk_frozen BK403.out 3))
  refine bodyPost_ret (results_cell_row rfl _ _ gb403 30 #[.int .i64 1, .int .i64 2, .int .i64 a0, .slice none 0 0] (0, 0) _ rfl (by (with_reducible repeat (first | refine blk_drewN ?_ _ | refine blk_drew ?_ | refine blk_alloc ?_ _)); refine blk_put (cs := #[.int .i64 1, .int .i64 2, .int .i64 a0, .slice none 0 0]) ?_ 3 _ rfl; (with_reducible repeat (first | refine blk_drewN ?_ _ | refine blk_drew ?_ | refine blk_alloc ?_ _)); refine blk_put (cs := #[.int .i64 1, .int .i64 2, .int .i64 0, .slice none 0 0]) ?_ 2 _ rfl; (with_reducible repeat (first | refine blk_drewN ?_ _ | refine blk_drew ?_ | refine blk_alloc ?_ _)); refine blk_put (cs := #[.int .i64 1, .int .i64 0, .int .i64 0, .slice none 0 0]) ?_ 1 _ rfl; (with_reducible repeat (first | refine blk_drewN ?_ _ | refine blk_drew ?_ | refine blk_alloc ?_ _)); refine blk_put (cs := #[.int .i64 0, .int .i64 0, .int .i64 0, .slice none 0 0]) ?_ 0 _ rfl; (with_reducible repeat (first | refine blk_drewN ?_ _ | refine blk_drew ?_ | refine blk_alloc ?_ _)); exact BK403.out) Try.underlying30 rfl (by kernel_rfl)) rfl ?_
  exact ⟨_, by first | rfl | (simp [errW_none, errW_some] <;> rfl) | (simp [*, errW_none, errW_some] <;> rfl), by first | exact Kd.R_nil _ _ _ _ _ | exact Kd.N_nil _ _ _ _ _ | exact Kd.V_nil _ _ _ _ _ | exact Kd.Q_nil _ _ _ _ _ | exact Kd.S_nil _ _ _ _ _, by repeat (first | (with_reducible first | exact HB.out | apply below_alloc | apply pw_below_drewN | apply below_drew1 | refine below_set ?_ GE403.out) | exact HB.out)⟩
def varint_Put.l0 : Nat → Int → List Int → Option (ByteArray)
  | 0, _, _ => none
  | k + 1, x0, x3 => if x0 > 127 then (if x3.length < 140737488355328 then (varint_Put.l0 k (x0 / 128) (x3 ++ [(Go.bits .or .i64 (Go.bits .and .i64 x0 127) 128) % 256])) else (none)) else (if x3.length < 140737488355328 then (some (strOfNums (x3 ++ [(x0) % 256]))) else (none))
def varint_Put.f (k : Nat) (a0 : Int) : Option (ByteArray) := if a0 < 0 then (some (⟨#[]⟩ : ByteArray)) else (varint_Put.l0 k a0 (List.replicate 0 0))
set_option maxHeartbeats 8000000 in
set_option maxRecDepth 100000 in
theorem varint_Put.calls (k : Nat) (a0 : Int) (r : ByteArray) (w : World) (h : varint_Put.f k a0 = some r) :
    Calls Try.prog 61 #[.int .i64 a0] w fun e w' => e = .returned (.string r) ∧ Below w.heap.size w w' := by
  have HB := Aside0.mk (Below.refl w.heap.size w)
  have H : (if a0 < 0 then (some (⟨#[]⟩ : ByteArray)) else (varint_Put.l0 k a0 (List.replicate 0 0))) = some r := h
  clear h
  by_cases c2 : a0 < 0
  · rw [if_pos c2] at H
    have c2b0 : decide (a0 < 0) = true := decide_eq_true c2
    clear c2
    obtain rfl := Option.some.inj H
    go_enter Try.func61, Try.ntmps61
    go_wp2
    go_ret
    exact ⟨by first | rfl | (simp [errW_none, errW_some] <;> rfl) | (simp [*, errW_none, errW_some] <;> rfl), by repeat (first | (with_reducible first | exact HB.out | apply below_alloc | apply pw_below_drewN | apply below_drew1) | exact HB.out)⟩
  · rw [if_neg c2] at H
    have c2b0 : decide (a0 < 0) = false := decide_eq_false c2
    clear c2
    obtain ⟨y404, hy404⟩ : ∃ y_ : List Int, y_ = (List.replicate 0 0) := ⟨_, rfl⟩
    replace H : (varint_Put.l0 k a0 y404) = some r := by first | (rw [hy404]; with_reducible exact H) | (have H2_ := (Option.bind_some _ _).symm.trans H; rw [hy404]; with_reducible exact H2_) | (have H2_ := (Option.bind_some _ _).symm.trans H; with_reducible exact H2_) | with_reducible exact H | (rw [hy404]; exact H) | exact H
    have Ny404 := Aside0.mk hy404
    clear hy404
    have H' := Aside0.mk H
    clear H
    go_enter Try.func61, Try.ntmps61
    go_wp2_with (first | ((with_reducible refine gate_dst (N := 6) rfl ?_); refine Kd.R_makecap (Kd.int .u8) _ 5 rfl (N := 6) rfl 79 _ _ rfl 0 9 (by decide) rfl rfl Try.underlying79 (.int .u8 0) 1 info5 rfl (by decide) (by omega) 0 (ok := fun _ => True) (okp := fun _ => True) rfl (fun _ hk => hk) trivial (by omega) (by omega) (Below.refl _ _) (Nat.le_refl _) ?_; intro v405 w3 ho4 hb hg_ hnew_; clear hg_ hnew_; (first | rw [← Ny404.out] at ho4 | (simp only [Int.reduceToNat] at ho4; rw [← Ny404.out] at ho4)); have n0_ := Aside0.mk (Kd.R_lower ho4 (below_size (by repeat (first | (with_reducible first | exact HB.out | apply below_alloc | apply pw_below_drewN | apply below_drew1) | exact HB.out)))); have n1_ := Aside0.mk (below_step (by repeat (first | (with_reducible first | exact HB.out | apply below_alloc | apply pw_below_drewN | apply below_drew1) | exact HB.out)) hb); clear HB; have HO406 := n0_; have HB := n1_; clear n0_ n1_; clear hb ho4))
    go_loopg [0, 3] k (fun kq v0 v3 w' => ∃ (x0_1 : Int) (x3_1 : List Int), v0 = .int .i64 x0_1 ∧ Aside0 (varint_Put.l0 kq x0_1 x3_1 = some r) ∧ Aside0 (kq ≤ k) ∧ Aside0 (Kd.R (Kd.int .u8) 5 w' w.heap.size (fun _ => True) v3 x3_1) ∧ Aside0 (Below w.heap.size w w'))
    case atStart => exact ⟨(a0), (y404), (by first | rfl | (simp; done) | (simp [*]; done)), H', ⟨Nat.le_refl _⟩, ⟨by (with_reducible repeat (first | apply Kd.R_alloc | apply Kd.R_drewN | apply Kd.R_drew)); exact HO406.out⟩, ⟨by repeat (first | (with_reducible first | exact HB.out | apply below_alloc | apply pw_below_drewN | apply below_drew1) | exact HB.out)⟩⟩
    case round =>
      clear H'
      try clear c2
      try clear c2b0
      try clear p2
      obtain ⟨x0_1, x3_1, rfl, HA, HK1, HO_3, HB⟩ := hrel
      cases gk with
      | zero => exact absurd HA.out (by simp [varint_Put.l0])
      | succ k1 =>
        have H := HA.out
        clear HA
        simp only [varint_Put.l0] at H
        by_cases c5 : x0_1 > 127
        · rw [if_pos c5] at H
          have c5b0 : decide (127 < x0_1) = true := decide_eq_true c5
          clear c5
          by_cases c6 : x3_1.length < 140737488355328
          · rw [if_pos c6] at H
            have LMc6 := Aside0.mk c6
            clear c6
            obtain ⟨y407, hy407⟩ : ∃ y_ : List Int, y_ = (x3_1 ++ [(Go.bits .or .i64 (Go.bits .and .i64 x0_1 127) 128) % 256]) := ⟨_, rfl⟩
            replace H : (varint_Put.l0 k1 (x0_1 / 128) y407) = some r := by first | (rw [hy407]; with_reducible exact H) | (have H2_ := (Option.bind_some _ _).symm.trans H; rw [hy407]; with_reducible exact H2_) | (have H2_ := (Option.bind_some _ _).symm.trans H; with_reducible exact H2_) | with_reducible exact H | (rw [hy407]; exact H) | exact H
            have Ny407 := Aside0.mk hy407
            clear hy407
            have H' := Aside0.mk H
            clear H
            go_wp2_with (first | ((with_reducible refine gate_builtin (b := .append) (xs := #[.tmp 11, .tmp 16]) rfl ?_); at_builtin; refine Kd.R_append (Kd.int .u8) (w0 := w) w.heap.size rfl (.tmp 11) (.tmp 16) 79 5 (.int .u8 0) 1 rfl Try.underlying79 info5 rfl (by decide) (by omega) u3 x3_1 ((Go.bits .or .i64 (Go.bits .and .i64 x0_1 127) 128) % 256) [.int .u8 ((Go.bits .or .i64 (Go.bits .and .i64 x0_1 127) 128) % 256)] (fun _ => True) (fun _ => False) rfl rfl ?aP (fun _ hk => hk.elim) ?aF ?aO ?aB ?aS ?aL ?_; (case aP => exact rfl); (case aB => exact (by repeat (first | (with_reducible first | exact HB.out | apply below_alloc | apply pw_below_drewN | apply below_drew1) | exact HB.out))); (case aF => exact (fun _ _ => trivial)); (case aO => exact (by (with_reducible repeat (first | apply Kd.R_alloc | apply Kd.R_drewN | apply Kd.R_drew)); exact HO_3.out)); (case aS => exact (below_size (by repeat (first | (with_reducible first | exact HB.out | apply below_alloc | apply pw_below_drewN | apply below_drew1) | exact HB.out)))); (case aL => have := LMc6.out; omega); intro v408 w7 ho hb hg hat; rw [← Ny407.out] at ho; have n0_ := Aside0.mk (hb); have n1_ := Aside0.mk (ho); clear HB; clear HO_3; have HB := n0_; have HO409 := n1_; clear n0_ n1_; clear ho hb hg hat))
            go_roundg k1
            case measure => have := HK1.out; omega
            case rel => exact ⟨(x0_1 / 128), (y407), (by first | rfl | (simp; done) | (simp [*]; done)), H', ⟨by have := HK1.out; omega⟩, ⟨by (with_reducible repeat (first | apply Kd.R_alloc | apply Kd.R_drewN | apply Kd.R_drew)); exact HO409.out⟩, ⟨by repeat (first | (with_reducible first | exact HB.out | apply below_alloc | apply pw_below_drewN | apply below_drew1) | exact HB.out)⟩⟩
          · rw [if_neg c6] at H
            exact absurd H (by simp)
        · rw [if_neg c5] at H
          have c5b0 : decide (127 < x0_1) = false := decide_eq_false c5
          clear c5
          by_cases c8 : x3_1.length < 140737488355328
          · rw [if_pos c8] at H
            have LMc8 := Aside0.mk c8
            clear c8
            obtain ⟨y410, hy410⟩ : ∃ y_ : List Int, y_ = (x3_1 ++ [(x0_1) % 256]) := ⟨_, rfl⟩
            replace H : (some (strOfNums y410)) = some r := by first | (rw [hy410]; with_reducible exact H) | (have H2_ := (Option.bind_some _ _).symm.trans H; rw [hy410]; with_reducible exact H2_) | (have H2_ := (Option.bind_some _ _).symm.trans H; with_reducible exact H2_) | with_reducible exact H | (rw [hy410]; exact H) | exact H
            have Ny410 := Aside0.mk hy410
            clear hy410
            obtain rfl := Option.some.inj H
            go_wp2_with (first | ((with_reducible refine gate_builtin (b := .append) (xs := #[.tmp 18, .tmp 21]) rfl ?_); at_builtin; refine Kd.R_append (Kd.int .u8) (w0 := w) w.heap.size rfl (.tmp 18) (.tmp 21) 79 5 (.int .u8 0) 1 rfl Try.underlying79 info5 rfl (by decide) (by omega) u3 x3_1 ((x0_1) % 256) [.int .u8 ((x0_1) % 256)] (fun _ => True) (fun _ => False) rfl rfl ?aP (fun _ hk => hk.elim) ?aF ?aO ?aB ?aS ?aL ?_; (case aP => exact rfl); (case aB => exact (by repeat (first | (with_reducible first | exact HB.out | apply below_alloc | apply pw_below_drewN | apply below_drew1) | exact HB.out))); (case aF => exact (fun _ _ => trivial)); (case aO => exact (by (with_reducible repeat (first | apply Kd.R_alloc | apply Kd.R_drewN | apply Kd.R_drew)); exact HO_3.out)); (case aS => exact (below_size (by repeat (first | (with_reducible first | exact HB.out | apply below_alloc | apply pw_below_drewN | apply below_drew1) | exact HB.out)))); (case aL => have := LMc8.out; omega); intro v411 w9 ho hb hg hat; rw [← Ny410.out] at ho; have n0_ := Aside0.mk (hb); have n1_ := Aside0.mk (ho); clear HB; clear HO_3; have HB := n0_; have HO412 := n1_; clear n0_ n1_; clear ho hb hg hat; have hcv10 := own_string (P := Try.prog) Try.underlying79 Try.underlying5 Try.underlying9 (Kd.own_of_R HO412.out)))
            go_ret
            exact ⟨by first | rfl | (simp [errW_none, errW_some] <;> rfl) | (simp [*, errW_none, errW_some] <;> rfl), by repeat (first | (with_reducible first | exact HB.out | apply below_alloc | apply pw_below_drewN | apply below_drew1) | exact HB.out)⟩
          · rw [if_neg c8] at H
            exact absurd H (by simp)
end Go.Proofs.Ytejcopppchaneaa.PF
end
section
namespace Go.Proofs.Ytejcopppchaneaa.PF
open Go.RowKit Go.Proofs.YtejcopppchaneaaW.PrintWords Go.Proofs.YtejcopppchaneaaW.PrintLast Go.Proofs.YtejcopppchaneaaW.PrintMore
attribute [local go_sem] max2_int min2_int max_two min_two max_three min_three max_four min_four   -- for this text's walks alone
set_option linter.unusedVariables false
set_option linter.unusedSimpArgs false
def frame_Put.j0 : Nat → Bool → Int → ByteArray → Option (ByteArray × Int)
  | 0, _, _, _ => none
  | k + 1, x4, x414000, x414001 => if x4 = true then (some ((⟨#[]⟩ : ByteArray), 2)) else (if (x414001.size : Int) > 67108864 then (some ((⟨#[]⟩ : ByteArray), 5)) else ((some (([(x414000) % 256] : List Int) : List Int)).bind fun y414 => ((varint_Put.f k (x414001.size : Int)).bind fun t417 => (if (strOfNums y414).size + t417.size ≤ 9223372036854775807 then (if ((strOfNums y414) ++ t417).size + x414001.size ≤ 9223372036854775807 then (some (((strOfNums y414) ++ t417) ++ x414001, 0)) else (none)) else (none)))))
def frame_Put.f (k : Nat) (a0_0 : Int) (a0_1 : ByteArray) : Option (ByteArray × Int) := if a0_0 < 1 then (frame_Put.j0 k true a0_0 a0_1) else (frame_Put.j0 k (decide (a0_0 > 127)) a0_0 a0_1)
def frame_Put.T5 : Bool × List (List Nat × List Nat) := (true, [([], []), ([0], [0]), ([1], [1]), ([2], [2]), ([3], [3]), ([], []), ([5], [5]), ([6], [6]), ([7], [7]), ([4, 8], [4, 8]), ([], []), ([10], [10]), ([9, 11], [9, 11]), ([12, 8, 0, 1, 2, 3, 4, 5, 6, 7, 8, 9, 10, 11, 12], [12]), ([13, 0, 1, 2, 3, 4, 5, 6, 7, 8, 9, 10, 11, 12, 13], [])])
def frame_Put.B5 : List Nat := [0, 1, 3, 7, 15, 0, 32, 96, 224, 511, 0, 1024, 4095, 8191, 16383]
theorem frame_Put.tab5 : rtab .any (opsOf Try.f55 5) = frame_Put.T5 := by kernel_rfl
theorem frame_Put.bits5 : waitsOk frame_Put.T5.2 frame_Put.B5 = true := by kernel_rfl
set_option maxHeartbeats 8000000 in
set_option maxRecDepth 100000 in
theorem frame_Put.calls (k : Nat) (a0_0 : Int) (a0_1 : ByteArray) (r1 : ByteArray) (r2 : Int) (w : World) (h : frame_Put.f k a0_0 a0_1 = some (r1, r2)) :
    Calls Try.prog 55 #[.agg #[.int .i64 a0_0, .string a0_1]] w fun e w' => e = .returned (.tuple #[.string r1, .int .i64 r2]) ∧ Below w.heap.size w w' := by
  have hu96 := Try.underlying96
  have HB := Aside0.mk (Below.refl w.heap.size w)
  have H : (if a0_0 < 1 then (frame_Put.j0 k true a0_0 a0_1) else (frame_Put.j0 k (decide (a0_0 > 127)) a0_0 a0_1)) = some (r1, r2) := h
  clear h
  have HC2 := Aside0.mk H
  clear H
  go_enter Try.func55, Try.ntmps55
  go_upto_region 1 with (first | ((with_reducible refine gate_dst (N := 1) rfl ?_); refine box_event ?hg (N := 1) ?hd (cs := #[.int .i64 a0_0, .string a0_1]) (t := 96) ?hr ?_; (case hd => rfl); (case hg => rfl); (case hr => first | (go_simp; done) | (go_simp; rfl)); intro gb413 hg w3 hbox hb; have n0_ := Aside0.mk (below_step (by repeat (first | (with_reducible first | exact HB.out | apply below_alloc | apply pw_below_drewN | apply below_drew1) | exact HB.out)) hb); have n1_ := Aside0.mk (hbox); have n2_ := Aside0.mk ((by rw [hg]; exact (below_size (by repeat (first | (with_reducible first | exact HB.out | apply below_alloc | apply pw_below_drewN | apply below_drew1) | exact HB.out))) : w.heap.size ≤ gb413)); have n3_ := Aside0.mk ((by rw [hg]; exact (below_size (by repeat (first | (with_reducible first | exact HB.out | apply below_alloc | apply pw_below_drewN | apply below_drew1) | exact HB.out))) : w.heap.size ≤ gb413)); clear HB; have HB := n0_; have BK413 := n1_; have GW413 := n2_; have GE413 := n3_; clear n0_ n1_ n2_ n3_; clear hb hbox hg))
  (try simp only [Act.put, List.setIfInBounds_toArray, List.set_cons_zero, List.set_cons_succ])
  go_cut [4] (fun v4 wc => ∃ (kq : Nat) (x4_1 : Bool), v4 = .bool x4_1 ∧ Aside0 (frame_Put.j0 kq x4_1 a0_0 a0_1 = some (r1, r2)) ∧ Aside0 (kq ≤ k) ∧ Aside0 (wc.heap[gb413]? = some (.cells #[.int .i64 a0_0, .string a0_1] 96 (0, 0))) ∧ Aside0 (Below w.heap.size w wc))
  case first =>
    have H := HC2.out
    clear HC2
    by_cases c4 : a0_0 < 1
    · rw [if_pos c4] at H
      have c4b0 : decide (a0_0 < 1) = true := decide_eq_true c4
      clear c4
      (first | rw [c4b0] | (simp only [i64_w, i32_w]; rw [c4b0]) | skip)
      have H' := Aside0.mk H
      clear H
      have hcz5_0 : w3.cell? ⟨gb413, 0, none⟩ = some (.int .i64 a0_0) := (blk_cell BK413.out 0).trans rfl
      have hcz5_1 : w3.cell? ⟨gb413, 1, none⟩ = some (.string a0_1) := (blk_cell BK413.out 1).trans rfl
      have hfz5_0 := blk_frozen BK413.out 0
      have hfz5_1 := blk_frozen BK413.out 1
      go_wp2
      go_meet
      case rel => exact ⟨_, (true), (by first | rfl | (simp; done) | (simp [*]; done)), H', ⟨by first | omega | exact Nat.le_refl _⟩, ⟨by (with_reducible repeat (first | refine blk_drewN ?_ _ | refine blk_drew ?_ | refine blk_alloc ?_ _)); exact BK413.out⟩, ⟨by repeat (first | (with_reducible first | exact HB.out | apply below_alloc | apply pw_below_drewN | apply below_drew1 | refine below_set ?_ GE413.out) | exact HB.out)⟩⟩
    · rw [if_neg c4] at H
      have c4b0 : decide (a0_0 < 1) = false := decide_eq_false c4
      clear c4
      (first | rw [c4b0] | (simp only [i64_w, i32_w]; rw [c4b0]) | skip)
      have H' := Aside0.mk H
      clear H
      have hcz6_0 : w3.cell? ⟨gb413, 0, none⟩ = some (.int .i64 a0_0) := (blk_cell BK413.out 0).trans rfl
      have hcz6_1 : w3.cell? ⟨gb413, 1, none⟩ = some (.string a0_1) := (blk_cell BK413.out 1).trans rfl
      have hfz6_0 := blk_frozen BK413.out 0
      have hfz6_1 := blk_frozen BK413.out 1
      go_wp2
      go_meet
      case rel => exact ⟨_, (decide (a0_0 > 127)), (by first | rfl | (simp; done) | (simp [*]; done)), H', ⟨by first | omega | exact Nat.le_refl _⟩, ⟨by (with_reducible repeat (first | refine blk_drewN ?_ _ | refine blk_drew ?_ | refine blk_alloc ?_ _)); exact BK413.out⟩, ⟨by repeat (first | (with_reducible first | exact HB.out | apply below_alloc | apply pw_below_drewN | apply below_drew1 | refine below_set ?_ GE413.out) | exact HB.out)⟩⟩
  case rest =>
    clear HC2
    try clear p2
    try clear c4
    try clear c4b0
    try clear c5
    try clear hcz5_0
    try clear hcz5_1
    try clear hcz6_0
    try clear hcz6_1
    try clear hfz5_0
    try clear hfz5_1
    try clear hfz6_0
    try clear hfz6_1
    obtain ⟨kq, x4_1, rfl, HA, HJ1, BK413, HB⟩ := hcut
    cases kq with
    | zero => exact absurd HA.out (by simp [frame_Put.j0])
    | succ kj1 =>
      have H := HA.out
      clear HA
      simp only [frame_Put.j0] at H
      by_cases c7 : x4_1 = true
      · subst c7
        have H1 : (some ((⟨#[]⟩ : ByteArray), 2)) = some (r1, r2) := by rw [if_pos rfl] at H; exact H
        clear H
        have H := H1
        clear H1
        simp only [Option.some.injEq, Prod.mk.injEq] at H
        obtain ⟨rfl, rfl⟩ := H
        go_wp2
        go_ret2
        exact ⟨by first | rfl | (simp [errW_none, errW_some] <;> rfl) | (simp [*, errW_none, errW_some] <;> rfl), by repeat (first | (with_reducible first | exact HB.out | apply below_alloc | apply pw_below_drewN | apply below_drew1 | refine below_set ?_ GE413.out) | exact HB.out)⟩
      · replace c7 := Bool.eq_false_iff.mpr c7
        subst c7
        have H1 : (if (a0_1.size : Int) > 67108864 then (some ((⟨#[]⟩ : ByteArray), 5)) else ((some (([(a0_0) % 256] : List Int) : List Int)).bind fun y414 => ((varint_Put.f kj1 (a0_1.size : Int)).bind fun t417 => (if (strOfNums y414).size + t417.size ≤ 9223372036854775807 then (if ((strOfNums y414) ++ t417).size + a0_1.size ≤ 9223372036854775807 then (some (((strOfNums y414) ++ t417) ++ a0_1, 0)) else (none)) else (none))))) = some (r1, r2) := by rw [if_neg (show ¬ (false = true) by decide)] at H; exact H
        clear H
        have H := H1
        clear H1
        by_cases c8 : (a0_1.size : Int) > 67108864
        · rw [if_pos c8] at H
          have c8b0 : decide (67108864 < (a0_1.size : Int)) = true := decide_eq_true c8
          have c8b1 : decide (67108864 < a0_1.size) = true := decide_eq_true (by omega)
          clear c8
          simp only [Option.some.injEq, Prod.mk.injEq] at H
          obtain ⟨rfl, rfl⟩ := H
          have hcz9_0 : wc.cell? ⟨gb413, 0, none⟩ = some (.int .i64 a0_0) := (blk_cell BK413.out 0).trans rfl
          have hcz9_1 : wc.cell? ⟨gb413, 1, none⟩ = some (.string a0_1) := (blk_cell BK413.out 1).trans rfl
          have hfz9_0 := blk_frozen BK413.out 0
          have hfz9_1 := blk_frozen BK413.out 1
          go_wp2
          go_ret2
          exact ⟨by first | rfl | (simp [errW_none, errW_some] <;> rfl) | (simp [*, errW_none, errW_some] <;> rfl), by repeat (first | (with_reducible first | exact HB.out | apply below_alloc | apply pw_below_drewN | apply below_drew1 | refine below_set ?_ GE413.out) | exact HB.out)⟩
        · rw [if_neg c8] at H
          have c8b0 : decide (67108864 < (a0_1.size : Int)) = false := decide_eq_false c8
          have c8b1 : decide (67108864 < a0_1.size) = false := decide_eq_false (by omega)
          clear c8
          obtain ⟨y414, hy414⟩ : ∃ y_ : List Int, y_ = (([(a0_0) % 256] : List Int)) := ⟨_, rfl⟩
          replace H : ((varint_Put.f kj1 (a0_1.size : Int)).bind fun t417 => (if (strOfNums y414).size + t417.size ≤ 9223372036854775807 then (if ((strOfNums y414) ++ t417).size + a0_1.size ≤ 9223372036854775807 then (some (((strOfNums y414) ++ t417) ++ a0_1, 0)) else (none)) else (none))) = some (r1, r2) := by first | (rw [hy414]; with_reducible exact H) | (have H2_ := (Option.bind_some _ _).symm.trans H; rw [hy414]; with_reducible exact H2_) | (have H2_ := (Option.bind_some _ _).symm.trans H; with_reducible exact H2_) | with_reducible exact H | (rw [hy414]; exact H) | exact H
          have Ny414 := Aside0.mk hy414
          clear hy414
          replace H := Option.bind_eq_some_iff.mp H
          obtain ⟨t417, A100, H⟩ := H
          replace H : (if (strOfNums y414).size + t417.size ≤ 9223372036854775807 then (if ((strOfNums y414) ++ t417).size + a0_1.size ≤ 9223372036854775807 then (some (((strOfNums y414) ++ t417) ++ a0_1, 0)) else (none)) else (none)) = some (r1, r2) := H
          have A10 := Aside0.mk A100
          clear A100
          by_cases c11 : (strOfNums y414).size + t417.size ≤ 9223372036854775807
          · rw [if_pos c11] at H
            have c11b0 := eq_true c11
            have c11b1 : decide ((strOfNums y414).size + t417.size ≤ 9223372036854775807) = true := decide_eq_true c11
            try have c11b2 : (9223372036854775807 < (strOfNums y414).size + t417.size) = False := eq_false (Nat.not_lt.2 c11)
            by_cases c12 : ((strOfNums y414) ++ t417).size + a0_1.size ≤ 9223372036854775807
            · rw [if_pos c12] at H
              have c12b0 := eq_true c12
              have c12b1 : decide (((strOfNums y414) ++ t417).size + a0_1.size ≤ 9223372036854775807) = true := decide_eq_true c12
              try have c12b2 : (9223372036854775807 < ((strOfNums y414) ++ t417).size + a0_1.size) = False := eq_false (Nat.not_lt.2 c12)
              (try (have c12n0 := c12b0; simp only [ByteArray.size_extract, ByteArray.size_append, Nat.min_self, Nat.sub_zero] at c12n0))
              (try (have c12n1 := c12b1; simp only [ByteArray.size_extract, ByteArray.size_append, Nat.min_self, Nat.sub_zero] at c12n1))
              (try (have c12n2 := c12b2; simp only [ByteArray.size_extract, ByteArray.size_append, Nat.min_self, Nat.sub_zero] at c12n2))
              (try (have c12n3 := c12b3; simp only [ByteArray.size_extract, ByteArray.size_append, Nat.min_self, Nat.sub_zero] at c12n3))
              simp only [Option.some.injEq, Prod.mk.injEq] at H
              obtain ⟨rfl, rfl⟩ := H
              have hcz13_0 : wc.cell? ⟨gb413, 0, none⟩ = some (.int .i64 a0_0) := (blk_cell BK413.out 0).trans rfl
              have hcz13_1 : wc.cell? ⟨gb413, 1, none⟩ = some (.string a0_1) := (blk_cell BK413.out 1).trans rfl
              have hfz13_0 := blk_frozen BK413.out 0
              have hfz13_1 := blk_frozen BK413.out 1
              try go_wp2
              (try (rw [drewN_self wc]; generalize hq_ : World.drewN wc _ = wc; have n0_ : Aside0 (wc.heap[gb413]? = some (.cells #[.int .i64 a0_0, .string a0_1] 96 (0, 0))) := ⟨by rw [← hq_]; exact (by (with_reducible repeat (first | refine blk_drewN ?_ _ | refine blk_drew ?_ | refine blk_alloc ?_ _)); exact BK413.out)⟩; have n1_ : Aside0 (Below w.heap.size w wc) := ⟨by rw [← hq_]; exact (by repeat (first | (with_reducible first | exact HB.out | apply below_alloc | apply pw_below_drewN | apply below_drew1 | refine below_set ?_ GE413.out) | exact HB.out))⟩; clear BK413 HB hq_; have BK413 := n0_; have HB := n1_; clear n0_ n1_))
              have n0_ := Aside0.mk (blk_drew BK413.out)
              have n1_ := Aside0.mk (below_drew1 HB.out)
              clear BK413
              clear HB
              have BK413 := n0_
              have HB := n1_
              clear n0_ n1_
              refine start_ (n := 15) (S := fun w' => w'.cell? ⟨gb413, 0, none⟩ = some (.int .i64 a0_0) ∧ w'.cell? ⟨gb413, 1, none⟩ = some (.string a0_1)) (ds := []) #[false, false, false, false, false, false, false, false, false, false, false, false, false, false, false] (by kernel_rfl) rfl rfl ⟨(blk_cell BK413.out 0).trans rfl, (blk_cell BK413.out 1).trans rfl⟩ (fun hHeld => ?_); refine with_tabW frame_Put.tab5 frame_Put.bits5 (fun HT_ HW_ => ?_)
              generalize wc.drew = w14 at BK413 HB hHeld ⊢
              refine pure_ (i := 0) (N := some 18) (v := ?_) (a' := ?_) #[true, false, false, false, false, false, false, false, false, false, false, false, false, false, false] rfl rfl (any_of HT_.out (by kernel_rfl)) (fun _ _ _ h => h) (Or.inl ⟨by rfl, ?_⟩) ?_ ?_
              rotate_left
              · intro w'
                go_simp
                with_reducible rfl
              rotate_left
              · simp only [Act.put, List.setIfInBounds_toArray, List.set_cons_zero, List.set_cons_succ, i64_w, i32_w]
                rfl
              refine pure_ (i := 5) (N := some 23) (v := ?_) (a' := ?_) #[true, false, false, false, false, true, false, false, false, false, false, false, false, false, false] rfl rfl (any_of HT_.out (by kernel_rfl)) (fun _ _ _ h => h) (Or.inl ⟨by rfl, ?_⟩) ?_ ?_
              rotate_left
              · intro w'
                go_simp
                with_reducible rfl
              rotate_left
              · simp only [Act.put, List.setIfInBounds_toArray, List.set_cons_zero, List.set_cons_succ, i64_w, i32_w]
                rfl
              refine pure_ (i := 10) (N := some 28) (v := ?_) (a' := ?_) #[true, false, false, false, false, true, false, false, false, false, true, false, false, false, false] rfl rfl (any_of HT_.out (by kernel_rfl)) (fun _ _ _ h => h) (Or.inl ⟨by rfl, ?_⟩) ?_ ?_
              rotate_left
              · intro w'
                go_simp
                with_reducible rfl
              rotate_left
              · simp only [Act.put, List.setIfInBounds_toArray, List.set_cons_zero, List.set_cons_succ, i64_w, i32_w]
                rfl
              refine take_ (i := 1) (N := some 19) (v := ?_) (a' := ?_) #[true, true, false, false, false, true, false, false, false, false, true, false, false, false, false] rfl rfl (take_ofW HT_.out HW_.out (by kernel_rfl)) (fun _ _ _ h => h) (Or.inl ⟨by rfl, ?_⟩) hHeld ?_ ?_
              rotate_left
              · rintro w' ⟨s0, s1⟩
                go_simp
                with_reducible rfl
              rotate_left
              · simp only [Act.put, List.setIfInBounds_toArray, List.set_cons_zero, List.set_cons_succ, i64_w, i32_w]
                rfl
              refine pure_ (i := 2) (N := some 20) (v := ?_) (a' := ?_) #[true, true, true, false, false, true, false, false, false, false, true, false, false, false, false] rfl rfl (any_of HT_.out (by kernel_rfl)) (fun _ _ _ h => h) (Or.inl ⟨by rfl, ?_⟩) ?_ ?_
              rotate_left
              · intro w'
                go_simp
                with_reducible rfl
              rotate_left
              · simp only [Act.put, List.setIfInBounds_toArray, List.set_cons_zero, List.set_cons_succ, i64_w, i32_w]
                rfl
              refine take_ (i := 6) (N := some 24) (v := ?_) (a' := ?_) #[true, true, true, false, false, true, true, false, false, false, true, false, false, false, false] rfl rfl (take_ofW HT_.out HW_.out (by kernel_rfl)) (fun _ _ _ h => h) (Or.inl ⟨by rfl, ?_⟩) hHeld ?_ ?_
              rotate_left
              · rintro w' ⟨s0, s1⟩
                go_simp
                with_reducible rfl
              rotate_left
              · simp only [Act.put, List.setIfInBounds_toArray, List.set_cons_zero, List.set_cons_succ, i64_w, i32_w]
                rfl
              refine pure_ (i := 7) (N := some 25) (v := ?_) (a' := ?_) #[true, true, true, false, false, true, true, true, false, false, true, false, false, false, false] rfl rfl (any_of HT_.out (by kernel_rfl)) (fun _ _ _ h => h) (Or.inl ⟨by rfl, ?_⟩) ?_ ?_
              rotate_left
              · intro w'
                go_simp
                with_reducible rfl
              rotate_left
              · simp only [Act.put, List.setIfInBounds_toArray, List.set_cons_zero, List.set_cons_succ, i64_w, i32_w]
                rfl
              refine take_ (i := 11) (N := some 29) (v := ?_) (a' := ?_) #[true, true, true, false, false, true, true, true, false, false, true, true, false, false, false] rfl rfl (take_ofW HT_.out HW_.out (by kernel_rfl)) (fun _ _ _ h => h) (Or.inl ⟨by rfl, ?_⟩) hHeld ?_ ?_
              rotate_left
              · rintro w' ⟨s0, s1⟩
                go_simp
                with_reducible rfl
              rotate_left
              · simp only [Act.put, List.setIfInBounds_toArray, List.set_cons_zero, List.set_cons_succ, i64_w, i32_w]
                rfl
              refine join_ (σ := Value) 4 #[true, true, true, true, true, true, true, true, true, false, true, true, false, false, false] (fun s_ => [(21, s_), (22, .string (strOfNums y414)), (26, .string t417)]) (fun s_ w' => (w'.cell? ⟨gb413, 0, none⟩ = some (.int .i64 a0_0) ∧ w'.cell? ⟨gb413, 1, none⟩ = some (.string a0_1)) ∧ (Kd.R (Kd.int .u8) 5 w' w.heap.size (fun _ => True) s_ y414) ∧ (w'.heap[gb413]? = some (.cells #[.int .i64 a0_0, .string a0_1] 96 (0, 0))) ∧ (Below w.heap.size w w')) ?_ ?_
              rotate_left
              · intro hCont
                refine two_ (i := 3) (j := 8) (Ni := some 21) (Nj := some 26) #[true, true, true, true, false, true, true, true, false, false, true, true, false, false, false] #[true, true, true, false, false, true, true, true, true, false, true, true, false, false, false] rfl rfl rfl rfl (two_of HT_.out (by kernel_rfl)) (by decide) (by decide) (fun K hK => ?_) (fun K hK => ?_)
                · skip
                  refine Kd.R_lit_step (Kd.int .u8) _ 5 ?hg (N := 21) ?hd (xs := ([(a0_0) % 256] : List Int)) (inner := [.int .u8 ((a0_0) % 256)]) (ok := fun _ => True) (okp := fun _ => True) ?hr ?hp (fun _ hk => hk) trivial (Below.refl _ _) (Nat.le_refl _) (by simp) ?_; (case hd => rfl); (case hg => rfl); (case hr => first | (go_simp; done) | (go_simp; rfl)); (case hp => exact (Reps.one (show Kd.M (Kd.int .u8) _ _ _ ((a0_0) % 256) [.int .u8 ((a0_0) % 256)] from rfl) (Reps.none _ _)))
                  intro v415 w15 ho16 hb hg_ hnew_
                  clear hg_ hnew_
                  (first | rw [← Ny414.out] at ho16 | (simp only [Int.reduceToNat] at ho16; rw [← Ny414.out] at ho16))
                  have n0_ := Aside0.mk (Kd.R_lower ho16 (below_size (by repeat (first | (with_reducible first | exact HB.out | apply below_alloc | apply pw_below_drewN | apply below_drew1 | refine below_set ?_ GE413.out) | exact HB.out))))
                  have n1_ := Aside0.mk (blk_below (g := gb413) (o := .cells #[.int .i64 a0_0, .string a0_1] 96 (0, 0)) (by (with_reducible repeat (first | refine blk_drewN ?_ _ | refine blk_drew ?_ | refine blk_alloc ?_ _)); exact BK413.out) hb)
                  have n2_ := Aside0.mk (below_step (by repeat (first | (with_reducible first | exact HB.out | apply below_alloc | apply pw_below_drewN | apply below_drew1 | refine below_set ?_ GE413.out) | exact HB.out)) hb)
                  clear BK413
                  clear HB
                  have HO416 := n0_
                  have BK413 := n1_
                  have HB := n2_
                  clear n0_ n1_ n2_
                  clear hb ho16
                  refine hK.out _ _ ⟨(blk_cell BK413.out 0).trans rfl, (blk_cell BK413.out 1).trans rfl⟩ (fun hHeld => ?_)
                  clear hK K
                  refine norm_ (a' := ?_) ?_ ?_
                  rotate_left
                  · show Act.put _ (some 21) _ = _
                    simp only [Act.put, List.setIfInBounds_toArray, List.set_cons_zero, List.set_cons_succ, i64_w, i32_w]
                    rfl
                  refine two_ (i := 4) (j := 8) (Ni := some 22) (Nj := some 26) #[true, true, true, true, true, true, true, true, false, false, true, true, false, false, false] #[true, true, true, true, false, true, true, true, true, false, true, true, false, false, false] rfl rfl rfl rfl (two_of HT_.out (by kernel_rfl)) (by decide) (by decide) (fun K hK => ?_) (fun K hK => ?_)
                  · skip
                    have hcv17 := own_string (P := Try.prog) Try.underlying79 Try.underlying5 Try.underlying9 (Kd.own_of_R HO416.out)
                    refine value_ (w1 := ?_) (v := ?_) (by rfl) rfl ?_ ?_
                    rotate_left 2
                    · go_simp
                      constructor
                      · rfl
                      · rfl
                    clear hcv17
                    refine hK.out _ _ ⟨(blk_cell BK413.out 0).trans rfl, (blk_cell BK413.out 1).trans rfl⟩ (fun hHeld => ?_)
                    clear hK K
                    refine norm_ (a' := ?_) ?_ ?_
                    rotate_left
                    · show Act.put _ (some 22) _ = _
                      simp only [Act.put, List.setIfInBounds_toArray, List.set_cons_zero, List.set_cons_succ, i64_w, i32_w]
                      rfl
                    refine one_ (i := 8) (N := some 26) #[true, true, true, true, true, true, true, true, true, false, true, true, false, false, false] rfl rfl (one_of HT_.out (by kernel_rfl)) (by decide) (fun K hK => ?_)
                    refine goes_ Try.func61 (by kernel_rfl) rfl #[.int .i64 (a0_1.size : Int)] (by rfl) rfl rfl (by (try simp only [List.map_toArray, List.map_cons, List.map_nil]); first | done | rfl | (simp only [List.length_drop, List.length_take]; rfl)) ?_
                    with_reducible refine (varint_Put.calls kj1 (a0_1.size : Int) t417 _ A10.out).mono ?_
                    rintro e w18 ⟨rfl, hb⟩
                    refine ⟨_, rfl, ?_⟩
                    have n0_ := Aside0.mk (Kd.R_below (by (with_reducible repeat (first | apply Kd.R_alloc | apply Kd.R_drewN | apply Kd.R_drew)); exact HO416.out) hb)
                    have n1_ := Aside0.mk (blk_below (g := gb413) (o := .cells #[.int .i64 a0_0, .string a0_1] 96 (0, 0)) (by (with_reducible repeat (first | refine blk_drewN ?_ _ | refine blk_drew ?_ | refine blk_alloc ?_ _)); exact BK413.out) hb)
                    have n2_ := Aside0.mk (below_step (by repeat (first | (with_reducible first | exact HB.out | apply below_alloc | apply pw_below_drewN | apply below_drew1 | refine below_set ?_ GE413.out) | exact HB.out)) hb)
                    clear HO416
                    clear BK413
                    clear HB
                    have HO416 := n0_
                    have BK413 := n1_
                    have HB := n2_
                    clear n0_ n1_ n2_
                    (try clear hb)
                    (try clear hb2)
                    (try clear hk)
                    (try clear hi)
                    refine hK.out _ _ ⟨(blk_cell BK413.out 0).trans rfl, (blk_cell BK413.out 1).trans rfl⟩ (fun hHeld => ?_)
                    clear hK K
                    refine norm_ (a' := ?_) ?_ ?_
                    rotate_left
                    · show Act.put _ (some 26) _ = _
                      simp only [Act.put, List.setIfInBounds_toArray, List.set_cons_zero, List.set_cons_succ, i64_w, i32_w]
                      rfl
                    exact norm_ (by simp only [putAll, Act.put, List.setIfInBounds_toArray, List.set_cons_zero, List.set_cons_succ]) (hCont (v415) _ ⟨hHeld, (by (with_reducible repeat (first | apply Kd.R_alloc | apply Kd.R_drewN | apply Kd.R_drew)); exact HO416.out), (by (with_reducible repeat (first | refine blk_drewN ?_ _ | refine blk_drew ?_ | refine blk_alloc ?_ _)); exact BK413.out), (by repeat (first | (with_reducible first | exact HB.out | apply below_alloc | apply pw_below_drewN | apply below_drew1 | refine below_set ?_ GE413.out) | exact HB.out))⟩)
                  · skip
                    refine goes_ Try.func61 (by kernel_rfl) rfl #[.int .i64 (a0_1.size : Int)] (by rfl) rfl rfl (by (try simp only [List.map_toArray, List.map_cons, List.map_nil]); first | done | rfl | (simp only [List.length_drop, List.length_take]; rfl)) ?_
                    with_reducible refine (varint_Put.calls kj1 (a0_1.size : Int) t417 _ A10.out).mono ?_
                    rintro e w17 ⟨rfl, hb⟩
                    refine ⟨_, rfl, ?_⟩
                    have n0_ := Aside0.mk (Kd.R_below (by (with_reducible repeat (first | apply Kd.R_alloc | apply Kd.R_drewN | apply Kd.R_drew)); exact HO416.out) hb)
                    have n1_ := Aside0.mk (blk_below (g := gb413) (o := .cells #[.int .i64 a0_0, .string a0_1] 96 (0, 0)) (by (with_reducible repeat (first | refine blk_drewN ?_ _ | refine blk_drew ?_ | refine blk_alloc ?_ _)); exact BK413.out) hb)
                    have n2_ := Aside0.mk (below_step (by repeat (first | (with_reducible first | exact HB.out | apply below_alloc | apply pw_below_drewN | apply below_drew1 | refine below_set ?_ GE413.out) | exact HB.out)) hb)
                    clear HO416
                    clear BK413
                    clear HB
                    have HO416 := n0_
                    have BK413 := n1_
                    have HB := n2_
                    clear n0_ n1_ n2_
                    (try clear hb)
                    (try clear hb2)
                    (try clear hk)
                    (try clear hi)
                    refine hK.out _ _ ⟨(blk_cell BK413.out 0).trans rfl, (blk_cell BK413.out 1).trans rfl⟩ (fun hHeld => ?_)
                    clear hK K
                    refine norm_ (a' := ?_) ?_ ?_
                    rotate_left
                    · show Act.put _ (some 26) _ = _
                      simp only [Act.put, List.setIfInBounds_toArray, List.set_cons_zero, List.set_cons_succ, i64_w, i32_w]
                      rfl
                    refine one_ (i := 4) (N := some 22) #[true, true, true, true, true, true, true, true, true, false, true, true, false, false, false] rfl rfl (one_of HT_.out (by kernel_rfl)) (by decide) (fun K hK => ?_)
                    have hcv18 := own_string (P := Try.prog) Try.underlying79 Try.underlying5 Try.underlying9 (Kd.own_of_R HO416.out)
                    refine value_ (w1 := ?_) (v := ?_) (by rfl) rfl ?_ ?_
                    rotate_left 2
                    · go_simp
                      constructor
                      · rfl
                      · rfl
                    clear hcv18
                    refine hK.out _ _ ⟨(blk_cell BK413.out 0).trans rfl, (blk_cell BK413.out 1).trans rfl⟩ (fun hHeld => ?_)
                    clear hK K
                    refine norm_ (a' := ?_) ?_ ?_
                    rotate_left
                    · show Act.put _ (some 22) _ = _
                      simp only [Act.put, List.setIfInBounds_toArray, List.set_cons_zero, List.set_cons_succ, i64_w, i32_w]
                      rfl
                    exact norm_ (by simp only [putAll, Act.put, List.setIfInBounds_toArray, List.set_cons_zero, List.set_cons_succ]) (hCont (v415) _ ⟨hHeld, (by (with_reducible repeat (first | apply Kd.R_alloc | apply Kd.R_drewN | apply Kd.R_drew)); exact HO416.out), (by (with_reducible repeat (first | refine blk_drewN ?_ _ | refine blk_drew ?_ | refine blk_alloc ?_ _)); exact BK413.out), (by repeat (first | (with_reducible first | exact HB.out | apply below_alloc | apply pw_below_drewN | apply below_drew1 | refine below_set ?_ GE413.out) | exact HB.out))⟩)
                · skip
                  refine goes_ Try.func61 (by kernel_rfl) rfl #[.int .i64 (a0_1.size : Int)] (by rfl) rfl rfl (by (try simp only [List.map_toArray, List.map_cons, List.map_nil]); first | done | rfl | (simp only [List.length_drop, List.length_take]; rfl)) ?_
                  with_reducible refine (varint_Put.calls kj1 (a0_1.size : Int) t417 _ A10.out).mono ?_
                  rintro e w15 ⟨rfl, hb⟩
                  refine ⟨_, rfl, ?_⟩
                  have n0_ := Aside0.mk (blk_below (g := gb413) (o := .cells #[.int .i64 a0_0, .string a0_1] 96 (0, 0)) (by (with_reducible repeat (first | refine blk_drewN ?_ _ | refine blk_drew ?_ | refine blk_alloc ?_ _)); exact BK413.out) hb)
                  have n1_ := Aside0.mk (below_step (by repeat (first | (with_reducible first | exact HB.out | apply below_alloc | apply pw_below_drewN | apply below_drew1 | refine below_set ?_ GE413.out) | exact HB.out)) hb)
                  clear BK413
                  clear HB
                  have BK413 := n0_
                  have HB := n1_
                  clear n0_ n1_
                  (try clear hb)
                  (try clear hb2)
                  (try clear hk)
                  (try clear hi)
                  refine hK.out _ _ ⟨(blk_cell BK413.out 0).trans rfl, (blk_cell BK413.out 1).trans rfl⟩ (fun hHeld => ?_)
                  clear hK K
                  refine norm_ (a' := ?_) ?_ ?_
                  rotate_left
                  · show Act.put _ (some 26) _ = _
                    simp only [Act.put, List.setIfInBounds_toArray, List.set_cons_zero, List.set_cons_succ, i64_w, i32_w]
                    rfl
                  refine one_ (i := 3) (N := some 21) #[true, true, true, true, false, true, true, true, true, false, true, true, false, false, false] rfl rfl (one_of HT_.out (by kernel_rfl)) (by decide) (fun K hK => ?_)
                  refine Kd.R_lit_step (Kd.int .u8) _ 5 ?hg (N := 21) ?hd (xs := ([(a0_0) % 256] : List Int)) (inner := [.int .u8 ((a0_0) % 256)]) (ok := fun _ => True) (okp := fun _ => True) ?hr ?hp (fun _ hk => hk) trivial (Below.refl _ _) (Nat.le_refl _) (by simp) ?_; (case hd => rfl); (case hg => rfl); (case hr => first | (go_simp; done) | (go_simp; rfl)); (case hp => exact (Reps.one (show Kd.M (Kd.int .u8) _ _ _ ((a0_0) % 256) [.int .u8 ((a0_0) % 256)] from rfl) (Reps.none _ _)))
                  intro v415 w16 ho17 hb hg_ hnew_
                  clear hg_ hnew_
                  (first | rw [← Ny414.out] at ho17 | (simp only [Int.reduceToNat] at ho17; rw [← Ny414.out] at ho17))
                  have n0_ := Aside0.mk (Kd.R_lower ho17 (below_size (by repeat (first | (with_reducible first | exact HB.out | apply below_alloc | apply pw_below_drewN | apply below_drew1 | refine below_set ?_ GE413.out) | exact HB.out))))
                  have n1_ := Aside0.mk (blk_below (g := gb413) (o := .cells #[.int .i64 a0_0, .string a0_1] 96 (0, 0)) (by (with_reducible repeat (first | refine blk_drewN ?_ _ | refine blk_drew ?_ | refine blk_alloc ?_ _)); exact BK413.out) hb)
                  have n2_ := Aside0.mk (below_step (by repeat (first | (with_reducible first | exact HB.out | apply below_alloc | apply pw_below_drewN | apply below_drew1 | refine below_set ?_ GE413.out) | exact HB.out)) hb)
                  clear BK413
                  clear HB
                  have HO416 := n0_
                  have BK413 := n1_
                  have HB := n2_
                  clear n0_ n1_ n2_
                  clear hb ho17
                  refine hK.out _ _ ⟨(blk_cell BK413.out 0).trans rfl, (blk_cell BK413.out 1).trans rfl⟩ (fun hHeld => ?_)
                  clear hK K
                  refine norm_ (a' := ?_) ?_ ?_
                  rotate_left
                  · show Act.put _ (some 21) _ = _
                    simp only [Act.put, List.setIfInBounds_toArray, List.set_cons_zero, List.set_cons_succ, i64_w, i32_w]
                    rfl
                  refine one_ (i := 4) (N := some 22) #[true, true, true, true, true, true, true, true, true, false, true, true, false, false, false] rfl rfl (one_of HT_.out (by kernel_rfl)) (by decide) (fun K hK => ?_)
                  have hcv18 := own_string (P := Try.prog) Try.underlying79 Try.underlying5 Try.underlying9 (Kd.own_of_R HO416.out)
                  refine value_ (w1 := ?_) (v := ?_) (by rfl) rfl ?_ ?_
                  rotate_left 2
                  · go_simp
                    constructor
                    · rfl
                    · rfl
                  clear hcv18
                  refine hK.out _ _ ⟨(blk_cell BK413.out 0).trans rfl, (blk_cell BK413.out 1).trans rfl⟩ (fun hHeld => ?_)
                  clear hK K
                  refine norm_ (a' := ?_) ?_ ?_
                  rotate_left
                  · show Act.put _ (some 22) _ = _
                    simp only [Act.put, List.setIfInBounds_toArray, List.set_cons_zero, List.set_cons_succ, i64_w, i32_w]
                    rfl
                  exact norm_ (by simp only [putAll, Act.put, List.setIfInBounds_toArray, List.set_cons_zero, List.set_cons_succ]) (hCont (v415) _ ⟨hHeld, (by (with_reducible repeat (first | apply Kd.R_alloc | apply Kd.R_drewN | apply Kd.R_drew)); exact HO416.out), (by (with_reducible repeat (first | refine blk_drewN ?_ _ | refine blk_drew ?_ | refine blk_alloc ?_ _)); exact BK413.out), (by repeat (first | (with_reducible first | exact HB.out | apply below_alloc | apply pw_below_drewN | apply below_drew1 | refine below_set ?_ GE413.out) | exact HB.out))⟩)
              rintro v415 w19 ⟨hS_, h0_, h1_, h2_⟩
              have n0_ : Aside0 (Kd.R (Kd.int .u8) 5 w19 w.heap.size (fun _ => True) v415 y414) := ⟨h0_⟩
              have n1_ : Aside0 (w19.heap[gb413]? = some (.cells #[.int .i64 a0_0, .string a0_1] 96 (0, 0))) := ⟨h1_⟩
              have n2_ : Aside0 (Below w.heap.size w w19) := ⟨h2_⟩
              clear BK413
              clear HB
              clear h0_ h1_ h2_
              have HO416 := n0_
              have BK413 := n1_
              have HB := n2_
              clear n0_ n1_ n2_
              have hHeld : w19.cell? ⟨gb413, 0, none⟩ = some (.int .i64 a0_0) ∧ w19.cell? ⟨gb413, 1, none⟩ = some (.string a0_1) := hS_
              refine norm_ (a' := ?_) ?_ ?_
              rotate_left
              · simp only [putAll, Act.put, List.setIfInBounds_toArray, List.set_cons_zero, List.set_cons_succ]
                rfl
              refine pure_ (i := 9) (N := some 27) (v := ?_) (a' := ?_) #[true, true, true, true, true, true, true, true, true, true, true, true, false, false, false] rfl rfl (any_of HT_.out (by kernel_rfl)) (fun _ _ _ h => h) (Or.inl ⟨by rfl, ?_⟩) ?_ ?_
              rotate_left
              · intro w'
                go_simp
                with_reducible rfl
              rotate_left
              · simp only [Act.put, List.setIfInBounds_toArray, List.set_cons_zero, List.set_cons_succ, i64_w, i32_w]
                rfl
              refine pure_ (i := 12) (N := some 30) (v := ?_) (a' := ?_) #[true, true, true, true, true, true, true, true, true, true, true, true, true, false, false] rfl rfl (any_of HT_.out (by kernel_rfl)) (fun _ _ _ h => h) (Or.inl ⟨by rfl, ?_⟩) ?_ ?_
              rotate_left
              · intro w'
                go_simp
                with_reducible rfl
              rotate_left
              · simp only [Act.put, List.setIfInBounds_toArray, List.set_cons_zero, List.set_cons_succ, i64_w, i32_w]
                rfl
              refine pure_ (i := 13) (N := some 2) (v := ?_) (a' := ?_) #[true, true, true, true, true, true, true, true, true, true, true, true, true, true, false] rfl rfl (any_of HT_.out (by kernel_rfl)) (fun _ _ _ h => h) (Or.inl ⟨by rfl, ?_⟩) ?_ ?_
              rotate_left
              · intro w'
                go_simp
                with_reducible rfl
              rotate_left
              · simp only [Act.put, List.setIfInBounds_toArray, List.set_cons_zero, List.set_cons_succ, i64_w, i32_w]
                rfl
              refine pure_ (i := 14) (N := some 3) (v := ?_) (a' := ?_) #[true, true, true, true, true, true, true, true, true, true, true, true, true, true, true] rfl rfl (any_of HT_.out (by kernel_rfl)) (fun _ _ _ h => h) (Or.inl ⟨by rfl, ?_⟩) ?_ ?_
              rotate_left
              · intro w'
                go_simp
                with_reducible rfl
              rotate_left
              · simp only [Act.put, List.setIfInBounds_toArray, List.set_cons_zero, List.set_cons_succ, i64_w, i32_w]
                rfl
              refine done_ (done_of HT_.out (by kernel_rfl)) ?_
              try go_wp2
              go_ret2
              exact ⟨by first | rfl | (simp [errW_none, errW_some] <;> rfl) | (simp [*, errW_none, errW_some] <;> rfl), by repeat (first | (with_reducible first | exact HB.out | apply below_alloc | apply pw_below_drewN | apply below_drew1 | refine below_set ?_ GE413.out) | exact HB.out)⟩
            · rw [if_neg c12] at H
              exact absurd H (by simp)
          · rw [if_neg c11] at H
            exact absurd H (by simp)
def head_Put.f (k : Nat) (a0 : ByteArray) : Option (ByteArray × Int) := (frame_Put.f k 1 a0).bind fun bt418 => (if bt418.2 = 0 then (if 5 + bt418.1.size ≤ 9223372036854775807 then (some ((⟨#[99, 101, 114, 116, 1]⟩ : ByteArray) ++ bt418.1, 0)) else (none)) else (some ((⟨#[]⟩ : ByteArray), bt418.2)))
set_option maxHeartbeats 8000000 in
set_option maxRecDepth 100000 in
theorem head_Put.calls (k : Nat) (a0 : ByteArray) (r1 : ByteArray) (r2 : Int) (w : World) (h : head_Put.f k a0 = some (r1, r2)) :
    Calls Try.prog 40 #[.string a0] w fun e w' => e = .returned (.tuple #[.string r1, .int .i64 r2]) ∧ Below w.heap.size w w' := by
  have hu96 := Try.underlying96
  have HB := Aside0.mk (Below.refl w.heap.size w)
  have H : ((frame_Put.f k 1 a0).bind fun bt418 => (if bt418.2 = 0 then (if 5 + bt418.1.size ≤ 9223372036854775807 then (some ((⟨#[99, 101, 114, 116, 1]⟩ : ByteArray) ++ bt418.1, 0)) else (none)) else (some ((⟨#[]⟩ : ByteArray), bt418.2)))) = some (r1, r2) := h
  clear h
  replace H := Option.bind_eq_some_iff.mp H
  obtain ⟨⟨t418, t419⟩, A20, H⟩ := H
  replace H : (if t419 = 0 then (if 5 + t418.size ≤ 9223372036854775807 then (some ((⟨#[99, 101, 114, 116, 1]⟩ : ByteArray) ++ t418, 0)) else (none)) else (some ((⟨#[]⟩ : ByteArray), t419))) = some (r1, r2) := H
  have A2 := Aside0.mk A20
  clear A20
  by_cases c3 : t419 = 0
  · rw [if_pos c3] at H
    have c3b0 : (t419 == 0) = true := beq_iff_eq.mpr c3
    have c3b1 : (t419 != 0) = false := bne_eq_false_iff_eq.mpr c3
    clear c3
    by_cases c4 : 5 + t418.size ≤ 9223372036854775807
    · rw [if_pos c4] at H
      have c4b0 := eq_true c4
      have c4b1 : decide (5 + t418.size ≤ 9223372036854775807) = true := decide_eq_true c4
      try have c4b2 : (9223372036854775807 < 5 + t418.size) = False := eq_false (Nat.not_lt.2 c4)
      simp only [Option.some.injEq, Prod.mk.injEq] at H
      obtain ⟨rfl, rfl⟩ := H
      go_enter Try.func40, Try.ntmps40
      go_wp2_with (first | ((with_reducible refine gate_callee (f := 55) rfl ?_); refine goesL_ (some 9) rfl rfl Try.func55 (by kernel_rfl) rfl #[.agg #[.int .i64 1, .string a0]] rfl (by (try simp only [List.map_toArray, List.map_cons, List.map_nil]); first | done | rfl | (simp only [List.length_drop, List.length_take]; rfl)) ?_; (with_reducible refine (frame_Put.calls k 1 a0 t418 t419 _ A2.out).mono ?_); rintro e w5 ⟨rfl, hb⟩; refine ⟨_, rfl, ?_⟩; have n0_ := Aside0.mk (below_step (by repeat (first | (with_reducible first | exact HB.out | apply below_alloc | apply pw_below_drewN | apply below_drew1) | exact HB.out)) hb); clear HB; have HB := n0_; clear n0_; (try clear hb); (try clear hb2); (try clear hk); (try clear hi)))
      go_ret2
      exact ⟨by first | rfl | (simp [errW_none, errW_some] <;> rfl) | (simp [*, errW_none, errW_some] <;> rfl), by repeat (first | (with_reducible first | exact HB.out | apply below_alloc | apply pw_below_drewN | apply below_drew1) | exact HB.out)⟩
    · rw [if_neg c4] at H
      exact absurd H (by simp)
  · rw [if_neg c3] at H
    have c3b0 : (t419 == 0) = false := beq_eq_false_iff_ne.mpr c3
    have c3b1 : (t419 != 0) = true := bne_iff_ne.mpr c3
    simp only [Option.some.injEq, Prod.mk.injEq] at H
    obtain ⟨rfl, rfl⟩ := H
    go_enter Try.func40, Try.ntmps40
    go_wp2_with (first | ((with_reducible refine gate_callee (f := 55) rfl ?_); refine goesL_ (some 9) rfl rfl Try.func55 (by kernel_rfl) rfl #[.agg #[.int .i64 1, .string a0]] rfl (by (try simp only [List.map_toArray, List.map_cons, List.map_nil]); first | done | rfl | (simp only [List.length_drop, List.length_take]; rfl)) ?_; (with_reducible refine (frame_Put.calls k 1 a0 t418 t419 _ A2.out).mono ?_); rintro e w6 ⟨rfl, hb⟩; refine ⟨_, rfl, ?_⟩; have n0_ := Aside0.mk (below_step (by repeat (first | (with_reducible first | exact HB.out | apply below_alloc | apply pw_below_drewN | apply below_drew1) | exact HB.out)) hb); clear HB; have HB := n0_; clear n0_; (try clear hb); (try clear hb2); (try clear hk); (try clear hi)))
    go_ret2
    exact ⟨by first | rfl | (simp [errW_none, errW_some] <;> rfl) | (simp [*, errW_none, errW_some] <;> rfl), by repeat (first | (with_reducible first | exact HB.out | apply below_alloc | apply pw_below_drewN | apply below_drew1) | exact HB.out)⟩
def record_ids.l0 : Nat → Int → List Int → Int → Int → Option (Bool)
  | 0, _, _, _, _ => none
  | k + 1, x3, x6, x7, x8 => if x8 < x7 then (if 0 ≤ x8 then (if x8 < (x6.length : Int) then (if (rd x6 x8) ≤ x3 then (some false) else (if (rd x6 x8) ≥ 65535 then (some false) else (record_ids.l0 k (rd x6 x8) x6 x7 (wrap64 (x8 + 1))))) else (none)) else (none)) else (some true)
def record_ids.f (k : Nat) (l0 : List Int) : Option (Bool) := record_ids.l0 k (-1) l0 (l0.length : Int) 0
set_option maxHeartbeats 8000000 in
set_option maxRecDepth 100000 in
theorem record_ids.calls (k : Nat) (A0 : Option Addr) (c0 : Nat) (l0 : List Int) (r : Bool) (w : World) (hr0 : Kd.C (Kd.int .i64) w A0 l0.length l0) (hc0 : l0.length ≤ c0) (h : record_ids.f k l0 = some r) :
    Calls Try.prog 67 #[.slice A0 l0.length c0] w fun e w' => e = .returned (.bool r) ∧ Drawn0 w w' := by
  have HR0 := Aside0.mk hr0
  have HC0 := Aside0.mk hc0
  clear hr0 hc0
  have H : (record_ids.l0 k (-1) l0 (l0.length : Int) 0) = some r := h
  clear h
  have H' := Aside0.mk H
  clear H
  go_enter Try.func67, Try.ntmps67
  go_wp2
  go_loopg [3, 8] k (fun kq v3 v8 w' => ∃ (x3_1 : Int) (x8_1 : Int), v3 = .int .i64 x3_1 ∧ v8 = .int .i64 x8_1 ∧ Aside0 (record_ids.l0 kq x3_1 l0 (l0.length : Int) x8_1 = some r) ∧ Aside0 (kq ≤ k) ∧ Drawn0 w w')
  case atStart => exact ⟨((-1)), (0), (by first | rfl | (simp; done) | (simp [*]; done)), (by first | rfl | (simp; done) | (simp [*]; done)), H', ⟨Nat.le_refl _⟩, by repeat (first | exact Drawn0.refl _ | apply Drawn0.step)⟩
  case round =>
    clear H'
    obtain ⟨x3_1, x8_1, rfl, rfl, HA, HK1, ⟨m1, rfl⟩⟩ := hrel
    cases gk with
    | zero => exact absurd HA.out (by simp [record_ids.l0])
    | succ k1 =>
      have H := HA.out
      clear HA
      simp only [record_ids.l0] at H
      by_cases c2 : x8_1 < (l0.length : Int)
      · rw [if_pos c2] at H
        have c2b0 : decide (x8_1 < (l0.length : Int)) = true := decide_eq_true c2
        clear c2
        by_cases c3 : 0 ≤ x8_1
        · rw [if_pos c3] at H
          have c3b0 : decide (0 ≤ x8_1) = true := decide_eq_true c3
          clear c3
          by_cases c4 : x8_1 < (l0.length : Int)
          · rw [if_pos c4] at H
            have c4b0 : decide (x8_1 < (l0.length : Int)) = true := decide_eq_true c4
            clear c4
            by_cases c5 : (rd l0 x8_1) ≤ x3_1
            · rw [if_pos c5] at H
              have c5b0 : decide ((rd l0 x8_1) ≤ x3_1) = true := decide_eq_true c5
              clear c5
              obtain rfl := Option.some.inj H
              have p420 : 0 ≤ (x8_1 : Int) := of_decide_eq_true (by first | (with_reducible assumption) | assumption)
              have q420 : x8_1 < (l0.length : Int) := of_decide_eq_true (by first | (with_reducible assumption) | assumption)
              obtain ⟨ad420, e420, hx420_0⟩ := Kd.at_int HR0.out x8_1 p420 q420
              cases e420
              replace p420 := eq_true p420
              replace q420 := eq_true q420
              go_wp2
              go_ret
              exact ⟨by first | rfl | (simp; done) | (simp [*]; done), by repeat (first | exact Drawn0.refl _ | apply Drawn0.step)⟩
            · rw [if_neg c5] at H
              have c5b0 : decide ((rd l0 x8_1) ≤ x3_1) = false := decide_eq_false c5
              clear c5
              by_cases c6 : (rd l0 x8_1) ≥ 65535
              · rw [if_pos c6] at H
                have c6b0 : decide (65535 ≤ (rd l0 x8_1)) = true := decide_eq_true c6
                clear c6
                obtain rfl := Option.some.inj H
                have p420 : 0 ≤ (x8_1 : Int) := of_decide_eq_true (by first | (with_reducible assumption) | assumption)
                have q420 : x8_1 < (l0.length : Int) := of_decide_eq_true (by first | (with_reducible assumption) | assumption)
                obtain ⟨ad420, e420, hx420_0⟩ := Kd.at_int HR0.out x8_1 p420 q420
                cases e420
                replace p420 := eq_true p420
                replace q420 := eq_true q420
                go_wp2
                go_ret
                exact ⟨by first | rfl | (simp; done) | (simp [*]; done), by repeat (first | exact Drawn0.refl _ | apply Drawn0.step)⟩
              · rw [if_neg c6] at H
                have c6b0 : decide (65535 ≤ (rd l0 x8_1)) = false := decide_eq_false c6
                clear c6
                have H' := Aside0.mk H
                clear H
                have p420 : 0 ≤ (x8_1 : Int) := of_decide_eq_true (by first | (with_reducible assumption) | assumption)
                have q420 : x8_1 < (l0.length : Int) := of_decide_eq_true (by first | (with_reducible assumption) | assumption)
                obtain ⟨ad420, e420, hx420_0⟩ := Kd.at_int HR0.out x8_1 p420 q420
                cases e420
                replace p420 := eq_true p420
                replace q420 := eq_true q420
                go_wp2
                go_roundg k1
                case measure => have := HK1.out; omega
                case rel => exact ⟨(rd l0 x8_1), (wrap64 (x8_1 + 1)), (by first | rfl | (simp; done) | (simp [*]; done)), (by first | rfl | (simp; done) | (simp [*]; done)), H', ⟨by have := HK1.out; omega⟩, by repeat (first | exact Drawn0.refl _ | apply Drawn0.step)⟩
          · rw [if_neg c4] at H
            exact absurd H (by simp)
        · rw [if_neg c3] at H
          exact absurd H (by simp)
      · rw [if_neg c2] at H
        have c2b0 : decide (x8_1 < (l0.length : Int)) = false := decide_eq_false c2
        clear c2
        obtain rfl := Option.some.inj H
        go_wp2
        go_ret
        exact ⟨by first | rfl | (simp; done) | (simp [*]; done), by repeat (first | exact Drawn0.refl _ | apply Drawn0.step)⟩
end Go.Proofs.Ytejcopppchaneaa.PF
end
section
namespace Go.Proofs.Ytejcopppchaneaa.PF
open Go.RowKit Go.Proofs.YtejcopppchaneaaW.PrintWords Go.Proofs.YtejcopppchaneaaW.PrintLast Go.Proofs.YtejcopppchaneaaW.PrintMore
attribute [local go_sem] max2_int min2_int max_two min_two max_three min_three max_four min_four   -- for this text's walks alone
set_option linter.unusedVariables false
set_option linter.unusedSimpArgs false
def record_Check.j0 : Nat → Bool → Int → Int → Int → List Int → Option (Bool)
  | 0, _, _, _, _, _ => none
  | k + 1, x20, x422000, x422001, x422002, x422003 => if x20 = true then (some false) else ((record_runs.f x422000).bind fun t425 => (if t425 = true then (if x422001 > 0 then (some (decide (x422002 > 0))) else (some false)) else (if x422000 = 5 then (some true) else (some (x422000 == 6)))))
def record_Check.f (k : Nat) (a0_0 : Int) (a0_1 : Int) (a0_2 : Int) (l0_3 : List Int) : Option (Bool) := if a0_0 = 4 then (if a0_1 = 0 then (if a0_2 = 0 then ((record_ids.f k l0_3).bind fun t422 => (some t422)) else (some false)) else (some false)) else (if (l0_3.length : Int) > 0 then (record_Check.j0 k true a0_0 a0_1 a0_2 l0_3) else ((reckon_Is.f a0_1).bind fun t423 => (if t423 = true then ((reckon_Is.f a0_2).bind fun t424 => (record_Check.j0 k (!t424) a0_0 a0_1 a0_2 l0_3)) else (record_Check.j0 k true a0_0 a0_1 a0_2 l0_3))))
set_option maxHeartbeats 8000000 in
set_option maxRecDepth 100000 in
theorem record_Check.calls (k : Nat) (a0_0 : Int) (a0_1 : Int) (a0_2 : Int) (A0_3 : Option Addr) (c0_3 : Nat) (l0_3 : List Int) (r : Bool) (w : World) (hr0_3 : Kd.C (Kd.int .i64) w A0_3 l0_3.length l0_3) (hc0_3 : l0_3.length ≤ c0_3) (h : record_Check.f k a0_0 a0_1 a0_2 l0_3 = some r) :
    Calls Try.prog 57 #[.agg #[.int .i64 a0_0, .int .i64 a0_1, .int .i64 a0_2, .slice A0_3 l0_3.length c0_3]] w fun e w' => e = .returned (.bool r) ∧ Below w.heap.size w w' := by
  have hu30 := Try.underlying30
  have HR0_3 := Aside0.mk hr0_3
  have HC0_3 := Aside0.mk hc0_3
  clear hr0_3 hc0_3
  have HB := Aside0.mk (Below.refl w.heap.size w)
  have H : (if a0_0 = 4 then (if a0_1 = 0 then (if a0_2 = 0 then ((record_ids.f k l0_3).bind fun t422 => (some t422)) else (some false)) else (some false)) else (if (l0_3.length : Int) > 0 then (record_Check.j0 k true a0_0 a0_1 a0_2 l0_3) else ((reckon_Is.f a0_1).bind fun t423 => (if t423 = true then ((reckon_Is.f a0_2).bind fun t424 => (record_Check.j0 k (!t424) a0_0 a0_1 a0_2 l0_3)) else (record_Check.j0 k true a0_0 a0_1 a0_2 l0_3))))) = some r := h
  clear h
  by_cases c2 : a0_0 = 4
  · rw [if_pos c2] at H
    have c2b0 : (a0_0 == 4) = true := beq_iff_eq.mpr c2
    have c2b1 : (a0_0 != 4) = false := bne_eq_false_iff_eq.mpr c2
    clear c2
    by_cases c3 : a0_1 = 0
    · rw [if_pos c3] at H
      have c3b0 : (a0_1 == 0) = true := beq_iff_eq.mpr c3
      have c3b1 : (a0_1 != 0) = false := bne_eq_false_iff_eq.mpr c3
      clear c3
      by_cases c4 : a0_2 = 0
      · rw [if_pos c4] at H
        have c4b0 : (a0_2 == 0) = true := beq_iff_eq.mpr c4
        have c4b1 : (a0_2 != 0) = false := bne_eq_false_iff_eq.mpr c4
        clear c4
        replace H := Option.bind_eq_some_iff.mp H
        obtain ⟨t422, A50, H⟩ := H
        replace H : (some t422) = some r := H
        have A5 := Aside0.mk A50
        clear A50
        obtain rfl := Option.some.inj H
        go_enter Try.func57, Try.ntmps57
        go_wp2_with (first | ((with_reducible refine gate_dst (N := 1) rfl ?_); refine box_event ?hg (N := 1) ?hd (cs := #[.int .i64 a0_0, .int .i64 a0_1, .int .i64 a0_2, .slice A0_3 l0_3.length c0_3]) (t := 30) ?hr ?_; (case hd => rfl); (case hg => rfl); (case hr => first | (go_simp; done) | (go_simp; rfl)); intro gb421 hg w6 hbox hb; have n0_ := Aside0.mk (below_step (by repeat (first | (with_reducible first | exact HB.out | apply below_alloc | apply pw_below_drewN | apply below_drew1) | exact HB.out)) hb); have n1_ := Aside0.mk (hbox); have n2_ := Aside0.mk ((by rw [hg]; exact (below_size (by repeat (first | (with_reducible first | exact HB.out | apply below_alloc | apply pw_below_drewN | apply below_drew1) | exact HB.out))) : w.heap.size ≤ gb421)); have n3_ := Aside0.mk ((by rw [hg]; exact (below_size (by repeat (first | (with_reducible first | exact HB.out | apply below_alloc | apply pw_below_drewN | apply below_drew1) | exact HB.out))) : w.heap.size ≤ gb421)); clear HB; have HB := n0_; have BK421 := n1_; have GW421 := n2_; have GE421 := n3_; clear n0_ n1_ n2_ n3_; clear hb hbox hg; have hcz7_0 : w6.cell? ⟨gb421, 0, none⟩ = some (.int .i64 a0_0) := (blk_cell BK421.out 0).trans rfl; have hcz7_1 : w6.cell? ⟨gb421, 1, none⟩ = some (.int .i64 a0_1) := (blk_cell BK421.out 1).trans rfl; have hcz7_2 : w6.cell? ⟨gb421, 2, none⟩ = some (.int .i64 a0_2) := (blk_cell BK421.out 2).trans rfl; have hcz7_3 : w6.cell? ⟨gb421, 3, none⟩ = some (.slice A0_3 l0_3.length c0_3) := (blk_cell BK421.out 3).trans rfl; have hfz7_0 := blk_frozen BK421.out 0; have hfz7_1 := blk_frozen BK421.out 1; have hfz7_2 := blk_frozen BK421.out 2; have hfz7_3 := blk_frozen BK421.out 3) | (go_at_call 67; (with_reducible refine (record_ids.calls k _ _ l0_3 t422 _ ?side1 ?side2 A5.out).mono ?_); (case side1 => repeat (first | exact (Kd.C_below HR0_3.out HB.out) | (with_reducible refine Kd.C_alloc ?_ _) | (with_reducible refine Kd.C_drewN ?_ _) | (with_reducible refine Kd.C_drew ?_))); (case side2 => exact HC0_3.out); rintro e w' ⟨rfl, ⟨nd, rfl⟩⟩))
        go_ret
        exact ⟨by first | rfl | (simp [errW_none, errW_some] <;> rfl) | (simp [*, errW_none, errW_some] <;> rfl), by repeat (first | (with_reducible first | exact HB.out | apply below_alloc | apply pw_below_drewN | apply below_drew1 | refine below_set ?_ GE421.out) | exact HB.out)⟩
      · rw [if_neg c4] at H
        have c4b0 : (a0_2 == 0) = false := beq_eq_false_iff_ne.mpr c4
        have c4b1 : (a0_2 != 0) = true := bne_iff_ne.mpr c4
        obtain rfl := Option.some.inj H
        go_enter Try.func57, Try.ntmps57
        go_wp2_with (first | ((with_reducible refine gate_dst (N := 1) rfl ?_); refine box_event ?hg (N := 1) ?hd (cs := #[.int .i64 a0_0, .int .i64 a0_1, .int .i64 a0_2, .slice A0_3 l0_3.length c0_3]) (t := 30) ?hr ?_; (case hd => rfl); (case hg => rfl); (case hr => first | (go_simp; done) | (go_simp; rfl)); intro gb421 hg w8 hbox hb; have n0_ := Aside0.mk (below_step (by repeat (first | (with_reducible first | exact HB.out | apply below_alloc | apply pw_below_drewN | apply below_drew1) | exact HB.out)) hb); have n1_ := Aside0.mk (hbox); have n2_ := Aside0.mk ((by rw [hg]; exact (below_size (by repeat (first | (with_reducible first | exact HB.out | apply below_alloc | apply pw_below_drewN | apply below_drew1) | exact HB.out))) : w.heap.size ≤ gb421)); have n3_ := Aside0.mk ((by rw [hg]; exact (below_size (by repeat (first | (with_reducible first | exact HB.out | apply below_alloc | apply pw_below_drewN | apply below_drew1) | exact HB.out))) : w.heap.size ≤ gb421)); clear HB; have HB := n0_; have BK421 := n1_; have GW421 := n2_; have GE421 := n3_; clear n0_ n1_ n2_ n3_; clear hb hbox hg; have hcz9_0 : w8.cell? ⟨gb421, 0, none⟩ = some (.int .i64 a0_0) := (blk_cell BK421.out 0).trans rfl; have hcz9_1 : w8.cell? ⟨gb421, 1, none⟩ = some (.int .i64 a0_1) := (blk_cell BK421.out 1).trans rfl; have hcz9_2 : w8.cell? ⟨gb421, 2, none⟩ = some (.int .i64 a0_2) := (blk_cell BK421.out 2).trans rfl; have hcz9_3 : w8.cell? ⟨gb421, 3, none⟩ = some (.slice A0_3 l0_3.length c0_3) := (blk_cell BK421.out 3).trans rfl; have hfz9_0 := blk_frozen BK421.out 0; have hfz9_1 := blk_frozen BK421.out 1; have hfz9_2 := blk_frozen BK421.out 2; have hfz9_3 := blk_frozen BK421.out 3))
        go_ret
        exact ⟨by first | rfl | (simp [errW_none, errW_some] <;> rfl) | (simp [*, errW_none, errW_some] <;> rfl), by repeat (first | (with_reducible first | exact HB.out | apply below_alloc | apply pw_below_drewN | apply below_drew1 | refine below_set ?_ GE421.out) | exact HB.out)⟩
    · rw [if_neg c3] at H
      have c3b0 : (a0_1 == 0) = false := beq_eq_false_iff_ne.mpr c3
      have c3b1 : (a0_1 != 0) = true := bne_iff_ne.mpr c3
      obtain rfl := Option.some.inj H
      go_enter Try.func57, Try.ntmps57
      go_wp2_with (first | ((with_reducible refine gate_dst (N := 1) rfl ?_); refine box_event ?hg (N := 1) ?hd (cs := #[.int .i64 a0_0, .int .i64 a0_1, .int .i64 a0_2, .slice A0_3 l0_3.length c0_3]) (t := 30) ?hr ?_; (case hd => rfl); (case hg => rfl); (case hr => first | (go_simp; done) | (go_simp; rfl)); intro gb421 hg w10 hbox hb; have n0_ := Aside0.mk (below_step (by repeat (first | (with_reducible first | exact HB.out | apply below_alloc | apply pw_below_drewN | apply below_drew1) | exact HB.out)) hb); have n1_ := Aside0.mk (hbox); have n2_ := Aside0.mk ((by rw [hg]; exact (below_size (by repeat (first | (with_reducible first | exact HB.out | apply below_alloc | apply pw_below_drewN | apply below_drew1) | exact HB.out))) : w.heap.size ≤ gb421)); have n3_ := Aside0.mk ((by rw [hg]; exact (below_size (by repeat (first | (with_reducible first | exact HB.out | apply below_alloc | apply pw_below_drewN | apply below_drew1) | exact HB.out))) : w.heap.size ≤ gb421)); clear HB; have HB := n0_; have BK421 := n1_; have GW421 := n2_; have GE421 := n3_; clear n0_ n1_ n2_ n3_; clear hb hbox hg; have hcz11_0 : w10.cell? ⟨gb421, 0, none⟩ = some (.int .i64 a0_0) := (blk_cell BK421.out 0).trans rfl; have hcz11_1 : w10.cell? ⟨gb421, 1, none⟩ = some (.int .i64 a0_1) := (blk_cell BK421.out 1).trans rfl; have hcz11_2 : w10.cell? ⟨gb421, 2, none⟩ = some (.int .i64 a0_2) := (blk_cell BK421.out 2).trans rfl; have hcz11_3 : w10.cell? ⟨gb421, 3, none⟩ = some (.slice A0_3 l0_3.length c0_3) := (blk_cell BK421.out 3).trans rfl; have hfz11_0 := blk_frozen BK421.out 0; have hfz11_1 := blk_frozen BK421.out 1; have hfz11_2 := blk_frozen BK421.out 2; have hfz11_3 := blk_frozen BK421.out 3))
      go_ret
      exact ⟨by first | rfl | (simp [errW_none, errW_some] <;> rfl) | (simp [*, errW_none, errW_some] <;> rfl), by repeat (first | (with_reducible first | exact HB.out | apply below_alloc | apply pw_below_drewN | apply below_drew1 | refine below_set ?_ GE421.out) | exact HB.out)⟩
  · rw [if_neg c2] at H
    have c2b0 : (a0_0 == 4) = false := beq_eq_false_iff_ne.mpr c2
    have c2b1 : (a0_0 != 4) = true := bne_iff_ne.mpr c2
    have HC12 := Aside0.mk H
    clear H
    go_enter Try.func57, Try.ntmps57
    go_upto_region 3 with (first | ((with_reducible refine gate_dst (N := 1) rfl ?_); refine box_event ?hg (N := 1) ?hd (cs := #[.int .i64 a0_0, .int .i64 a0_1, .int .i64 a0_2, .slice A0_3 l0_3.length c0_3]) (t := 30) ?hr ?_; (case hd => rfl); (case hg => rfl); (case hr => first | (go_simp; done) | (go_simp; rfl)); intro gb421 hg w13 hbox hb; have n0_ := Aside0.mk (below_step (by repeat (first | (with_reducible first | exact HB.out | apply below_alloc | apply pw_below_drewN | apply below_drew1) | exact HB.out)) hb); have n1_ := Aside0.mk (hbox); have n2_ := Aside0.mk ((by rw [hg]; exact (below_size (by repeat (first | (with_reducible first | exact HB.out | apply below_alloc | apply pw_below_drewN | apply below_drew1) | exact HB.out))) : w.heap.size ≤ gb421)); have n3_ := Aside0.mk ((by rw [hg]; exact (below_size (by repeat (first | (with_reducible first | exact HB.out | apply below_alloc | apply pw_below_drewN | apply below_drew1) | exact HB.out))) : w.heap.size ≤ gb421)); clear HB; have HB := n0_; have BK421 := n1_; have GW421 := n2_; have GE421 := n3_; clear n0_ n1_ n2_ n3_; clear hb hbox hg; have hcz14_0 : w13.cell? ⟨gb421, 0, none⟩ = some (.int .i64 a0_0) := (blk_cell BK421.out 0).trans rfl; have hcz14_1 : w13.cell? ⟨gb421, 1, none⟩ = some (.int .i64 a0_1) := (blk_cell BK421.out 1).trans rfl; have hcz14_2 : w13.cell? ⟨gb421, 2, none⟩ = some (.int .i64 a0_2) := (blk_cell BK421.out 2).trans rfl; have hcz14_3 : w13.cell? ⟨gb421, 3, none⟩ = some (.slice A0_3 l0_3.length c0_3) := (blk_cell BK421.out 3).trans rfl; have hfz14_0 := blk_frozen BK421.out 0; have hfz14_1 := blk_frozen BK421.out 1; have hfz14_2 := blk_frozen BK421.out 2; have hfz14_3 := blk_frozen BK421.out 3))
    (try simp only [Act.put, List.setIfInBounds_toArray, List.set_cons_zero, List.set_cons_succ])
    go_cut [20] (fun v20 wc => ∃ (kq : Nat) (x20_11 : Bool), v20 = .bool x20_11 ∧ Aside0 (record_Check.j0 kq x20_11 a0_0 a0_1 a0_2 l0_3 = some r) ∧ Aside0 (kq ≤ k) ∧ Aside0 (wc.heap[gb421]? = some (.cells #[.int .i64 a0_0, .int .i64 a0_1, .int .i64 a0_2, (.slice A0_3 l0_3.length c0_3)] 30 (0, 0))) ∧ Aside0 (Below w.heap.size w wc))
    case first =>
      have H := HC12.out
      clear HC12
      by_cases c15 : (l0_3.length : Int) > 0
      · rw [if_pos c15] at H
        have c15b0 : decide (0 < (l0_3.length : Int)) = true := decide_eq_true c15
        have c15b1 : decide (0 < l0_3.length) = true := decide_eq_true (by omega)
        clear c15
        (first | rw [c15b0] | (simp only [i64_w, i32_w]; rw [c15b0]) | skip)
        have H' := Aside0.mk H
        clear H
        have hcz16_0 : w13.cell? ⟨gb421, 0, none⟩ = some (.int .i64 a0_0) := (blk_cell BK421.out 0).trans rfl
        have hcz16_1 : w13.cell? ⟨gb421, 1, none⟩ = some (.int .i64 a0_1) := (blk_cell BK421.out 1).trans rfl
        have hcz16_2 : w13.cell? ⟨gb421, 2, none⟩ = some (.int .i64 a0_2) := (blk_cell BK421.out 2).trans rfl
        have hcz16_3 : w13.cell? ⟨gb421, 3, none⟩ = some (.slice A0_3 l0_3.length c0_3) := (blk_cell BK421.out 3).trans rfl
        have hfz16_0 := blk_frozen BK421.out 0
        have hfz16_1 := blk_frozen BK421.out 1
        have hfz16_2 := blk_frozen BK421.out 2
        have hfz16_3 := blk_frozen BK421.out 3
        go_wp2
        go_meet
        case rel => exact ⟨_, (true), (by first | rfl | (simp; done) | (simp [*]; done)), H', ⟨by first | omega | exact Nat.le_refl _⟩, ⟨by (with_reducible repeat (first | refine blk_drewN ?_ _ | refine blk_drew ?_ | refine blk_alloc ?_ _)); exact BK421.out⟩, ⟨by repeat (first | (with_reducible first | exact HB.out | apply below_alloc | apply pw_below_drewN | apply below_drew1 | refine below_set ?_ GE421.out) | exact HB.out)⟩⟩
      · rw [if_neg c15] at H
        have c15b0 : decide (0 < (l0_3.length : Int)) = false := decide_eq_false c15
        have c15b1 : decide (0 < l0_3.length) = false := decide_eq_false (by omega)
        clear c15
        (first | rw [c15b0] | (simp only [i64_w, i32_w]; rw [c15b0]) | skip)
        replace H := Option.bind_eq_some_iff.mp H
        obtain ⟨t423, A170, H⟩ := H
        replace H : (if t423 = true then ((reckon_Is.f a0_2).bind fun t424 => (record_Check.j0 k (!t424) a0_0 a0_1 a0_2 l0_3)) else (record_Check.j0 k true a0_0 a0_1 a0_2 l0_3)) = some r := H
        have A17 := Aside0.mk A170
        clear A170
        by_cases c18 : t423 = true
        · subst c18
          have H1 : ((reckon_Is.f a0_2).bind fun t424 => (record_Check.j0 k (!t424) a0_0 a0_1 a0_2 l0_3)) = some r := by rw [if_pos rfl] at H; exact H
          clear H
          have H := H1
          clear H1
          replace H := Option.bind_eq_some_iff.mp H
          obtain ⟨t424, A190, H⟩ := H
          replace H : (record_Check.j0 k (!t424) a0_0 a0_1 a0_2 l0_3) = some r := H
          have A19 := Aside0.mk A190
          clear A190
          have H' := Aside0.mk H
          clear H
          have hcz20_0 : w13.cell? ⟨gb421, 0, none⟩ = some (.int .i64 a0_0) := (blk_cell BK421.out 0).trans rfl
          have hcz20_1 : w13.cell? ⟨gb421, 1, none⟩ = some (.int .i64 a0_1) := (blk_cell BK421.out 1).trans rfl
          have hcz20_2 : w13.cell? ⟨gb421, 2, none⟩ = some (.int .i64 a0_2) := (blk_cell BK421.out 2).trans rfl
          have hcz20_3 : w13.cell? ⟨gb421, 3, none⟩ = some (.slice A0_3 l0_3.length c0_3) := (blk_cell BK421.out 3).trans rfl
          have hfz20_0 := blk_frozen BK421.out 0
          have hfz20_1 := blk_frozen BK421.out 1
          have hfz20_2 := blk_frozen BK421.out 2
          have hfz20_3 := blk_frozen BK421.out 3
          go_wp2_with (first | (go_at_call 68; (with_reducible refine (reckon_Is.calls a0_1 true _ A17.out).mono ?_); rintro e w' ⟨rfl, ⟨nd, rfl⟩⟩) | (go_at_call 68; (with_reducible refine (reckon_Is.calls a0_2 t424 _ A19.out).mono ?_); rintro e w' ⟨rfl, ⟨nd, rfl⟩⟩))
          go_meet
          case rel => exact ⟨_, (!t424), (by first | rfl | (simp; done) | (simp [*]; done)), H', ⟨by first | omega | exact Nat.le_refl _⟩, ⟨by (with_reducible repeat (first | refine blk_drewN ?_ _ | refine blk_drew ?_ | refine blk_alloc ?_ _)); exact BK421.out⟩, ⟨by repeat (first | (with_reducible first | exact HB.out | apply below_alloc | apply pw_below_drewN | apply below_drew1 | refine below_set ?_ GE421.out) | exact HB.out)⟩⟩
        · replace c18 := Bool.eq_false_iff.mpr c18
          subst c18
          have H1 : (record_Check.j0 k true a0_0 a0_1 a0_2 l0_3) = some r := by rw [if_neg (show ¬ (false = true) by decide)] at H; exact H
          clear H
          have H := H1
          clear H1
          have H' := Aside0.mk H
          clear H
          have hcz21_0 : w13.cell? ⟨gb421, 0, none⟩ = some (.int .i64 a0_0) := (blk_cell BK421.out 0).trans rfl
          have hcz21_1 : w13.cell? ⟨gb421, 1, none⟩ = some (.int .i64 a0_1) := (blk_cell BK421.out 1).trans rfl
          have hcz21_2 : w13.cell? ⟨gb421, 2, none⟩ = some (.int .i64 a0_2) := (blk_cell BK421.out 2).trans rfl
          have hcz21_3 : w13.cell? ⟨gb421, 3, none⟩ = some (.slice A0_3 l0_3.length c0_3) := (blk_cell BK421.out 3).trans rfl
          have hfz21_0 := blk_frozen BK421.out 0
          have hfz21_1 := blk_frozen BK421.out 1
          have hfz21_2 := blk_frozen BK421.out 2
          have hfz21_3 := blk_frozen BK421.out 3
          go_wp2_with (first | (go_at_call 68; (with_reducible refine (reckon_Is.calls a0_1 false _ A17.out).mono ?_); rintro e w' ⟨rfl, ⟨nd, rfl⟩⟩))
          go_meet
          case rel => exact ⟨_, (true), (by first | rfl | (simp; done) | (simp [*]; done)), H', ⟨by first | omega | exact Nat.le_refl _⟩, ⟨by (with_reducible repeat (first | refine blk_drewN ?_ _ | refine blk_drew ?_ | refine blk_alloc ?_ _)); exact BK421.out⟩, ⟨by repeat (first | (with_reducible first | exact HB.out | apply below_alloc | apply pw_below_drewN | apply below_drew1 | refine below_set ?_ GE421.out) | exact HB.out)⟩⟩
    case rest =>
      clear HC12
      try clear c1
      try clear c2
      try clear c2b0
      try clear c2b1
      try clear p2
      try clear c3
      try clear c3b0
      try clear c3b1
      try clear c4
      try clear c4b0
      try clear c4b1
      try clear c5
      try clear c15
      try clear c15b0
      try clear c15b1
      try clear c18
      try clear hcz11_0
      try clear hcz11_1
      try clear hcz11_2
      try clear hcz11_3
      try clear hcz14_0
      try clear hcz14_1
      try clear hcz14_2
      try clear hcz14_3
      try clear hcz16_0
      try clear hcz16_1
      try clear hcz16_2
      try clear hcz16_3
      try clear hcz20_0
      try clear hcz20_1
      try clear hcz20_2
      try clear hcz20_3
      try clear hcz21_0
      try clear hcz21_1
      try clear hcz21_2
      try clear hcz21_3
      try clear hcz7_0
      try clear hcz7_1
      try clear hcz7_2
      try clear hcz7_3
      try clear hcz9_0
      try clear hcz9_1
      try clear hcz9_2
      try clear hcz9_3
      try clear hfz11_0
      try clear hfz11_1
      try clear hfz11_2
      try clear hfz11_3
      try clear hfz14_0
      try clear hfz14_1
      try clear hfz14_2
      try clear hfz14_3
      try clear hfz16_0
      try clear hfz16_1
      try clear hfz16_2
      try clear hfz16_3
      try clear hfz20_0
      try clear hfz20_1
      try clear hfz20_2
      try clear hfz20_3
      try clear hfz21_0
      try clear hfz21_1
      try clear hfz21_2
      try clear hfz21_3
      try clear hfz7_0
      try clear hfz7_1
      try clear hfz7_2
      try clear hfz7_3
      try clear hfz9_0
      try clear hfz9_1
      try clear hfz9_2
      try clear hfz9_3
      obtain ⟨kq, x20_11, rfl, HA, HJ11, BK421, HB⟩ := hcut
      cases kq with
      | zero => exact absurd HA.out (by simp [record_Check.j0])
      | succ kj11 =>
        have H := HA.out
        clear HA
        simp only [record_Check.j0] at H
        by_cases c22 : x20_11 = true
        · subst c22
          have H1 : (some false) = some r := by rw [if_pos rfl] at H; exact H
          clear H
          have H := H1
          clear H1
          obtain rfl := Option.some.inj H
          go_wp2
          go_ret
          exact ⟨by first | rfl | (simp [errW_none, errW_some] <;> rfl) | (simp [*, errW_none, errW_some] <;> rfl), by repeat (first | (with_reducible first | exact HB.out | apply below_alloc | apply pw_below_drewN | apply below_drew1 | refine below_set ?_ GE421.out) | exact HB.out)⟩
        · replace c22 := Bool.eq_false_iff.mpr c22
          subst c22
          have H1 : ((record_runs.f a0_0).bind fun t425 => (if t425 = true then (if a0_1 > 0 then (some (decide (a0_2 > 0))) else (some false)) else (if a0_0 = 5 then (some true) else (some (a0_0 == 6))))) = some r := by rw [if_neg (show ¬ (false = true) by decide)] at H; exact H
          clear H
          have H := H1
          clear H1
          replace H := Option.bind_eq_some_iff.mp H
          obtain ⟨t425, A230, H⟩ := H
          replace H : (if t425 = true then (if a0_1 > 0 then (some (decide (a0_2 > 0))) else (some false)) else (if a0_0 = 5 then (some true) else (some (a0_0 == 6)))) = some r := H
          have A23 := Aside0.mk A230
          clear A230
          by_cases c24 : t425 = true
          · subst c24
            have H1 : (if a0_1 > 0 then (some (decide (a0_2 > 0))) else (some false)) = some r := by rw [if_pos rfl] at H; exact H
            clear H
            have H := H1
            clear H1
            by_cases c25 : a0_1 > 0
            · rw [if_pos c25] at H
              have c25b0 : decide (0 < a0_1) = true := decide_eq_true c25
              clear c25
              obtain rfl := Option.some.inj H
              have hcz26_0 : wc.cell? ⟨gb421, 0, none⟩ = some (.int .i64 a0_0) := (blk_cell BK421.out 0).trans rfl
              have hcz26_1 : wc.cell? ⟨gb421, 1, none⟩ = some (.int .i64 a0_1) := (blk_cell BK421.out 1).trans rfl
              have hcz26_2 : wc.cell? ⟨gb421, 2, none⟩ = some (.int .i64 a0_2) := (blk_cell BK421.out 2).trans rfl
              have hcz26_3 : wc.cell? ⟨gb421, 3, none⟩ = some (.slice A0_3 l0_3.length c0_3) := (blk_cell BK421.out 3).trans rfl
              have hfz26_0 := blk_frozen BK421.out 0
              have hfz26_1 := blk_frozen BK421.out 1
              have hfz26_2 := blk_frozen BK421.out 2
              have hfz26_3 := blk_frozen BK421.out 3
              go_wp2_with (first | ((with_reducible refine gate_callee (f := 64) rfl ?_); refine goesL_ (some 40) rfl rfl Try.func64 (by kernel_rfl) rfl #[.int .i64 a0_0] rfl (by (try simp only [List.map_toArray, List.map_cons, List.map_nil]); first | done | rfl | (simp only [List.length_drop, List.length_take]; rfl)) ?_; (with_reducible refine (record_runs.calls a0_0 true _ A23.out).mono ?_); rintro e w' ⟨rfl, ⟨nd, rfl⟩⟩; refine ⟨_, rfl, ?_⟩))
              go_ret
              exact ⟨by first | rfl | (simp [errW_none, errW_some] <;> rfl) | (simp [*, errW_none, errW_some] <;> rfl), by repeat (first | (with_reducible first | exact HB.out | apply below_alloc | apply pw_below_drewN | apply below_drew1 | refine below_set ?_ GE421.out) | exact HB.out)⟩
            · rw [if_neg c25] at H
              have c25b0 : decide (0 < a0_1) = false := decide_eq_false c25
              clear c25
              obtain rfl := Option.some.inj H
              have hcz27_0 : wc.cell? ⟨gb421, 0, none⟩ = some (.int .i64 a0_0) := (blk_cell BK421.out 0).trans rfl
              have hcz27_1 : wc.cell? ⟨gb421, 1, none⟩ = some (.int .i64 a0_1) := (blk_cell BK421.out 1).trans rfl
              have hcz27_2 : wc.cell? ⟨gb421, 2, none⟩ = some (.int .i64 a0_2) := (blk_cell BK421.out 2).trans rfl
              have hcz27_3 : wc.cell? ⟨gb421, 3, none⟩ = some (.slice A0_3 l0_3.length c0_3) := (blk_cell BK421.out 3).trans rfl
              have hfz27_0 := blk_frozen BK421.out 0
              have hfz27_1 := blk_frozen BK421.out 1
              have hfz27_2 := blk_frozen BK421.out 2
              have hfz27_3 := blk_frozen BK421.out 3
              go_wp2_with (first | ((with_reducible refine gate_callee (f := 64) rfl ?_); refine goesL_ (some 40) rfl rfl Try.func64 (by kernel_rfl) rfl #[.int .i64 a0_0] rfl (by (try simp only [List.map_toArray, List.map_cons, List.map_nil]); first | done | rfl | (simp only [List.length_drop, List.length_take]; rfl)) ?_; (with_reducible refine (record_runs.calls a0_0 true _ A23.out).mono ?_); rintro e w' ⟨rfl, ⟨nd, rfl⟩⟩; refine ⟨_, rfl, ?_⟩))
              go_ret
              exact ⟨by first | rfl | (simp [errW_none, errW_some] <;> rfl) | (simp [*, errW_none, errW_some] <;> rfl), by repeat (first | (with_reducible first | exact HB.out | apply below_alloc | apply pw_below_drewN | apply below_drew1 | refine below_set ?_ GE421.out) | exact HB.out)⟩
          · replace c24 := Bool.eq_false_iff.mpr c24
            subst c24
            have H1 : (if a0_0 = 5 then (some true) else (some (a0_0 == 6))) = some r := by rw [if_neg (show ¬ (false = true) by decide)] at H; exact H
            clear H
            have H := H1
            clear H1
            by_cases c28 : a0_0 = 5
            · rw [if_pos c28] at H
              have c28b0 : (a0_0 == 5) = true := beq_iff_eq.mpr c28
              have c28b1 : (a0_0 != 5) = false := bne_eq_false_iff_eq.mpr c28
              clear c28
              obtain rfl := Option.some.inj H
              have hcz29_0 : wc.cell? ⟨gb421, 0, none⟩ = some (.int .i64 a0_0) := (blk_cell BK421.out 0).trans rfl
              have hcz29_1 : wc.cell? ⟨gb421, 1, none⟩ = some (.int .i64 a0_1) := (blk_cell BK421.out 1).trans rfl
              have hcz29_2 : wc.cell? ⟨gb421, 2, none⟩ = some (.int .i64 a0_2) := (blk_cell BK421.out 2).trans rfl
              have hcz29_3 : wc.cell? ⟨gb421, 3, none⟩ = some (.slice A0_3 l0_3.length c0_3) := (blk_cell BK421.out 3).trans rfl
              have hfz29_0 := blk_frozen BK421.out 0
              have hfz29_1 := blk_frozen BK421.out 1
              have hfz29_2 := blk_frozen BK421.out 2
              have hfz29_3 := blk_frozen BK421.out 3
              go_wp2_with (first | ((with_reducible refine gate_callee (f := 64) rfl ?_); refine goesL_ (some 40) rfl rfl Try.func64 (by kernel_rfl) rfl #[.int .i64 a0_0] rfl (by (try simp only [List.map_toArray, List.map_cons, List.map_nil]); first | done | rfl | (simp only [List.length_drop, List.length_take]; rfl)) ?_; (with_reducible refine (record_runs.calls a0_0 false _ A23.out).mono ?_); rintro e w' ⟨rfl, ⟨nd, rfl⟩⟩; refine ⟨_, rfl, ?_⟩))
              go_ret
              exact ⟨by first | rfl | (simp [errW_none, errW_some] <;> rfl) | (simp [*, errW_none, errW_some] <;> rfl), by repeat (first | (with_reducible first | exact HB.out | apply below_alloc | apply pw_below_drewN | apply below_drew1 | refine below_set ?_ GE421.out) | exact HB.out)⟩
            · rw [if_neg c28] at H
              have c28b0 : (a0_0 == 5) = false := beq_eq_false_iff_ne.mpr c28
              have c28b1 : (a0_0 != 5) = true := bne_iff_ne.mpr c28
              obtain rfl := Option.some.inj H
              have hcz30_0 : wc.cell? ⟨gb421, 0, none⟩ = some (.int .i64 a0_0) := (blk_cell BK421.out 0).trans rfl
              have hcz30_1 : wc.cell? ⟨gb421, 1, none⟩ = some (.int .i64 a0_1) := (blk_cell BK421.out 1).trans rfl
              have hcz30_2 : wc.cell? ⟨gb421, 2, none⟩ = some (.int .i64 a0_2) := (blk_cell BK421.out 2).trans rfl
              have hcz30_3 : wc.cell? ⟨gb421, 3, none⟩ = some (.slice A0_3 l0_3.length c0_3) := (blk_cell BK421.out 3).trans rfl
              have hfz30_0 := blk_frozen BK421.out 0
              have hfz30_1 := blk_frozen BK421.out 1
              have hfz30_2 := blk_frozen BK421.out 2
              have hfz30_3 := blk_frozen BK421.out 3
              go_wp2_with (first | ((with_reducible refine gate_callee (f := 64) rfl ?_); refine goesL_ (some 40) rfl rfl Try.func64 (by kernel_rfl) rfl #[.int .i64 a0_0] rfl (by (try simp only [List.map_toArray, List.map_cons, List.map_nil]); first | done | rfl | (simp only [List.length_drop, List.length_take]; rfl)) ?_; (with_reducible refine (record_runs.calls a0_0 false _ A23.out).mono ?_); rintro e w' ⟨rfl, ⟨nd, rfl⟩⟩; refine ⟨_, rfl, ?_⟩))
              go_ret
              exact ⟨by first | rfl | (simp [errW_none, errW_some] <;> rfl) | (simp [*, errW_none, errW_some] <;> rfl), by repeat (first | (with_reducible first | exact HB.out | apply below_alloc | apply pw_below_drewN | apply below_drew1 | refine below_set ?_ GE421.out) | exact HB.out)⟩
def IsS73 (w0 W : World) (g : Nat) (f0 : Int) (f1 : Int) (f2 : Int) (f3 : List Int) (f4 : Bool) (f5 : Int) (f6 : Bool) : Prop := ∃ A3 c3, W.heap[g]? = some (.cells #[.int .i64 f0, .int .i64 f1, .int .i64 f2, .slice A3 f3.length c3, .bool f4, .int .i64 f5, .bool f6] 73 (0, 0)) ∧ w0.heap.size ≤ g ∧ Kd.C (Kd.int .i64) w0 A3 f3.length f3
theorem IsS73.grown {w0 W : World} {g : Nat} {f0 : Int} {f1 : Int} {f2 : Int} {f3 : List Int} {f4 : Bool} {f5 : Int} {f6 : Bool} {W1 : World} {row : Option Nat} (h : IsS73 w0 W g f0 f1 f2 f3 f4 f5 f6) (hw : W.grownBy W1 row) (hne : some g ≠ row) : IsS73 w0 W1 g f0 f1 f2 f3 f4 f5 f6 := by
  obtain ⟨A3, c3, hb, hg, hr3⟩ := h
  exact ⟨A3, c3, blk_grown hb hw hne, hg, hr3⟩
theorem IsS73.fresh {w0 W : World} {g : Nat} {f0 : Int} {f1 : Int} {f2 : Int} {f3 : List Int} {f4 : Bool} {f5 : Int} {f6 : Bool} (h : IsS73 w0 W g f0 f1 f2 f3 f4 f5 f6) : ∀ k, W.heap.size ≤ k → k ≠ g := by
  obtain ⟨A3, c3, hb, hg, hr3⟩ := h
  exact Kd.freshB hb
theorem IsS73.kept {w0 W : World} {g : Nat} {f0 : Int} {f1 : Int} {f2 : Int} {f3 : List Int} {f4 : Bool} {f5 : Int} {f6 : Bool} {W1 : World} {S : Nat → Prop} (h : IsS73 w0 W g f0 f1 f2 f3 f4 f5 f6) (hk : Kept W W1 S) (hne : ¬ S g) : IsS73 w0 W1 g f0 f1 f2 f3 f4 f5 f6 := by
  obtain ⟨A3, c3, hb, hg, hr3⟩ := h
  exact ⟨A3, c3, blk_kept hb hk hne, hg, hr3⟩
theorem IsS73.below {w0 W : World} {g : Nat} {f0 : Int} {f1 : Int} {f2 : Int} {f3 : List Int} {f4 : Bool} {f5 : Int} {f6 : Bool} {W1 : World} (h : IsS73 w0 W g f0 f1 f2 f3 f4 f5 f6) (hw : Below W.heap.size W W1) : IsS73 w0 W1 g f0 f1 f2 f3 f4 f5 f6 := h.grown (grown_of_below hw none) (by simp)
theorem IsS73.alloc {w0 W : World} {g : Nat} {f0 : Int} {f1 : Int} {f2 : Int} {f3 : List Int} {f4 : Bool} {f5 : Int} {f6 : Bool} (h : IsS73 w0 W g f0 f1 f2 f3 f4 f5 f6) (o : Obj) : IsS73 w0 (W.alloc o) g f0 f1 f2 f3 f4 f5 f6 := h.below (below_alloc (Below.refl _ _) o)
theorem IsS73.drewN {w0 W : World} {g : Nat} {f0 : Int} {f1 : Int} {f2 : Int} {f3 : List Int} {f4 : Bool} {f5 : Int} {f6 : Bool} (h : IsS73 w0 W g f0 f1 f2 f3 f4 f5 f6) (m : Nat) : IsS73 w0 (W.drewN m) g f0 f1 f2 f3 f4 f5 f6 := h
theorem IsS73.drew {w0 W : World} {g : Nat} {f0 : Int} {f1 : Int} {f2 : Int} {f3 : List Int} {f4 : Bool} {f5 : Int} {f6 : Bool} (h : IsS73 w0 W g f0 f1 f2 f3 f4 f5 f6) : IsS73 w0 W.drew g f0 f1 f2 f3 f4 f5 f6 := h
theorem IsS73.at_ {w0 W : World} {g : Nat} {f0 : Int} {f1 : Int} {f2 : Int} {f3 : List Int} {f4 : Bool} {f5 : Int} {f6 : Bool} {w' : World} {m : Nat} (hq : W.drewN m = w') (h : IsS73 w0 W g f0 f1 f2 f3 f4 f5 f6) : IsS73 w0 w' g f0 f1 f2 f3 f4 f5 f6 := by subst hq; exact IsS73.drewN h m
theorem IsS73.apart {w0 W : World} {g : Nat} {f0 : Int} {f1 : Int} {f2 : Int} {f3 : List Int} {f4 : Bool} {f5 : Int} {f6 : Bool} {α : Type} {d : Kd α} {e : Nat} {base : Nat} {ok : Nat → Prop} {v : Value} {xs : List α} (h : IsS73 w0 W g f0 f1 f2 f3 f4 f5 f6) (ho : d.R e W base ok v xs) (ht : ∀ q, q ∈ e :: d.E → q ≠ 73) : d.R e W base (fun k => ok k ∧ k ≠ g) v xs := by
  obtain ⟨A3, c3, hb, hg, hr3⟩ := h
  exact Kd.R_types ho hb ht
theorem IsS73.own_ne {w0 W : World} {g : Nat} {f0 : Int} {f1 : Int} {f2 : Int} {f3 : List Int} {f4 : Bool} {f5 : Int} {f6 : Bool} {α : Type} {d : Kd α} {e : Nat} {base : Nat} {ok : Nat → Prop} {v : Value} {xs : List α} (h : IsS73 w0 W g f0 f1 f2 f3 f4 f5 f6) (ho : d.R e W base ok v xs) (ht : e ≠ 73) : some g ≠ v.ownBlock := by
  obtain ⟨A3, c3, hb, hg, hr3⟩ := h
  exact Kd.R_ne ho hb ht
theorem IsS73.lt {w0 W : World} {g : Nat} {f0 : Int} {f1 : Int} {f2 : Int} {f3 : List Int} {f4 : Bool} {f5 : Int} {f6 : Bool} (h : IsS73 w0 W g f0 f1 f2 f3 f4 f5 f6) : g < W.heap.size := by
  obtain ⟨A3, c3, hb, hg, hr3⟩ := h
  exact blk_lt hb
def varint_All.l0 : Nat → List Int → List Int → Int → Int → Option (ByteArray)
  | 0, _, _, _, _ => none
  | k + 1, x3, x6, x7, x8 => if x8 < x7 then (if 0 ≤ x8 then (if x8 < (x6.length : Int) then ((varint_Put.f k (rd x6 x8)).bind fun t429 => (if x3.length + t429.size < 140737488355328 then (varint_All.l0 k (x3 ++ bytesOf t429) x6 x7 (wrap64 (x8 + 1))) else (none))) else (none)) else (none)) else (some (strOfNums x3))
def varint_All.f (k : Nat) (l0 : List Int) : Option (ByteArray) := varint_All.l0 k ([] : List Int) l0 (l0.length : Int) 0
set_option maxHeartbeats 8000000 in
set_option maxRecDepth 100000 in
theorem varint_All.calls (k : Nat) (A0 : Option Addr) (c0 : Nat) (l0 : List Int) (r : ByteArray) (w : World) (hr0 : Kd.C (Kd.int .i64) w A0 l0.length l0) (hc0 : l0.length ≤ c0) (h : varint_All.f k l0 = some r) :
    Calls Try.prog 60 #[.slice A0 l0.length c0] w fun e w' => e = .returned (.string r) ∧ Below w.heap.size w w' := by
  have HR0 := Aside0.mk hr0
  have HC0 := Aside0.mk hc0
  clear hr0 hc0
  have HB := Aside0.mk (Below.refl w.heap.size w)
  have H : (varint_All.l0 k ([] : List Int) l0 (l0.length : Int) 0) = some r := h
  clear h
  have H' := Aside0.mk H
  clear H
  go_enter Try.func60, Try.ntmps60
  go_wp2
  go_loopg [3, 8] k (fun kq v3 v8 w' => ∃ (x3_1 : List Int) (x8_1 : Int), v8 = .int .i64 x8_1 ∧ Aside0 (varint_All.l0 kq x3_1 l0 (l0.length : Int) x8_1 = some r) ∧ Aside0 (kq ≤ k) ∧ Aside0 (Kd.R (Kd.int .u8) 5 w' w.heap.size (fun _ => True) v3 x3_1) ∧ Aside0 (Below w.heap.size w w'))
  case atStart => exact ⟨(([] : List Int)), (0), (by first | rfl | (simp; done) | (simp [*]; done)), H', ⟨Nat.le_refl _⟩, ⟨by first | exact Kd.R_nil _ _ _ _ _ | exact Kd.N_nil _ _ _ _ _ | exact Kd.V_nil _ _ _ _ _ | exact Kd.Q_nil _ _ _ _ _ | exact Kd.S_nil _ _ _ _ _⟩, ⟨by repeat (first | (with_reducible first | exact HB.out | apply below_alloc | apply pw_below_drewN | apply below_drew1) | exact HB.out)⟩⟩
  case round =>
    clear H'
    obtain ⟨x3_1, x8_1, rfl, HA, HK1, HO_3, HB⟩ := hrel
    cases gk with
    | zero => exact absurd HA.out (by simp [varint_All.l0])
    | succ k1 =>
      have H := HA.out
      clear HA
      simp only [varint_All.l0] at H
      by_cases c2 : x8_1 < (l0.length : Int)
      · rw [if_pos c2] at H
        have c2b0 : decide (x8_1 < (l0.length : Int)) = true := decide_eq_true c2
        clear c2
        by_cases c3 : 0 ≤ x8_1
        · rw [if_pos c3] at H
          have c3b0 : decide (0 ≤ x8_1) = true := decide_eq_true c3
          clear c3
          by_cases c4 : x8_1 < (l0.length : Int)
          · rw [if_pos c4] at H
            have c4b0 : decide (x8_1 < (l0.length : Int)) = true := decide_eq_true c4
            clear c4
            replace H := Option.bind_eq_some_iff.mp H
            obtain ⟨t429, A50, H⟩ := H
            replace H : (if x3_1.length + t429.size < 140737488355328 then (varint_All.l0 k1 (x3_1 ++ bytesOf t429) l0 (l0.length : Int) (wrap64 (x8_1 + 1))) else (none)) = some r := H
            have A5 := Aside0.mk A50
            clear A50
            by_cases c6 : x3_1.length + t429.size < 140737488355328
            · rw [if_pos c6] at H
              have LMc6 := Aside0.mk c6
              clear c6
              obtain ⟨y430, hy430⟩ : ∃ y_ : List Int, y_ = (x3_1 ++ bytesOf t429) := ⟨_, rfl⟩
              replace H : (varint_All.l0 k1 y430 l0 (l0.length : Int) (wrap64 (x8_1 + 1))) = some r := by first | (rw [hy430]; with_reducible exact H) | (have H2_ := (Option.bind_some _ _).symm.trans H; rw [hy430]; with_reducible exact H2_) | (have H2_ := (Option.bind_some _ _).symm.trans H; with_reducible exact H2_) | with_reducible exact H | (rw [hy430]; exact H) | exact H
              have Ny430 := Aside0.mk hy430
              clear hy430
              have H' := Aside0.mk H
              clear H
              have p428 : 0 ≤ (x8_1 : Int) := of_decide_eq_true (by first | (with_reducible assumption) | assumption)
              have q428 : x8_1 < (l0.length : Int) := of_decide_eq_true (by first | (with_reducible assumption) | assumption)
              obtain ⟨ad428, e428, hx428_0⟩ := Kd.at_int HR0.out x8_1 p428 q428
              cases e428
              replace hx428_0 := (HB.out.cell (World.block_lt_of_cell? w _ hx428_0)).trans hx428_0
              replace p428 := eq_true p428
              replace q428 := eq_true q428
              go_wp2_with (first | ((with_reducible refine gate_callee (f := 61) rfl ?_); refine goesL_ (some 14) rfl rfl Try.func61 (by kernel_rfl) rfl #[.int .i64 (rd l0 x8_1)] rfl (by (try simp only [List.map_toArray, List.map_cons, List.map_nil]); first | done | rfl | (simp only [List.length_drop, List.length_take]; rfl)) ?_; (with_reducible refine (varint_Put.calls k1 (rd l0 x8_1) t429 _ A5.out).mono ?_); rintro e w7 ⟨rfl, hb⟩; refine ⟨_, rfl, ?_⟩; have n0_ := Aside0.mk (Kd.R_below (by (with_reducible repeat (first | apply Kd.R_alloc | apply Kd.R_drewN | apply Kd.R_drew)); exact HO_3.out) hb); have n1_ := Aside0.mk (below_step (by repeat (first | (with_reducible first | exact HB.out | apply below_alloc | apply pw_below_drewN | apply below_drew1) | exact HB.out)) hb); clear HO_3; clear HB; have HO_3 := n0_; have HB := n1_; clear n0_ n1_; (try clear hb); (try clear hb2); (try clear hk); (try clear hi)) | (at_builtin; refine print_append_str (w0 := w) w.heap.size rfl (.tmp 12) _ 79 9 5 rfl Try.underlying79 Try.underlying9 info5 u3 x3_1 t429 rfl rfl ?aO ?aB ?aS ?aL ?_; (case aB => exact (by repeat (first | (with_reducible first | exact HB.out | apply below_alloc | apply pw_below_drewN | apply below_drew1) | exact HB.out))); (case aO => exact (Kd.own_of_R (by (with_reducible repeat (first | apply Kd.R_alloc | apply Kd.R_drewN | apply Kd.R_drew)); exact HO_3.out))); (case aS => exact (below_size (by repeat (first | (with_reducible first | exact HB.out | apply below_alloc | apply pw_below_drewN | apply below_drew1) | exact HB.out)))); (case aL => have := LMc6.out; omega); intro v431 w8 ho0 hb hg; have ho := Kd.R_of_own (h1 := fun _ => rfl) (ok := fun _ => True) ho0 (fun _ _ => trivial); clear ho0; have hat := True.intro; rw [← Ny430.out] at ho; change Kd.R (Kd.int .u8) 5 w8 w.heap.size (fun _ => True) v431 y430 at ho; have n0_ := Aside0.mk (hb); have n1_ := Aside0.mk (ho); clear HB; clear HO_3; have HB := n0_; have HO432 := n1_; clear n0_ n1_; clear ho hb hg hat))
              go_roundg k1
              case measure => have := HK1.out; omega
              case rel => exact ⟨(y430), (wrap64 (x8_1 + 1)), (by first | rfl | (simp; done) | (simp [*]; done)), H', ⟨by have := HK1.out; omega⟩, ⟨by (with_reducible repeat (first | apply Kd.R_alloc | apply Kd.R_drewN | apply Kd.R_drew)); exact HO432.out⟩, ⟨by repeat (first | (with_reducible first | exact HB.out | apply below_alloc | apply pw_below_drewN | apply below_drew1) | exact HB.out)⟩⟩
            · rw [if_neg c6] at H
              exact absurd H (by simp)
          · rw [if_neg c4] at H
            exact absurd H (by simp)
        · rw [if_neg c3] at H
          exact absurd H (by simp)
      · rw [if_neg c2] at H
        have c2b0 : decide (x8_1 < (l0.length : Int)) = false := decide_eq_false c2
        clear c2
        obtain rfl := Option.some.inj H
        have hcv9 := own_string (P := Try.prog) Try.underlying79 Try.underlying5 Try.underlying9 (Kd.own_of_R HO_3.out)
        go_wp2
        go_ret
        exact ⟨by first | rfl | (simp [errW_none, errW_some] <;> rfl) | (simp [*, errW_none, errW_some] <;> rfl), by repeat (first | (with_reducible first | exact HB.out | apply below_alloc | apply pw_below_drewN | apply below_drew1) | exact HB.out)⟩
end Go.Proofs.Ytejcopppchaneaa.PF
end
section
namespace Go.Proofs.Ytejcopppchaneaa.PF
open Go.RowKit Go.Proofs.YtejcopppchaneaaW.PrintWords Go.Proofs.YtejcopppchaneaaW.PrintLast Go.Proofs.YtejcopppchaneaaW.PrintMore
set_option linter.unusedVariables false
set_option linter.unusedSimpArgs false
def record_Put.go (k : Nat) : List Int → Int → List Int → Option (ByteArray × Int)
  | [], _, acc => some (strOfNums acc, 0)
  | x :: r, ah, acc => (varint_Put.f k (wrap64 (x - ah))).bind fun p => if acc.length + p.size ≤ 140737488355328 then record_Put.go k r x (acc ++ bytesOf p) else none
def record_Put.f (k : Nat) (a b c : Int) (l : List Int) : Option (ByteArray × Int) :=
  (record_Check.f k a b c l).bind fun t => if t = true then
    (if a = 4 then (varint_Put.f k (l.length : Int)).bind fun p => if 1 + p.size ≤ 140737488355328 then record_Put.go k l 0 (a % 256 :: bytesOf p) else none
     else (varint_All.f k [b, c]).bind fun p => if 1 + p.size ≤ 140737488355328 then some (strOfNums (a % 256 :: bytesOf p), 0) else none)
  else some ((⟨#[]⟩ : ByteArray), 2)
theorem pcell4 {w : World} {g : Nat} {a b c d : Value} {t : TypeId} (h : w.heap[g]? = some (.cells #[a, b, c, d] t (0, 0))) : w.cell? ⟨g, 0, none⟩ = some a ∧ w.cell? ⟨g, 1, none⟩ = some b ∧ w.cell? ⟨g, 2, none⟩ = some c ∧ w.cell? ⟨g, 3, none⟩ = some d :=
  ⟨(blk_cell h 0).trans rfl, (blk_cell h 1).trans rfl, (blk_cell h 2).trans rfl, (blk_cell h 3).trans rfl⟩
set_option maxHeartbeats 16000000 in
set_option maxRecDepth 100000 in
theorem record_Put.calls (k : Nat) (a0_0 : Int) (a0_1 : Int) (a0_2 : Int) (A0_3 : Option Addr) (c0_3 : Nat) (l0_3 : List Int) (r1 : ByteArray) (r2 : Int) (w : World) (hr0_3 : Kd.C (Kd.int .i64) w A0_3 l0_3.length l0_3) (hc0_3 : l0_3.length ≤ c0_3) (h : record_Put.f k a0_0 a0_1 a0_2 l0_3 = some (r1, r2)) :
    Calls Try.prog 45 #[.agg #[.int .i64 a0_0, .int .i64 a0_1, .int .i64 a0_2, .slice A0_3 l0_3.length c0_3]] w fun e w' => e = .returned (.tuple #[.string r1, .int .i64 r2]) ∧ Below w.heap.size w w' := by
  have hu24 := Try.underlying30
  have HR0 := Aside0.mk hr0_3
  have HC0 := Aside0.mk hc0_3
  have hm0 : l0_3.length ≤ 9223372036854775807 := hr0_3.2.1
  clear hr0_3 hc0_3
  unfold record_Put.f at h
  obtain ⟨t, A1, h⟩ := Option.bind_eq_some_iff.mp h
  have HA1 := Aside0.mk A1
  have HH := Aside0.mk h
  clear A1 h
  cases t with
  | false =>
    have H := HH.out
    rw [if_neg (by decide)] at H
    simp only [Option.some.injEq, Prod.mk.injEq] at H
    obtain ⟨rfl, rfl⟩ := H
    go_enter Try.func45, Try.ntmps45
    go_wp2_with (first | ((with_reducible refine gate_dst (N := 1) rfl ?_); refine box_event ?hg (N := 1) ?hd (cs := #[.int .i64 a0_0, .int .i64 a0_1, .int .i64 a0_2, .slice A0_3 l0_3.length c0_3]) (t := 30) ?hr ?_; (case hd => rfl); (case hg => rfl); (case hr => first | (go_simp; done) | (go_simp; rfl)); intro gr hgr w1 hbox hb; clear hgr; have HB1 := Aside0.mk hb; clear hb; have BR := Aside0.mk hbox; clear hbox; obtain ⟨k0, k1, k2, k3⟩ := pcell4 BR.out) | (go_at_call 57; (with_reducible refine (record_Check.calls k a0_0 a0_1 a0_2 A0_3 c0_3 l0_3 false _ (Kd.C_below HR0.out HB1.out) HC0.out HA1.out).mono ?_); rintro e w2 ⟨rfl, hb2⟩) | fail)
    go_ret2
    exact ⟨rfl, below_step HB1.out hb2⟩
  | true =>
    have H := HH.out
    rw [if_pos rfl] at H
    have HX := Aside0.mk H
    clear H HH
    go_enter Try.func45, Try.ntmps45
    go_upto_region 3 with (first | ((with_reducible refine gate_dst (N := 1) rfl ?_); refine box_event ?hg (N := 1) ?hd (cs := #[.int .i64 a0_0, .int .i64 a0_1, .int .i64 a0_2, .slice A0_3 l0_3.length c0_3]) (t := 30) ?hr ?_; (case hd => rfl); (case hg => rfl); (case hr => first | (go_simp; done) | (go_simp; rfl)); intro gr hgr w1 hbox hb; have GR := Aside0.mk (show w.heap.size ≤ gr by omega); clear hgr; have HB1 := Aside0.mk hb; clear hb; have BR := Aside0.mk hbox; clear hbox; obtain ⟨k0, k1, k2, k3⟩ := pcell4 BR.out) | (go_at_call 57; (with_reducible refine (record_Check.calls k a0_0 a0_1 a0_2 A0_3 c0_3 l0_3 true _ (Kd.C_below HR0.out HB1.out) HC0.out HA1.out).mono ?_); rintro e w2 ⟨rfl, hb2⟩; have HB2 := Aside0.mk (below_step HB1.out hb2); have BR2 := Aside0.mk (blk_below BR.out hb2); clear hb2 k0 k1 k2 k3) | fail)
    have HR2 := Aside0.mk (Kd.C_below HR0.out HB2.out)
    clear BR HB1 HR0 HA1
    obtain ⟨k0, k1, k2, k3⟩ := pcell4 BR2.out
    go_upto_region 5 with (first | ((with_reducible refine gate_dst (N := 4) rfl ?_); refine box_event ?hg (N := 4) ?hd (cs := #[.pointer none, .slice none 0 0]) (t := 81) ?hr ?_; (case hd => rfl); (case hg => rfl); (case hr => first | (go_simp; done) | (go_simp; rfl)); intro gb hgb w3 hbox hb; have HBd := Aside0.mk (bld_fresh (e := 5) (B := w2.heap.size) (by omega) hbox); clear hgb hbox; have HW3 := Aside0.mk hb; have BR3 := Aside0.mk (blk_below BR2.out hb); clear hb k0 k1 k2 k3; obtain ⟨k0, k1, k2, k3⟩ := pcell4 BR3.out) | (go_at_call 59; (refine (Bld.write_byte w2.heap.size gb [] (a0_0 % 256) _ HBd.out (by decide) HW3.out.size).mono ?_); rintro e w4 ⟨rfl, hBd4, hb4⟩; have HBd4 := Aside0.mk (show Lib.IsBuilder 81 5 w2.heap.size gb (nums .u8 [a0_0 % 256]) w4 from Or.inr hBd4); have HW4 := Aside0.mk (HW3.out.trans hb4); have BR4 := Aside0.mk (blk_below BR2.out HW4.out); clear hBd4 hb4 k0 k1 k2 k3; obtain ⟨k0, k1, k2, k3⟩ := pcell4 BR4.out) | fail)
    clear BR3 HW3 HBd
    have HN : Aside0 (∀ x ∈ [a0_0 % 256], 0 ≤ x ∧ x ≤ 255) := ⟨by intro x hx; rw [List.mem_singleton] at hx; omega⟩
    have H := HX.out
    clear HX
    by_cases h4 : a0_0 = 4
    · rw [if_pos h4] at H
      have c0 : (a0_0 == 4) = true := beq_iff_eq.mpr h4
      have c1 : (a0_0 != 4) = false := bne_eq_false_iff_eq.mpr h4
      clear h4
      obtain ⟨p, A2, H⟩ := Option.bind_eq_some_iff.mp H
      by_cases hlim : 1 + p.size ≤ 140737488355328
      · rw [if_pos hlim] at H
        have HA2 := Aside0.mk A2
        have HLM := Aside0.mk hlim
        have HH := Aside0.mk H
        clear A2 hlim H
        go_upto_region 9 with (first | (go_at_call 61; (with_reducible refine (varint_Put.calls k (l0_3.length : Int) p _ HA2.out).mono ?_); rintro e w5 ⟨rfl, hb5⟩; have HBd5 := Aside0.mk (bld_below HBd4.out hb5); have HW5 := Aside0.mk (below_step HW4.out hb5); have BR5 := Aside0.mk (blk_below BR2.out HW5.out); clear hb5 k0 k1 k2 k3; obtain ⟨k0, k1, k2, k3⟩ := pcell4 BR5.out) | (go_at_call 46; (refine (Bld.write_string w2.heap.size gb _ p _ HBd5.out (by have := HLM.out; simpa [nums] using this) HW5.out.size).mono ?_); rintro e w6 ⟨rfl, hBd6, hb6⟩; rw [strCells_nums, ← nums_append] at hBd6; have HBd6 := Aside0.mk (Or.inr hBd6 : Lib.IsBuilder 81 5 w2.heap.size gb _ w6); have HW6 := Aside0.mk (HW5.out.trans hb6); have BR6 := Aside0.mk (blk_below BR2.out HW6.out); clear hBd6 hb6 k0 k1 k2 k3; obtain ⟨k0, k1, k2, k3⟩ := pcell4 BR6.out) | fail)
        have HN6 := Aside0.mk (isb_append HN.out (isb_bytesOf p))
        clear HBd4 HBd5 HW4 HW5 BR4 BR5 HN
        go_wp2
        go_loopw [34, 5] (fun i ah wr => ∃ (j : Nat) (x : Int) (acc : List Int), j ≤ l0_3.length ∧ i = .int .i64 (j : Int) ∧ ah = .int .i64 x ∧ Aside0 (record_Put.go k (l0_3.drop j) x acc = some (r1, r2)) ∧ Aside0 (∀ x ∈ acc, 0 ≤ x ∧ x ≤ 255) ∧ Aside0 (Lib.IsBuilder 81 5 w2.heap.size gb (nums .u8 acc) wr) ∧ Aside0 (Below w2.heap.size w2 wr)) (fun i _ _ => l0_3.length - (intOf i).toNat)
        case atStart => exact ⟨0, 0, a0_0 % 256 :: bytesOf p, Nat.zero_le _, rfl, rfl, HH, HN6, HBd6, HW6⟩
        case round =>
          obtain ⟨j, x, acc, hj, rfl, rfl, HA, HNa, HBd, HW⟩ := hrel
          clear HH HN6 HBd6 HW6 BR6 k0 k1 k2 k3
          by_cases hlt : j < l0_3.length
          · have H := HA.out
            clear HA
            obtain ⟨ad, eA, hx⟩ := Kd.at_int (Kd.C_below HR2.out HW.out) (j : Int) (by omega) (by omega)
            rw [List.drop_eq_getElem_cons hlt] at H
            have hrd : rd l0_3 (j : Int) = l0_3[j] := by simp [rd, List.getD_eq_getElem?_getD, List.getElem?_eq_getElem hlt]
            rw [hrd] at hx
            clear hrd
            generalize l0_3[j] = y at H hx
            simp only [record_Put.go] at H
            obtain ⟨q, A3, H⟩ := Option.bind_eq_some_iff.mp H
            by_cases hlim2 : acc.length + q.size ≤ 140737488355328
            · rw [if_pos hlim2] at H
              have HA3 := Aside0.mk A3
              have HL2 := Aside0.mk hlim2
              have HH := Aside0.mk H
              clear A3 hlim2 H
              subst eA
              simp only [Int.toNat_natCast] at hx
              go_wp2_with (first | (go_at_call 61; (with_reducible refine (varint_Put.calls k (wrap64 (y - x)) q _ HA3.out).mono ?_); rintro e w7 ⟨rfl, hb7⟩; have HBd7 := Aside0.mk (bld_below HBd.out hb7); have HW7 := Aside0.mk (below_step HW.out hb7); clear hb7) | (go_at_call 46; (refine (Bld.write_string w2.heap.size gb _ q _ HBd7.out (by have := HL2.out; simpa [nums] using this) HW7.out.size).mono ?_); rintro e w8 ⟨rfl, hBd8, hb8⟩; rw [strCells_nums, ← nums_append] at hBd8; have HBd8 := Aside0.mk (Or.inr hBd8 : Lib.IsBuilder 81 5 w2.heap.size gb _ w8); have HW8 := Aside0.mk (HW7.out.trans hb8); clear hBd8 hb8) | fail)
              exact ⟨⟨j + 1, y, acc ++ bytesOf q, by omega, by go_num, rfl, HH, ⟨isb_append HNa.out (isb_bytesOf q)⟩, HBd8, HW8⟩, by simp [intOf]; omega⟩
            · rw [if_neg hlim2] at H; cases H
          · have H := HA.out
            rw [List.drop_eq_nil_of_le (by omega)] at H
            simp only [record_Put.go] at H
            injection H with H
            injection H with e1 e2
            subst e1 e2
            have HB9 := Aside0.mk (show Lib.IsBuilder 81 5 w2.heap.size gb (Lib.byteCells (acc.map fun n => UInt8.ofNat n.toNat)) wr from (nums_cells acc HNa.out) ▸ HBd.out)
            clear HA HBd
            go_wp2_with (first | (go_at_call 47; (with_reducible refine (Try.Builder_String_any w2.heap.size gb _ wr HB9.out HW.out.size).mono ?_); rintro e w9 ⟨rfl, hb9⟩) | fail)
            have HW9 := Aside0.mk (HW.out.trans hb9)
            clear hb9
            go_wp2
            go_ret2
            exact ⟨rfl, below_step HB2.out HW9.out⟩
      · rw [if_neg hlim] at H; cases H
    · rw [if_neg h4] at H
      have c0 : (a0_0 == 4) = false := beq_eq_false_iff_ne.mpr h4
      have c1 : (a0_0 != 4) = true := bne_iff_ne.mpr h4
      clear h4
      obtain ⟨p, A2, H⟩ := Option.bind_eq_some_iff.mp H
      by_cases hlim : 1 + p.size ≤ 140737488355328
      · rw [if_pos hlim] at H
        have HA2 := Aside0.mk A2
        have HLM := Aside0.mk hlim
        simp only [Option.some.injEq, Prod.mk.injEq] at H
        obtain ⟨rfl, rfl⟩ := H
        clear A2 hlim
        go_upto_region 7 with (first | ((with_reducible refine gate_dst (N := 22) rfl ?_); refine Kd.R_lit (Kd.int .i64) _ 3 ?hg (N := 22) ?hd (xs := ([a0_1, a0_2] : List Int)) (inner := [.int .i64 a0_1, .int .i64 a0_2]) (ok := fun _ => True) (okp := fun _ => True) ?hr ?hp (fun _ hk => hk) trivial (Below.refl _ _) (Nat.le_refl _) (by simp) ?_; (case hd => rfl); (case hg => rfl); (case hr => first | (go_simp; done) | (go_simp; rfl)); (case hp => exact (Reps.one (show Kd.M (Kd.int .i64) _ _ _ a0_1 [.int .i64 a0_1] from rfl) (Reps.one (show Kd.M (Kd.int .i64) _ _ _ a0_2 [.int .i64 a0_2] from rfl) (Reps.none _ _)))); intro v w5 ho5 hb hg_ hnew_; clear hg_ hnew_; obtain ⟨Ao, co, eo⟩ := Kd.R_slice ho5; subst eo; have HO5 := Aside0.mk (Kd.R_reads' ho5); have HBd5 := Aside0.mk (bld_below HBd4.out hb); have HW5 := Aside0.mk (below_step HW4.out hb); have BR5 := Aside0.mk (blk_below BR2.out HW5.out); clear ho5 hb k0 k1 k2 k3; obtain ⟨k0, k1, k2, k3⟩ := pcell4 BR5.out) | (go_at_call 60; (refine (varint_All.calls k Ao co [a0_1, a0_2] p _ HO5.out.2.2 HO5.out.2.1 HA2.out).mono ?_); rintro e w6 ⟨rfl, hb6⟩; have HBd6 := Aside0.mk (bld_below HBd5.out hb6); have HW6 := Aside0.mk (below_step HW5.out hb6); have BR6 := Aside0.mk (blk_below BR2.out HW6.out); clear hb6 k0 k1 k2 k3; obtain ⟨k0, k1, k2, k3⟩ := pcell4 BR6.out) | (go_at_call 46; (refine (Bld.write_string w2.heap.size gb _ p _ HBd6.out (by have := HLM.out; simpa [nums] using this) HW6.out.size).mono ?_); rintro e w7 ⟨rfl, hBd7, hb7⟩; rw [strCells_nums, ← nums_append] at hBd7; have HBd7 := Aside0.mk (Or.inr hBd7 : Lib.IsBuilder 81 5 w2.heap.size gb _ w7); have HW7 := Aside0.mk (HW6.out.trans hb7); clear hBd7 hb7 k0 k1 k2 k3) | fail)
        have HB9 := Aside0.mk (show Lib.IsBuilder 81 5 w2.heap.size gb (Lib.byteCells (([a0_0 % 256] ++ bytesOf p).map fun n => UInt8.ofNat n.toNat)) w7 from (nums_cells _ (isb_append HN.out (isb_bytesOf p))) ▸ HBd7.out)
        go_wp2_with (first | (go_at_call 47; (with_reducible refine (Try.Builder_String_any w2.heap.size gb _ w7 HB9.out HW7.out.size).mono ?_); rintro e w9 ⟨rfl, hb9⟩) | fail)
        have HW9 := Aside0.mk (HW7.out.trans hb9)
        clear hb9
        go_wp2
        go_ret2
        exact ⟨rfl, below_step HB2.out HW9.out⟩
      · rw [if_neg hlim] at H; cases H
end Go.Proofs.Ytejcopppchaneaa.PF
end
section
namespace Go.Proofs.Ytejcopppchaneaa.PF
open Go.RowKit Go.Proofs.YtejcopppchaneaaW.PrintWords Go.Proofs.YtejcopppchaneaaW.PrintLast Go.Proofs.YtejcopppchaneaaW.PrintMore
attribute [local go_sem] max2_int min2_int max_two min_two max_three min_three max_four min_four   -- for this text's walks alone
set_option linter.unusedVariables false
set_option linter.unusedSimpArgs false
def merge_copied.f (a0_0 : Int) (a0_1 : Int) (a0_2 : Int) (l0_3 : List Int) : Option (Int × Int × Int × List Int) := if ([] : List Int).length + l0_3.length < 17592186044416 then (some (a0_0, a0_1, a0_2, (([] : List Int) ++ l0_3))) else (none)
set_option maxHeartbeats 8000000 in
set_option maxRecDepth 100000 in
theorem merge_copied.calls (a0_0 : Int) (a0_1 : Int) (a0_2 : Int) (A0_3 : Option Addr) (c0_3 : Nat) (l0_3 : List Int) (r1 : Int) (r2 : Int) (r3 : Int) (r4 : List Int) (w : World) (hr0_3 : Kd.C (Kd.int .i64) w A0_3 l0_3.length l0_3) (hc0_3 : l0_3.length ≤ c0_3) (h : merge_copied.f a0_0 a0_1 a0_2 l0_3 = some (r1, r2, r3, r4)) :
    Calls Try.prog 69 #[.agg #[.int .i64 a0_0, .int .i64 a0_1, .int .i64 a0_2, .slice A0_3 l0_3.length c0_3]] w fun e w' => ∃ v3_ : Value, e = .returned (.agg #[.int .i64 r1, .int .i64 r2, .int .i64 r3, v3_]) ∧ Kd.R (Kd.int .i64) 3 w' w.heap.size (fun _ => True) v3_ r4 ∧ Below w.heap.size w w' := by
  have hu30 := Try.underlying30
  have HR0_3 := Aside0.mk hr0_3
  have HC0_3 := Aside0.mk hc0_3
  clear hr0_3 hc0_3
  have HB := Aside0.mk (Below.refl w.heap.size w)
  have H : (if ([] : List Int).length + l0_3.length < 17592186044416 then (some (a0_0, a0_1, a0_2, (([] : List Int) ++ l0_3))) else (none)) = some (r1, r2, r3, r4) := h
  clear h
  by_cases c2 : ([] : List Int).length + l0_3.length < 17592186044416
  · rw [if_pos c2] at H
    have LMc2 := Aside0.mk c2
    clear c2
    obtain ⟨y435, hy435⟩ : ∃ y_ : List Int, y_ = (([] : List Int) ++ l0_3) := ⟨_, rfl⟩
    replace H : (some (a0_0, a0_1, a0_2, y435)) = some (r1, r2, r3, r4) := by first | (rw [hy435]; with_reducible exact H) | (have H2_ := (Option.bind_some _ _).symm.trans H; rw [hy435]; with_reducible exact H2_) | (have H2_ := (Option.bind_some _ _).symm.trans H; with_reducible exact H2_) | with_reducible exact H | (rw [hy435]; exact H) | exact H
    have Ny435 := Aside0.mk hy435
    clear hy435
    simp only [Option.some.injEq, Prod.mk.injEq] at H
    obtain ⟨rfl, rfl, rfl, rfl⟩ := H
    go_enter Try.func69, Try.ntmps69
    go_wp2_with (first | ((with_reducible refine gate_dst (N := 1) rfl ?_); refine box_event ?hg (N := 1) ?hd (cs := #[.int .i64 a0_0, .int .i64 a0_1, .int .i64 a0_2, .slice A0_3 l0_3.length c0_3]) (t := 30) ?hr ?_; (case hd => rfl); (case hg => rfl); (case hr => first | (go_simp; done) | (go_simp; rfl)); intro gb433 hg w3 hbox hb; have n0_ := Aside0.mk (below_step (by repeat (first | (with_reducible first | exact HB.out | apply below_alloc | apply pw_below_drewN | apply below_drew1) | exact HB.out)) hb); have n1_ := Aside0.mk (hbox); have n2_ := Aside0.mk ((by rw [hg]; exact (below_size (by repeat (first | (with_reducible first | exact HB.out | apply below_alloc | apply pw_below_drewN | apply below_drew1) | exact HB.out))) : w.heap.size ≤ gb433)); have n3_ := Aside0.mk ((by rw [hg]; exact (below_size (by repeat (first | (with_reducible first | exact HB.out | apply below_alloc | apply pw_below_drewN | apply below_drew1) | exact HB.out))) : w.heap.size ≤ gb433)); clear HB; have HB := n0_; have BK433 := n1_; have GW433 := n2_; have GE433 := n3_; clear n0_ n1_ n2_ n3_; clear hb hbox hg) | ((with_reducible refine gate_dst (N := 2) rfl ?_); refine box_event ?hg (N := 2) ?hd (cs := #[.int .i64 0, .int .i64 0, .int .i64 0, .slice none 0 0]) (t := 30) ?hr ?_; (case hd => rfl); (case hg => rfl); (case hr => first | (go_simp; done) | (go_simp; rfl)); intro gb434 hg w4 hbox hb; have n0_ := Aside0.mk (blk_below (g := gb433) (o := .cells #[.int .i64 a0_0, .int .i64 a0_1, .int .i64 a0_2, .slice A0_3 l0_3.length c0_3] 30 (0, 0)) (by (with_reducible repeat (first | refine blk_drewN ?_ _ | refine blk_drew ?_ | refine blk_alloc ?_ _)); exact BK433.out) hb); have n1_ := Aside0.mk (below_step (by repeat (first | (with_reducible first | exact HB.out | apply below_alloc | apply pw_below_drewN | apply below_drew1 | refine below_set ?_ GE433.out) | exact HB.out)) hb); have n2_ := Aside0.mk (hbox); have n3_ := Aside0.mk ((by rw [hg]; exact (below_size (by repeat (first | (with_reducible first | exact HB.out | apply below_alloc | apply pw_below_drewN | apply below_drew1 | refine below_set ?_ GE433.out) | exact HB.out))) : w.heap.size ≤ gb434)); have n4_ := Aside0.mk ((by rw [hg]; exact (below_size (by repeat (first | (with_reducible first | exact HB.out | apply below_alloc | apply pw_below_drewN | apply below_drew1 | refine below_set ?_ GE433.out) | exact HB.out))) : w.heap.size ≤ gb434)); have n5_ := Aside0.mk ((by rw [hg]; exact Nat.ne_of_lt (blk_lt (g := gb433) (o := .cells #[.int .i64 a0_0, .int .i64 a0_1, .int .i64 a0_2, .slice A0_3 l0_3.length c0_3] 30 (0, 0)) (by (with_reducible repeat (first | refine blk_drewN ?_ _ | refine blk_drew ?_ | refine blk_alloc ?_ _)); exact BK433.out)) : gb433 ≠ gb434)); have n6_ := Aside0.mk ((by rw [hg]; exact Nat.ne_of_gt (blk_lt (g := gb433) (o := .cells #[.int .i64 a0_0, .int .i64 a0_1, .int .i64 a0_2, .slice A0_3 l0_3.length c0_3] 30 (0, 0)) (by (with_reducible repeat (first | refine blk_drewN ?_ _ | refine blk_drew ?_ | refine blk_alloc ?_ _)); exact BK433.out)) : gb434 ≠ gb433)); clear BK433; clear HB; have BK433 := n0_; have HB := n1_; have BK434 := n2_; have GW434 := n3_; have GE434 := n4_; have NB433_434 := n5_; have NB434_433 := n6_; clear n0_ n1_ n2_ n3_ n4_ n5_ n6_; clear hb hbox hg; have hnb5 := NB433_434.out; have hnc5 := NB434_433.out; have hcz6_0 : w4.cell? ⟨gb433, 0, none⟩ = some (.int .i64 a0_0) := (blk_cell BK433.out 0).trans rfl; have hcz6_1 : w4.cell? ⟨gb433, 1, none⟩ = some (.int .i64 a0_1) := (blk_cell BK433.out 1).trans rfl; have hcz6_2 : w4.cell? ⟨gb433, 2, none⟩ = some (.int .i64 a0_2) := (blk_cell BK433.out 2).trans rfl; have hcz6_3 : w4.cell? ⟨gb433, 3, none⟩ = some (.slice A0_3 l0_3.length c0_3) := (blk_cell BK433.out 3).trans rfl; have hfz6_0 := blk_frozen BK433.out 0; have hfz6_1 := blk_frozen BK433.out 1; have hfz6_2 := blk_frozen BK433.out 2; have hfz6_3 := blk_frozen BK433.out 3) | ((with_reducible refine gate_builtin (b := .append) (xs := #[.const (.slice none 0 0), .tmp 4]) rfl ?_); at_builtin; refine Kd.R_append_rows (Kd.int .i64) (w0 := w) w.heap.size rfl (.const (.slice none 0 0)) (.tmp 4) 28 3 (.int .i64 0) 8 rfl Try.underlying28 info3 rfl (by decide) (by omega) (.slice none 0 0) ([] : List Int) l0_3 _ _ _ (fun _ => True) (fun _ => False) rfl rfl ?aO ?aR (fun _ _ h => h) (fun _ h => h.elim) ?aF ?aB ?aS ?aL ?_; (case aR => repeat (first | exact (Kd.C_below HR0_3.out HB.out) | (with_reducible refine Kd.C_alloc ?_ _) | (with_reducible refine Kd.C_drewN ?_ _) | (with_reducible refine Kd.C_drew ?_))); (case aB => exact (by repeat (first | (with_reducible first | exact HB.out | apply below_alloc | apply pw_below_drewN | apply below_drew1 | refine below_set ?_ GE433.out | refine below_set ?_ GE434.out) | exact HB.out))); (case aF => exact (fun _ _ => trivial)); (case aO => exact ((Kd.R_nil _ _ _ _ (fun _ => True)))); (case aS => exact (below_size (by repeat (first | (with_reducible first | exact HB.out | apply below_alloc | apply pw_below_drewN | apply below_drew1 | refine below_set ?_ GE433.out | refine below_set ?_ GE434.out) | exact HB.out)))); (case aL => have := LMc2.out; omega); intro v436 w7 ho hb hg hat; rw [← Ny435.out] at ho; have n0_ := Aside0.mk (blk_grown (g := gb433) (o := .cells #[.int .i64 a0_0, .int .i64 a0_1, .int .i64 a0_2, .slice A0_3 l0_3.length c0_3] 30 (0, 0)) (by (with_reducible repeat (first | refine blk_drewN ?_ _ | refine blk_drew ?_ | refine blk_alloc ?_ _)); exact BK433.out) hg (by simp [Value.ownBlock])); have n1_ := Aside0.mk (blk_grown (g := gb434) (o := .cells #[.int .i64 0, .int .i64 0, .int .i64 0, .slice none 0 0] 30 (0, 0)) (by (with_reducible repeat (first | refine blk_drewN ?_ _ | refine blk_drew ?_ | refine blk_alloc ?_ _)); exact BK434.out) hg (by simp [Value.ownBlock])); have n2_ := Aside0.mk (hb); have n3_ := Aside0.mk (ho); clear BK433; clear BK434; clear HB; have BK433 := n0_; have BK434 := n1_; have HB := n2_; have HO437 := n3_; clear n0_ n1_ n2_ n3_; clear ho hb hg hat; obtain ⟨Ao8, co8, eo8⟩ := Kd.R_slice HO437.out; subst eo8; have hcz9_0 : w7.cell? ⟨gb433, 0, none⟩ = some (.int .i64 a0_0) := (blk_cell BK433.out 0).trans rfl; have hcz9_1 : w7.cell? ⟨gb433, 1, none⟩ = some (.int .i64 a0_1) := (blk_cell BK433.out 1).trans rfl; have hcz9_2 : w7.cell? ⟨gb433, 2, none⟩ = some (.int .i64 a0_2) := (blk_cell BK433.out 2).trans rfl; have hcz9_3 : w7.cell? ⟨gb433, 3, none⟩ = some (.slice A0_3 l0_3.length c0_3) := (blk_cell BK433.out 3).trans rfl; have hfz9_0 := blk_frozen BK433.out 0; have hfz9_1 := blk_frozen BK433.out 1; have hfz9_2 := blk_frozen BK433.out 2; have hfz9_3 := blk_frozen BK433.out 3; have hcz10_0 : w7.cell? ⟨gb434, 0, none⟩ = some (.int .i64 0) := (blk_cell BK434.out 0).trans rfl; have hcz10_1 : w7.cell? ⟨gb434, 1, none⟩ = some (.int .i64 0) := (blk_cell BK434.out 1).trans rfl; have hcz10_2 : w7.cell? ⟨gb434, 2, none⟩ = some (.int .i64 0) := (blk_cell BK434.out 2).trans rfl; have hcz10_3 : w7.cell? ⟨gb434, 3, none⟩ = some (.slice none 0 0) := (blk_cell BK434.out 3).trans rfl; have hfz10_0 := blk_frozen BK434.out 0; have hfz10_1 := blk_frozen BK434.out 1; have hfz10_2 := blk_frozen BK434.out 2; have hfz10_3 := blk_frozen BK434.out 3))
    refine bodyPost_ret (results_cell_row rfl _ _ gb434 30 #[.int .i64 a0_0, .int .i64 a0_1, .int .i64 a0_2, .slice Ao8 y435.length co8] (0, 0) _ rfl (by (with_reducible repeat (first | refine blk_drewN ?_ _ | refine blk_drew ?_ | refine blk_alloc ?_ _)); refine blk_put (cs := #[.int .i64 a0_0, .int .i64 a0_1, .int .i64 a0_2, .slice none 0 0]) ?_ 3 _ rfl; (with_reducible repeat (first | refine blk_drewN ?_ _ | refine blk_drew ?_ | refine blk_alloc ?_ _)); refine blk_put (cs := #[.int .i64 a0_0, .int .i64 a0_1, .int .i64 0, .slice none 0 0]) ?_ 2 _ rfl; (with_reducible repeat (first | refine blk_drewN ?_ _ | refine blk_drew ?_ | refine blk_alloc ?_ _)); refine blk_put (cs := #[.int .i64 a0_0, .int .i64 0, .int .i64 0, .slice none 0 0]) ?_ 1 _ rfl; (with_reducible repeat (first | refine blk_drewN ?_ _ | refine blk_drew ?_ | refine blk_alloc ?_ _)); refine blk_put (cs := #[.int .i64 0, .int .i64 0, .int .i64 0, .slice none 0 0]) ?_ 0 _ rfl; (with_reducible repeat (first | refine blk_drewN ?_ _ | refine blk_drew ?_ | refine blk_alloc ?_ _)); refine blk_far ?_ NB434_433.out _; (with_reducible repeat (first | refine blk_drewN ?_ _ | refine blk_drew ?_ | refine blk_alloc ?_ _)); exact BK434.out) Try.underlying30 rfl (by kernel_rfl)) rfl ?_
    exact ⟨_, by first | rfl | (simp [errW_none, errW_some] <;> rfl) | (simp [*, errW_none, errW_some] <;> rfl), by (with_reducible repeat (first | apply Kd.R_alloc | apply Kd.R_drewN | apply Kd.R_drew)); exact Kd.R_mono (Kd.R_far (p := ⟨gb434, 3, none⟩) (Kd.R_far (p := ⟨gb434, 2, none⟩) (Kd.R_far (p := ⟨gb434, 1, none⟩) (Kd.R_far (p := ⟨gb434, 0, none⟩) (Kd.R_far (p := ⟨gb433, 3, none⟩) (Kd.R_types (Kd.R_types HO437.out BK433.out (by decide)) BK434.out (by decide)) (fun _ hk => hk.1.2) (.slice Ao8 y435.length co8)) (fun _ hk => hk.2) (.int .i64 a0_0)) (fun _ hk => hk.2) (.int .i64 a0_1)) (fun _ hk => hk.2) (.int .i64 a0_2)) (fun _ hk => hk.2) (.slice Ao8 y435.length co8)) (fun _ hk => trivial), by repeat (first | (with_reducible first | exact HB.out | apply below_alloc | apply pw_below_drewN | apply below_drew1 | refine below_set ?_ GE433.out | refine below_set ?_ GE434.out) | exact HB.out)⟩
  · rw [if_neg c2] at H
    exact absurd H (by simp)
end Go.Proofs.Ytejcopppchaneaa.PF
end
section
namespace Go.Proofs.Ytejcopppchaneaa.PF
open Go.RowKit Go.Proofs.YtejcopppchaneaaW.PrintWords Go.Proofs.YtejcopppchaneaaW.PrintLast Go.Proofs.YtejcopppchaneaaW.PrintMore
attribute [local go_sem] max2_int min2_int max_two min_two max_three min_three max_four min_four   -- for this text's walks alone
set_option linter.unusedVariables false
set_option linter.unusedSimpArgs false
def IsS61 (w0 W : World) (g : Nat) (f0 : ByteArray) (f1 : Int) (f2 : Int) (f3 : Int) (f4 : List Int) (f5 : Bool) (f6 : Bool) (f7 : Int) : Prop := ∃ A4 c4, W.heap[g]? = some (.cells #[.string f0, .int .i64 f1, .int .i64 f2, .int .i64 f3, .slice A4 f4.length c4, .bool f5, .bool f6, .int .i64 f7] 61 (0, 0)) ∧ w0.heap.size ≤ g ∧ Kd.C (Kd.int .i64) w0 A4 f4.length f4
theorem IsS61.grown {w0 W : World} {g : Nat} {f0 : ByteArray} {f1 : Int} {f2 : Int} {f3 : Int} {f4 : List Int} {f5 : Bool} {f6 : Bool} {f7 : Int} {W1 : World} {row : Option Nat} (h : IsS61 w0 W g f0 f1 f2 f3 f4 f5 f6 f7) (hw : W.grownBy W1 row) (hne : some g ≠ row) : IsS61 w0 W1 g f0 f1 f2 f3 f4 f5 f6 f7 := by
  obtain ⟨A4, c4, hb, hg, hr4⟩ := h
  exact ⟨A4, c4, blk_grown hb hw hne, hg, hr4⟩
theorem IsS61.fresh {w0 W : World} {g : Nat} {f0 : ByteArray} {f1 : Int} {f2 : Int} {f3 : Int} {f4 : List Int} {f5 : Bool} {f6 : Bool} {f7 : Int} (h : IsS61 w0 W g f0 f1 f2 f3 f4 f5 f6 f7) : ∀ k, W.heap.size ≤ k → k ≠ g := by
  obtain ⟨A4, c4, hb, hg, hr4⟩ := h
  exact Kd.freshB hb
theorem IsS61.kept {w0 W : World} {g : Nat} {f0 : ByteArray} {f1 : Int} {f2 : Int} {f3 : Int} {f4 : List Int} {f5 : Bool} {f6 : Bool} {f7 : Int} {W1 : World} {S : Nat → Prop} (h : IsS61 w0 W g f0 f1 f2 f3 f4 f5 f6 f7) (hk : Kept W W1 S) (hne : ¬ S g) : IsS61 w0 W1 g f0 f1 f2 f3 f4 f5 f6 f7 := by
  obtain ⟨A4, c4, hb, hg, hr4⟩ := h
  exact ⟨A4, c4, blk_kept hb hk hne, hg, hr4⟩
theorem IsS61.below {w0 W : World} {g : Nat} {f0 : ByteArray} {f1 : Int} {f2 : Int} {f3 : Int} {f4 : List Int} {f5 : Bool} {f6 : Bool} {f7 : Int} {W1 : World} (h : IsS61 w0 W g f0 f1 f2 f3 f4 f5 f6 f7) (hw : Below W.heap.size W W1) : IsS61 w0 W1 g f0 f1 f2 f3 f4 f5 f6 f7 := h.grown (grown_of_below hw none) (by simp)
theorem IsS61.alloc {w0 W : World} {g : Nat} {f0 : ByteArray} {f1 : Int} {f2 : Int} {f3 : Int} {f4 : List Int} {f5 : Bool} {f6 : Bool} {f7 : Int} (h : IsS61 w0 W g f0 f1 f2 f3 f4 f5 f6 f7) (o : Obj) : IsS61 w0 (W.alloc o) g f0 f1 f2 f3 f4 f5 f6 f7 := h.below (below_alloc (Below.refl _ _) o)
theorem IsS61.drewN {w0 W : World} {g : Nat} {f0 : ByteArray} {f1 : Int} {f2 : Int} {f3 : Int} {f4 : List Int} {f5 : Bool} {f6 : Bool} {f7 : Int} (h : IsS61 w0 W g f0 f1 f2 f3 f4 f5 f6 f7) (m : Nat) : IsS61 w0 (W.drewN m) g f0 f1 f2 f3 f4 f5 f6 f7 := h
theorem IsS61.drew {w0 W : World} {g : Nat} {f0 : ByteArray} {f1 : Int} {f2 : Int} {f3 : Int} {f4 : List Int} {f5 : Bool} {f6 : Bool} {f7 : Int} (h : IsS61 w0 W g f0 f1 f2 f3 f4 f5 f6 f7) : IsS61 w0 W.drew g f0 f1 f2 f3 f4 f5 f6 f7 := h
theorem IsS61.at_ {w0 W : World} {g : Nat} {f0 : ByteArray} {f1 : Int} {f2 : Int} {f3 : Int} {f4 : List Int} {f5 : Bool} {f6 : Bool} {f7 : Int} {w' : World} {m : Nat} (hq : W.drewN m = w') (h : IsS61 w0 W g f0 f1 f2 f3 f4 f5 f6 f7) : IsS61 w0 w' g f0 f1 f2 f3 f4 f5 f6 f7 := by subst hq; exact IsS61.drewN h m
theorem IsS61.apart {w0 W : World} {g : Nat} {f0 : ByteArray} {f1 : Int} {f2 : Int} {f3 : Int} {f4 : List Int} {f5 : Bool} {f6 : Bool} {f7 : Int} {α : Type} {d : Kd α} {e : Nat} {base : Nat} {ok : Nat → Prop} {v : Value} {xs : List α} (h : IsS61 w0 W g f0 f1 f2 f3 f4 f5 f6 f7) (ho : d.R e W base ok v xs) (ht : ∀ q, q ∈ e :: d.E → q ≠ 61) : d.R e W base (fun k => ok k ∧ k ≠ g) v xs := by
  obtain ⟨A4, c4, hb, hg, hr4⟩ := h
  exact Kd.R_types ho hb ht
theorem IsS61.own_ne {w0 W : World} {g : Nat} {f0 : ByteArray} {f1 : Int} {f2 : Int} {f3 : Int} {f4 : List Int} {f5 : Bool} {f6 : Bool} {f7 : Int} {α : Type} {d : Kd α} {e : Nat} {base : Nat} {ok : Nat → Prop} {v : Value} {xs : List α} (h : IsS61 w0 W g f0 f1 f2 f3 f4 f5 f6 f7) (ho : d.R e W base ok v xs) (ht : e ≠ 61) : some g ≠ v.ownBlock := by
  obtain ⟨A4, c4, hb, hg, hr4⟩ := h
  exact Kd.R_ne ho hb ht
theorem IsS61.lt {w0 W : World} {g : Nat} {f0 : ByteArray} {f1 : Int} {f2 : Int} {f3 : Int} {f4 : List Int} {f5 : Bool} {f6 : Bool} {f7 : Int} (h : IsS61 w0 W g f0 f1 f2 f3 f4 f5 f6 f7) : g < W.heap.size := by
  obtain ⟨A4, c4, hb, hg, hr4⟩ := h
  exact blk_lt hb
end Go.Proofs.Ytejcopppchaneaa.PF
end
section
namespace Go.Proofs.Ytejcopppchaneaa.PF
open Go.RowKit Go.Proofs.YtejcopppchaneaaW.PrintWords Go.Proofs.YtejcopppchaneaaW.PrintLast Go.Proofs.YtejcopppchaneaaW.PrintMore
attribute [local go_sem] max2_int min2_int max_two min_two max_three min_three max_four min_four   -- for this text's walks alone
set_option linter.unusedVariables false
set_option linter.unusedSimpArgs false
def merge_runs.f (a0 : Int) : Option (Bool) := if a0 ≥ 1 then (some (decide (a0 ≤ 3))) else (some false)
set_option maxHeartbeats 8000000 in
set_option maxRecDepth 100000 in
theorem merge_runs.calls (a0 : Int) (r : Bool) (w : World) (h : merge_runs.f a0 = some r) :
    Calls Try.prog 73 #[.int .i64 a0] w fun e w' => e = .returned (.bool r) ∧ Drawn0 w w' := by
  have H : (if a0 ≥ 1 then (some (decide (a0 ≤ 3))) else (some false)) = some r := h
  clear h
  by_cases c2 : a0 ≥ 1
  · rw [if_pos c2] at H
    have c2b0 : decide (1 ≤ a0) = true := decide_eq_true c2
    clear c2
    obtain rfl := Option.some.inj H
    go_enter Try.func73, Try.ntmps73
    go_wp2
    go_ret
    exact ⟨by first | rfl | (simp; done) | (simp [*]; done), by repeat (first | exact Drawn0.refl _ | apply Drawn0.step)⟩
  · rw [if_neg c2] at H
    have c2b0 : decide (1 ≤ a0) = false := decide_eq_false c2
    clear c2
    obtain rfl := Option.some.inj H
    go_enter Try.func73, Try.ntmps73
    go_wp2
    go_ret
    exact ⟨by first | rfl | (simp; done) | (simp [*]; done), by repeat (first | exact Drawn0.refl _ | apply Drawn0.step)⟩
def reckon_all.l0 : Nat → List Int → Int → Int → Option (Bool)
  | 0, _, _, _ => none
  | k + 1, x5, x6, x7 => if x7 < x6 then (if 0 ≤ x7 then (if x7 < (x5.length : Int) then ((reckon_Is.f (rd x5 x7)).bind fun t157 => (if t157 = true then (reckon_all.l0 k x5 x6 (wrap64 (x7 + 1))) else (some false))) else (none)) else (none)) else (some true)
def reckon_all.f (k : Nat) (l0 : List Int) : Option (Bool) := reckon_all.l0 k l0 (l0.length : Int) 0
set_option maxHeartbeats 8000000 in
set_option maxRecDepth 100000 in
theorem reckon_all.calls (k : Nat) (A0 : Option Addr) (c0 : Nat) (l0 : List Int) (r : Bool) (w : World) (hr0 : Kd.C (Kd.int .i64) w A0 l0.length l0) (hc0 : l0.length ≤ c0) (h : reckon_all.f k l0 = some r) :
    Calls Try.prog 76 #[.slice A0 l0.length c0] w fun e w' => e = .returned (.bool r) ∧ Drawn0 w w' := by
  have HR0 := Aside0.mk hr0
  have HC0 := Aside0.mk hc0
  clear hr0 hc0
  have H : (reckon_all.l0 k l0 (l0.length : Int) 0) = some r := h
  clear h
  have H' := Aside0.mk H
  clear H
  go_enter Try.func76, Try.ntmps76
  go_wp2
  go_loopg [7] k (fun kq v7 w' => ∃ (x7_1 : Int), v7 = .int .i64 x7_1 ∧ Aside0 (reckon_all.l0 kq l0 (l0.length : Int) x7_1 = some r) ∧ Aside0 (kq ≤ k) ∧ Drawn0 w w')
  case atStart => exact ⟨(0), (by first | rfl | (simp; done) | (simp [*]; done)), H', ⟨Nat.le_refl _⟩, by repeat (first | exact Drawn0.refl _ | apply Drawn0.step)⟩
  case round =>
    clear H'
    obtain ⟨x7_1, rfl, HA, HK1, ⟨m1, rfl⟩⟩ := hrel
    cases gk with
    | zero => exact absurd HA.out (by simp [reckon_all.l0])
    | succ k1 =>
      have H := HA.out
      clear HA
      simp only [reckon_all.l0] at H
      by_cases c2 : x7_1 < (l0.length : Int)
      · rw [if_pos c2] at H
        have c2b0 : decide (x7_1 < (l0.length : Int)) = true := decide_eq_true c2
        clear c2
        by_cases c3 : 0 ≤ x7_1
        · rw [if_pos c3] at H
          have c3b0 : decide (0 ≤ x7_1) = true := decide_eq_true c3
          clear c3
          by_cases c4 : x7_1 < (l0.length : Int)
          · rw [if_pos c4] at H
            have c4b0 : decide (x7_1 < (l0.length : Int)) = true := decide_eq_true c4
            clear c4
            replace H := Option.bind_eq_some_iff.mp H
            obtain ⟨t157, A50, H⟩ := H
            replace H : (if t157 = true then (reckon_all.l0 k1 l0 (l0.length : Int) (wrap64 (x7_1 + 1))) else (some false)) = some r := H
            have A5 := Aside0.mk A50
            clear A50
            by_cases c6 : t157 = true
            · subst c6
              have H1 : (reckon_all.l0 k1 l0 (l0.length : Int) (wrap64 (x7_1 + 1))) = some r := by rw [if_pos rfl] at H; exact H
              clear H
              have H := H1
              clear H1
              have H' := Aside0.mk H
              clear H
              have p156 : 0 ≤ (x7_1 : Int) := of_decide_eq_true (by first | (with_reducible assumption) | assumption)
              have q156 : x7_1 < (l0.length : Int) := of_decide_eq_true (by first | (with_reducible assumption) | assumption)
              obtain ⟨ad156, e156, hx156_0⟩ := Kd.at_int HR0.out x7_1 p156 q156
              cases e156
              replace p156 := eq_true p156
              replace q156 := eq_true q156
              go_wp2_with (first | ((with_reducible refine gate_callee (f := 68) rfl ?_); refine goesL_ (some 12) rfl rfl Try.func68 (by kernel_rfl) rfl #[.int .i64 (rd l0 x7_1)] rfl (by (try simp only [List.map_toArray, List.map_cons, List.map_nil]); first | done | rfl | (simp only [List.length_drop, List.length_take]; rfl)) ?_; (with_reducible refine (reckon_Is.calls (rd l0 x7_1) true _ A5.out).mono ?_); rintro e w' ⟨rfl, ⟨nd, rfl⟩⟩; refine ⟨_, rfl, ?_⟩))
              go_roundg k1
              case measure => have := HK1.out; omega
              case rel => exact ⟨(wrap64 (x7_1 + 1)), (by first | rfl | (simp; done) | (simp [*]; done)), H', ⟨by have := HK1.out; omega⟩, by repeat (first | exact Drawn0.refl _ | apply Drawn0.step)⟩
            · replace c6 := Bool.eq_false_iff.mpr c6
              subst c6
              have H1 : (some false) = some r := by rw [if_neg (show ¬ (false = true) by decide)] at H; exact H
              clear H
              have H := H1
              clear H1
              obtain rfl := Option.some.inj H
              have p156 : 0 ≤ (x7_1 : Int) := of_decide_eq_true (by first | (with_reducible assumption) | assumption)
              have q156 : x7_1 < (l0.length : Int) := of_decide_eq_true (by first | (with_reducible assumption) | assumption)
              obtain ⟨ad156, e156, hx156_0⟩ := Kd.at_int HR0.out x7_1 p156 q156
              cases e156
              replace p156 := eq_true p156
              replace q156 := eq_true q156
              go_wp2_with (first | ((with_reducible refine gate_callee (f := 68) rfl ?_); refine goesL_ (some 12) rfl rfl Try.func68 (by kernel_rfl) rfl #[.int .i64 (rd l0 x7_1)] rfl (by (try simp only [List.map_toArray, List.map_cons, List.map_nil]); first | done | rfl | (simp only [List.length_drop, List.length_take]; rfl)) ?_; (with_reducible refine (reckon_Is.calls (rd l0 x7_1) false _ A5.out).mono ?_); rintro e w' ⟨rfl, ⟨nd, rfl⟩⟩; refine ⟨_, rfl, ?_⟩))
              go_ret
              exact ⟨by first | rfl | (simp; done) | (simp [*]; done), by repeat (first | exact Drawn0.refl _ | apply Drawn0.step)⟩
          · rw [if_neg c4] at H
            exact absurd H (by simp)
        · rw [if_neg c3] at H
          exact absurd H (by simp)
      · rw [if_neg c2] at H
        have c2b0 : decide (x7_1 < (l0.length : Int)) = false := decide_eq_false c2
        clear c2
        obtain rfl := Option.some.inj H
        go_wp2
        go_ret
        exact ⟨by first | rfl | (simp; done) | (simp [*]; done), by repeat (first | exact Drawn0.refl _ | apply Drawn0.step)⟩
def reckon_Add.f (k : Nat) (a0 : Int) (a1 : Int) : Option (Int × Int) := (reckon_all.f k (([a0, a1] : List Int))).bind fun t161 => (if t161 = true then (if a0 > (wrap64 (4611686018427387903 - a1)) then (some (0, 10)) else (some (wrap64 (a0 + a1), 0))) else (some (0, 2)))
set_option maxHeartbeats 8000000 in
set_option maxRecDepth 100000 in
theorem reckon_Add.calls (k : Nat) (a0 : Int) (a1 : Int) (r1 : Int) (r2 : Int) (w : World) (h : reckon_Add.f k a0 a1 = some (r1, r2)) :
    Calls Try.prog 74 #[.int .i64 a0, .int .i64 a1] w fun e w' => e = .returned (.tuple #[.int .i64 r1, .int .i64 r2]) ∧ Below w.heap.size w w' := by
  have HB := Aside0.mk (Below.refl w.heap.size w)
  have H : ((reckon_all.f k (([a0, a1] : List Int))).bind fun t161 => (if t161 = true then (if a0 > (wrap64 (4611686018427387903 - a1)) then (some (0, 10)) else (some (wrap64 (a0 + a1), 0))) else (some (0, 2)))) = some (r1, r2) := h
  clear h
  obtain ⟨y158, hy158⟩ : ∃ y_ : List Int, y_ = (([a0, a1] : List Int)) := ⟨_, rfl⟩
  replace H : ((reckon_all.f k y158).bind fun t161 => (if t161 = true then (if a0 > (wrap64 (4611686018427387903 - a1)) then (some (0, 10)) else (some (wrap64 (a0 + a1), 0))) else (some (0, 2)))) = some (r1, r2) := by first | (rw [hy158]; with_reducible exact H) | (have H2_ := (Option.bind_some _ _).symm.trans H; rw [hy158]; with_reducible exact H2_) | (have H2_ := (Option.bind_some _ _).symm.trans H; with_reducible exact H2_) | with_reducible exact H | (rw [hy158]; exact H) | exact H
  have Ny158 := Aside0.mk hy158
  clear hy158
  replace H := Option.bind_eq_some_iff.mp H
  obtain ⟨t161, A30, H⟩ := H
  replace H : (if t161 = true then (if a0 > (wrap64 (4611686018427387903 - a1)) then (some (0, 10)) else (some (wrap64 (a0 + a1), 0))) else (some (0, 2))) = some (r1, r2) := H
  have A3 := Aside0.mk A30
  clear A30
  by_cases c4 : t161 = true
  · subst c4
    have H1 : (if a0 > (wrap64 (4611686018427387903 - a1)) then (some (0, 10)) else (some (wrap64 (a0 + a1), 0))) = some (r1, r2) := by rw [if_pos rfl] at H; exact H
    clear H
    have H := H1
    clear H1
    by_cases c5 : a0 > (wrap64 (4611686018427387903 - a1))
    · rw [if_pos c5] at H
      have c5b0 : decide ((wrap64 (4611686018427387903 - a1)) < a0) = true := decide_eq_true c5
      clear c5
      simp only [Option.some.injEq, Prod.mk.injEq] at H
      obtain ⟨rfl, rfl⟩ := H
      go_enter Try.func74, Try.ntmps74
      go_wp2_with (first | ((with_reducible refine gate_dst (N := 9) rfl ?_); refine Kd.R_lit (Kd.int .i64) _ 3 ?hg (N := 9) ?hd (xs := ([a0, a1] : List Int)) (inner := [.int .i64 a0, .int .i64 a1]) (ok := fun _ => True) (okp := fun _ => True) ?hr ?hp (fun _ hk => hk) trivial (Below.refl _ _) (Nat.le_refl _) (by simp) ?_; (case hd => rfl); (case hg => rfl); (case hr => first | (go_simp; done) | (go_simp; rfl)); (case hp => exact (Reps.one (show Kd.M (Kd.int .i64) _ _ _ a0 [.int .i64 a0] from rfl) (Reps.one (show Kd.M (Kd.int .i64) _ _ _ a1 [.int .i64 a1] from rfl) (Reps.none _ _)))); intro v159 w6 ho7 hb hg_ hnew_; clear hg_ hnew_; (first | rw [← Ny158.out] at ho7 | (simp only [Int.reduceToNat] at ho7; rw [← Ny158.out] at ho7)); have n0_ := Aside0.mk (Kd.R_lower ho7 (below_size (by repeat (first | (with_reducible first | exact HB.out | apply below_alloc | apply pw_below_drewN | apply below_drew1) | exact HB.out)))); have n1_ := Aside0.mk (below_step (by repeat (first | (with_reducible first | exact HB.out | apply below_alloc | apply pw_below_drewN | apply below_drew1) | exact HB.out)) hb); clear HB; have HO160 := n0_; have HB := n1_; clear n0_ n1_; clear hb ho7; obtain ⟨Ao8, co8, eo8⟩ := Kd.R_slice HO160.out; subst eo8) | ((with_reducible refine gate_callee (f := 76) rfl ?_); refine goesL_ (some 10) rfl rfl Try.func76 (by kernel_rfl) rfl #[.slice Ao8 y158.length co8] rfl (by (try simp only [List.map_toArray, List.map_cons, List.map_nil]); first | done | rfl | (simp only [List.length_drop, List.length_take]; rfl)) ?_; (with_reducible refine (reckon_all.calls k _ _ y158 true _ ?side1 ?side2 A3.out).mono ?_); (case side1 => repeat (first | exact (Kd.R_reads' HO160.out).2.2 | (with_reducible refine Kd.C_alloc ?_ _) | (with_reducible refine Kd.C_drewN ?_ _) | (with_reducible refine Kd.C_drew ?_))); (case side2 => exact (Kd.R_reads' HO160.out).2.1); rintro e w' ⟨rfl, ⟨nd, rfl⟩⟩; refine ⟨_, rfl, ?_⟩))
      go_ret2
      exact ⟨by first | rfl | (simp [errW_none, errW_some] <;> rfl) | (simp [*, errW_none, errW_some] <;> rfl), by repeat (first | (with_reducible first | exact HB.out | apply below_alloc | apply pw_below_drewN | apply below_drew1) | exact HB.out)⟩
    · rw [if_neg c5] at H
      have c5b0 : decide ((wrap64 (4611686018427387903 - a1)) < a0) = false := decide_eq_false c5
      clear c5
      simp only [Option.some.injEq, Prod.mk.injEq] at H
      obtain ⟨rfl, rfl⟩ := H
      go_enter Try.func74, Try.ntmps74
      go_wp2_with (first | ((with_reducible refine gate_dst (N := 9) rfl ?_); refine Kd.R_lit (Kd.int .i64) _ 3 ?hg (N := 9) ?hd (xs := ([a0, a1] : List Int)) (inner := [.int .i64 a0, .int .i64 a1]) (ok := fun _ => True) (okp := fun _ => True) ?hr ?hp (fun _ hk => hk) trivial (Below.refl _ _) (Nat.le_refl _) (by simp) ?_; (case hd => rfl); (case hg => rfl); (case hr => first | (go_simp; done) | (go_simp; rfl)); (case hp => exact (Reps.one (show Kd.M (Kd.int .i64) _ _ _ a0 [.int .i64 a0] from rfl) (Reps.one (show Kd.M (Kd.int .i64) _ _ _ a1 [.int .i64 a1] from rfl) (Reps.none _ _)))); intro v159 w9 ho10 hb hg_ hnew_; clear hg_ hnew_; (first | rw [← Ny158.out] at ho10 | (simp only [Int.reduceToNat] at ho10; rw [← Ny158.out] at ho10)); have n0_ := Aside0.mk (Kd.R_lower ho10 (below_size (by repeat (first | (with_reducible first | exact HB.out | apply below_alloc | apply pw_below_drewN | apply below_drew1) | exact HB.out)))); have n1_ := Aside0.mk (below_step (by repeat (first | (with_reducible first | exact HB.out | apply below_alloc | apply pw_below_drewN | apply below_drew1) | exact HB.out)) hb); clear HB; have HO160 := n0_; have HB := n1_; clear n0_ n1_; clear hb ho10; obtain ⟨Ao11, co11, eo11⟩ := Kd.R_slice HO160.out; subst eo11) | ((with_reducible refine gate_callee (f := 76) rfl ?_); refine goesL_ (some 10) rfl rfl Try.func76 (by kernel_rfl) rfl #[.slice Ao11 y158.length co11] rfl (by (try simp only [List.map_toArray, List.map_cons, List.map_nil]); first | done | rfl | (simp only [List.length_drop, List.length_take]; rfl)) ?_; (with_reducible refine (reckon_all.calls k _ _ y158 true _ ?side1 ?side2 A3.out).mono ?_); (case side1 => repeat (first | exact (Kd.R_reads' HO160.out).2.2 | (with_reducible refine Kd.C_alloc ?_ _) | (with_reducible refine Kd.C_drewN ?_ _) | (with_reducible refine Kd.C_drew ?_))); (case side2 => exact (Kd.R_reads' HO160.out).2.1); rintro e w' ⟨rfl, ⟨nd, rfl⟩⟩; refine ⟨_, rfl, ?_⟩))
      go_ret2
      exact ⟨by first | rfl | (simp [errW_none, errW_some] <;> rfl) | (simp [*, errW_none, errW_some] <;> rfl), by repeat (first | (with_reducible first | exact HB.out | apply below_alloc | apply pw_below_drewN | apply below_drew1) | exact HB.out)⟩
  · replace c4 := Bool.eq_false_iff.mpr c4
    subst c4
    have H1 : (some (0, 2)) = some (r1, r2) := by rw [if_neg (show ¬ (false = true) by decide)] at H; exact H
    clear H
    have H := H1
    clear H1
    simp only [Option.some.injEq, Prod.mk.injEq] at H
    obtain ⟨rfl, rfl⟩ := H
    go_enter Try.func74, Try.ntmps74
    go_wp2_with (first | ((with_reducible refine gate_dst (N := 9) rfl ?_); refine Kd.R_lit (Kd.int .i64) _ 3 ?hg (N := 9) ?hd (xs := ([a0, a1] : List Int)) (inner := [.int .i64 a0, .int .i64 a1]) (ok := fun _ => True) (okp := fun _ => True) ?hr ?hp (fun _ hk => hk) trivial (Below.refl _ _) (Nat.le_refl _) (by simp) ?_; (case hd => rfl); (case hg => rfl); (case hr => first | (go_simp; done) | (go_simp; rfl)); (case hp => exact (Reps.one (show Kd.M (Kd.int .i64) _ _ _ a0 [.int .i64 a0] from rfl) (Reps.one (show Kd.M (Kd.int .i64) _ _ _ a1 [.int .i64 a1] from rfl) (Reps.none _ _)))); intro v159 w12 ho13 hb hg_ hnew_; clear hg_ hnew_; (first | rw [← Ny158.out] at ho13 | (simp only [Int.reduceToNat] at ho13; rw [← Ny158.out] at ho13)); have n0_ := Aside0.mk (Kd.R_lower ho13 (below_size (by repeat (first | (with_reducible first | exact HB.out | apply below_alloc | apply pw_below_drewN | apply below_drew1) | exact HB.out)))); have n1_ := Aside0.mk (below_step (by repeat (first | (with_reducible first | exact HB.out | apply below_alloc | apply pw_below_drewN | apply below_drew1) | exact HB.out)) hb); clear HB; have HO160 := n0_; have HB := n1_; clear n0_ n1_; clear hb ho13; obtain ⟨Ao14, co14, eo14⟩ := Kd.R_slice HO160.out; subst eo14) | ((with_reducible refine gate_callee (f := 76) rfl ?_); refine goesL_ (some 10) rfl rfl Try.func76 (by kernel_rfl) rfl #[.slice Ao14 y158.length co14] rfl (by (try simp only [List.map_toArray, List.map_cons, List.map_nil]); first | done | rfl | (simp only [List.length_drop, List.length_take]; rfl)) ?_; (with_reducible refine (reckon_all.calls k _ _ y158 false _ ?side1 ?side2 A3.out).mono ?_); (case side1 => repeat (first | exact (Kd.R_reads' HO160.out).2.2 | (with_reducible refine Kd.C_alloc ?_ _) | (with_reducible refine Kd.C_drewN ?_ _) | (with_reducible refine Kd.C_drew ?_))); (case side2 => exact (Kd.R_reads' HO160.out).2.1); rintro e w' ⟨rfl, ⟨nd, rfl⟩⟩; refine ⟨_, rfl, ?_⟩))
    go_ret2
    exact ⟨by first | rfl | (simp [errW_none, errW_some] <;> rfl) | (simp [*, errW_none, errW_some] <;> rfl), by repeat (first | (with_reducible first | exact HB.out | apply below_alloc | apply pw_below_drewN | apply below_drew1) | exact HB.out)⟩
def merge_Two.j0 : Nat → Bool → Int → Int → Int → List Int → Int → Int → Int → List Int → Option (Int × Int × Int × List Int × Bool)
  | 0, _, _, _, _, _, _, _, _, _ => none
  | k + 1, x45, x163000, x163001, x163002, x163003, x164000, x164001, x164002, x164003 => if x45 = true then (some (0, 0, 0, ([] : List Int), false)) else ((reckon_Add.f k x163002 x164002).bind fun bt166 => (if bt166.2 = 0 then (some (x163000, x163001, bt166.1, ([] : List Int), true)) else (some (0, 0, 0, ([] : List Int), false))))
def merge_Two.f (k : Nat) (a0_0 : Int) (a0_1 : Int) (a0_2 : Int) (l0_3 : List Int) (a1_0 : Int) (a1_1 : Int) (a1_2 : Int) (l1_3 : List Int) : Option (Int × Int × Int × List Int × Bool) := (merge_runs.f a0_0).bind fun t165 => (if t165 = true then (if a0_0 = a1_0 then (if a0_1 = a1_1 then (if (wrap64 ((l0_3.length : Int) + (l1_3.length : Int))) > 0 then (merge_Two.j0 k true a0_0 a0_1 a0_2 l0_3 a1_0 a1_1 a1_2 l1_3) else (if a0_2 < 1 then (merge_Two.j0 k true a0_0 a0_1 a0_2 l0_3 a1_0 a1_1 a1_2 l1_3) else (merge_Two.j0 k (decide (a1_2 < 1)) a0_0 a0_1 a0_2 l0_3 a1_0 a1_1 a1_2 l1_3))) else (merge_Two.j0 k true a0_0 a0_1 a0_2 l0_3 a1_0 a1_1 a1_2 l1_3)) else (merge_Two.j0 k true a0_0 a0_1 a0_2 l0_3 a1_0 a1_1 a1_2 l1_3)) else (merge_Two.j0 k true a0_0 a0_1 a0_2 l0_3 a1_0 a1_1 a1_2 l1_3))
set_option maxHeartbeats 8000000 in
set_option maxRecDepth 100000 in
theorem merge_Two.calls (k : Nat) (a0_0 : Int) (a0_1 : Int) (a0_2 : Int) (A0_3 : Option Addr) (c0_3 : Nat) (l0_3 : List Int) (a1_0 : Int) (a1_1 : Int) (a1_2 : Int) (A1_3 : Option Addr) (c1_3 : Nat) (l1_3 : List Int) (r1 : Int) (r2 : Int) (r3 : Int) (r4 : List Int) (r5 : Bool) (w : World) (hr0_3 : Kd.C (Kd.int .i64) w A0_3 l0_3.length l0_3) (hc0_3 : l0_3.length ≤ c0_3) (hr1_3 : Kd.C (Kd.int .i64) w A1_3 l1_3.length l1_3) (hc1_3 : l1_3.length ≤ c1_3) (h : merge_Two.f k a0_0 a0_1 a0_2 l0_3 a1_0 a1_1 a1_2 l1_3 = some (r1, r2, r3, r4, r5)) :
    Calls Try.prog 66 #[.agg #[.int .i64 a0_0, .int .i64 a0_1, .int .i64 a0_2, .slice A0_3 l0_3.length c0_3], .agg #[.int .i64 a1_0, .int .i64 a1_1, .int .i64 a1_2, .slice A1_3 l1_3.length c1_3]] w fun e w' => ∃ v3_ : Value, e = .returned (.tuple #[.agg #[.int .i64 r1, .int .i64 r2, .int .i64 r3, v3_], .bool r5]) ∧ Kd.R (Kd.int .i64) 3 w' w.heap.size (fun _ => True) v3_ r4 ∧ Below w.heap.size w w' := by
  have hu30 := Try.underlying30
  have HR0_3 := Aside0.mk hr0_3
  have HC0_3 := Aside0.mk hc0_3
  clear hr0_3 hc0_3
  have HR1_3 := Aside0.mk hr1_3
  have HC1_3 := Aside0.mk hc1_3
  clear hr1_3 hc1_3
  have HB := Aside0.mk (Below.refl w.heap.size w)
  have H : ((merge_runs.f a0_0).bind fun t165 => (if t165 = true then (if a0_0 = a1_0 then (if a0_1 = a1_1 then (if (wrap64 ((l0_3.length : Int) + (l1_3.length : Int))) > 0 then (merge_Two.j0 k true a0_0 a0_1 a0_2 l0_3 a1_0 a1_1 a1_2 l1_3) else (if a0_2 < 1 then (merge_Two.j0 k true a0_0 a0_1 a0_2 l0_3 a1_0 a1_1 a1_2 l1_3) else (merge_Two.j0 k (decide (a1_2 < 1)) a0_0 a0_1 a0_2 l0_3 a1_0 a1_1 a1_2 l1_3))) else (merge_Two.j0 k true a0_0 a0_1 a0_2 l0_3 a1_0 a1_1 a1_2 l1_3)) else (merge_Two.j0 k true a0_0 a0_1 a0_2 l0_3 a1_0 a1_1 a1_2 l1_3)) else (merge_Two.j0 k true a0_0 a0_1 a0_2 l0_3 a1_0 a1_1 a1_2 l1_3))) = some (r1, r2, r3, r4, r5) := h
  clear h
  have HC3 := Aside0.mk H
  clear H
  go_enter Try.func66, Try.ntmps66
  go_upto_region 1 with (first | ((with_reducible refine gate_dst (N := 2) rfl ?_); (try (refine gate_guard (by rfl) ?_; dsimp only)); refine box_event ?hg (N := 2) ?hd (cs := #[.int .i64 a0_0, .int .i64 a0_1, .int .i64 a0_2, .slice A0_3 l0_3.length c0_3]) (t := 30) ?hr ?_; (case hd => rfl); (case hg => rfl); (case hr => first | (go_simp; done) | (go_simp; rfl)); intro gb162 hg w4 hbox hb; have n0_ := Aside0.mk (below_step (by repeat (first | (with_reducible first | exact HB.out | apply below_alloc | apply pw_below_drewN | apply below_drew1) | exact HB.out)) hb); have n1_ := Aside0.mk (hbox); have n2_ := Aside0.mk ((by rw [hg]; exact (below_size (by repeat (first | (with_reducible first | exact HB.out | apply below_alloc | apply pw_below_drewN | apply below_drew1) | exact HB.out))) : w.heap.size ≤ gb162)); have n3_ := Aside0.mk ((by rw [hg]; exact (below_size (by repeat (first | (with_reducible first | exact HB.out | apply below_alloc | apply pw_below_drewN | apply below_drew1) | exact HB.out))) : w.heap.size ≤ gb162)); clear HB; have HB := n0_; have BK162 := n1_; have GW162 := n2_; have GE162 := n3_; clear n0_ n1_ n2_ n3_; clear hb hbox hg) | ((with_reducible refine gate_dst (N := 3) rfl ?_); (try (refine gate_guard (by rfl) ?_; dsimp only)); refine box_event ?hg (N := 3) ?hd (cs := #[.int .i64 a1_0, .int .i64 a1_1, .int .i64 a1_2, .slice A1_3 l1_3.length c1_3]) (t := 30) ?hr ?_; (case hd => rfl); (case hg => rfl); (case hr => first | (go_simp; done) | (go_simp; rfl)); intro gb163 hg w5 hbox hb; have n0_ := Aside0.mk (blk_below (g := gb162) (o := .cells #[.int .i64 a0_0, .int .i64 a0_1, .int .i64 a0_2, .slice A0_3 l0_3.length c0_3] 30 (0, 0)) (by (with_reducible repeat (first | refine blk_drewN ?_ _ | refine blk_drew ?_ | refine blk_alloc ?_ _)); exact BK162.out) hb); have n1_ := Aside0.mk (below_step (by repeat (first | (with_reducible first | exact HB.out | apply below_alloc | apply pw_below_drewN | apply below_drew1 | refine below_set ?_ GE162.out) | exact HB.out)) hb); have n2_ := Aside0.mk (hbox); have n3_ := Aside0.mk ((by rw [hg]; exact (below_size (by repeat (first | (with_reducible first | exact HB.out | apply below_alloc | apply pw_below_drewN | apply below_drew1 | refine below_set ?_ GE162.out) | exact HB.out))) : w.heap.size ≤ gb163)); have n4_ := Aside0.mk ((by rw [hg]; exact (below_size (by repeat (first | (with_reducible first | exact HB.out | apply below_alloc | apply pw_below_drewN | apply below_drew1 | refine below_set ?_ GE162.out) | exact HB.out))) : w.heap.size ≤ gb163)); have n5_ := Aside0.mk ((by rw [hg]; exact Nat.ne_of_lt (blk_lt (g := gb162) (o := .cells #[.int .i64 a0_0, .int .i64 a0_1, .int .i64 a0_2, .slice A0_3 l0_3.length c0_3] 30 (0, 0)) (by (with_reducible repeat (first | refine blk_drewN ?_ _ | refine blk_drew ?_ | refine blk_alloc ?_ _)); exact BK162.out)) : gb162 ≠ gb163)); have n6_ := Aside0.mk ((by rw [hg]; exact Nat.ne_of_gt (blk_lt (g := gb162) (o := .cells #[.int .i64 a0_0, .int .i64 a0_1, .int .i64 a0_2, .slice A0_3 l0_3.length c0_3] 30 (0, 0)) (by (with_reducible repeat (first | refine blk_drewN ?_ _ | refine blk_drew ?_ | refine blk_alloc ?_ _)); exact BK162.out)) : gb163 ≠ gb162)); clear BK162; clear HB; have BK162 := n0_; have HB := n1_; have BK163 := n2_; have GW163 := n3_; have GE163 := n4_; have NB162_163 := n5_; have NB163_162 := n6_; clear n0_ n1_ n2_ n3_ n4_ n5_ n6_; clear hb hbox hg) | ((with_reducible refine gate_dst (N := 4) rfl ?_); (try (refine gate_guard (by rfl) ?_; dsimp only)); refine box_event ?hg (N := 4) ?hd (cs := #[.int .i64 0, .int .i64 0, .int .i64 0, .slice none 0 0]) (t := 30) ?hr ?_; (case hd => rfl); (case hg => rfl); (case hr => first | (go_simp; done) | (go_simp; rfl)); intro gb164 hg w6 hbox hb; have n0_ := Aside0.mk (blk_below (g := gb162) (o := .cells #[.int .i64 a0_0, .int .i64 a0_1, .int .i64 a0_2, .slice A0_3 l0_3.length c0_3] 30 (0, 0)) (by (with_reducible repeat (first | refine blk_drewN ?_ _ | refine blk_drew ?_ | refine blk_alloc ?_ _)); exact BK162.out) hb); have n1_ := Aside0.mk (blk_below (g := gb163) (o := .cells #[.int .i64 a1_0, .int .i64 a1_1, .int .i64 a1_2, .slice A1_3 l1_3.length c1_3] 30 (0, 0)) (by (with_reducible repeat (first | refine blk_drewN ?_ _ | refine blk_drew ?_ | refine blk_alloc ?_ _)); exact BK163.out) hb); have n2_ := Aside0.mk (below_step (by repeat (first | (with_reducible first | exact HB.out | apply below_alloc | apply pw_below_drewN | apply below_drew1 | refine below_set ?_ GE162.out | refine below_set ?_ GE163.out) | exact HB.out)) hb); have n3_ := Aside0.mk (hbox); have n4_ := Aside0.mk ((by rw [hg]; exact (below_size (by repeat (first | (with_reducible first | exact HB.out | apply below_alloc | apply pw_below_drewN | apply below_drew1 | refine below_set ?_ GE162.out | refine below_set ?_ GE163.out) | exact HB.out))) : w.heap.size ≤ gb164)); have n5_ := Aside0.mk ((by rw [hg]; exact (below_size (by repeat (first | (with_reducible first | exact HB.out | apply below_alloc | apply pw_below_drewN | apply below_drew1 | refine below_set ?_ GE162.out | refine below_set ?_ GE163.out) | exact HB.out))) : w.heap.size ≤ gb164)); have n6_ := Aside0.mk ((by rw [hg]; exact Nat.ne_of_lt (blk_lt (g := gb162) (o := .cells #[.int .i64 a0_0, .int .i64 a0_1, .int .i64 a0_2, .slice A0_3 l0_3.length c0_3] 30 (0, 0)) (by (with_reducible repeat (first | refine blk_drewN ?_ _ | refine blk_drew ?_ | refine blk_alloc ?_ _)); exact BK162.out)) : gb162 ≠ gb164)); have n7_ := Aside0.mk ((by rw [hg]; exact Nat.ne_of_gt (blk_lt (g := gb162) (o := .cells #[.int .i64 a0_0, .int .i64 a0_1, .int .i64 a0_2, .slice A0_3 l0_3.length c0_3] 30 (0, 0)) (by (with_reducible repeat (first | refine blk_drewN ?_ _ | refine blk_drew ?_ | refine blk_alloc ?_ _)); exact BK162.out)) : gb164 ≠ gb162)); have n8_ := Aside0.mk ((by rw [hg]; exact Nat.ne_of_lt (blk_lt (g := gb163) (o := .cells #[.int .i64 a1_0, .int .i64 a1_1, .int .i64 a1_2, .slice A1_3 l1_3.length c1_3] 30 (0, 0)) (by (with_reducible repeat (first | refine blk_drewN ?_ _ | refine blk_drew ?_ | refine blk_alloc ?_ _)); exact BK163.out)) : gb163 ≠ gb164)); have n9_ := Aside0.mk ((by rw [hg]; exact Nat.ne_of_gt (blk_lt (g := gb163) (o := .cells #[.int .i64 a1_0, .int .i64 a1_1, .int .i64 a1_2, .slice A1_3 l1_3.length c1_3] 30 (0, 0)) (by (with_reducible repeat (first | refine blk_drewN ?_ _ | refine blk_drew ?_ | refine blk_alloc ?_ _)); exact BK163.out)) : gb164 ≠ gb163)); clear BK162; clear BK163; clear HB; have BK162 := n0_; have BK163 := n1_; have HB := n2_; have BK164 := n3_; have GW164 := n4_; have GE164 := n5_; have NB162_164 := n6_; have NB164_162 := n7_; have NB163_164 := n8_; have NB164_163 := n9_; clear n0_ n1_ n2_ n3_ n4_ n5_ n6_ n7_ n8_ n9_; clear hb hbox hg))
  (try simp only [Act.put, List.setIfInBounds_toArray, List.set_cons_zero, List.set_cons_succ])
  go_cut [45] (fun v45 wc => ∃ (kq : Nat) (x45_2 : Bool), v45 = .bool x45_2 ∧ Aside0 (merge_Two.j0 kq x45_2 a0_0 a0_1 a0_2 l0_3 a1_0 a1_1 a1_2 l1_3 = some (r1, r2, r3, r4, r5)) ∧ Aside0 (kq ≤ k) ∧ Aside0 (wc.heap[gb162]? = some (.cells #[.int .i64 a0_0, .int .i64 a0_1, .int .i64 a0_2, (.slice A0_3 l0_3.length c0_3)] 30 (0, 0))) ∧ Aside0 (wc.heap[gb163]? = some (.cells #[.int .i64 a1_0, .int .i64 a1_1, .int .i64 a1_2, (.slice A1_3 l1_3.length c1_3)] 30 (0, 0))) ∧ Aside0 (wc.heap[gb164]? = some (.cells #[.int .i64 0, .int .i64 0, .int .i64 0, (.slice none 0 0)] 30 (0, 0))) ∧ Aside0 (Below w.heap.size w wc))
  case first =>
    have H := HC3.out
    clear HC3
    replace H := Option.bind_eq_some_iff.mp H
    obtain ⟨t165, A70, H⟩ := H
    replace H : (if t165 = true then (if a0_0 = a1_0 then (if a0_1 = a1_1 then (if (wrap64 ((l0_3.length : Int) + (l1_3.length : Int))) > 0 then (merge_Two.j0 k true a0_0 a0_1 a0_2 l0_3 a1_0 a1_1 a1_2 l1_3) else (if a0_2 < 1 then (merge_Two.j0 k true a0_0 a0_1 a0_2 l0_3 a1_0 a1_1 a1_2 l1_3) else (merge_Two.j0 k (decide (a1_2 < 1)) a0_0 a0_1 a0_2 l0_3 a1_0 a1_1 a1_2 l1_3))) else (merge_Two.j0 k true a0_0 a0_1 a0_2 l0_3 a1_0 a1_1 a1_2 l1_3)) else (merge_Two.j0 k true a0_0 a0_1 a0_2 l0_3 a1_0 a1_1 a1_2 l1_3)) else (merge_Two.j0 k true a0_0 a0_1 a0_2 l0_3 a1_0 a1_1 a1_2 l1_3)) = some (r1, r2, r3, r4, r5) := H
    have A7 := Aside0.mk A70
    clear A70
    by_cases c8 : t165 = true
    · subst c8
      have H1 : (if a0_0 = a1_0 then (if a0_1 = a1_1 then (if (wrap64 ((l0_3.length : Int) + (l1_3.length : Int))) > 0 then (merge_Two.j0 k true a0_0 a0_1 a0_2 l0_3 a1_0 a1_1 a1_2 l1_3) else (if a0_2 < 1 then (merge_Two.j0 k true a0_0 a0_1 a0_2 l0_3 a1_0 a1_1 a1_2 l1_3) else (merge_Two.j0 k (decide (a1_2 < 1)) a0_0 a0_1 a0_2 l0_3 a1_0 a1_1 a1_2 l1_3))) else (merge_Two.j0 k true a0_0 a0_1 a0_2 l0_3 a1_0 a1_1 a1_2 l1_3)) else (merge_Two.j0 k true a0_0 a0_1 a0_2 l0_3 a1_0 a1_1 a1_2 l1_3)) = some (r1, r2, r3, r4, r5) := by rw [if_pos rfl] at H; exact H
      clear H
      have H := H1
      clear H1
      by_cases c9 : a0_0 = a1_0
      · rw [if_pos c9] at H
        have c9b0 : (a0_0 == a1_0) = true := beq_iff_eq.mpr c9
        have c9b1 : (a0_0 != a1_0) = false := bne_eq_false_iff_eq.mpr c9
        clear c9
        (first | rw [c9b0] | (simp only [i64_w, i32_w]; rw [c9b0]) | skip)
        by_cases c10 : a0_1 = a1_1
        · rw [if_pos c10] at H
          have c10b0 : (a0_1 == a1_1) = true := beq_iff_eq.mpr c10
          have c10b1 : (a0_1 != a1_1) = false := bne_eq_false_iff_eq.mpr c10
          clear c10
          by_cases c11 : (wrap64 ((l0_3.length : Int) + (l1_3.length : Int))) > 0
          · rw [if_pos c11] at H
            have c11b0 : decide (0 < (wrap64 ((l0_3.length : Int) + (l1_3.length : Int)))) = true := decide_eq_true c11
            clear c11
            have H' := Aside0.mk H
            clear H
            have hnb12 := NB162_163.out
            have hnc12 := NB163_162.out
            have hnb13 := NB162_164.out
            have hnc13 := NB164_162.out
            have hcz14_0 : w6.cell? ⟨gb162, 0, none⟩ = some (.int .i64 a0_0) := (blk_cell BK162.out 0).trans rfl
            have hcz14_1 : w6.cell? ⟨gb162, 1, none⟩ = some (.int .i64 a0_1) := (blk_cell BK162.out 1).trans rfl
            have hcz14_2 : w6.cell? ⟨gb162, 2, none⟩ = some (.int .i64 a0_2) := (blk_cell BK162.out 2).trans rfl
            have hcz14_3 : w6.cell? ⟨gb162, 3, none⟩ = some (.slice A0_3 l0_3.length c0_3) := (blk_cell BK162.out 3).trans rfl
            have hfz14_0 := blk_frozen BK162.out 0
            have hfz14_1 := blk_frozen BK162.out 1
            have hfz14_2 := blk_frozen BK162.out 2
            have hfz14_3 := blk_frozen BK162.out 3
            go_wp2_with (first | ((with_reducible refine gate_callee (f := 73) rfl ?_); refine goesL_ (some 10) rfl rfl Try.func73 (by kernel_rfl) rfl #[.int .i64 a0_0] rfl (by (try simp only [List.map_toArray, List.map_cons, List.map_nil]); first | done | rfl | (simp only [List.length_drop, List.length_take]; rfl)) ?_; (with_reducible refine (merge_runs.calls a0_0 true _ A7.out).mono ?_); rintro e w' ⟨rfl, ⟨nd, rfl⟩⟩; refine ⟨_, rfl, ?_⟩; have hnb15 := NB163_164.out; have hnc15 := NB164_163.out; have hcz16_0 : w6.cell? ⟨gb163, 0, none⟩ = some (.int .i64 a1_0) := (blk_cell BK163.out 0).trans rfl; have hcz16_1 : w6.cell? ⟨gb163, 1, none⟩ = some (.int .i64 a1_1) := (blk_cell BK163.out 1).trans rfl; have hcz16_2 : w6.cell? ⟨gb163, 2, none⟩ = some (.int .i64 a1_2) := (blk_cell BK163.out 2).trans rfl; have hcz16_3 : w6.cell? ⟨gb163, 3, none⟩ = some (.slice A1_3 l1_3.length c1_3) := (blk_cell BK163.out 3).trans rfl; have hfz16_0 := blk_frozen BK163.out 0; have hfz16_1 := blk_frozen BK163.out 1; have hfz16_2 := blk_frozen BK163.out 2; have hfz16_3 := blk_frozen BK163.out 3))
            go_meet
            case rel => exact ⟨_, (true), (by first | rfl | (simp; done) | (simp [*]; done)), H', ⟨by first | omega | exact Nat.le_refl _⟩, ⟨by (with_reducible repeat (first | refine blk_drewN ?_ _ | refine blk_drew ?_ | refine blk_alloc ?_ _)); exact BK162.out⟩, ⟨by (with_reducible repeat (first | refine blk_drewN ?_ _ | refine blk_drew ?_ | refine blk_alloc ?_ _)); exact BK163.out⟩, ⟨by (with_reducible repeat (first | refine blk_drewN ?_ _ | refine blk_drew ?_ | refine blk_alloc ?_ _)); exact BK164.out⟩, ⟨by repeat (first | (with_reducible first | exact HB.out | apply below_alloc | apply pw_below_drewN | apply below_drew1 | refine below_set ?_ GE162.out | refine below_set ?_ GE163.out | refine below_set ?_ GE164.out) | exact HB.out)⟩⟩
          · rw [if_neg c11] at H
            have c11b0 : decide (0 < (wrap64 ((l0_3.length : Int) + (l1_3.length : Int)))) = false := decide_eq_false c11
            clear c11
            by_cases c17 : a0_2 < 1
            · rw [if_pos c17] at H
              have c17b0 : decide (a0_2 < 1) = true := decide_eq_true c17
              clear c17
              have H' := Aside0.mk H
              clear H
              have hnb18 := NB162_163.out
              have hnc18 := NB163_162.out
              have hnb19 := NB162_164.out
              have hnc19 := NB164_162.out
              have hcz20_0 : w6.cell? ⟨gb162, 0, none⟩ = some (.int .i64 a0_0) := (blk_cell BK162.out 0).trans rfl
              have hcz20_1 : w6.cell? ⟨gb162, 1, none⟩ = some (.int .i64 a0_1) := (blk_cell BK162.out 1).trans rfl
              have hcz20_2 : w6.cell? ⟨gb162, 2, none⟩ = some (.int .i64 a0_2) := (blk_cell BK162.out 2).trans rfl
              have hcz20_3 : w6.cell? ⟨gb162, 3, none⟩ = some (.slice A0_3 l0_3.length c0_3) := (blk_cell BK162.out 3).trans rfl
              have hfz20_0 := blk_frozen BK162.out 0
              have hfz20_1 := blk_frozen BK162.out 1
              have hfz20_2 := blk_frozen BK162.out 2
              have hfz20_3 := blk_frozen BK162.out 3
              go_wp2_with (first | ((with_reducible refine gate_callee (f := 73) rfl ?_); refine goesL_ (some 10) rfl rfl Try.func73 (by kernel_rfl) rfl #[.int .i64 a0_0] rfl (by (try simp only [List.map_toArray, List.map_cons, List.map_nil]); first | done | rfl | (simp only [List.length_drop, List.length_take]; rfl)) ?_; (with_reducible refine (merge_runs.calls a0_0 true _ A7.out).mono ?_); rintro e w' ⟨rfl, ⟨nd, rfl⟩⟩; refine ⟨_, rfl, ?_⟩; have hnb21 := NB163_164.out; have hnc21 := NB164_163.out; have hcz22_0 : w6.cell? ⟨gb163, 0, none⟩ = some (.int .i64 a1_0) := (blk_cell BK163.out 0).trans rfl; have hcz22_1 : w6.cell? ⟨gb163, 1, none⟩ = some (.int .i64 a1_1) := (blk_cell BK163.out 1).trans rfl; have hcz22_2 : w6.cell? ⟨gb163, 2, none⟩ = some (.int .i64 a1_2) := (blk_cell BK163.out 2).trans rfl; have hcz22_3 : w6.cell? ⟨gb163, 3, none⟩ = some (.slice A1_3 l1_3.length c1_3) := (blk_cell BK163.out 3).trans rfl; have hfz22_0 := blk_frozen BK163.out 0; have hfz22_1 := blk_frozen BK163.out 1; have hfz22_2 := blk_frozen BK163.out 2; have hfz22_3 := blk_frozen BK163.out 3))
              go_meet
              case rel => exact ⟨_, (true), (by first | rfl | (simp; done) | (simp [*]; done)), H', ⟨by first | omega | exact Nat.le_refl _⟩, ⟨by (with_reducible repeat (first | refine blk_drewN ?_ _ | refine blk_drew ?_ | refine blk_alloc ?_ _)); exact BK162.out⟩, ⟨by (with_reducible repeat (first | refine blk_drewN ?_ _ | refine blk_drew ?_ | refine blk_alloc ?_ _)); exact BK163.out⟩, ⟨by (with_reducible repeat (first | refine blk_drewN ?_ _ | refine blk_drew ?_ | refine blk_alloc ?_ _)); exact BK164.out⟩, ⟨by repeat (first | (with_reducible first | exact HB.out | apply below_alloc | apply pw_below_drewN | apply below_drew1 | refine below_set ?_ GE162.out | refine below_set ?_ GE163.out | refine below_set ?_ GE164.out) | exact HB.out)⟩⟩
            · rw [if_neg c17] at H
              have c17b0 : decide (a0_2 < 1) = false := decide_eq_false c17
              clear c17
              have H' := Aside0.mk H
              clear H
              have hnb23 := NB162_163.out
              have hnc23 := NB163_162.out
              have hnb24 := NB162_164.out
              have hnc24 := NB164_162.out
              have hcz25_0 : w6.cell? ⟨gb162, 0, none⟩ = some (.int .i64 a0_0) := (blk_cell BK162.out 0).trans rfl
              have hcz25_1 : w6.cell? ⟨gb162, 1, none⟩ = some (.int .i64 a0_1) := (blk_cell BK162.out 1).trans rfl
              have hcz25_2 : w6.cell? ⟨gb162, 2, none⟩ = some (.int .i64 a0_2) := (blk_cell BK162.out 2).trans rfl
              have hcz25_3 : w6.cell? ⟨gb162, 3, none⟩ = some (.slice A0_3 l0_3.length c0_3) := (blk_cell BK162.out 3).trans rfl
              have hfz25_0 := blk_frozen BK162.out 0
              have hfz25_1 := blk_frozen BK162.out 1
              have hfz25_2 := blk_frozen BK162.out 2
              have hfz25_3 := blk_frozen BK162.out 3
              go_wp2_with (first | ((with_reducible refine gate_callee (f := 73) rfl ?_); refine goesL_ (some 10) rfl rfl Try.func73 (by kernel_rfl) rfl #[.int .i64 a0_0] rfl (by (try simp only [List.map_toArray, List.map_cons, List.map_nil]); first | done | rfl | (simp only [List.length_drop, List.length_take]; rfl)) ?_; (with_reducible refine (merge_runs.calls a0_0 true _ A7.out).mono ?_); rintro e w' ⟨rfl, ⟨nd, rfl⟩⟩; refine ⟨_, rfl, ?_⟩; have hnb26 := NB163_164.out; have hnc26 := NB164_163.out; have hcz27_0 : w6.cell? ⟨gb163, 0, none⟩ = some (.int .i64 a1_0) := (blk_cell BK163.out 0).trans rfl; have hcz27_1 : w6.cell? ⟨gb163, 1, none⟩ = some (.int .i64 a1_1) := (blk_cell BK163.out 1).trans rfl; have hcz27_2 : w6.cell? ⟨gb163, 2, none⟩ = some (.int .i64 a1_2) := (blk_cell BK163.out 2).trans rfl; have hcz27_3 : w6.cell? ⟨gb163, 3, none⟩ = some (.slice A1_3 l1_3.length c1_3) := (blk_cell BK163.out 3).trans rfl; have hfz27_0 := blk_frozen BK163.out 0; have hfz27_1 := blk_frozen BK163.out 1; have hfz27_2 := blk_frozen BK163.out 2; have hfz27_3 := blk_frozen BK163.out 3))
              go_meet
              case rel => exact ⟨_, (decide (a1_2 < 1)), (by first | rfl | (simp; done) | (simp [*]; done)), H', ⟨by first | omega | exact Nat.le_refl _⟩, ⟨by (with_reducible repeat (first | refine blk_drewN ?_ _ | refine blk_drew ?_ | refine blk_alloc ?_ _)); exact BK162.out⟩, ⟨by (with_reducible repeat (first | refine blk_drewN ?_ _ | refine blk_drew ?_ | refine blk_alloc ?_ _)); exact BK163.out⟩, ⟨by (with_reducible repeat (first | refine blk_drewN ?_ _ | refine blk_drew ?_ | refine blk_alloc ?_ _)); exact BK164.out⟩, ⟨by repeat (first | (with_reducible first | exact HB.out | apply below_alloc | apply pw_below_drewN | apply below_drew1 | refine below_set ?_ GE162.out | refine below_set ?_ GE163.out | refine below_set ?_ GE164.out) | exact HB.out)⟩⟩
        · rw [if_neg c10] at H
          have c10b0 : (a0_1 == a1_1) = false := beq_eq_false_iff_ne.mpr c10
          have c10b1 : (a0_1 != a1_1) = true := bne_iff_ne.mpr c10
          have H' := Aside0.mk H
          clear H
          have hnb28 := NB162_163.out
          have hnc28 := NB163_162.out
          have hnb29 := NB162_164.out
          have hnc29 := NB164_162.out
          have hcz30_0 : w6.cell? ⟨gb162, 0, none⟩ = some (.int .i64 a0_0) := (blk_cell BK162.out 0).trans rfl
          have hcz30_1 : w6.cell? ⟨gb162, 1, none⟩ = some (.int .i64 a0_1) := (blk_cell BK162.out 1).trans rfl
          have hcz30_2 : w6.cell? ⟨gb162, 2, none⟩ = some (.int .i64 a0_2) := (blk_cell BK162.out 2).trans rfl
          have hcz30_3 : w6.cell? ⟨gb162, 3, none⟩ = some (.slice A0_3 l0_3.length c0_3) := (blk_cell BK162.out 3).trans rfl
          have hfz30_0 := blk_frozen BK162.out 0
          have hfz30_1 := blk_frozen BK162.out 1
          have hfz30_2 := blk_frozen BK162.out 2
          have hfz30_3 := blk_frozen BK162.out 3
          go_wp2_with (first | ((with_reducible refine gate_callee (f := 73) rfl ?_); refine goesL_ (some 10) rfl rfl Try.func73 (by kernel_rfl) rfl #[.int .i64 a0_0] rfl (by (try simp only [List.map_toArray, List.map_cons, List.map_nil]); first | done | rfl | (simp only [List.length_drop, List.length_take]; rfl)) ?_; (with_reducible refine (merge_runs.calls a0_0 true _ A7.out).mono ?_); rintro e w' ⟨rfl, ⟨nd, rfl⟩⟩; refine ⟨_, rfl, ?_⟩; have hnb31 := NB163_164.out; have hnc31 := NB164_163.out; have hcz32_0 : w6.cell? ⟨gb163, 0, none⟩ = some (.int .i64 a1_0) := (blk_cell BK163.out 0).trans rfl; have hcz32_1 : w6.cell? ⟨gb163, 1, none⟩ = some (.int .i64 a1_1) := (blk_cell BK163.out 1).trans rfl; have hcz32_2 : w6.cell? ⟨gb163, 2, none⟩ = some (.int .i64 a1_2) := (blk_cell BK163.out 2).trans rfl; have hcz32_3 : w6.cell? ⟨gb163, 3, none⟩ = some (.slice A1_3 l1_3.length c1_3) := (blk_cell BK163.out 3).trans rfl; have hfz32_0 := blk_frozen BK163.out 0; have hfz32_1 := blk_frozen BK163.out 1; have hfz32_2 := blk_frozen BK163.out 2; have hfz32_3 := blk_frozen BK163.out 3))
          go_meet
          case rel => exact ⟨_, (true), (by first | rfl | (simp; done) | (simp [*]; done)), H', ⟨by first | omega | exact Nat.le_refl _⟩, ⟨by (with_reducible repeat (first | refine blk_drewN ?_ _ | refine blk_drew ?_ | refine blk_alloc ?_ _)); exact BK162.out⟩, ⟨by (with_reducible repeat (first | refine blk_drewN ?_ _ | refine blk_drew ?_ | refine blk_alloc ?_ _)); exact BK163.out⟩, ⟨by (with_reducible repeat (first | refine blk_drewN ?_ _ | refine blk_drew ?_ | refine blk_alloc ?_ _)); exact BK164.out⟩, ⟨by repeat (first | (with_reducible first | exact HB.out | apply below_alloc | apply pw_below_drewN | apply below_drew1 | refine below_set ?_ GE162.out | refine below_set ?_ GE163.out | refine below_set ?_ GE164.out) | exact HB.out)⟩⟩
      · rw [if_neg c9] at H
        have c9b0 : (a0_0 == a1_0) = false := beq_eq_false_iff_ne.mpr c9
        have c9b1 : (a0_0 != a1_0) = true := bne_iff_ne.mpr c9
        (first | rw [c9b0] | (simp only [i64_w, i32_w]; rw [c9b0]) | skip)
        have H' := Aside0.mk H
        clear H
        have hnb33 := NB162_163.out
        have hnc33 := NB163_162.out
        have hnb34 := NB162_164.out
        have hnc34 := NB164_162.out
        have hcz35_0 : w6.cell? ⟨gb162, 0, none⟩ = some (.int .i64 a0_0) := (blk_cell BK162.out 0).trans rfl
        have hcz35_1 : w6.cell? ⟨gb162, 1, none⟩ = some (.int .i64 a0_1) := (blk_cell BK162.out 1).trans rfl
        have hcz35_2 : w6.cell? ⟨gb162, 2, none⟩ = some (.int .i64 a0_2) := (blk_cell BK162.out 2).trans rfl
        have hcz35_3 : w6.cell? ⟨gb162, 3, none⟩ = some (.slice A0_3 l0_3.length c0_3) := (blk_cell BK162.out 3).trans rfl
        have hfz35_0 := blk_frozen BK162.out 0
        have hfz35_1 := blk_frozen BK162.out 1
        have hfz35_2 := blk_frozen BK162.out 2
        have hfz35_3 := blk_frozen BK162.out 3
        go_wp2_with (first | ((with_reducible refine gate_callee (f := 73) rfl ?_); refine goesL_ (some 10) rfl rfl Try.func73 (by kernel_rfl) rfl #[.int .i64 a0_0] rfl (by (try simp only [List.map_toArray, List.map_cons, List.map_nil]); first | done | rfl | (simp only [List.length_drop, List.length_take]; rfl)) ?_; (with_reducible refine (merge_runs.calls a0_0 true _ A7.out).mono ?_); rintro e w' ⟨rfl, ⟨nd, rfl⟩⟩; refine ⟨_, rfl, ?_⟩; have hnb36 := NB163_164.out; have hnc36 := NB164_163.out; have hcz37_0 : w6.cell? ⟨gb163, 0, none⟩ = some (.int .i64 a1_0) := (blk_cell BK163.out 0).trans rfl; have hcz37_1 : w6.cell? ⟨gb163, 1, none⟩ = some (.int .i64 a1_1) := (blk_cell BK163.out 1).trans rfl; have hcz37_2 : w6.cell? ⟨gb163, 2, none⟩ = some (.int .i64 a1_2) := (blk_cell BK163.out 2).trans rfl; have hcz37_3 : w6.cell? ⟨gb163, 3, none⟩ = some (.slice A1_3 l1_3.length c1_3) := (blk_cell BK163.out 3).trans rfl; have hfz37_0 := blk_frozen BK163.out 0; have hfz37_1 := blk_frozen BK163.out 1; have hfz37_2 := blk_frozen BK163.out 2; have hfz37_3 := blk_frozen BK163.out 3))
        go_meet
        case rel => exact ⟨_, (true), (by first | rfl | (simp; done) | (simp [*]; done)), H', ⟨by first | omega | exact Nat.le_refl _⟩, ⟨by (with_reducible repeat (first | refine blk_drewN ?_ _ | refine blk_drew ?_ | refine blk_alloc ?_ _)); exact BK162.out⟩, ⟨by (with_reducible repeat (first | refine blk_drewN ?_ _ | refine blk_drew ?_ | refine blk_alloc ?_ _)); exact BK163.out⟩, ⟨by (with_reducible repeat (first | refine blk_drewN ?_ _ | refine blk_drew ?_ | refine blk_alloc ?_ _)); exact BK164.out⟩, ⟨by repeat (first | (with_reducible first | exact HB.out | apply below_alloc | apply pw_below_drewN | apply below_drew1 | refine below_set ?_ GE162.out | refine below_set ?_ GE163.out | refine below_set ?_ GE164.out) | exact HB.out)⟩⟩
    · replace c8 := Bool.eq_false_iff.mpr c8
      subst c8
      have H1 : (merge_Two.j0 k true a0_0 a0_1 a0_2 l0_3 a1_0 a1_1 a1_2 l1_3) = some (r1, r2, r3, r4, r5) := by rw [if_neg (show ¬ (false = true) by decide)] at H; exact H
      clear H
      have H := H1
      clear H1
      have H' := Aside0.mk H
      clear H
      have hnb38 := NB162_163.out
      have hnc38 := NB163_162.out
      have hnb39 := NB162_164.out
      have hnc39 := NB164_162.out
      have hcz40_0 : w6.cell? ⟨gb162, 0, none⟩ = some (.int .i64 a0_0) := (blk_cell BK162.out 0).trans rfl
      have hcz40_1 : w6.cell? ⟨gb162, 1, none⟩ = some (.int .i64 a0_1) := (blk_cell BK162.out 1).trans rfl
      have hcz40_2 : w6.cell? ⟨gb162, 2, none⟩ = some (.int .i64 a0_2) := (blk_cell BK162.out 2).trans rfl
      have hcz40_3 : w6.cell? ⟨gb162, 3, none⟩ = some (.slice A0_3 l0_3.length c0_3) := (blk_cell BK162.out 3).trans rfl
      have hfz40_0 := blk_frozen BK162.out 0
      have hfz40_1 := blk_frozen BK162.out 1
      have hfz40_2 := blk_frozen BK162.out 2
      have hfz40_3 := blk_frozen BK162.out 3
      go_wp2_with (first | ((with_reducible refine gate_callee (f := 73) rfl ?_); refine goesL_ (some 10) rfl rfl Try.func73 (by kernel_rfl) rfl #[.int .i64 a0_0] rfl (by (try simp only [List.map_toArray, List.map_cons, List.map_nil]); first | done | rfl | (simp only [List.length_drop, List.length_take]; rfl)) ?_; (with_reducible refine (merge_runs.calls a0_0 false _ A7.out).mono ?_); rintro e w' ⟨rfl, ⟨nd, rfl⟩⟩; refine ⟨_, rfl, ?_⟩))
      go_meet
      case rel => exact ⟨_, (true), (by first | rfl | (simp; done) | (simp [*]; done)), H', ⟨by first | omega | exact Nat.le_refl _⟩, ⟨by (with_reducible repeat (first | refine blk_drewN ?_ _ | refine blk_drew ?_ | refine blk_alloc ?_ _)); exact BK162.out⟩, ⟨by (with_reducible repeat (first | refine blk_drewN ?_ _ | refine blk_drew ?_ | refine blk_alloc ?_ _)); exact BK163.out⟩, ⟨by (with_reducible repeat (first | refine blk_drewN ?_ _ | refine blk_drew ?_ | refine blk_alloc ?_ _)); exact BK164.out⟩, ⟨by repeat (first | (with_reducible first | exact HB.out | apply below_alloc | apply pw_below_drewN | apply below_drew1 | refine below_set ?_ GE162.out | refine below_set ?_ GE163.out | refine below_set ?_ GE164.out) | exact HB.out)⟩⟩
  case rest =>
    clear HC3
    try clear c1
    try clear c2
    try clear p2
    try clear c3
    try clear c6
    try clear p6
    try clear c7
    try clear c8
    try clear c9
    try clear c9b0
    try clear c9b1
    try clear c10
    try clear c10b0
    try clear c10b1
    try clear c11
    try clear c11b0
    try clear c12
    try clear c13
    try clear c15
    try clear c17
    try clear c17b0
    try clear c18
    try clear c19
    try clear c21
    try clear c23
    try clear c24
    try clear c26
    try clear c28
    try clear c29
    try clear c31
    try clear c33
    try clear c34
    try clear c36
    try clear c38
    try clear c39
    try clear hcz14_0
    try clear hcz14_1
    try clear hcz14_2
    try clear hcz14_3
    try clear hcz16_0
    try clear hcz16_1
    try clear hcz16_2
    try clear hcz16_3
    try clear hcz20_0
    try clear hcz20_1
    try clear hcz20_2
    try clear hcz20_3
    try clear hcz22_0
    try clear hcz22_1
    try clear hcz22_2
    try clear hcz22_3
    try clear hcz25_0
    try clear hcz25_1
    try clear hcz25_2
    try clear hcz25_3
    try clear hcz27_0
    try clear hcz27_1
    try clear hcz27_2
    try clear hcz27_3
    try clear hcz30_0
    try clear hcz30_1
    try clear hcz30_2
    try clear hcz30_3
    try clear hcz32_0
    try clear hcz32_1
    try clear hcz32_2
    try clear hcz32_3
    try clear hcz35_0
    try clear hcz35_1
    try clear hcz35_2
    try clear hcz35_3
    try clear hcz37_0
    try clear hcz37_1
    try clear hcz37_2
    try clear hcz37_3
    try clear hcz40_0
    try clear hcz40_1
    try clear hcz40_2
    try clear hcz40_3
    try clear hfz14_0
    try clear hfz14_1
    try clear hfz14_2
    try clear hfz14_3
    try clear hfz16_0
    try clear hfz16_1
    try clear hfz16_2
    try clear hfz16_3
    try clear hfz20_0
    try clear hfz20_1
    try clear hfz20_2
    try clear hfz20_3
    try clear hfz22_0
    try clear hfz22_1
    try clear hfz22_2
    try clear hfz22_3
    try clear hfz25_0
    try clear hfz25_1
    try clear hfz25_2
    try clear hfz25_3
    try clear hfz27_0
    try clear hfz27_1
    try clear hfz27_2
    try clear hfz27_3
    try clear hfz30_0
    try clear hfz30_1
    try clear hfz30_2
    try clear hfz30_3
    try clear hfz32_0
    try clear hfz32_1
    try clear hfz32_2
    try clear hfz32_3
    try clear hfz35_0
    try clear hfz35_1
    try clear hfz35_2
    try clear hfz35_3
    try clear hfz37_0
    try clear hfz37_1
    try clear hfz37_2
    try clear hfz37_3
    try clear hfz40_0
    try clear hfz40_1
    try clear hfz40_2
    try clear hfz40_3
    obtain ⟨kq, x45_2, rfl, HA, HJ2, BK162, BK163, BK164, HB⟩ := hcut
    cases kq with
    | zero => exact absurd HA.out (by simp [merge_Two.j0])
    | succ kj2 =>
      have H := HA.out
      clear HA
      simp only [merge_Two.j0] at H
      by_cases c41 : x45_2 = true
      · subst c41
        have H1 : (some (0, 0, 0, ([] : List Int), false)) = some (r1, r2, r3, r4, r5) := by rw [if_pos rfl] at H; exact H
        clear H
        have H := H1
        clear H1
        simp only [Option.some.injEq, Prod.mk.injEq] at H
        obtain ⟨rfl, rfl, rfl, rfl, rfl⟩ := H
        have hnb42 := NB164_162.out
        have hnc42 := NB162_164.out
        have hnb43 := NB164_163.out
        have hnc43 := NB163_164.out
        have hcz44_0 : wc.cell? ⟨gb164, 0, none⟩ = some (.int .i64 0) := (blk_cell BK164.out 0).trans rfl
        have hcz44_1 : wc.cell? ⟨gb164, 1, none⟩ = some (.int .i64 0) := (blk_cell BK164.out 1).trans rfl
        have hcz44_2 : wc.cell? ⟨gb164, 2, none⟩ = some (.int .i64 0) := (blk_cell BK164.out 2).trans rfl
        have hcz44_3 : wc.cell? ⟨gb164, 3, none⟩ = some (.slice none 0 0) := (blk_cell BK164.out 3).trans rfl
        have hfz44_0 := blk_frozen BK164.out 0
        have hfz44_1 := blk_frozen BK164.out 1
        have hfz44_2 := blk_frozen BK164.out 2
        have hfz44_3 := blk_frozen BK164.out 3
        go_wp2
        refine bodyPost_ret (results_ct rfl _ _ gb164 30 #[.int .i64 0, .int .i64 0, .int .i64 0, .slice none 0 0] (0, 0) _ rfl (by (with_reducible repeat (first | refine blk_drewN ?_ _ | refine blk_drew ?_ | refine blk_alloc ?_ _)); refine blk_put (cs := #[.int .i64 0, .int .i64 0, .int .i64 0, .slice none 0 0]) ?_ 3 _ rfl; (with_reducible repeat (first | refine blk_drewN ?_ _ | refine blk_drew ?_ | refine blk_alloc ?_ _)); refine blk_put (cs := #[.int .i64 0, .int .i64 0, .int .i64 0, .slice none 0 0]) ?_ 2 _ rfl; (with_reducible repeat (first | refine blk_drewN ?_ _ | refine blk_drew ?_ | refine blk_alloc ?_ _)); refine blk_put (cs := #[.int .i64 0, .int .i64 0, .int .i64 0, .slice none 0 0]) ?_ 1 _ rfl; (with_reducible repeat (first | refine blk_drewN ?_ _ | refine blk_drew ?_ | refine blk_alloc ?_ _)); refine blk_put (cs := #[.int .i64 0, .int .i64 0, .int .i64 0, .slice none 0 0]) ?_ 0 _ rfl; (with_reducible repeat (first | refine blk_drewN ?_ _ | refine blk_drew ?_ | refine blk_alloc ?_ _)); exact BK164.out) Try.underlying30 rfl (by kernel_rfl)) rfl ?_
        exact ⟨_, by first | rfl | (simp [errW_none, errW_some] <;> rfl) | (simp [*, errW_none, errW_some] <;> rfl), by first | exact Kd.R_nil _ _ _ _ _ | exact Kd.N_nil _ _ _ _ _ | exact Kd.V_nil _ _ _ _ _ | exact Kd.Q_nil _ _ _ _ _ | exact Kd.S_nil _ _ _ _ _, by repeat (first | (with_reducible first | exact HB.out | apply below_alloc | apply pw_below_drewN | apply below_drew1 | refine below_set ?_ GE162.out | refine below_set ?_ GE163.out | refine below_set ?_ GE164.out) | exact HB.out)⟩
      · replace c41 := Bool.eq_false_iff.mpr c41
        subst c41
        have H1 : ((reckon_Add.f kj2 a0_2 a1_2).bind fun bt166 => (if bt166.2 = 0 then (some (a0_0, a0_1, bt166.1, ([] : List Int), true)) else (some (0, 0, 0, ([] : List Int), false)))) = some (r1, r2, r3, r4, r5) := by rw [if_neg (show ¬ (false = true) by decide)] at H; exact H
        clear H
        have H := H1
        clear H1
        replace H := Option.bind_eq_some_iff.mp H
        obtain ⟨⟨t166, t167⟩, A450, H⟩ := H
        replace H : (if t167 = 0 then (some (a0_0, a0_1, t166, ([] : List Int), true)) else (some (0, 0, 0, ([] : List Int), false))) = some (r1, r2, r3, r4, r5) := H
        have A45 := Aside0.mk A450
        clear A450
        by_cases c46 : t167 = 0
        · rw [if_pos c46] at H
          have c46b0 : (t167 == 0) = true := beq_iff_eq.mpr c46
          have c46b1 : (t167 != 0) = false := bne_eq_false_iff_eq.mpr c46
          clear c46
          simp only [Option.some.injEq, Prod.mk.injEq] at H
          obtain ⟨rfl, rfl, rfl, rfl, rfl⟩ := H
          have hnb47 := NB162_163.out
          have hnc47 := NB163_162.out
          have hnb48 := NB162_164.out
          have hnc48 := NB164_162.out
          have hcz49_0 : wc.cell? ⟨gb162, 0, none⟩ = some (.int .i64 a0_0) := (blk_cell BK162.out 0).trans rfl
          have hcz49_1 : wc.cell? ⟨gb162, 1, none⟩ = some (.int .i64 a0_1) := (blk_cell BK162.out 1).trans rfl
          have hcz49_2 : wc.cell? ⟨gb162, 2, none⟩ = some (.int .i64 a0_2) := (blk_cell BK162.out 2).trans rfl
          have hcz49_3 : wc.cell? ⟨gb162, 3, none⟩ = some (.slice A0_3 l0_3.length c0_3) := (blk_cell BK162.out 3).trans rfl
          have hfz49_0 := blk_frozen BK162.out 0
          have hfz49_1 := blk_frozen BK162.out 1
          have hfz49_2 := blk_frozen BK162.out 2
          have hfz49_3 := blk_frozen BK162.out 3
          have hnb50 := NB163_164.out
          have hnc50 := NB164_163.out
          have hcz51_0 : wc.cell? ⟨gb163, 0, none⟩ = some (.int .i64 a1_0) := (blk_cell BK163.out 0).trans rfl
          have hcz51_1 : wc.cell? ⟨gb163, 1, none⟩ = some (.int .i64 a1_1) := (blk_cell BK163.out 1).trans rfl
          have hcz51_2 : wc.cell? ⟨gb163, 2, none⟩ = some (.int .i64 a1_2) := (blk_cell BK163.out 2).trans rfl
          have hcz51_3 : wc.cell? ⟨gb163, 3, none⟩ = some (.slice A1_3 l1_3.length c1_3) := (blk_cell BK163.out 3).trans rfl
          have hfz51_0 := blk_frozen BK163.out 0
          have hfz51_1 := blk_frozen BK163.out 1
          have hfz51_2 := blk_frozen BK163.out 2
          have hfz51_3 := blk_frozen BK163.out 3
          go_wp2_with (first | ((with_reducible refine gate_callee (f := 74) rfl ?_); refine goesL_ (some 52) rfl rfl Try.func74 (by kernel_rfl) rfl #[.int .i64 a0_2, .int .i64 a1_2] rfl (by (try simp only [List.map_toArray, List.map_cons, List.map_nil]); first | done | rfl | (simp only [List.length_drop, List.length_take]; rfl)) ?_; (with_reducible refine (reckon_Add.calls kj2 a0_2 a1_2 t166 t167 _ A45.out).mono ?_); rintro e w52 ⟨rfl, hb⟩; refine ⟨_, rfl, ?_⟩; have n0_ := Aside0.mk (blk_below (g := gb162) (o := .cells #[.int .i64 a0_0, .int .i64 a0_1, .int .i64 a0_2, .slice A0_3 l0_3.length c0_3] 30 (0, 0)) (by (with_reducible repeat (first | refine blk_drewN ?_ _ | refine blk_drew ?_ | refine blk_alloc ?_ _)); exact BK162.out) hb); have n1_ := Aside0.mk (blk_below (g := gb163) (o := .cells #[.int .i64 a1_0, .int .i64 a1_1, .int .i64 a1_2, .slice A1_3 l1_3.length c1_3] 30 (0, 0)) (by (with_reducible repeat (first | refine blk_drewN ?_ _ | refine blk_drew ?_ | refine blk_alloc ?_ _)); exact BK163.out) hb); have n2_ := Aside0.mk (blk_below (g := gb164) (o := .cells #[.int .i64 0, .int .i64 0, .int .i64 0, .slice none 0 0] 30 (0, 0)) (by (with_reducible repeat (first | refine blk_drewN ?_ _ | refine blk_drew ?_ | refine blk_alloc ?_ _)); exact BK164.out) hb); have n3_ := Aside0.mk (below_step (by repeat (first | (with_reducible first | exact HB.out | apply below_alloc | apply pw_below_drewN | apply below_drew1 | refine below_set ?_ GE162.out | refine below_set ?_ GE163.out | refine below_set ?_ GE164.out) | exact HB.out)) hb); clear BK162; clear BK163; clear BK164; clear HB; have BK162 := n0_; have BK163 := n1_; have BK164 := n2_; have HB := n3_; clear n0_ n1_ n2_ n3_; (try clear hb); (try clear hb2); (try clear hk); (try clear hi); have hcz53_0 : w52.cell? ⟨gb162, 0, none⟩ = some (.int .i64 a0_0) := (blk_cell BK162.out 0).trans rfl; have hcz53_1 : w52.cell? ⟨gb162, 1, none⟩ = some (.int .i64 a0_1) := (blk_cell BK162.out 1).trans rfl; have hcz53_2 : w52.cell? ⟨gb162, 2, none⟩ = some (.int .i64 a0_2) := (blk_cell BK162.out 2).trans rfl; have hcz53_3 : w52.cell? ⟨gb162, 3, none⟩ = some (.slice A0_3 l0_3.length c0_3) := (blk_cell BK162.out 3).trans rfl; have hfz53_0 := blk_frozen BK162.out 0; have hfz53_1 := blk_frozen BK162.out 1; have hfz53_2 := blk_frozen BK162.out 2; have hfz53_3 := blk_frozen BK162.out 3; have hcz54_0 : w52.cell? ⟨gb164, 0, none⟩ = some (.int .i64 0) := (blk_cell BK164.out 0).trans rfl; have hcz54_1 : w52.cell? ⟨gb164, 1, none⟩ = some (.int .i64 0) := (blk_cell BK164.out 1).trans rfl; have hcz54_2 : w52.cell? ⟨gb164, 2, none⟩ = some (.int .i64 0) := (blk_cell BK164.out 2).trans rfl; have hcz54_3 : w52.cell? ⟨gb164, 3, none⟩ = some (.slice none 0 0) := (blk_cell BK164.out 3).trans rfl; have hfz54_0 := blk_frozen BK164.out 0; have hfz54_1 := blk_frozen BK164.out 1; have hfz54_2 := blk_frozen BK164.out 2; have hfz54_3 := blk_frozen BK164.out 3))
          refine bodyPost_ret (results_ct rfl _ _ gb164 30 #[.int .i64 a0_0, .int .i64 a0_1, .int .i64 t166, .slice none 0 0] (0, 0) _ rfl (by (with_reducible repeat (first | refine blk_drewN ?_ _ | refine blk_drew ?_ | refine blk_alloc ?_ _)); refine blk_put (cs := #[.int .i64 a0_0, .int .i64 a0_1, .int .i64 t166, .slice none 0 0]) ?_ 3 _ rfl; (with_reducible repeat (first | refine blk_drewN ?_ _ | refine blk_drew ?_ | refine blk_alloc ?_ _)); refine blk_put (cs := #[.int .i64 a0_0, .int .i64 a0_1, .int .i64 0, .slice none 0 0]) ?_ 2 _ rfl; (with_reducible repeat (first | refine blk_drewN ?_ _ | refine blk_drew ?_ | refine blk_alloc ?_ _)); refine blk_put (cs := #[.int .i64 a0_0, .int .i64 0, .int .i64 0, .slice none 0 0]) ?_ 1 _ rfl; (with_reducible repeat (first | refine blk_drewN ?_ _ | refine blk_drew ?_ | refine blk_alloc ?_ _)); refine blk_put (cs := #[.int .i64 0, .int .i64 0, .int .i64 0, .slice none 0 0]) ?_ 0 _ rfl; (with_reducible repeat (first | refine blk_drewN ?_ _ | refine blk_drew ?_ | refine blk_alloc ?_ _)); exact BK164.out) Try.underlying30 rfl (by kernel_rfl)) rfl ?_
          exact ⟨_, by first | rfl | (simp [errW_none, errW_some] <;> rfl) | (simp [*, errW_none, errW_some] <;> rfl), by first | exact Kd.R_nil _ _ _ _ _ | exact Kd.N_nil _ _ _ _ _ | exact Kd.V_nil _ _ _ _ _ | exact Kd.Q_nil _ _ _ _ _ | exact Kd.S_nil _ _ _ _ _, by repeat (first | (with_reducible first | exact HB.out | apply below_alloc | apply pw_below_drewN | apply below_drew1 | refine below_set ?_ GE162.out | refine below_set ?_ GE163.out | refine below_set ?_ GE164.out) | exact HB.out)⟩
        · rw [if_neg c46] at H
          have c46b0 : (t167 == 0) = false := beq_eq_false_iff_ne.mpr c46
          have c46b1 : (t167 != 0) = true := bne_iff_ne.mpr c46
          simp only [Option.some.injEq, Prod.mk.injEq] at H
          obtain ⟨rfl, rfl, rfl, rfl, rfl⟩ := H
          have hnb55 := NB162_163.out
          have hnc55 := NB163_162.out
          have hnb56 := NB162_164.out
          have hnc56 := NB164_162.out
          have hcz57_0 : wc.cell? ⟨gb162, 0, none⟩ = some (.int .i64 a0_0) := (blk_cell BK162.out 0).trans rfl
          have hcz57_1 : wc.cell? ⟨gb162, 1, none⟩ = some (.int .i64 a0_1) := (blk_cell BK162.out 1).trans rfl
          have hcz57_2 : wc.cell? ⟨gb162, 2, none⟩ = some (.int .i64 a0_2) := (blk_cell BK162.out 2).trans rfl
          have hcz57_3 : wc.cell? ⟨gb162, 3, none⟩ = some (.slice A0_3 l0_3.length c0_3) := (blk_cell BK162.out 3).trans rfl
          have hfz57_0 := blk_frozen BK162.out 0
          have hfz57_1 := blk_frozen BK162.out 1
          have hfz57_2 := blk_frozen BK162.out 2
          have hfz57_3 := blk_frozen BK162.out 3
          have hnb58 := NB163_164.out
          have hnc58 := NB164_163.out
          have hcz59_0 : wc.cell? ⟨gb163, 0, none⟩ = some (.int .i64 a1_0) := (blk_cell BK163.out 0).trans rfl
          have hcz59_1 : wc.cell? ⟨gb163, 1, none⟩ = some (.int .i64 a1_1) := (blk_cell BK163.out 1).trans rfl
          have hcz59_2 : wc.cell? ⟨gb163, 2, none⟩ = some (.int .i64 a1_2) := (blk_cell BK163.out 2).trans rfl
          have hcz59_3 : wc.cell? ⟨gb163, 3, none⟩ = some (.slice A1_3 l1_3.length c1_3) := (blk_cell BK163.out 3).trans rfl
          have hfz59_0 := blk_frozen BK163.out 0
          have hfz59_1 := blk_frozen BK163.out 1
          have hfz59_2 := blk_frozen BK163.out 2
          have hfz59_3 := blk_frozen BK163.out 3
          go_wp2_with (first | ((with_reducible refine gate_callee (f := 74) rfl ?_); refine goesL_ (some 52) rfl rfl Try.func74 (by kernel_rfl) rfl #[.int .i64 a0_2, .int .i64 a1_2] rfl (by (try simp only [List.map_toArray, List.map_cons, List.map_nil]); first | done | rfl | (simp only [List.length_drop, List.length_take]; rfl)) ?_; (with_reducible refine (reckon_Add.calls kj2 a0_2 a1_2 t166 t167 _ A45.out).mono ?_); rintro e w60 ⟨rfl, hb⟩; refine ⟨_, rfl, ?_⟩; have n0_ := Aside0.mk (blk_below (g := gb162) (o := .cells #[.int .i64 a0_0, .int .i64 a0_1, .int .i64 a0_2, .slice A0_3 l0_3.length c0_3] 30 (0, 0)) (by (with_reducible repeat (first | refine blk_drewN ?_ _ | refine blk_drew ?_ | refine blk_alloc ?_ _)); exact BK162.out) hb); have n1_ := Aside0.mk (blk_below (g := gb163) (o := .cells #[.int .i64 a1_0, .int .i64 a1_1, .int .i64 a1_2, .slice A1_3 l1_3.length c1_3] 30 (0, 0)) (by (with_reducible repeat (first | refine blk_drewN ?_ _ | refine blk_drew ?_ | refine blk_alloc ?_ _)); exact BK163.out) hb); have n2_ := Aside0.mk (blk_below (g := gb164) (o := .cells #[.int .i64 0, .int .i64 0, .int .i64 0, .slice none 0 0] 30 (0, 0)) (by (with_reducible repeat (first | refine blk_drewN ?_ _ | refine blk_drew ?_ | refine blk_alloc ?_ _)); exact BK164.out) hb); have n3_ := Aside0.mk (below_step (by repeat (first | (with_reducible first | exact HB.out | apply below_alloc | apply pw_below_drewN | apply below_drew1 | refine below_set ?_ GE162.out | refine below_set ?_ GE163.out | refine below_set ?_ GE164.out) | exact HB.out)) hb); clear BK162; clear BK163; clear BK164; clear HB; have BK162 := n0_; have BK163 := n1_; have BK164 := n2_; have HB := n3_; clear n0_ n1_ n2_ n3_; (try clear hb); (try clear hb2); (try clear hk); (try clear hi); have hcz61_0 : w60.cell? ⟨gb164, 0, none⟩ = some (.int .i64 0) := (blk_cell BK164.out 0).trans rfl; have hcz61_1 : w60.cell? ⟨gb164, 1, none⟩ = some (.int .i64 0) := (blk_cell BK164.out 1).trans rfl; have hcz61_2 : w60.cell? ⟨gb164, 2, none⟩ = some (.int .i64 0) := (blk_cell BK164.out 2).trans rfl; have hcz61_3 : w60.cell? ⟨gb164, 3, none⟩ = some (.slice none 0 0) := (blk_cell BK164.out 3).trans rfl; have hfz61_0 := blk_frozen BK164.out 0; have hfz61_1 := blk_frozen BK164.out 1; have hfz61_2 := blk_frozen BK164.out 2; have hfz61_3 := blk_frozen BK164.out 3))
          refine bodyPost_ret (results_ct rfl _ _ gb164 30 #[.int .i64 0, .int .i64 0, .int .i64 0, .slice none 0 0] (0, 0) _ rfl (by (with_reducible repeat (first | refine blk_drewN ?_ _ | refine blk_drew ?_ | refine blk_alloc ?_ _)); refine blk_put (cs := #[.int .i64 0, .int .i64 0, .int .i64 0, .slice none 0 0]) ?_ 3 _ rfl; (with_reducible repeat (first | refine blk_drewN ?_ _ | refine blk_drew ?_ | refine blk_alloc ?_ _)); refine blk_put (cs := #[.int .i64 0, .int .i64 0, .int .i64 0, .slice none 0 0]) ?_ 2 _ rfl; (with_reducible repeat (first | refine blk_drewN ?_ _ | refine blk_drew ?_ | refine blk_alloc ?_ _)); refine blk_put (cs := #[.int .i64 0, .int .i64 0, .int .i64 0, .slice none 0 0]) ?_ 1 _ rfl; (with_reducible repeat (first | refine blk_drewN ?_ _ | refine blk_drew ?_ | refine blk_alloc ?_ _)); refine blk_put (cs := #[.int .i64 0, .int .i64 0, .int .i64 0, .slice none 0 0]) ?_ 0 _ rfl; (with_reducible repeat (first | refine blk_drewN ?_ _ | refine blk_drew ?_ | refine blk_alloc ?_ _)); exact BK164.out) Try.underlying30 rfl (by kernel_rfl)) rfl ?_
          exact ⟨_, by first | rfl | (simp [errW_none, errW_some] <;> rfl) | (simp [*, errW_none, errW_some] <;> rfl), by first | exact Kd.R_nil _ _ _ _ _ | exact Kd.N_nil _ _ _ _ _ | exact Kd.V_nil _ _ _ _ _ | exact Kd.Q_nil _ _ _ _ _ | exact Kd.S_nil _ _ _ _ _, by repeat (first | (with_reducible first | exact HB.out | apply below_alloc | apply pw_below_drewN | apply below_drew1 | refine below_set ?_ GE162.out | refine below_set ?_ GE163.out | refine below_set ?_ GE164.out) | exact HB.out)⟩
end Go.Proofs.Ytejcopppchaneaa.PF
end
section
namespace Go.Proofs.Ytejcopppchaneaa.PF
open Go.RowKit Go.Proofs.YtejcopppchaneaaW.PrintWords Go.Proofs.YtejcopppchaneaaW.PrintLast Go.Proofs.YtejcopppchaneaaW.PrintMore
set_option linter.unusedVariables false
set_option linter.unusedSimpArgs false
def PAt (W : World) (base g : Nat) (r : S30) (has : Bool) (x : Int) (y : Bool) : Prop := base ≤ g ∧ ∃ v, W.heap[g]? = some (.cells #[.int .i64 r.f0, .int .i64 r.f1, .int .i64 r.f2, v, .bool has, .int .i64 x, .bool y] 73 (0, 0)) ∧ Kd.R (Kd.int .i64) 3 W base (fun _ => True) v r.f3
def merge_Flush.f (m : S30) (has : Bool) : S30 × Bool × S30 × Bool := if has = true then (m, true, z30, false) else (z30, false, m, has)
def merge_Add.f (k : Nat) (m : S30) (has : Bool) (r : S30) : Option (S30 × Bool × S30 × Bool) :=
  if has = false then (merge_copied.f r.f0 r.f1 r.f2 r.f3).bind fun c => some (z30, false, ⟨c.1, c.2.1, c.2.2.1, c.2.2.2⟩, true)
  else (merge_Two.f k m.f0 m.f1 m.f2 m.f3 r.f0 r.f1 r.f2 r.f3).bind fun p => if p.2.2.2.2 = true then some (z30, false, ⟨p.1, p.2.1, p.2.2.1, p.2.2.2.1⟩, true)
    else (merge_copied.f r.f0 r.f1 r.f2 r.f3).bind fun c => some (m, true, ⟨c.1, c.2.1, c.2.2.1, c.2.2.2⟩, true)
theorem cell5m {w : World} {g : Nat} {a b c d e f h_ : Value} {t : TypeId} (h : w.heap[g]? = some (.cells #[a, b, c, d, e, f, h_] t (0, 0))) : (w.cell? ⟨g, 0, none⟩ = some a ∧ w.cell? ⟨g, 1, none⟩ = some b ∧ w.cell? ⟨g, 2, none⟩ = some c ∧ w.cell? ⟨g, 3, none⟩ = some d ∧ w.cell? ⟨g, 4, none⟩ = some e) ∧ w.frozen? ⟨g, 0, none⟩ = false ∧ w.frozen? ⟨g, 1, none⟩ = false ∧ w.frozen? ⟨g, 2, none⟩ = false ∧ w.frozen? ⟨g, 3, none⟩ = false ∧ w.frozen? ⟨g, 4, none⟩ = false :=
  ⟨⟨(blk_cell h 0).trans rfl, (blk_cell h 1).trans rfl, (blk_cell h 2).trans rfl, (blk_cell h 3).trans rfl, (blk_cell h 4).trans rfl⟩, blk_frozen h 0, blk_frozen h 1, blk_frozen h 2, blk_frozen h 3, blk_frozen h 4⟩
theorem cell4m {w : World} {g : Nat} {a b c d : Value} {t : TypeId} (h : w.heap[g]? = some (.cells #[a, b, c, d] t (0, 0))) : (w.cell? ⟨g, 0, none⟩ = some a ∧ w.cell? ⟨g, 1, none⟩ = some b ∧ w.cell? ⟨g, 2, none⟩ = some c ∧ w.cell? ⟨g, 3, none⟩ = some d) ∧ w.frozen? ⟨g, 0, none⟩ = false ∧ w.frozen? ⟨g, 1, none⟩ = false ∧ w.frozen? ⟨g, 2, none⟩ = false ∧ w.frozen? ⟨g, 3, none⟩ = false :=
  ⟨⟨(blk_cell h 0).trans rfl, (blk_cell h 1).trans rfl, (blk_cell h 2).trans rfl, (blk_cell h 3).trans rfl⟩, blk_frozen h 0, blk_frozen h 1, blk_frozen h 2, blk_frozen h 3⟩
theorem blk4_putm {w : World} {g : Nat} {a b c d a' b' c' d' : Value} {t : TypeId} (h : w.heap[g]? = some (.cells #[a, b, c, d] t (0, 0))) : ((((w.setCell ⟨g, 0, none⟩ a').setCell ⟨g, 1, none⟩ b').setCell ⟨g, 2, none⟩ c').setCell ⟨g, 3, none⟩ d').heap[g]? = some (.cells #[a', b', c', d'] t (0, 0)) :=
  blk_put (cs := #[a', b', c', d]) (blk_put (cs := #[a', b', c, d]) (blk_put (cs := #[a', b, c, d]) (blk_put (cs := #[a, b, c, d]) h 0 a' rfl) 1 b' rfl) 2 c' rfl) 3 d' rfl
theorem blk4_farm {w : World} {g g2 : Nat} {cs : Array Value} {a' b' c' d' : Value} {t : TypeId} (h : w.heap[g2]? = some (.cells cs t (0, 0))) (hne : g2 ≠ g) : ((((w.setCell ⟨g, 0, none⟩ a').setCell ⟨g, 1, none⟩ b').setCell ⟨g, 2, none⟩ c').setCell ⟨g, 3, none⟩ d').heap[g2]? = some (.cells cs t (0, 0)) :=
  blk_far (p := ⟨g, 3, none⟩) (blk_far (p := ⟨g, 2, none⟩) (blk_far (p := ⟨g, 1, none⟩) (blk_far (p := ⟨g, 0, none⟩) h hne a') hne b') hne c') hne d'
theorem row4_putm {w : World} {g base : Nat} {ok : Nat → Prop} {v : Value} {xs : List Int} {a b c d a' b' c' d' : Value} {t : TypeId} (ht : t ≠ 3) (h : w.heap[g]? = some (.cells #[a, b, c, d] t (0, 0))) (hr : Kd.R (Kd.int .i64) 3 w base ok v xs) : Kd.R (Kd.int .i64) 3 ((((w.setCell ⟨g, 0, none⟩ a').setCell ⟨g, 1, none⟩ b').setCell ⟨g, 2, none⟩ c').setCell ⟨g, 3, none⟩ d') base ok v xs := by
  have ht' : ∀ q, q ∈ 3 :: (Kd.int .i64).E → q ≠ t := fun q hq => by rw [List.mem_singleton.1 hq]; exact fun e => ht e.symm
  have h1 := blk_put (cs' := #[a', b, c, d]) h 0 a' rfl
  have h2 := blk_put (cs' := #[a', b', c, d]) h1 1 b' rfl
  have h3 := blk_put (cs' := #[a', b', c', d]) h2 2 c' rfl
  exact Kd.R_set (Kd.R_set (Kd.R_set (Kd.R_set hr h ht' 0 a') h1 ht' 1 b') h2 ht' 2 c') h3 ht' 3 d'
theorem blk5_putm {w : World} {g : Nat} {a b c d e f h_ a' b' c' d' e' : Value} {t : TypeId} (h : w.heap[g]? = some (.cells #[a, b, c, d, e, f, h_] t (0, 0))) : (((((w.setCell ⟨g, 0, none⟩ a').setCell ⟨g, 1, none⟩ b').setCell ⟨g, 2, none⟩ c').setCell ⟨g, 3, none⟩ d').setCell ⟨g, 4, none⟩ e').heap[g]? = some (.cells #[a', b', c', d', e', f, h_] t (0, 0)) :=
  blk_put (cs := #[a', b', c', d', e, f, h_]) (blk_put (cs := #[a', b', c', d, e, f, h_]) (blk_put (cs := #[a', b', c, d, e, f, h_]) (blk_put (cs := #[a', b, c, d, e, f, h_]) (blk_put (cs := #[a, b, c, d, e, f, h_]) h 0 a' rfl) 1 b' rfl) 2 c' rfl) 3 d' rfl) 4 e' rfl
theorem row5_putm {w : World} {g base : Nat} {ok : Nat → Prop} {v : Value} {xs : List Int} {a b c d e f h_ a' b' c' d' e' : Value} {t : TypeId} (ht : t ≠ 3) (h : w.heap[g]? = some (.cells #[a, b, c, d, e, f, h_] t (0, 0))) (hr : Kd.R (Kd.int .i64) 3 w base ok v xs) : Kd.R (Kd.int .i64) 3 (((((w.setCell ⟨g, 0, none⟩ a').setCell ⟨g, 1, none⟩ b').setCell ⟨g, 2, none⟩ c').setCell ⟨g, 3, none⟩ d').setCell ⟨g, 4, none⟩ e') base ok v xs := by
  have ht' : ∀ q, q ∈ 3 :: (Kd.int .i64).E → q ≠ t := fun q hq => by rw [List.mem_singleton.1 hq]; exact fun e => ht e.symm
  have h1 := blk_put (cs' := #[a', b, c, d, e, f, h_]) h 0 a' rfl
  have h2 := blk_put (cs' := #[a', b', c, d, e, f, h_]) h1 1 b' rfl
  have h3 := blk_put (cs' := #[a', b', c', d, e, f, h_]) h2 2 c' rfl
  have h4 := blk_put (cs' := #[a', b', c', d', e, f, h_]) h3 3 d' rfl
  exact Kd.R_set (Kd.R_set (Kd.R_set (Kd.R_set (Kd.R_set hr h ht' 0 a') h1 ht' 1 b') h2 ht' 2 c') h3 ht' 3 d') h4 ht' 4 e'
theorem keep5_putm {w W : World} {g : Nat} {a' b' c' d' e' : Value} (h : KeepBut w W g none) : KeepBut w (((((W.setCell ⟨g, 0, none⟩ a').setCell ⟨g, 1, none⟩ b').setCell ⟨g, 2, none⟩ c').setCell ⟨g, 3, none⟩ d').setCell ⟨g, 4, none⟩ e') g none :=
  ((((h.set_ 0 a').set_ 1 b').set_ 2 c').set_ 3 d').set_ 4 e'
theorem bel4m {B g : Nat} {w W : World} {a' b' c' d' : Value} (h : Below B w W) (hg : B ≤ g) : Below B w ((((W.setCell ⟨g, 0, none⟩ a').setCell ⟨g, 1, none⟩ b').setCell ⟨g, 2, none⟩ c').setCell ⟨g, 3, none⟩ d') :=
  (((h.setCell (p := ⟨g, 0, none⟩) hg a').setCell (p := ⟨g, 1, none⟩) hg b').setCell (p := ⟨g, 2, none⟩) hg c').setCell (p := ⟨g, 3, none⟩) hg d'
theorem bel5m {B g : Nat} {w W : World} {a' b' c' d' e' : Value} (h : Below B w W) (hg : B ≤ g) : Below B w (((((W.setCell ⟨g, 0, none⟩ a').setCell ⟨g, 1, none⟩ b').setCell ⟨g, 2, none⟩ c').setCell ⟨g, 3, none⟩ d').setCell ⟨g, 4, none⟩ e') :=
  (bel4m h hg).setCell (p := ⟨g, 4, none⟩) hg e'
theorem keep4_farm {w W : World} {g r : Nat} {a' b' c' d' : Value} (h : KeepBut w W g none) (hr : w.heap.size ≤ r) : KeepBut w ((((W.setCell ⟨r, 0, none⟩ a').setCell ⟨r, 1, none⟩ b').setCell ⟨r, 2, none⟩ c').setCell ⟨r, 3, none⟩ d') g none :=
  keep_far (p := ⟨r, 3, none⟩) (keep_far (p := ⟨r, 2, none⟩) (keep_far (p := ⟨r, 1, none⟩) (keep_far (p := ⟨r, 0, none⟩) h hr a') hr b') hr c') hr d'
set_option maxHeartbeats 8000000 in
set_option maxRecDepth 100000 in
theorem merge_Flush.calls (base g : Nat) (x : Int) (y : Bool) (m : S30) (has : Bool) (o : S30) (ok : Bool) (m' : S30) (has' : Bool) (w : World) (hM : PAt w base g m has x y) (hb : base ≤ w.heap.size) (h : merge_Flush.f m has = (o, ok, m', has')) :
    Calls Try.prog 44 #[.pointer (some ⟨g, 0, none⟩)] w fun e w' => ∃ v : Value, e = .returned (.tuple #[.agg #[.int .i64 o.f0, .int .i64 o.f1, .int .i64 o.f2, v], .bool ok]) ∧ Kd.R (Kd.int .i64) 3 w' base (fun _ => True) v o.f3 ∧ PAt w' base g m' has' x y ∧ KeepBut w w' g none ∧ Below base w w' := by
  have hu := Try.underlying30
  obtain ⟨hg, v, hbk, hR⟩ := hM
  obtain ⟨A, cp, rfl⟩ := Kd.R_slice hR
  have HR := Aside0.mk hR
  have BG := Aside0.mk hbk
  have GG := Aside0.mk hg
  clear hbk hR hg
  obtain ⟨⟨j0, j1, j2, j3, j4⟩, y0, y1, y2, y3, y4⟩ := cell5m BG.out
  have hx := Aside0.mk h
  clear h
  cases has with
  | true =>
    go_enter Try.func44, Try.ntmps44
    go_upto_region 4 with (first | ((with_reducible refine gate_dst (N := 2) rfl ?_); refine box_event ?hg (N := 2) ?hd (cs := #[.int .i64 0, .int .i64 0, .int .i64 0, .slice none 0 0]) (t := 30) ?hr ?_; (case hd => rfl); (case hg => rfl); (case hr => first | (go_simp; done) | (go_simp; rfl)); intro gr hgr w1 hbox hb1; have hne : gr ≠ g := (by have := blk_lt BG.out; omega); have GR := Aside0.mk (show w.heap.size ≤ gr by omega); clear hgr; have BR := Aside0.mk hbox; have BG1 := Aside0.mk (blk_below BG.out hb1); have HB1 := Aside0.mk hb1; clear hbox hb1 j0 j1 j2 j3 j4 y0 y1 y2 y3 y4; obtain ⟨⟨j0, j1, j2, j3, j4⟩, y0, y1, y2, y3, y4⟩ := cell5m BG1.out; obtain ⟨⟨k0, k1, k2, k3⟩, z0, z1, z2, z3⟩ := cell4m BR.out) | fail)
    have BG2 := Aside0.mk (blk_alloc BG1.out (Obj.cells #[.int .i64 m.f0, .int .i64 m.f1, .int .i64 m.f2, .slice A m.f3.length cp] 30))
    have BR2 := Aside0.mk (blk_alloc BR.out (Obj.cells #[.int .i64 m.f0, .int .i64 m.f1, .int .i64 m.f2, .slice A m.f3.length cp] 30))
    have BO2 := Aside0.mk (blk_new w1 (Obj.cells #[.int .i64 m.f0, .int .i64 m.f1, .int .i64 m.f2, .slice A m.f3.length cp] 30))
    have HB2 := Aside0.mk (below_alloc HB1.out (Obj.cells #[.int .i64 m.f0, .int .i64 m.f1, .int .i64 m.f2, .slice A m.f3.length cp] 30))
    have hgo : w1.heap.size ≠ g := by have := blk_lt BG1.out; omega
    have hro : gr ≠ w1.heap.size := by have := blk_lt BR.out; omega
    have HK2 := Aside0.mk (KeepBut.of_below HB2.out g none)
    have HBk := Aside0.mk (HB2.out.mono hb)
    have HR2 := Aside0.mk (Kd.R_below HR.out HB2.out)
    clear BG1 BR HB1 HB2 j0 j1 j2 j3 j4 y0 y1 y2 y3 y4 k0 k1 k2 k3 z0 z1 z2 z3
    generalize w1.alloc (Obj.cells #[.int .i64 m.f0, .int .i64 m.f1, .int .i64 m.f2, .slice A m.f3.length cp] 30) = w2 at BG2 BR2 BO2 HK2 HBk HR2 ⊢
    generalize w1.heap.size = go at hgo hro BO2 ⊢
    obtain ⟨⟨j0, j1, j2, j3, j4⟩, y0, y1, y2, y3, y4⟩ := cell5m BG2.out
    obtain ⟨⟨k0, k1, k2, k3⟩, z0, z1, z2, z3⟩ := cell4m BR2.out
    obtain ⟨⟨l0, l1, l2, l3⟩, x0, x1, x2, x3⟩ := cell4m BO2.out
    go_wp2
    have H := hx.out
    simp only [merge_Flush.f, if_true, Prod.mk.injEq] at H
    obtain ⟨rfl, rfl, rfl, rfl⟩ := H
    refine bodyPost_ret (results_ct rfl _ _ gr 30 #[.int .i64 m.f0, .int .i64 m.f1, .int .i64 m.f2, .slice A m.f3.length cp] (0, 0) _ rfl (by exact blk4_putm (blk_far (p := ⟨g, 4, none⟩) (blk4_farm BR2.out hne) hne _)) Try.underlying30 rfl (by kernel_rfl)) rfl ?_
    exact ⟨_, rfl, row4_putm (by decide) (blk_far (p := ⟨g, 4, none⟩) (blk4_farm BR2.out hne) hne _) (row5_putm (by decide) BG2.out HR2.out), ⟨GG.out, _, blk4_farm (blk5_putm BG2.out) (Ne.symm hne), Kd.R_nil _ _ _ _ _⟩, keep4_farm (keep5_putm HK2.out) GR.out, bel4m (bel5m HBk.out GG.out) (Nat.le_trans hb GR.out)⟩
  | false =>
    go_enter Try.func44, Try.ntmps44
    go_wp2_with (first | ((with_reducible refine gate_dst (N := 2) rfl ?_); refine box_event ?hg (N := 2) ?hd (cs := #[.int .i64 0, .int .i64 0, .int .i64 0, .slice none 0 0]) (t := 30) ?hr ?_; (case hd => rfl); (case hg => rfl); (case hr => first | (go_simp; done) | (go_simp; rfl)); intro gr hgr w1 hbox hb1; have hne : gr ≠ g := (by have := blk_lt BG.out; omega); have GR := Aside0.mk (show w.heap.size ≤ gr by omega); clear hgr; have BR := Aside0.mk hbox; have BG1 := Aside0.mk (blk_below BG.out hb1); have HB1 := Aside0.mk hb1; clear hbox hb1 j0 j1 j2 j3 j4 y0 y1 y2 y3 y4; obtain ⟨⟨j0, j1, j2, j3, j4⟩, y0, y1, y2, y3, y4⟩ := cell5m BG1.out; obtain ⟨⟨k0, k1, k2, k3⟩, z0, z1, z2, z3⟩ := cell4m BR.out) | fail)
    have H := hx.out
    simp only [merge_Flush.f, Bool.false_eq_true, if_false, Prod.mk.injEq] at H
    obtain ⟨rfl, rfl, rfl, rfl⟩ := H
    have HR1 := Kd.R_below HR.out HB1.out
    refine bodyPost_ret (results_ct rfl _ _ gr 30 #[.int .i64 0, .int .i64 0, .int .i64 0, .slice none 0 0] (0, 0) _ rfl (by exact blk4_putm BR.out) Try.underlying30 rfl (by kernel_rfl)) rfl ?_
    exact ⟨_, rfl, Kd.R_nil _ _ _ _ _, ⟨GG.out, _, blk4_farm BG1.out (Ne.symm hne), row4_putm (by decide) BR.out HR1⟩, keep4_farm (KeepBut.of_below HB1.out g none) GR.out, bel4m (HB1.out.mono hb) (Nat.le_trans hb GR.out)⟩
set_option maxHeartbeats 8000000 in
set_option maxRecDepth 100000 in
theorem merge_Add.fresh (base g : Nat) (x : Int) (y : Bool) (m r : S30) (A : Option Addr) (c : Nat) (c1 c2 c3 : Int) (c4 : List Int) (w : World) (hM : PAt w base g m false x y) (hb : base ≤ w.heap.size) (hr : Kd.C (Kd.int .i64) w A r.f3.length r.f3) (hc : r.f3.length ≤ c) (h : merge_copied.f r.f0 r.f1 r.f2 r.f3 = some (c1, c2, c3, c4)) :
    Calls Try.prog 58 #[.pointer (some ⟨g, 0, none⟩), .agg #[.int .i64 r.f0, .int .i64 r.f1, .int .i64 r.f2, .slice A r.f3.length c]] w fun e w' => ∃ v : Value, e = .returned (.tuple #[.agg #[.int .i64 0, .int .i64 0, .int .i64 0, v], .bool false]) ∧ Kd.R (Kd.int .i64) 3 w' base (fun _ => True) v [] ∧ PAt w' base g ⟨c1, c2, c3, c4⟩ true x y ∧ KeepBut w w' g none ∧ Below base w w' := by
  have hu := Try.underlying30
  obtain ⟨hg, v, hbk, hR⟩ := hM
  obtain ⟨A0, cp, rfl⟩ := Kd.R_slice hR
  have BG := Aside0.mk hbk
  have GG := Aside0.mk hg
  have HC := Aside0.mk hr
  have HCC := Aside0.mk hc
  have HA := Aside0.mk h
  have HBS := Aside0.mk hb
  clear hbk hR hg hr hc h hb
  obtain ⟨⟨j0, j1, j2, j3, j4⟩, y0, y1, y2, y3, y4⟩ := cell5m BG.out
  go_enter Try.func58, Try.ntmps58
  go_upto_region 5 with (first | ((with_reducible refine gate_dst (N := 3) rfl ?_); refine box_event ?hg (N := 3) ?hd (cs := #[.int .i64 r.f0, .int .i64 r.f1, .int .i64 r.f2, .slice A r.f3.length c]) (t := 30) ?hr ?_; (case hd => rfl); (case hg => rfl); (case hr => first | (go_simp; done) | (go_simp; rfl)); intro gi hgi w1 hbox hb1; have hni : gi ≠ g := (by have := blk_lt BG.out; omega); have GI := Aside0.mk (show w.heap.size ≤ gi by omega); clear hgi; have BI := Aside0.mk hbox; have BG1 := Aside0.mk (blk_below BG.out hb1); have HB1 := Aside0.mk hb1; clear hbox hb1 j0 j1 j2 j3 j4 y0 y1 y2 y3 y4) | ((with_reducible refine gate_dst (N := 4) rfl ?_); refine box_event ?hg (N := 4) ?hd (cs := #[.int .i64 0, .int .i64 0, .int .i64 0, .slice none 0 0]) (t := 30) ?hr ?_; (case hd => rfl); (case hg => rfl); (case hr => first | (go_simp; done) | (go_simp; rfl)); intro gr hgr w2 hbox hb2; have hne : gr ≠ g := (by have := blk_lt BG1.out; omega); have hir : gi ≠ gr := (by have := blk_lt BI.out; omega); have GR := Aside0.mk (show w.heap.size ≤ gr by have := HB1.out.size; omega); clear hgr; have BR2 := Aside0.mk hbox; have BG2 := Aside0.mk (blk_below BG1.out hb2); have BI2 := Aside0.mk (blk_below BI.out hb2); have HB2 := Aside0.mk (below_step HB1.out hb2); clear hbox hb2 BG1 BI HB1; obtain ⟨⟨j0, j1, j2, j3, j4⟩, y0, y1, y2, y3, y4⟩ := cell5m BG2.out; obtain ⟨⟨k0, k1, k2, k3⟩, z0, z1, z2, z3⟩ := cell4m BR2.out; obtain ⟨⟨i0, i1, i2, i3⟩, u0, u1, u2, u3⟩ := cell4m BI2.out) | (go_at_call 69; (refine (merge_copied.calls r.f0 r.f1 r.f2 A c r.f3 c1 c2 c3 c4 _ (Kd.C_below HC.out HB2.out) HCC.out HA.out).mono ?_); rintro e w3 ⟨v, rfl, hR3, hb3⟩; obtain ⟨A3, cp3, rfl⟩ := Kd.R_slice hR3; have HB3 := Aside0.mk (below_step HB2.out hb3); have HR3 := Aside0.mk (Kd.R_lower hR3 (Nat.le_trans HBS.out HB2.out.size)); have BG3 := Aside0.mk (blk_below BG2.out hb3); have BR3 := Aside0.mk (blk_below BR2.out hb3); clear hR3 hb3 i0 i1 i2 i3 u0 u1 u2 u3 j0 j1 j2 j3 j4 y0 y1 y2 y3 y4 k0 k1 k2 k3 z0 z1 z2 z3; obtain ⟨⟨j0, j1, j2, j3, j4⟩, y0, y1, y2, y3, y4⟩ := cell5m BG3.out; obtain ⟨⟨k0, k1, k2, k3⟩, z0, z1, z2, z3⟩ := cell4m BR3.out) | fail)
  go_wp2
  refine bodyPost_ret (results_ct rfl _ _ gr 30 #[.int .i64 0, .int .i64 0, .int .i64 0, .slice none 0 0] (0, 0) _ rfl (by exact blk4_putm (blk_far (p := ⟨g, 4, none⟩) (blk4_farm BR3.out hne) hne _)) Try.underlying30 rfl (by kernel_rfl)) rfl ?_
  exact ⟨_, rfl, Kd.R_nil _ _ _ _ _, ⟨GG.out, _, blk4_farm (blk5_putm BG3.out) (Ne.symm hne), row4_putm (by decide) (blk_far (p := ⟨g, 4, none⟩) (blk4_farm BR3.out hne) hne _) (row5_putm (by decide) BG3.out HR3.out)⟩, keep4_farm (keep5_putm (KeepBut.of_below HB3.out g none)) GR.out, bel4m (bel5m (HB3.out.mono HBS.out) GG.out) (Nat.le_trans HBS.out GR.out)⟩
theorem blk54_putm {w : World} {g : Nat} {a b c d e f h_ a' b' c' d' : Value} {t : TypeId} (h : w.heap[g]? = some (.cells #[a, b, c, d, e, f, h_] t (0, 0))) : ((((w.setCell ⟨g, 0, none⟩ a').setCell ⟨g, 1, none⟩ b').setCell ⟨g, 2, none⟩ c').setCell ⟨g, 3, none⟩ d').heap[g]? = some (.cells #[a', b', c', d', e, f, h_] t (0, 0)) :=
  blk_put (cs := #[a', b', c', d, e, f, h_]) (blk_put (cs := #[a', b', c, d, e, f, h_]) (blk_put (cs := #[a', b, c, d, e, f, h_]) (blk_put (cs := #[a, b, c, d, e, f, h_]) h 0 a' rfl) 1 b' rfl) 2 c' rfl) 3 d' rfl
theorem row54_putm {w : World} {g base : Nat} {ok : Nat → Prop} {v : Value} {xs : List Int} {a b c d e f h_ a' b' c' d' : Value} {t : TypeId} (ht : t ≠ 3) (h : w.heap[g]? = some (.cells #[a, b, c, d, e, f, h_] t (0, 0))) (hr : Kd.R (Kd.int .i64) 3 w base ok v xs) : Kd.R (Kd.int .i64) 3 ((((w.setCell ⟨g, 0, none⟩ a').setCell ⟨g, 1, none⟩ b').setCell ⟨g, 2, none⟩ c').setCell ⟨g, 3, none⟩ d') base ok v xs := by
  have ht' : ∀ q, q ∈ 3 :: (Kd.int .i64).E → q ≠ t := fun q hq => by rw [List.mem_singleton.1 hq]; exact fun e => ht e.symm
  have h1 := blk_put (cs' := #[a', b, c, d, e, f, h_]) h 0 a' rfl
  have h2 := blk_put (cs' := #[a', b', c, d, e, f, h_]) h1 1 b' rfl
  have h3 := blk_put (cs' := #[a', b', c', d, e, f, h_]) h2 2 c' rfl
  exact Kd.R_set (Kd.R_set (Kd.R_set (Kd.R_set hr h ht' 0 a') h1 ht' 1 b') h2 ht' 2 c') h3 ht' 3 d'
theorem keep54_putm {w W : World} {g : Nat} {a' b' c' d' : Value} (h : KeepBut w W g none) : KeepBut w ((((W.setCell ⟨g, 0, none⟩ a').setCell ⟨g, 1, none⟩ b').setCell ⟨g, 2, none⟩ c').setCell ⟨g, 3, none⟩ d') g none :=
  (((h.set_ 0 a').set_ 1 b').set_ 2 c').set_ 3 d'
theorem hold8m {w w' : World} (hb : Below w.heap.size w w') {a b : Nat} {v0 v1 v2 v3 u0 u1 u2 u3 : Value} (h : w.cell? ⟨a, 0, none⟩ = some v0 ∧ w.cell? ⟨a, 1, none⟩ = some v1 ∧ w.cell? ⟨a, 2, none⟩ = some v2 ∧ w.cell? ⟨a, 3, none⟩ = some v3 ∧ w.cell? ⟨b, 0, none⟩ = some u0 ∧ w.cell? ⟨b, 1, none⟩ = some u1 ∧ w.cell? ⟨b, 2, none⟩ = some u2 ∧ w.cell? ⟨b, 3, none⟩ = some u3) : Below w.heap.size w w' ∧ w'.cell? ⟨a, 0, none⟩ = some v0 ∧ w'.cell? ⟨a, 1, none⟩ = some v1 ∧ w'.cell? ⟨a, 2, none⟩ = some v2 ∧ w'.cell? ⟨a, 3, none⟩ = some v3 ∧ w'.cell? ⟨b, 0, none⟩ = some u0 ∧ w'.cell? ⟨b, 1, none⟩ = some u1 ∧ w'.cell? ⟨b, 2, none⟩ = some u2 ∧ w'.cell? ⟨b, 3, none⟩ = some u3 :=
  ⟨hb, pw_cell_below hb h.1, pw_cell_below hb h.2.1, pw_cell_below hb h.2.2.1, pw_cell_below hb h.2.2.2.1, pw_cell_below hb h.2.2.2.2.1, pw_cell_below hb h.2.2.2.2.2.1, pw_cell_below hb h.2.2.2.2.2.2.1, pw_cell_below hb h.2.2.2.2.2.2.2⟩
set_option maxHeartbeats 8000000 in
set_option maxRecDepth 100000 in
theorem merge_Add.two (k base g : Nat) (x : Int) (y : Bool) (m r : S30) (A : Option Addr) (c : Nat) (p1 p2 p3 : Int) (p4 : List Int) (p5 : Bool) (w : World) (hM : PAt w base g m true x y) (hb : base ≤ w.heap.size) (hr : Kd.C (Kd.int .i64) w A r.f3.length r.f3) (hc : r.f3.length ≤ c) (h : merge_Two.f k m.f0 m.f1 m.f2 m.f3 r.f0 r.f1 r.f2 r.f3 = some (p1, p2, p3, p4, p5)) (o : S30) (ok : Bool) (m' : S30) (h2 : (if p5 = true then some (z30, false, (⟨p1, p2, p3, p4⟩ : S30)) else (merge_copied.f r.f0 r.f1 r.f2 r.f3).bind fun c => some (m, true, (⟨c.1, c.2.1, c.2.2.1, c.2.2.2⟩ : S30))) = some (o, ok, m')) :
    Calls Try.prog 58 #[.pointer (some ⟨g, 0, none⟩), .agg #[.int .i64 r.f0, .int .i64 r.f1, .int .i64 r.f2, .slice A r.f3.length c]] w fun e w' => ∃ v : Value, e = .returned (.tuple #[.agg #[.int .i64 o.f0, .int .i64 o.f1, .int .i64 o.f2, v], .bool ok]) ∧ Kd.R (Kd.int .i64) 3 w' base (fun _ => True) v o.f3 ∧ PAt w' base g m' true x y ∧ KeepBut w w' g none ∧ Below base w w' := by
  have hu := Try.underlying30
  obtain ⟨hg, v, hbk, hR⟩ := hM
  obtain ⟨A0, cp, rfl⟩ := Kd.R_slice hR
  have BG := Aside0.mk hbk
  have GG := Aside0.mk hg
  have HR := Aside0.mk hR
  have HC := Aside0.mk hr
  have HCC := Aside0.mk hc
  have HA := Aside0.mk h
  have H2 := Aside0.mk h2
  have HBS := Aside0.mk hb
  clear hbk hR hg hr hc h h2 hb
  obtain ⟨⟨j0, j1, j2, j3, j4⟩, y0, y1, y2, y3, y4⟩ := cell5m BG.out
  go_enter Try.func58, Try.ntmps58
  go_upto_region 6 with (first | ((with_reducible refine gate_dst (N := 3) rfl ?_); refine box_event ?hg (N := 3) ?hd (cs := #[.int .i64 r.f0, .int .i64 r.f1, .int .i64 r.f2, .slice A r.f3.length c]) (t := 30) ?hr ?_; (case hd => rfl); (case hg => rfl); (case hr => first | (go_simp; done) | (go_simp; rfl)); intro gi hgi w1 hbox hb1; have hni : gi ≠ g := (by have := blk_lt BG.out; omega); have GI := Aside0.mk (show w.heap.size ≤ gi by omega); clear hgi; have BI := Aside0.mk hbox; have BG1 := Aside0.mk (blk_below BG.out hb1); have HB1 := Aside0.mk hb1; clear hbox hb1 j0 j1 j2 j3 j4 y0 y1 y2 y3 y4) | ((with_reducible refine gate_dst (N := 4) rfl ?_); refine box_event ?hg (N := 4) ?hd (cs := #[.int .i64 0, .int .i64 0, .int .i64 0, .slice none 0 0]) (t := 30) ?hr ?_; (case hd => rfl); (case hg => rfl); (case hr => first | (go_simp; done) | (go_simp; rfl)); intro gr hgr w2 hbox hb2; have hne : gr ≠ g := (by have := blk_lt BG1.out; omega); have hir : gi ≠ gr := (by have := blk_lt BI.out; omega); have GR := Aside0.mk (show w.heap.size ≤ gr by have := HB1.out.size; omega); clear hgr; have BR2 := Aside0.mk hbox; have BG2 := Aside0.mk (blk_below BG1.out hb2); have BI2 := Aside0.mk (blk_below BI.out hb2); have HB2 := Aside0.mk (below_step HB1.out hb2); clear hbox hb2 BG1 BI HB1; obtain ⟨⟨j0, j1, j2, j3, j4⟩, y0, y1, y2, y3, y4⟩ := cell5m BG2.out; obtain ⟨⟨k0, k1, k2, k3⟩, z0, z1, z2, z3⟩ := cell4m BR2.out; obtain ⟨⟨i0, i1, i2, i3⟩, u0, u1, u2, u3⟩ := cell4m BI2.out) | fail)
  have HRR := Aside0.mk (Kd.R_reads' (Kd.R_below HR.out HB2.out))
  have hlg : g < w2.heap.size := blk_lt BG2.out
  have hli : gi < w2.heap.size := blk_lt BI2.out
  go_cut [6, 7] (fun v6 v7 wx => ∃ (g6 : Nat) (A3 : Option Addr) (c3 : Nat), v6 = .pointer (some ⟨g6, 0, none⟩) ∧ v7 = .bool p5 ∧ Aside0 (w2.heap.size ≤ g6) ∧ Aside0 (Below w2.heap.size w2 wx) ∧ Aside0 (wx.heap[g6]? = some (.cells #[.int .i64 p1, .int .i64 p2, .int .i64 p3, .slice A3 p4.length c3] 30 (0, 0))) ∧ Aside0 (Kd.R (Kd.int .i64) 3 wx w2.heap.size (fun _ => True) (.slice A3 p4.length c3) p4))
  case first =>
    go_region_held3 (fun w' => Below w2.heap.size w2 w' ∧ w'.cell? ⟨g, 0, none⟩ = some (.int .i64 m.f0) ∧ w'.cell? ⟨g, 1, none⟩ = some (.int .i64 m.f1) ∧ w'.cell? ⟨g, 2, none⟩ = some (.int .i64 m.f2) ∧ w'.cell? ⟨g, 3, none⟩ = some (.slice A0 m.f3.length cp) ∧ w'.cell? ⟨gi, 0, none⟩ = some (.int .i64 r.f0) ∧ w'.cell? ⟨gi, 1, none⟩ = some (.int .i64 r.f1) ∧ w'.cell? ⟨gi, 2, none⟩ = some (.int .i64 r.f2) ∧ w'.cell? ⟨gi, 3, none⟩ = some (.slice A r.f3.length c)) ((refine hold8m ?_ ⟨j0, j1, j2, j3, i0, i1, i2, i3⟩; repeat (first | (with_reducible exact Below.refl _ _) | exact below_step (by repeat (first | (with_reducible exact Below.refl _ _) | apply below_alloc | apply below_drew1)) hb3 | apply below_alloc | apply below_drew1 | (refine below_set ?_ (by first | (have := hb3.size; simp at this ⊢; omega) | (simp; done)))))) (first | ((go_at_call 66; refine (merge_Two.calls k m.f0 m.f1 m.f2 A0 cp m.f3 r.f0 r.f1 r.f2 A c r.f3 p1 p2 p3 p4 p5 _ (by (with_reducible repeat (first | apply Kd.C_alloc | apply Kd.C_drew)); exact HRR.out.2.2) HRR.out.2.1 (by (with_reducible repeat (first | apply Kd.C_alloc | apply Kd.C_drew)); exact Kd.C_below HC.out HB2.out) HCC.out HA.out).mono ?_; rintro e w3 ⟨v, rfl, hR3, hb3⟩; obtain ⟨A3, cp3, rfl⟩ := Kd.R_slice hR3; (try (have hq_ : Below (w2.alloc (Obj.cells #[.int .i64 0, .int .i64 0, .int .i64 0, .slice none 0 0] 30)).drew.heap.size (w2.alloc (Obj.cells #[.int .i64 0, .int .i64 0, .int .i64 0, .slice none 0 0] 30)).drew w3 := (by with_reducible exact hb3); have BQ := Aside0.mk (blk_below (blk_drew (blk_new w2 (Obj.cells #[.int .i64 0, .int .i64 0, .int .i64 0, .slice none 0 0] 30))) hq_); obtain ⟨⟨q0, q1, q2, q3⟩, x0, x1, x2, x3⟩ := cell4m BQ.out; have HQ := Aside0.mk (Kd.R_lower hR3 (show w2.heap.size ≤ (w2.alloc (Obj.cells #[.int .i64 0, .int .i64 0, .int .i64 0, .slice none 0 0] 30)).drew.heap.size by simp)); have HQB := Aside0.mk (below_step (below_drew1 (below_alloc (Below.refl _ _) (Obj.cells #[.int .i64 0, .int .i64 0, .int .i64 0, .slice none 0 0] 30))) hq_); clear hq_)))))
    · go_wp2_with fail
      go_meet
      exact ⟨w3.heap.size, A3, cp3, rfl, rfl, ⟨hb3.size⟩, ⟨below_alloc (below_step (below_drew1 (Below.refl _ _)) hb3) _⟩, ⟨blk_new _ _⟩, ⟨Kd.R_alloc hR3 _⟩⟩
    · go_wp2_with fail
      go_meet
      exact ⟨w2.heap.size, A3, cp3, rfl, rfl, ⟨Nat.le_refl _⟩, ⟨below_set (below_set (below_set (below_set HQB.out (Nat.le_refl _)) (Nat.le_refl _)) (Nat.le_refl _)) (Nat.le_refl _)⟩, ⟨blk4_putm BQ.out⟩, ⟨row4_putm (by decide) BQ.out HQ.out⟩⟩
  case rest =>
    obtain ⟨g6, A3, c3, rfl, rfl, HG6, HBx, B6, HRx⟩ := hcut
    have HBw := Aside0.mk (below_step HB2.out HBx.out)
    have BGx := Aside0.mk (blk_below BG2.out HBx.out)
    have BRx := Aside0.mk (blk_below BR2.out HBx.out)
    have BIx := Aside0.mk (blk_below BI2.out HBx.out)
    have h6g : g6 ≠ g := (by have := HG6.out; omega)
    have h6r : g6 ≠ gr := (by have := HG6.out; have := blk_lt BR2.out; omega)
    have H := H2.out
    clear hlg hli i0 i1 i2 i3 u0 u1 u2 u3 j0 j1 j2 j3 j4 y0 y1 y2 y3 y4 k0 k1 k2 k3 z0 z1 z2 z3 HA H2
    obtain ⟨⟨j0, j1, j2, j3, j4⟩, y0, y1, y2, y3, y4⟩ := cell5m BGx.out
    obtain ⟨⟨k0, k1, k2, k3⟩, z0, z1, z2, z3⟩ := cell4m BRx.out
    obtain ⟨⟨i0, i1, i2, i3⟩, u0, u1, u2, u3⟩ := cell4m BIx.out
    obtain ⟨⟨l0, l1, l2, l3⟩, x0, x1, x2, x3⟩ := cell4m B6.out
    cases p5 with
    | true =>
      simp only [if_true, Option.some.injEq, Prod.mk.injEq] at H
      obtain ⟨rfl, rfl, rfl⟩ := H
      go_wp2
      refine bodyPost_ret (results_ct rfl _ _ gr 30 #[.int .i64 0, .int .i64 0, .int .i64 0, .slice none 0 0] (0, 0) _ rfl (by exact blk4_putm (blk4_farm BRx.out hne)) Try.underlying30 rfl (by kernel_rfl)) rfl ?_
      exact ⟨_, rfl, Kd.R_nil _ _ _ _ _, ⟨GG.out, _, blk4_farm (blk54_putm BGx.out) (Ne.symm hne), row4_putm (by decide) (blk4_farm BRx.out hne) (row54_putm (by decide) BGx.out (Kd.R_lower HRx.out (Nat.le_trans HBS.out HB2.out.size)))⟩, keep4_farm (keep54_putm (KeepBut.of_below HBw.out g none)) GR.out, bel4m (bel4m (HBw.out.mono HBS.out) GG.out) (Nat.le_trans HBS.out GR.out)⟩
    | false =>
      simp only [Bool.false_eq_true, if_false] at H
      obtain ⟨⟨c1, c2, c3', c4⟩, A2, H⟩ := Option.bind_eq_some_iff.mp H
      simp only [Option.some.injEq, Prod.mk.injEq] at H
      obtain ⟨rfl, rfl, rfl⟩ := H
      have HA2 := Aside0.mk A2
      clear A2
      have hgo : wc.heap.size ≠ g := by have := blk_lt BGx.out; omega
      have hro : gr ≠ wc.heap.size := by have := blk_lt BRx.out; omega
      have hio : gi ≠ wc.heap.size := by have := blk_lt BIx.out; omega
      go_upto_region 11 with fail
      have BG4 := Aside0.mk (blk_alloc BGx.out (Obj.cells #[.int .i64 m.f0, .int .i64 m.f1, .int .i64 m.f2, .slice A0 m.f3.length cp] 30))
      have BR4 := Aside0.mk (blk_alloc BRx.out (Obj.cells #[.int .i64 m.f0, .int .i64 m.f1, .int .i64 m.f2, .slice A0 m.f3.length cp] 30))
      have BI4 := Aside0.mk (blk_alloc BIx.out (Obj.cells #[.int .i64 m.f0, .int .i64 m.f1, .int .i64 m.f2, .slice A0 m.f3.length cp] 30))
      have BO4 := Aside0.mk (blk_new wc (Obj.cells #[.int .i64 m.f0, .int .i64 m.f1, .int .i64 m.f2, .slice A0 m.f3.length cp] 30))
      have HB4 := Aside0.mk (below_alloc HBw.out (Obj.cells #[.int .i64 m.f0, .int .i64 m.f1, .int .i64 m.f2, .slice A0 m.f3.length cp] 30))
      clear BGx BRx BIx HBw HBx B6 HRx i0 i1 i2 i3 u0 u1 u2 u3 j0 j1 j2 j3 j4 y0 y1 y2 y3 y4 k0 k1 k2 k3 z0 z1 z2 z3 l0 l1 l2 l3 x0 x1 x2 x3
      generalize wc.alloc (Obj.cells #[.int .i64 m.f0, .int .i64 m.f1, .int .i64 m.f2, .slice A0 m.f3.length cp] 30) = w4 at BG4 BR4 BI4 BO4 HB4 ⊢
      generalize wc.heap.size = go at hgo hro hio BO4 ⊢
      obtain ⟨⟨i0, i1, i2, i3⟩, u0, u1, u2, u3⟩ := cell4m BI4.out
      go_upto_region 12 with (first | (go_at_call 69; (refine (merge_copied.calls r.f0 r.f1 r.f2 A c r.f3 c1 c2 c3' c4 _ (Kd.C_below HC.out HB4.out) HCC.out HA2.out).mono ?_); rintro e w5 ⟨v, rfl, hR5, hb5⟩; obtain ⟨A5, cp5, rfl⟩ := Kd.R_slice hR5; have BG5 := Aside0.mk (blk_below BG4.out hb5); have BR5 := Aside0.mk (blk_below BR4.out hb5); have BO5 := Aside0.mk (blk_below BO4.out hb5); have HB5 := Aside0.mk (below_step HB4.out hb5); have HR5 := Aside0.mk (Kd.R_lower hR5 (Nat.le_trans HBS.out HB4.out.size)); clear hR5 hb5 i0 i1 i2 i3 u0 u1 u2 u3; obtain ⟨⟨j0, j1, j2, j3, j4⟩, y0, y1, y2, y3, y4⟩ := cell5m BG5.out; obtain ⟨⟨k0, k1, k2, k3⟩, z0, z1, z2, z3⟩ := cell4m BR5.out; obtain ⟨⟨l0, l1, l2, l3⟩, x0, x1, x2, x3⟩ := cell4m BO5.out) | fail)
      have HRm := Aside0.mk (Kd.R_below HR.out HB5.out)
      go_wp2
      refine bodyPost_ret (results_ct rfl _ _ gr 30 #[.int .i64 m.f0, .int .i64 m.f1, .int .i64 m.f2, .slice A0 m.f3.length cp] (0, 0) _ rfl (by exact blk4_putm (blk4_farm BR5.out hne)) Try.underlying30 rfl (by kernel_rfl)) rfl ?_
      exact ⟨_, rfl, row4_putm (by decide) (blk4_farm BR5.out hne) (row54_putm (by decide) BG5.out HRm.out), ⟨GG.out, _, blk4_farm (blk54_putm BG5.out) (Ne.symm hne), row4_putm (by decide) (blk4_farm BR5.out hne) (row54_putm (by decide) BG5.out HR5.out)⟩, keep4_farm (keep54_putm (KeepBut.of_below HB5.out g none)) GR.out, bel4m (bel4m (HB5.out.mono HBS.out) GG.out) (Nat.le_trans HBS.out GR.out)⟩
theorem merge_Add.calls (k base g : Nat) (x : Int) (y : Bool) (m r : S30) (has : Bool) (A : Option Addr) (c : Nat) (o : S30) (ok : Bool) (m' : S30) (has' : Bool) (w : World) (hM : PAt w base g m has x y) (hb : base ≤ w.heap.size) (hr : Kd.C (Kd.int .i64) w A r.f3.length r.f3) (hc : r.f3.length ≤ c) (h : merge_Add.f k m has r = some (o, ok, m', has')) :
    Calls Try.prog 58 #[.pointer (some ⟨g, 0, none⟩), .agg #[.int .i64 r.f0, .int .i64 r.f1, .int .i64 r.f2, .slice A r.f3.length c]] w fun e w' => ∃ v : Value, e = .returned (.tuple #[.agg #[.int .i64 o.f0, .int .i64 o.f1, .int .i64 o.f2, v], .bool ok]) ∧ Kd.R (Kd.int .i64) 3 w' base (fun _ => True) v o.f3 ∧ PAt w' base g m' has' x y ∧ KeepBut w w' g none ∧ Below base w w' := by
  unfold merge_Add.f at h
  cases has with
  | false =>
    rw [if_pos rfl] at h
    obtain ⟨⟨c1, c2, c3, c4⟩, A1, h⟩ := Option.bind_eq_some_iff.mp h
    simp only [Option.some.injEq, Prod.mk.injEq] at h
    obtain ⟨rfl, rfl, rfl, rfl⟩ := h
    exact merge_Add.fresh base g x y m r A c c1 c2 c3 c4 w hM hb hr hc A1
  | true =>
    rw [if_neg (by decide)] at h
    obtain ⟨⟨p1, p2, p3, p4, p5⟩, A1, h⟩ := Option.bind_eq_some_iff.mp h
    have e : has' = true := by
      cases p5
      · simp only [Bool.false_eq_true, if_false] at h
        obtain ⟨q, _, h⟩ := Option.bind_eq_some_iff.mp h
        simp only [Option.some.injEq, Prod.mk.injEq] at h
        exact h.2.2.2.symm
      · simp only [if_true, Option.some.injEq, Prod.mk.injEq] at h
        exact h.2.2.2.symm
    subst e
    refine merge_Add.two k base g x y m r A c p1 p2 p3 p4 p5 w hM hb hr hc A1 o ok m' ?_
    cases p5
    · simp only [Bool.false_eq_true, if_false] at h ⊢
      obtain ⟨q, hq, h⟩ := Option.bind_eq_some_iff.mp h
      simp only [Option.some.injEq, Prod.mk.injEq] at h
      obtain ⟨rfl, rfl, rfl, _⟩ := h
      rw [hq]; rfl
    · simp only [if_true, Option.some.injEq, Prod.mk.injEq] at h ⊢
      obtain ⟨rfl, rfl, rfl, _⟩ := h
      exact ⟨rfl, rfl, rfl⟩
end Go.Proofs.Ytejcopppchaneaa.PF
end
section
set_option linter.unusedVariables false
set_option linter.unusedSimpArgs false
namespace Go.Proofs.Ytejcopppchaneaa.Bld
open Go.RowKit Go.Proofs.YtejcopppchaneaaW.PrintWords
theorem copy_at (B b : Nat) (p v : Value) (bs : List Value) (w : World) (hbk : w.heap[b]? = some (.cells #[p, v] 81 (0, 0))) (hp : p = .pointer none ∨ p = .pointer (some ⟨b, 0, none⟩)) (hown : w.ownsRow B 5 1 v bs.length bs) (hne : v.ownBlock ≠ some b) (hB : B ≤ b) :
    Calls Try.prog 62 #[.pointer (some ⟨b, 0, none⟩)] w fun e w' => e = .returned (.tuple #[]) ∧ (w'.heap[b]? = some (.cells #[.pointer (some ⟨b, 0, none⟩), v] 81 (0, 0)) ∧ w'.ownsRow B 5 1 v bs.length bs ∧ Below B w w' ∧ KeepBut w w' b none) := by
  rcases hp with rfl | rfl
  · have h : Lib.BuilderAt 81 5 B b (.pointer none) bs w := ⟨hB, v, hbk, hown, hne⟩
    refine (copy_fresh b w h.cell0 h.shape h.frozen0).mono ?_
    rintro e w' ⟨rfl, rfl⟩
    have hk : KeepBut w (w.setCell ⟨b, 0, none⟩ (.pointer (some ⟨b, 0, none⟩))) b none := (KeepBut.refl w b none).set_ 0 _
    exact ⟨rfl, blk_put (cs := #[.pointer none, v]) hbk 0 _ rfl, hk.own hown hne (by cases h : v.ownBlock <;> simp), (Below.refl B w).setCell (p := ⟨b, 0, none⟩) hB _, hk⟩
  · have h : Lib.BuilderAt 81 5 B b (.pointer (some ⟨b, 0, none⟩)) bs w := ⟨hB, v, hbk, hown, hne⟩
    refine (copy_used b w h.cell0).mono ?_
    rintro e w' ⟨rfl, rfl⟩
    exact ⟨rfl, hbk, hown, Below.refl B _, KeepBut.refl _ _ _⟩
set_option maxHeartbeats 2000000 in
set_option maxRecDepth 100000 in
theorem write_at (B b : Nat) (p v : Value) (bs : List Value) (s : ByteArray) (w : World) (hbk : w.heap[b]? = some (.cells #[p, v] 81 (0, 0))) (hp : p = .pointer none ∨ p = .pointer (some ⟨b, 0, none⟩)) (hown : w.ownsRow B 5 1 v bs.length bs) (hne : v.ownBlock ≠ some b) (hB : B ≤ b) (hlen : bs.length + s.size ≤ 140737488355328) (hBw : B ≤ w.heap.size) :
    Calls Try.prog 46 #[.pointer (some ⟨b, 0, none⟩), .string s] w fun e w' => e = .returned (.tuple #[.int .i64 s.size, .nilIface]) ∧ (Lib.BuilderAt 81 5 B b (.pointer (some ⟨b, 0, none⟩)) (bs ++ Lib.strCells s) w' ∧ Below B w w' ∧ KeepBut w w' b v.ownBlock) := by
  obtain ⟨i0, hi, hz0, hz1, hz2⟩ := info_parts (show (Try.prog.info? 5).map (fun i => (i.zero, i.size, i.bytes)) = some (some (.int .u8 0), 1, 1) from by kernel_rfl)
  have ne : (81 : TypeId) ≠ 5 := by decide
  go_enter Try.func46, Try.ntmps46
  go_wp2_with (go_at_call 62; refine (copy_at B b p v bs _ hbk hp hown hne hB).mono ?_)
  rintro e w1 ⟨rfl, hbk1, hown1, hb1, hk1⟩
  clear hown hbk
  have c0 : w1.cell? ⟨b, 0, none⟩ = some (.pointer (some ⟨b, 0, none⟩)) := by rw [Lib.cell_of_heap hbk1]; rfl
  have c1 : w1.cell? ⟨b, 1, none⟩ = some v := by rw [Lib.cell_of_heap hbk1]; rfl
  go_wp2_with (at_builtin; refine Lib.wpList_append_own_string _ rfl _ _ 79 9 rfl B 5 i0 Try.underlying79 Try.underlying9 hi hz0 hz1 hz2 _ _ _ rfl hown1 s rfl ?c3 ?c4 ?c5 ?_)
  case c3 => unfold maxLen; omega
  case c4 => omega
  case c5 => have := hb1.size; omega
  intro v' w2 hown' hgrow _
  have hlt : b < w1.heap.size := by
    rcases Nat.lt_or_ge b w1.heap.size with h' | h'
    · exact h'
    · simp [Array.getElem?_eq_none h'] at hbk1
  have hb2 : w2.heap[b]? = some (.cells #[.pointer (some ⟨b, 0, none⟩), v] 81 (0, 0)) := by
    rw [hgrow.block b hlt (fun e => hne e.symm)]
    exact hbk1
  have d0 : w2.cell? ⟨b, 0, none⟩ = some (.pointer (some ⟨b, 0, none⟩)) := by rw [Lib.cell_of_heap hb2]; rfl
  have d1 : w2.cell? ⟨b, 1, none⟩ = some v := by rw [Lib.cell_of_heap hb2]; rfl
  have f1 : w2.frozen? ⟨b, 1, none⟩ = false := Lib.frozen_of_heap hb2 1
  obtain ⟨ao, n', cap, rfl⟩ : ∃ ao n' cap, v' = .slice ao n' cap := by
    rcases hown'.2 with ⟨hv, _⟩ | ⟨g, cap, cur, hv, _⟩
    · exact ⟨_, _, _, hv⟩
    · exact ⟨_, _, _, hv⟩
  have HK : Aside0 (KeepBut w w2 b v.ownBlock) := ⟨⟨Nat.le_trans hk1.1 hgrow.size, fun i hi h1 h2 => (hgrow.block i (Nat.lt_of_lt_of_le hi hk1.1) h2).trans (hk1.2 i hi h1 (by simp))⟩⟩
  clear hk1
  go_wp2
  go_ret2
  refine ⟨rfl, ?_, ?_, HK.out.set_ 1 _⟩
  · exact Lib.BuilderAt.put (T := 81) (e := 5) hB hb2 (bs' := bs ++ Lib.strCells s) (by simpa [Lib.strCells_length] using hown') ne
  · exact (hb1.grown hgrow (by have := hb1.size; omega) (fun k hk => (hown1.lt k hk).1)).setCell (p := ⟨b, 1, none⟩) hB _
end Go.Proofs.Ytejcopppchaneaa.Bld
namespace Go.Proofs.Ytejcopppchaneaa.PF
open Go.RowKit Go.Proofs.YtejcopppchaneaaW.PrintWords Go.Proofs.YtejcopppchaneaaW.PrintLast Go.Proofs.YtejcopppchaneaaW.PrintMore
theorem bld_first (B b : Nat) (s : ByteArray) (w : World) (hbk : w.heap[b]? = some (.cells #[.pointer none, .slice none 0 0] 81 (0, 0))) (hB : B ≤ b) (hlen : s.size ≤ 140737488355328) :
    Calls Try.prog 46 #[.pointer (some ⟨b, 0, none⟩), .string s] w fun e w' => e = .returned (.tuple #[.int .i64 s.size, .nilIface]) ∧ (Lib.IsBuilder 81 5 B b (Lib.strCells s) w' ∧ Below B w w' ∧ KeepBut w w' b none) := by
  refine (Bld.write_at B b _ _ [] s w hbk (.inl rfl) (World.ownsRow_nil _ _ _ _) (by simp [Value.ownBlock]) hB (by simpa using hlen) (by have := blk_lt hbk; omega)).mono ?_
  rintro e w' ⟨rfl, h1, h2, h3⟩
  exact ⟨rfl, .inr h1, h2, h3⟩
theorem own_type {w : World} {B e n : Nat} {v : Value} {bs : List Value} (h : w.ownsRow B e 1 v n bs) : ∀ k, v.ownBlock = some k → ∃ cs, w.heap[k]? = some (.cells cs e (0, 0)) := by
  intro k hk
  rcases h.2 with ⟨rfl, _⟩ | ⟨g, cap, cur, rfl, _, hh, _⟩
  · simp [Value.ownBlock] at hk
  · simp only [Value.ownBlock, Option.some.injEq] at hk
    subst hk
    exact ⟨cur, hh⟩
theorem bld_more (B b : Nat) (bs : List Value) (s : ByteArray) (w : World) (h : Lib.IsBuilder 81 5 B b bs w) (hlen : bs.length + s.size ≤ 140737488355328) (hBw : B ≤ w.heap.size) :
    Calls Try.prog 46 #[.pointer (some ⟨b, 0, none⟩), .string s] w fun e w' => e = .returned (.tuple #[.int .i64 s.size, .nilIface]) ∧ (Lib.IsBuilder 81 5 B b (bs ++ Lib.strCells s) w' ∧ Below B w w' ∧ ∃ row, KeepBut w w' b row ∧ ∀ k, row = some k → ∃ cs, w.heap[k]? = some (.cells cs 5 (0, 0))) := by
  rcases h with ⟨hB, v, hbk, hown, hne⟩ | ⟨hB, v, hbk, hown, hne⟩
  all_goals
    refine (Bld.write_at B b _ v bs s w hbk (by first | exact .inl rfl | exact .inr rfl) hown hne hB hlen hBw).mono ?_
    rintro e w' ⟨rfl, h1, h2, h3⟩
    exact ⟨rfl, .inr h1, h2, v.ownBlock, h3, own_type hown⟩
theorem bld_keep {B b g : Nat} {bs : List Value} {t : TypeId} {w w' : World} {cg : Array Value} (h : Lib.IsBuilder 81 5 B b bs w) (hg : w.heap[g]? = some (.cells cg t (0, 0))) (ht : t ≠ 81) (ht5 : t ≠ 5) (hk : KeepBut w w' g none) : Lib.IsBuilder 81 5 B b bs w' := by
  have key : ∀ p, Lib.BuilderAt 81 5 B b p bs w → Lib.BuilderAt 81 5 B b p bs w' := by
    rintro p ⟨hB, v, hbk, hown, hne⟩
    have hbg : b ≠ g := by
      rintro rfl
      rw [hg] at hbk
      injection hbk with hbk
      injection hbk with _ h2
      exact ht h2
    refine ⟨hB, v, hk.blk hbk hbg (by simp), hk.own hown ?_ (by cases h : v.ownBlock <;> simp), hne⟩
    intro he
    obtain ⟨cs, hc⟩ := own_type hown g he
    rw [hg] at hc
    injection hc with hc
    injection hc with _ h2
    exact ht5 h2
  exact h.imp (key _) (key _)
theorem PAt.below {w w' : World} {base g : Nat} {m : S30} {has : Bool} {x : Int} {y : Bool} (h : PAt w base g m has x y) (hb : Below w.heap.size w w') : PAt w' base g m has x y := by
  obtain ⟨h1, v, h2, h3⟩ := h
  exact ⟨h1, v, blk_below h2 hb, Kd.R_below h3 hb⟩
theorem PAt.alloc {w : World} {base g : Nat} {m : S30} {has : Bool} {x : Int} {y : Bool} (h : PAt w base g m has x y) (o : Obj) : PAt (w.alloc o) base g m has x y := h.below (below_alloc (Below.refl _ _) o)
theorem PAt.drew {w : World} {base g : Nat} {m : S30} {has : Bool} {x : Int} {y : Bool} (h : PAt w base g m has x y) : PAt w.drew base g m has x y := h.below (below_drew (Below.refl _ _))
theorem PAt.blk {w : World} {base g : Nat} {m : S30} {has : Bool} {x : Int} {y : Bool} (h : PAt w base g m has x y) : ∃ cs, w.heap[g]? = some (.cells cs 73 (0, 0)) := by
  obtain ⟨h1, v, h2, h3⟩ := h
  exact ⟨_, h2⟩
theorem PAt.lt {w : World} {base g : Nat} {m : S30} {has : Bool} {x : Int} {y : Bool} (h : PAt w base g m has x y) : g < w.heap.size := by
  obtain ⟨cs, hc⟩ := h.blk
  exact blk_lt hc
theorem PAt.keep {w w' : World} {base g b : Nat} {m : S30} {has : Bool} {x : Int} {y : Bool} {row : Option Nat} {cg : Array Value} {t : TypeId} (h : PAt w base g m has x y) (hg : w.heap[b]? = some (.cells cg t (0, 0))) (ht : t ≠ 73) (ht3 : t ≠ 3) (hk : KeepBut w w' b row) (hr : ∀ k, row = some k → ∃ cs, w.heap[k]? = some (.cells cs 5 (0, 0))) : PAt w' base g m has x y := by
  obtain ⟨h1, v, h2, h3⟩ := h
  have hgb : g ≠ b := by
    rintro rfl
    rw [hg] at h2
    injection h2 with h2
    injection h2 with _ h2
    exact ht h2
  have hgr : some g ≠ row := by
    intro he
    obtain ⟨cs, hc⟩ := hr g he.symm
    rw [h2] at hc
    injection hc with hc
    injection hc with _ hc
    exact absurd hc (by decide)
  refine ⟨h1, v, hk.blk h2 hgb hgr, ?_⟩
  have e1 : ∀ q, q ∈ 3 :: (Kd.int .i64).E → q ≠ t := fun q hq => by rw [List.mem_singleton.1 hq]; exact fun e => ht3 e.symm
  have r1 := Kd.R_types h3 hg e1
  cases row with
  | none => exact Kd.R_mono (Kd.R_step r1 (fun k ho hlt => hk.2 k hlt ho.2 (by simp))) (fun _ _ => trivial)
  | some q =>
    obtain ⟨cs, hc⟩ := hr q rfl
    have r2 := Kd.R_types r1 hc (fun q hq => by rw [List.mem_singleton.1 hq]; decide)
    exact Kd.R_mono (Kd.R_step r2 (fun k ho hlt => hk.2 k hlt ho.1.2 (fun e => ho.2 (Option.some.inj e)))) (fun _ _ => trivial)
theorem bld_blk {B b : Nat} {bs : List Value} {w : World} (h : Lib.IsBuilder 81 5 B b bs w) : ∃ cs, w.heap[b]? = some (.cells cs 81 (0, 0)) := by
  rcases h with ⟨_, v, hbk, _⟩ | ⟨_, v, hbk, _⟩
  · exact ⟨_, hbk⟩
  · exact ⟨_, hbk⟩
theorem bld_string (B b : Nat) (l : List UInt8) (w : World) (h : Lib.IsBuilder 81 5 B b (Lib.byteCells l) w) (hBw : B ≤ w.heap.size) :
    Calls Try.prog 47 #[.pointer (some ⟨b, 0, none⟩)] w fun e w' => e = .returned (.string ⟨l.toArray⟩) ∧ Below B w w' ∧ Lib.OthersKept 5 (some b) w w' :=
  (Any.Builder_String_any_k Try.lays169 Try.Builder_Extra_169 B b l w (Lib.IsBuilderF.of h) hBw).mono (fun e w' h => ⟨h.1, h.2.2.1, h.2.2.2⟩)
theorem PAt.others {w w' : World} {base g b : Nat} {m : S30} {has : Bool} {x : Int} {y : Bool} {cg : Array Value} (h : PAt w base g m has x y) (hg : w.heap[b]? = some (.cells cg 81 (0, 0))) (hk : Lib.OthersKept 5 (some b) w w') : PAt w' base g m has x y := by
  obtain ⟨h1, v, h2, h3⟩ := h
  have hty : ∀ (k : Nat) (t : TypeId) (cs : Array Value), w.heap[k]? = some (.cells cs t (0, 0)) → t ≠ 81 → t ≠ 5 → w'.heap[k]? = w.heap[k]? := by
    intro k t cs hc ht ht5
    rw [hc]
    refine hk k _ hc ?_ ?_
    · intro e
      injection e with e
      subst e
      rw [hg] at hc
      injection hc with hc
      injection hc with _ hc
      exact ht hc.symm
    · intro c fz e
      injection e with _ e
      exact ht5 e
  refine ⟨h1, v, (hty g _ _ h2 (by decide) (by decide)).trans h2, ?_⟩
  refine Kd.R_mono (Kd.R_step (Kd.R_bound h3) (fun k ho _ => ?_)) (fun _ _ => trivial)
  obtain ⟨_, _, _, q, hq, cs, hc⟩ := ho
  rw [List.mem_singleton.1 hq] at hc
  exact hty k 3 cs hc (by decide) (by decide)
theorem kept_low {w w1 w2 : World} {S : Nat → Prop} (h : Kept w w1 S) (hb : Below w.heap.size w1 w2) : Kept w w2 S :=
  ⟨Nat.le_trans h.1 hb.size, fun i hi hn => (hb.block i hi).trans (h.2 i hi hn)⟩
theorem cell7 {w : World} {g : Nat} {a b c d e f i : Value} {t : TypeId} (h : w.heap[g]? = some (.cells #[a, b, c, d, e, f, i] t (0, 0))) : (w.cell? ⟨g, 4, none⟩ = some e ∧ w.cell? ⟨g, 5, none⟩ = some f ∧ w.cell? ⟨g, 6, none⟩ = some i) ∧ w.frozen? ⟨g, 5, none⟩ = false ∧ w.frozen? ⟨g, 6, none⟩ = false :=
  ⟨⟨(blk_cell h 4).trans rfl, (blk_cell h 5).trans rfl, (blk_cell h 6).trans rfl⟩, blk_frozen h 5, blk_frozen h 6⟩
end Go.Proofs.Ytejcopppchaneaa.PF
end
section
namespace Go.Proofs.Ytejcopppchaneaa.Pure
open Go.RowKit Go.Proofs.YtejcopppchaneaaW.PrintWords Go.Proofs.YtejcopppchaneaaW.PrintLast Go.Proofs.YtejcopppchaneaaW.PrintMore
theorem jw64 {n : Int} (h0 : -9223372036854775808 ≤ n) (h1 : n < 9223372036854775808) : wrap64 n = n := by unfold wrap64; omega
theorem jwraps_i64 (n : Int) (h₀ : 0 ≤ n) (h₁ : n < 2 ^ 63) : IntKind.i64.wrap n = n := by
  rw [IntKind.wrap_i64]; omega
theorem jwf64 {a : Int} (h : (Lit.int .i64 a).wf = true) : -9223372036854775808 ≤ a ∧ a < 9223372036854775808 := by
  have h' : IntKind.i64.min ≤ a ∧ a ≤ IntKind.i64.max := by simpa [Lit.wf] using h
  have e1 : IntKind.i64.min = -9223372036854775808 := by decide
  have e2 : IntKind.i64.max = 9223372036854775807 := by decide
  omega
theorem ev_is {α : Type} {g : Nat → Option α} {r : α} (h : ∀ k, g k = some r) : Ev g r := ⟨0, fun k _ => h k⟩
theorem ev_add {α : Type} {g : Nat → Option α} {r : α} (n : Nat) (h : ∀ k, g (k + n) = some r) : Ev g r := ⟨n, fun k hk => by rw [show k = (k - n) + n by omega]; exact h _⟩
def IsB (l : List Int) : Prop := ∀ x ∈ l, 0 ≤ x ∧ x ≤ 255
theorem isB_bytesOf (s : ByteArray) : IsB (bytesOf s) := by
  intro x hx
  unfold bytesOf at hx
  obtain ⟨b, _, rfl⟩ := List.mem_map.1 hx
  have := b.toNat_lt
  omega
theorem isB_append {a b : List Int} (ha : IsB a) (hb : IsB b) : IsB (a ++ b) := by
  intro x hx
  rcases List.mem_append.1 hx with h | h
  · exact ha x h
  · exact hb x h
theorem bytesOf_append (a b : ByteArray) : bytesOf (a ++ b) = bytesOf a ++ bytesOf b := by simp [bytesOf]
theorem bytesOf_inj {a b : ByteArray} (h : bytesOf a = bytesOf b) : a = b := by
  have h2 : a.data.toList = b.data.toList := by
    unfold bytesOf at h
    refine List.map_inj_right (f := fun b : UInt8 => (b.toNat : Int)) ?_ |>.1 h
    intro x y hxy
    exact UInt8.toNat_inj.1 (by omega)
  have h3 : a.data = b.data := by rw [← Array.toArray_toList (xs := a.data), h2, Array.toArray_toList]
  cases a; cases b; simp at h3; rw [h3]
theorem bytesOf_strOfNums {l : List Int} (h : IsB l) : bytesOf (strOfNums l) = l := by
  unfold bytesOf
  rw [strOfNums_data, List.map_map]
  conv => rhs; rw [← List.map_id l]
  refine List.map_congr_left (fun x hx => ?_)
  have := h x hx
  simp only [Function.comp, id, UInt8.toNat_ofNat']
  omega
theorem strOfNums_bytesOf (s : ByteArray) : strOfNums (bytesOf s) = s := bytesOf_inj (bytesOf_strOfNums (isB_bytesOf s))
theorem strOfNums_append {a b : List Int} (ha : IsB a) (hb : IsB b) : strOfNums (a ++ b) = strOfNums a ++ strOfNums b :=
  bytesOf_inj (by rw [bytesOf_strOfNums (isB_append ha hb), bytesOf_append, bytesOf_strOfNums ha, bytesOf_strOfNums hb])
def vput (n : Nat) : List Int := if n < 128 then [(n : Int)] else ((n % 128 + 128 : Nat) : Int) :: vput (n / 128)
termination_by n
decreasing_by omega
theorem vput_small {n : Nat} (h : n < 128) : vput n = [(n : Int)] := by rw [vput, if_pos h]
theorem vput_big {n : Nat} (h : ¬ n < 128) : vput n = ((n % 128 + 128 : Nat) : Int) :: vput (n / 128) := by rw [vput, if_neg h]
theorem isB_vput : ∀ (n : Nat), IsB (vput n) := by
  intro n
  induction n using Nat.strongRecOn with
  | _ n ih =>
    by_cases h : n < 128
    · rw [vput_small h]
      intro x hx
      rw [List.mem_singleton] at hx
      omega
    · rw [vput_big h]
      intro x hx
      rcases List.mem_cons.1 hx with hx | hx
      · omega
      · exact ih (n / 128) (by omega) x hx
theorem vput_pos (n : Nat) : 0 < (vput n).length := by
  by_cases h : n < 128
  · rw [vput_small h]; simp
  · rw [vput_big h]; simp
theorem vput_le : ∀ (m n : Nat), n < 128 ^ (m + 1) → (vput n).length ≤ m + 1 := by
  intro m
  induction m with
  | zero => intro n h; rw [vput_small (by omega)]; simp
  | succ m ih =>
    intro n h1
    by_cases h : n < 128
    · rw [vput_small h]; simp
    · rw [Nat.pow_succ] at h1
      have := ih (n / 128) (by rw [Nat.div_lt_iff_lt_mul (by decide)]; exact h1)
      rw [vput_big h, List.length_cons]
      omega
theorem vput_nine {n : Nat} (h : n < 9223372036854775808) : (vput n).length ≤ 9 := vput_le 8 n (by omega)
def vp (n : Int) : List Int := if n < 0 then [] else vput n.toNat
theorem isB_vp (n : Int) : IsB (vp n) := by
  unfold vp
  split
  · intro x hx; cases hx
  · exact isB_vput _
theorem vp_nat (n : Nat) : vp (n : Int) = vput n := by unfold vp; rw [if_neg (by omega), Int.toNat_natCast]
theorem vp_nine {n : Int} (h : n < 9223372036854775808) : (vp n).length ≤ 9 := by
  unfold vp
  split
  · simp
  · exact vput_nine (by omega)
end Go.Proofs.Ytejcopppchaneaa.Pure
end
section
namespace Go.Proofs.Ytejcopppchaneaa.Pure
open Go.RowKit Go.Proofs.YtejcopppchaneaaW.PrintWords Go.Proofs.YtejcopppchaneaaW.PrintLast Go.Proofs.YtejcopppchaneaaW.PrintMore Go.Proofs.Ytejcopppchaneaa.PF
theorem jand127 {x : Int} (h0 : 0 ≤ x) (h1 : x < 9223372036854775808) : Go.bits .and .i64 x 127 = x % 128 :=
  bits_mask .i64 63 (by decide) jwraps_i64 7 (by decide) x h0 (by omega)
theorem jor_comm {x y : Int} (hx : 0 ≤ x) (hx1 : x < 2 ^ 63) (hy : 0 ≤ y) (hy1 : y < 2 ^ 63) : Go.bits .or .i64 x y = Go.bits .or .i64 y x := by
  obtain ⟨a, rfl⟩ := Int.eq_ofNat_of_zero_le hx
  obtain ⟨b, rfl⟩ := Int.eq_ofNat_of_zero_le hy
  have ha : a < 2 ^ 63 := by exact_mod_cast hx1
  have hb : b < 2 ^ 63 := by exact_mod_cast hy1
  rw [(bits_nat .i64 63 (by decide) jwraps_i64 a b ha hb).2, (bits_nat .i64 63 (by decide) jwraps_i64 b a hb ha).2, Nat.or_comm]
theorem jor128 {x : Int} (h0 : 0 ≤ x) (h1 : x < 128) : Go.bits .or .i64 x 128 = x + 128 := by
  rw [jor_comm h0 (by omega) (by omega) (by omega), bits_join .i64 63 (by decide) jwraps_i64 7 128 x (by omega) (by decide) (by decide) h0 (by omega) (by omega)]
  omega
end Go.Proofs.Ytejcopppchaneaa.Pure
end
section
namespace Go.Proofs.Ytejcopppchaneaa.Pure
open Go.RowKit Go.Proofs.YtejcopppchaneaaW.PrintWords Go.Proofs.YtejcopppchaneaaW.PrintLast Go.Proofs.YtejcopppchaneaaW.PrintMore Go.Proofs.Ytejcopppchaneaa.PF
def isR (n : Int) : Bool := decide (0 ≤ n ∧ n ≤ 4611686018427387903)
theorem rd_get (l : List Int) (i : Nat) (h : i < l.length) : rd l (i : Int) = l[i] := by simp [rd, List.getD_eq_getElem?_getD, List.getElem?_eq_getElem h]
theorem is_is (n : Int) : reckon_Is.f n = some (isR n) := by
  unfold reckon_Is.f isR
  by_cases h : n ≥ 0
  · rw [if_pos h]; congr 1; simp; omega
  · rw [if_neg h]; congr 1; simp; omega
theorem runs_is (n : Int) : record_runs.f n = some (decide (1 ≤ n ∧ n ≤ 3)) := by
  unfold record_runs.f
  by_cases h : n ≥ 1
  · rw [if_pos h]; congr 1; simp; omega
  · rw [if_neg h]; congr 1; simp; omega
end Go.Proofs.Ytejcopppchaneaa.Pure
end
section
namespace Go.Proofs.Ytejcopppchaneaa.Pure
open Go.RowKit Go.Proofs.YtejcopppchaneaaW.PrintWords Go.Proofs.YtejcopppchaneaaW.PrintLast Go.Proofs.YtejcopppchaneaaW.PrintMore Go.Proofs.Ytejcopppchaneaa.PF
abbrev In (n : Int) : Prop := 0 ≤ n ∧ n ≤ 4611686018427387903
def addS (a b : Int) : Int × Int := if In a ∧ In b then (if 4611686018427387903 < a + b then (0, 10) else (a + b, 0)) else (0, 2)
theorem is_eq (n : Int) : reckon_Is.f n = some (decide (In n)) := by
  unfold reckon_Is.f
  by_cases h : n ≥ 0
  · rw [if_pos h]; congr 1; rw [decide_eq_decide]; omega
  · rw [if_neg h]; congr 1; symm; rw [decide_eq_false_iff_not]; omega
theorem all_go (l : List Int) (hl : l.length ≤ 1000) : ∀ (d k i : Nat), i + d = l.length → d < k → reckon_all.l0 k l l.length i = some ((l.drop i).all fun n => decide (In n)) := by
  intro d
  induction d with
  | zero =>
    intro k i h hk
    obtain ⟨k, rfl⟩ : ∃ m, k = m + 1 := ⟨k - 1, by omega⟩
    simp only [reckon_all.l0]
    rw [if_neg (by omega), List.drop_eq_nil_of_le (by omega)]; rfl
  | succ d ih =>
    intro k i h hk
    obtain ⟨k, rfl⟩ : ∃ m, k = m + 1 := ⟨k - 1, by omega⟩
    simp only [reckon_all.l0]
    rw [if_pos (by omega), if_pos (by omega), if_pos (by omega), is_eq]
    simp only [Option.bind_some]
    have hi : i < l.length := by omega
    have e : rd l (i : Int) = l[i] := by simp [rd, List.getD_eq_getElem?_getD, List.getElem?_eq_getElem hi]
    rw [List.drop_eq_getElem_cons hi, List.all_cons, e]
    by_cases hc : In l[i]
    · rw [decide_eq_true hc, if_pos rfl, jw64 (by omega) (by omega), Bool.true_and]
      have := ih k (i + 1) (by omega) (by omega)
      rw [← this]; congr 1
    · rw [decide_eq_false hc, if_neg (by decide), Bool.false_and]
theorem all_ev (l : List Int) (hl : l.length ≤ 1000) : Ev (fun k => reckon_all.f k l) (l.all fun n => decide (In n)) :=
  ⟨l.length + 1, fun k hk => by have := all_go l hl l.length k 0 (by omega) (by omega); rw [List.drop_zero] at this; exact this⟩
theorem all2 (a b : Int) : Ev (fun k => reckon_all.f k [a, b]) (decide (In a ∧ In b)) := by
  have := all_ev [a, b] (by simp)
  simpa using this
theorem add_ev (a b : Int) : Ev (fun k => reckon_Add.f k a b) (addS a b) := by
  refine Ev.bind (all2 a b) ⟨0, fun k _ => ?_⟩
  unfold addS
  by_cases h : In a ∧ In b
  · rw [decide_eq_true h, if_pos rfl, if_pos h]
    rw [jw64 (by omega) (by omega)]
    by_cases h2 : 4611686018427387903 < a + b
    · rw [if_pos (by omega), if_pos h2]
    · rw [if_neg (by omega), if_neg h2, jw64 (by omega) (by omega)]
  · rw [decide_eq_false h, if_neg (by decide), if_neg h]
def cmb (a b : S30) : Bool := decide (1 ≤ a.f0 ∧ a.f0 ≤ 3 ∧ a.f0 = b.f0 ∧ a.f1 = b.f1 ∧ a.f3 = [] ∧ b.f3 = [] ∧ 1 ≤ a.f2 ∧ 1 ≤ b.f2 ∧ a.f2 + b.f2 ≤ 4611686018427387903)
def jn2 (a b : S30) : S30 := ⟨a.f0, a.f1, a.f2 + b.f2, []⟩
def twoS (a b : S30) : Int × Int × Int × List Int × Bool := if cmb a b = true then (a.f0, a.f1, a.f2 + b.f2, [], true) else (0, 0, 0, [], false)
def okR (x : S30) : Prop := (-9223372036854775808 ≤ x.f0 ∧ x.f0 < 9223372036854775808) ∧ (-9223372036854775808 ≤ x.f1 ∧ x.f1 < 9223372036854775808) ∧ (-9223372036854775808 ≤ x.f2 ∧ x.f2 < 9223372036854775808) ∧ x.f3.length ≤ 100000
theorem rdT_get (l : List S30) (i : Nat) (h : i < l.length) : rd_T30 l (i : Int) = l[i] := by simp [rd_T30, List.getD_eq_getElem?_getD, List.getElem?_eq_getElem h]
theorem nil_len {l : List Int} (h : ¬ (0 < (l.length : Int))) : l = [] := List.eq_nil_of_length_eq_zero (by omega)
theorem two_false (k : Nat) (a b c : Int) (d : List Int) (a' b' c' : Int) (d' : List Int) : merge_Two.j0 (k + 1) true a b c d a' b' c' d' = some (0, 0, 0, [], false) := by rw [merge_Two.j0, if_pos rfl]
theorem runs27_is (n : Int) : merge_runs.f n = some (decide (1 ≤ n ∧ n ≤ 3)) := by
  unfold merge_runs.f
  by_cases h : n ≥ 1
  · rw [if_pos h]; congr 1; rw [decide_eq_decide]; omega
  · rw [if_neg h]; congr 1; symm; rw [decide_eq_false_iff_not]; omega
theorem two_ev (a b : S30) (ha : okR a) (hb : okR b) : Ev (fun k => merge_Two.f k a.f0 a.f1 a.f2 a.f3 b.f0 b.f1 b.f2 b.f3) (twoS a b) := by
  obtain ⟨_, _, h2, h3⟩ := ha
  obtain ⟨_, _, g2, g3⟩ := hb
  unfold merge_Two.f
  refine Ev.congr (fun k => by rw [runs27_is, Option.bind_some]) ?_
  have neg : cmb a b = false → twoS a b = (0, 0, 0, [], false) := fun h => by unfold twoS; rw [if_neg (by rw [h]; decide)]
  have hw : wrap64 ((a.f3.length : Int) + (b.f3.length : Int)) = (a.f3.length : Int) + (b.f3.length : Int) := jw64 (by omega) (by omega)
  by_cases c1 : 1 ≤ a.f0 ∧ a.f0 ≤ 3
  · refine Ev.congr (fun k => by rw [decide_eq_true c1, if_pos rfl]) ?_
    by_cases c2 : a.f0 = b.f0
    · refine Ev.congr (fun k => by rw [if_pos c2]) ?_
      by_cases c3 : a.f1 = b.f1
      · refine Ev.congr (fun k => by rw [if_pos c3, hw]) ?_
        by_cases c4 : (a.f3.length : Int) + (b.f3.length : Int) > 0
        · rw [neg (by unfold cmb; rw [decide_eq_false_iff_not]; rintro ⟨_, _, _, _, e1, e2, _⟩; rw [e1, e2] at c4; simp at c4)]
          refine Ev.congr (fun k => by rw [if_pos c4]) (ev_add 1 (fun k => two_false ..))
        · refine Ev.congr (fun k => by rw [if_neg c4]) ?_
          have e1 : a.f3 = [] := nil_len (by omega)
          have e2 : b.f3 = [] := nil_len (by omega)
          by_cases c5 : a.f2 < 1
          · rw [neg (by unfold cmb; rw [decide_eq_false_iff_not]; omega)]
            exact Ev.congr (fun k => by rw [if_pos c5]) (ev_add 1 (fun k => two_false ..))
          · refine Ev.congr (fun k => by rw [if_neg c5]) ?_
            by_cases c6 : b.f2 < 1
            · rw [neg (by unfold cmb; rw [decide_eq_false_iff_not]; omega)]
              refine Ev.congr (fun k => by rw [decide_eq_true c6]) (ev_add 1 (fun k => two_false ..))
            · refine Ev.congr (fun k => by rw [decide_eq_false c6]) ?_
              refine Ev.step (fun k => by rw [merge_Two.j0, if_neg (by decide)]) ?_
              refine Ev.bind (add_ev _ _) ?_
              unfold twoS
              by_cases c7 : a.f2 + b.f2 ≤ 4611686018427387903
              · have hc : cmb a b = true := by unfold cmb; rw [decide_eq_true_iff]; exact ⟨c1.1, c1.2, c2, c3, e1, e2, by omega, by omega, c7⟩
                have ha : addS a.f2 b.f2 = (a.f2 + b.f2, 0) := by unfold addS; rw [if_pos (show In a.f2 ∧ In b.f2 by constructor <;> constructor <;> omega), if_neg (by omega)]
                rw [if_pos hc, ha]
                exact ⟨0, fun k _ => by rw [if_pos rfl]⟩
              · have hc : cmb a b = false := by unfold cmb; rw [decide_eq_false_iff_not]; omega
                have ha : (addS a.f2 b.f2).2 ≠ 0 := by
                  unfold addS
                  split
                  · rw [if_pos (by omega)]; decide
                  · decide
                refine Ev.congr (fun k => by rw [if_neg ha]) ?_
                rw [hc]
                exact Ev.now _
      · rw [neg (by unfold cmb; rw [decide_eq_false_iff_not]; rintro ⟨_, _, _, h, _⟩; exact c3 h)]
        exact Ev.congr (fun k => by rw [if_neg c3]) (ev_add 1 (fun k => two_false ..))
    · rw [neg (by unfold cmb; rw [decide_eq_false_iff_not]; rintro ⟨_, _, h, _⟩; exact c2 h)]
      exact Ev.congr (fun k => by rw [if_neg c2]) (ev_add 1 (fun k => two_false ..))
  · rw [neg (by unfold cmb; rw [decide_eq_false_iff_not]; rintro ⟨h1, h2, _⟩; exact c1 ⟨h1, h2⟩)]
    refine Ev.congr (fun k => by rw [decide_eq_false c1, if_neg (by decide)]) (ev_add 1 (fun k => two_false ..))
end Go.Proofs.Ytejcopppchaneaa.Pure
end
section
namespace Go.Proofs.Ytejcopppchaneaa.Pure
open Go.RowKit Go.Proofs.YtejcopppchaneaaW.PrintWords Go.Proofs.YtejcopppchaneaaW.PrintLast Go.Proofs.YtejcopppchaneaaW.PrintMore Go.Proofs.Ytejcopppchaneaa.PF
theorem rtwo_false (k : Nat) (a b c : Int) (d : List Int) (a' b' c' : Int) (d' : List Int) : juratref27_Two.j0 (k + 1) true a b c d a' b' c' d' = some (0, 0, 0, [], false) := by rw [juratref27_Two.j0, if_pos rfl]
theorem rtwo_ev (a b : S30) (ha : okR a) (hb : okR b) : Ev (fun k => juratref27_Two.f k a.f0 a.f1 a.f2 a.f3 b.f0 b.f1 b.f2 b.f3) (twoS a b) := by
  obtain ⟨_, _, h2, h3⟩ := ha
  obtain ⟨_, _, g2, g3⟩ := hb
  unfold juratref27_Two.f
  have neg : cmb a b = false → twoS a b = (0, 0, 0, [], false) := fun h => by unfold twoS; rw [if_neg (by rw [h]; decide)]
  by_cases c1 : a.f0 < 1
  · rw [neg (by unfold cmb; rw [decide_eq_false_iff_not]; omega)]
    exact Ev.congr (fun k => by rw [if_pos c1]) (ev_add 1 (fun k => rtwo_false ..))
  refine Ev.congr (fun k => by rw [if_neg c1]) ?_
  by_cases c2 : a.f0 > 3
  · rw [neg (by unfold cmb; rw [decide_eq_false_iff_not]; omega)]
    exact Ev.congr (fun k => by rw [if_pos c2]) (ev_add 1 (fun k => rtwo_false ..))
  refine Ev.congr (fun k => by rw [if_neg c2]) ?_
  by_cases c3 : b.f0 ≠ a.f0
  · rw [neg (by unfold cmb; rw [decide_eq_false_iff_not]; rintro ⟨_, _, h, _⟩; exact c3 h.symm)]
    exact Ev.congr (fun k => by rw [if_neg c3]) (ev_add 1 (fun k => rtwo_false ..))
  replace c3 : b.f0 = a.f0 := by omega
  refine Ev.congr (fun k => by rw [if_pos c3]) ?_
  by_cases c4 : b.f1 ≠ a.f1
  · rw [neg (by unfold cmb; rw [decide_eq_false_iff_not]; rintro ⟨_, _, _, h, _⟩; exact c4 h.symm)]
    exact Ev.congr (fun k => by rw [if_neg c4]) (ev_add 1 (fun k => rtwo_false ..))
  replace c4 : b.f1 = a.f1 := by omega
  refine Ev.congr (fun k => by rw [if_pos c4]) ?_
  by_cases c5 : (a.f3.length : Int) > 0
  · rw [neg (by unfold cmb; rw [decide_eq_false_iff_not]; rintro ⟨_, _, _, _, h, _⟩; rw [h] at c5; simp at c5)]
    exact Ev.congr (fun k => by rw [if_pos c5]) (ev_add 1 (fun k => rtwo_false ..))
  refine Ev.congr (fun k => by rw [if_neg c5]) ?_
  by_cases c6 : (b.f3.length : Int) > 0
  · rw [neg (by unfold cmb; rw [decide_eq_false_iff_not]; rintro ⟨_, _, _, _, _, h, _⟩; rw [h] at c6; simp at c6)]
    exact Ev.congr (fun k => by rw [decide_eq_true c6]) (ev_add 1 (fun k => rtwo_false ..))
  refine Ev.congr (fun k => by rw [decide_eq_false c6]) ?_
  have e1 : a.f3 = [] := nil_len (by omega)
  have e2 : b.f3 = [] := nil_len (by omega)
  refine Ev.step (fun k => by rw [juratref27_Two.j0, if_neg (by decide)]) ?_
  by_cases c7 : a.f2 < 1
  · rw [neg (by unfold cmb; rw [decide_eq_false_iff_not]; omega)]
    exact Ev.congr (fun k => by rw [if_pos c7]) (Ev.now _)
  refine Ev.congr (fun k => by rw [if_neg c7]) ?_
  by_cases c8 : b.f2 < 1
  · rw [neg (by unfold cmb; rw [decide_eq_false_iff_not]; omega)]
    exact Ev.congr (fun k => by rw [if_pos c8]) (Ev.now _)
  refine Ev.congr (fun k => by rw [if_neg c8]) ?_
  by_cases c9 : a.f2 > 4611686018427387903
  · rw [neg (by unfold cmb; rw [decide_eq_false_iff_not]; omega)]
    exact Ev.congr (fun k => by rw [if_pos c9]) (Ev.now _)
  refine Ev.congr (fun k => by rw [if_neg c9, jw64 (by omega) (by omega)]) ?_
  by_cases c10 : b.f2 > 4611686018427387903 - a.f2
  · rw [neg (by unfold cmb; rw [decide_eq_false_iff_not]; omega)]
    exact Ev.congr (fun k => by rw [if_pos c10]) (Ev.now _)
  have hc : cmb a b = true := by unfold cmb; rw [decide_eq_true_iff]; exact ⟨by omega, by omega, c3.symm, c4.symm, e1, e2, by omega, by omega, by omega⟩
  unfold twoS
  rw [if_pos hc]
  exact Ev.congr (fun k => by rw [if_neg c10, jw64 (by omega) (by omega)]) (Ev.now _)
end Go.Proofs.Ytejcopppchaneaa.Pure
end
section
namespace Go.Proofs.Ytejcopppchaneaa.Pure
open Go.RowKit Go.Proofs.YtejcopppchaneaaW.PrintWords Go.Proofs.YtejcopppchaneaaW.PrintLast Go.Proofs.YtejcopppchaneaaW.PrintMore Go.Proofs.Ytejcopppchaneaa.PF
theorem ris_is (n : Int) : juratref03_Is.f n = some (isR n) := by
  unfold juratref03_Is.f isR
  by_cases h : n ≥ 0
  · rw [if_pos h]; congr 1; simp; omega
  · rw [if_neg h]; congr 1; simp; omega
end Go.Proofs.Ytejcopppchaneaa.Pure
end
