/- Merged for a claim, what it doesn't need left out: words of the kit's print (W..), what that print, patched, wrote (P..), and texts of this session: PFx4, PFx5, PFx6, RNext, LRef, HVarref, LRTake, LRTwo, RNextW, LRel. -/
import Derived.Test.YtejcopppchaneaaSLB1
section
namespace Go.Proofs.Ytejcopppchaneaa.PF
open Go.RowKit Go.Proofs.YtejcopppchaneaaW.PrintWords Go.Proofs.YtejcopppchaneaaW.PrintLast Go.Proofs.YtejcopppchaneaaW.PrintMore
attribute [local go_sem] max2_int min2_int max_two min_two max_three min_three max_four min_four   -- for this text's walks alone
set_option linter.unusedVariables false
set_option linter.unusedSimpArgs false
mutual
def juratref02_Take.j1 : Nat → ByteArray → Int → Option (Int × Int × Int)
  | 0, _, _ => none
  | k + 1, x0, x5 => if x5 ≥ 9 then (some (0, 0, 5)) else (if x5 = (x0.size : Int) then (some (0, 0, 4)) else (if 0 ≤ x5 then (if x5 < (x0.size : Int) then (if (bt x0 x5) = 0 then (juratref02_Take.j2 k x0 x5 (decide (x5 > 0))) else (juratref02_Take.j2 k x0 x5 false)) else (none)) else (none)))
def juratref02_Take.j2 : Nat → ByteArray → Int → Bool → Option (Int × Int × Int)
  | 0, _, _, _ => none
  | k + 1, x0, x5, x33 => if x33 = true then (some (0, 0, 3)) else (juratref02_Take.l1 k x0 x5 0 x5)
def juratref02_Take.l1 : Nat → ByteArray → Int → Int → Int → Option (Int × Int × Int)
  | 0, _, _, _, _ => none
  | k + 1, x0, x5, x6, x7 => if x7 ≥ 0 then (if 0 ≤ x7 then (if x7 < (x0.size : Int) then (juratref02_Take.l1 k x0 x5 (wrap64 ((wrap64 (x6 * 128)) + (Int.tmod (wrap64 (bt x0 x7)) 128))) (wrap64 (x7 - 1))) else (none)) else (none)) else (some (x6, wrap64 (x5 + 1), 0))
def juratref02_Take.l0 : Nat → ByteArray → Int → Option (Int × Int × Int)
  | 0, _, _ => none
  | k + 1, x0, x5 => if x5 < (x0.size : Int) then (if 0 ≤ x5 then (if (bt x0 x5) ≥ 128 then (juratref02_Take.l0 k x0 (wrap64 (x5 + 1))) else (juratref02_Take.j1 k x0 x5)) else (none)) else (juratref02_Take.j1 k x0 x5)
end
def juratref02_Take.f (k : Nat) (a0 : ByteArray) : Option (Int × Int × Int) := juratref02_Take.l0 k a0 0
set_option maxHeartbeats 8000000 in
set_option maxRecDepth 100000 in
theorem juratref02_Take.calls (k : Nat) (a0 : ByteArray) (r1 : Int) (r2 : Int) (r3 : Int) (w : World) (h : juratref02_Take.f k a0 = some (r1, r2, r3)) :
    Calls Try.prog 53 #[.string a0] w fun e w' => e = .returned (.tuple #[.int .i64 r1, .int .i64 r2, .int .i64 r3]) ∧ Drawn0 w w' := by
  have H : (juratref02_Take.l0 k a0 0) = some (r1, r2, r3) := h
  clear h
  have HC2 := Aside0.mk H
  clear H
  go_enter Try.func53, Try.ntmps53
  go_upto_block 0 with (fail)
  go_cut [5] (fun v5 wc => ∃ (kq : Nat) (x5_1 : Int), v5 = .int .i64 x5_1 ∧ Aside0 (juratref02_Take.j1 kq a0 x5_1 = some (r1, r2, r3)) ∧ Aside0 (kq ≤ k) ∧ Drawn0 w wc)
  case first =>
    have H := HC2.out
    clear HC2
    have H' := Aside0.mk H
    clear H
    go_wp2
    go_loopg [5] k (fun kq v5 w' => ∃ (x5_1 : Int), v5 = .int .i64 x5_1 ∧ Aside0 (juratref02_Take.l0 kq a0 x5_1 = some (r1, r2, r3)) ∧ Aside0 (kq ≤ k) ∧ Drawn0 w w')
    case atStart => exact ⟨(0), (by first | rfl | (simp; done) | (simp [*]; done)), H', ⟨Nat.le_refl _⟩, by repeat (first | exact Drawn0.refl _ | apply Drawn0.step)⟩
    case round =>
      clear H'
      try clear p2
      obtain ⟨x5_1, rfl, HA, HK1, ⟨m1, rfl⟩⟩ := hrel
      cases gk with
      | zero => exact absurd HA.out (by simp [juratref02_Take.l0])
      | succ k1 =>
        have H := HA.out
        clear HA
        simp only [juratref02_Take.l0] at H
        by_cases c3 : x5_1 < (a0.size : Int)
        · rw [if_pos c3] at H
          have c3b0 : decide (x5_1 < (a0.size : Int)) = true := decide_eq_true c3
          clear c3
          (first | rw [c3b0] | (simp only [i64_w, i32_w]; rw [c3b0]) | skip)
          by_cases c4 : 0 ≤ x5_1
          · rw [if_pos c4] at H
            have c4b0 : decide (0 ≤ x5_1) = true := decide_eq_true c4
            clear c4
            by_cases c6 : (bt a0 x5_1) ≥ 128
            · rw [if_pos c6] at H
              have c6b0 : decide (128 ≤ (bt a0 x5_1)) = true := decide_eq_true c6
              clear c6
              have H' := Aside0.mk H
              clear H
              have p5 : 0 ≤ (x5_1 : Int) := of_decide_eq_true (by first | (with_reducible assumption) | assumption)
              have q5 : x5_1 < (a0.size : Int) := of_decide_eq_true (by first | (with_reducible assumption) | assumption)
              have hx5 := bt_at a0 x5_1
              replace p5 := eq_true p5
              replace q5 := eq_true q5
              go_wp2
              go_roundg k1
              case measure => have := HK1.out; omega
              case rel => exact ⟨(wrap64 (x5_1 + 1)), (by first | rfl | (simp; done) | (simp [*]; done)), H', ⟨by have := HK1.out; omega⟩, by repeat (first | exact Drawn0.refl _ | apply Drawn0.step)⟩
            · rw [if_neg c6] at H
              have c6b0 : decide (128 ≤ (bt a0 x5_1)) = false := decide_eq_false c6
              clear c6
              have H' := Aside0.mk H
              clear H
              have p5 : 0 ≤ (x5_1 : Int) := of_decide_eq_true (by first | (with_reducible assumption) | assumption)
              have q5 : x5_1 < (a0.size : Int) := of_decide_eq_true (by first | (with_reducible assumption) | assumption)
              have hx5 := bt_at a0 x5_1
              replace p5 := eq_true p5
              replace q5 := eq_true q5
              go_wp2
              go_meet
              case rel => exact ⟨_, (x5_1), (by first | rfl | (simp; done) | (simp [*]; done)), H', ⟨by have := HK1.out; first | omega | exact Nat.le_refl _⟩, by repeat (first | exact Drawn0.refl _ | apply Drawn0.step)⟩
          · rw [if_neg c4] at H
            exact absurd H (by simp)
        · rw [if_neg c3] at H
          have c3b0 : decide (x5_1 < (a0.size : Int)) = false := decide_eq_false c3
          clear c3
          (first | rw [c3b0] | (simp only [i64_w, i32_w]; rw [c3b0]) | skip)
          have H' := Aside0.mk H
          clear H
          go_wp2
          go_meet
          case rel => exact ⟨_, (x5_1), (by first | rfl | (simp; done) | (simp [*]; done)), H', ⟨by have := HK1.out; first | omega | exact Nat.le_refl _⟩, by repeat (first | exact Drawn0.refl _ | apply Drawn0.step)⟩
  case rest =>
    clear HC2
    try clear p2
    try clear c3
    try clear c3b0
    try clear c4
    try clear c4b0
    try clear c5
    try clear p5
    try clear q5
    try clear hx5
    try clear c6
    try clear c6b0
    try clear p6
    try clear p2
    try clear p5
    try clear q5
    obtain ⟨kq, x5_1, rfl, HA, HJ1, ⟨mc1, rfl⟩⟩ := hcut
    cases kq with
    | zero => exact absurd HA.out (by simp [juratref02_Take.j1])
    | succ kj1 =>
      have H := HA.out
      clear HA
      simp only [juratref02_Take.j1] at H
      by_cases c7 : x5_1 ≥ 9
      · rw [if_pos c7] at H
        have c7b0 : decide (9 ≤ x5_1) = true := decide_eq_true c7
        clear c7
        simp only [Option.some.injEq, Prod.mk.injEq] at H
        obtain ⟨rfl, rfl, rfl⟩ := H
        go_wp2
        go_ret3
        exact ⟨by first | rfl | (simp; done) | (simp [*]; done), by repeat (first | exact Drawn0.refl _ | apply Drawn0.step)⟩
      · rw [if_neg c7] at H
        have c7b0 : decide (9 ≤ x5_1) = false := decide_eq_false c7
        clear c7
        by_cases c8 : x5_1 = (a0.size : Int)
        · rw [if_pos c8] at H
          have c8b0 : (x5_1 == (a0.size : Int)) = true := beq_iff_eq.mpr c8
          have c8b1 : (x5_1 != (a0.size : Int)) = false := bne_eq_false_iff_eq.mpr c8
          clear c8
          simp only [Option.some.injEq, Prod.mk.injEq] at H
          obtain ⟨rfl, rfl, rfl⟩ := H
          go_wp2
          go_ret3
          exact ⟨by first | rfl | (simp; done) | (simp [*]; done), by repeat (first | exact Drawn0.refl _ | apply Drawn0.step)⟩
        · rw [if_neg c8] at H
          have c8b0 : (x5_1 == (a0.size : Int)) = false := beq_eq_false_iff_ne.mpr c8
          have c8b1 : (x5_1 != (a0.size : Int)) = true := bne_iff_ne.mpr c8
          have HC9 := Aside0.mk H
          clear H
          go_upto_region 8 with (fail)
          go_cut [33] (fun v33 wc => ∃ (kq : Nat) (x33_8 : Bool), v33 = .bool x33_8 ∧ Aside0 (juratref02_Take.j2 kq a0 x5_1 x33_8 = some (r1, r2, r3)) ∧ Aside0 (kq ≤ kj1) ∧ Drawn0 w wc)
          case first =>
            have H := HC9.out
            clear HC9
            by_cases c10 : 0 ≤ x5_1
            · rw [if_pos c10] at H
              have c10b0 : decide (0 ≤ x5_1) = true := decide_eq_true c10
              clear c10
              (first | rw [c10b0] | (simp only [i64_w, i32_w]; rw [c10b0]) | skip)
              by_cases c11 : x5_1 < (a0.size : Int)
              · rw [if_pos c11] at H
                have c11b0 : decide (x5_1 < (a0.size : Int)) = true := decide_eq_true c11
                clear c11
                by_cases c13 : (bt a0 x5_1) = 0
                · rw [if_pos c13] at H
                  have c13b0 : ((bt a0 x5_1) == 0) = true := beq_iff_eq.mpr c13
                  have c13b1 : ((bt a0 x5_1) != 0) = false := bne_eq_false_iff_eq.mpr c13
                  clear c13
                  have H' := Aside0.mk H
                  clear H
                  have p12 : 0 ≤ (x5_1 : Int) := of_decide_eq_true (by first | (with_reducible assumption) | assumption)
                  have q12 : x5_1 < (a0.size : Int) := of_decide_eq_true (by first | (with_reducible assumption) | assumption)
                  have hx12 := bt_at a0 x5_1
                  replace p12 := eq_true p12
                  replace q12 := eq_true q12
                  go_wp2
                  go_meet
                  case rel => exact ⟨_, (decide (x5_1 > 0)), (by first | rfl | (simp; done) | (simp [*]; done)), H', ⟨by have := HJ1.out; first | omega | exact Nat.le_refl _⟩, by repeat (first | exact Drawn0.refl _ | apply Drawn0.step)⟩
                · rw [if_neg c13] at H
                  have c13b0 : ((bt a0 x5_1) == 0) = false := beq_eq_false_iff_ne.mpr c13
                  have c13b1 : ((bt a0 x5_1) != 0) = true := bne_iff_ne.mpr c13
                  have H' := Aside0.mk H
                  clear H
                  have p12 : 0 ≤ (x5_1 : Int) := of_decide_eq_true (by first | (with_reducible assumption) | assumption)
                  have q12 : x5_1 < (a0.size : Int) := of_decide_eq_true (by first | (with_reducible assumption) | assumption)
                  have hx12 := bt_at a0 x5_1
                  replace p12 := eq_true p12
                  replace q12 := eq_true q12
                  go_wp2
                  go_meet
                  case rel => exact ⟨_, (false), (by first | rfl | (simp; done) | (simp [*]; done)), H', ⟨by have := HJ1.out; first | omega | exact Nat.le_refl _⟩, by repeat (first | exact Drawn0.refl _ | apply Drawn0.step)⟩
              · rw [if_neg c11] at H
                exact absurd H (by simp)
            · rw [if_neg c10] at H
              exact absurd H (by simp)
          case rest =>
            clear HC9
            try clear c1
            try clear p1
            try clear q1
            try clear hx1
            try clear p2
            try clear c3
            try clear c3b0
            try clear c4
            try clear c4b0
            try clear c5
            try clear p5
            try clear q5
            try clear hx5
            try clear c6
            try clear c6b0
            try clear p6
            try clear c7
            try clear c7b0
            try clear c8
            try clear c8b0
            try clear c8b1
            try clear c10
            try clear c10b0
            try clear c11
            try clear c11b0
            try clear p12
            try clear q12
            try clear hx12
            try clear c13
            try clear c13b0
            try clear c13b1
            try clear p12
            try clear p2
            try clear p5
            try clear p6
            try clear q12
            try clear q5
            obtain ⟨kq, x33_8, rfl, HA, HJ8, ⟨mc8, rfl⟩⟩ := hcut
            cases kq with
            | zero => exact absurd HA.out (by simp [juratref02_Take.j2])
            | succ kj8 =>
              have H := HA.out
              clear HA
              simp only [juratref02_Take.j2] at H
              by_cases c14 : x33_8 = true
              · subst c14
                have H1 : (some (0, 0, 3)) = some (r1, r2, r3) := by rw [if_pos rfl] at H; exact H
                clear H
                have H := H1
                clear H1
                simp only [Option.some.injEq, Prod.mk.injEq] at H
                obtain ⟨rfl, rfl, rfl⟩ := H
                go_wp2
                go_ret3
                exact ⟨by first | rfl | (simp; done) | (simp [*]; done), by repeat (first | exact Drawn0.refl _ | apply Drawn0.step)⟩
              · replace c14 := Bool.eq_false_iff.mpr c14
                subst c14
                have H1 : (juratref02_Take.l1 kj8 a0 x5_1 0 x5_1) = some (r1, r2, r3) := by rw [if_neg (show ¬ (false = true) by decide)] at H; exact H
                clear H
                have H := H1
                clear H1
                have H' := Aside0.mk H
                clear H
                go_wp2
                go_loopg [6, 7] kj8 (fun kq v6 v7 w' => ∃ (x6_3 : Int) (x7_3 : Int), v6 = .int .i64 x6_3 ∧ v7 = .int .i64 x7_3 ∧ Aside0 (juratref02_Take.l1 kq a0 x5_1 x6_3 x7_3 = some (r1, r2, r3)) ∧ Aside0 (kq ≤ kj8) ∧ Drawn0 w w')
                case atStart => exact ⟨(0), (x5_1), (by first | rfl | (simp; done) | (simp [*]; done)), (by first | rfl | (simp; done) | (simp [*]; done)), H', ⟨Nat.le_refl _⟩, by repeat (first | exact Drawn0.refl _ | apply Drawn0.step)⟩
                case round =>
                  clear H'
                  try clear c1
                  try clear p1
                  try clear q1
                  try clear hx1
                  try clear p2
                  try clear c3
                  try clear c3b0
                  try clear c4
                  try clear c4b0
                  try clear c5
                  try clear p5
                  try clear q5
                  try clear hx5
                  try clear c6
                  try clear c6b0
                  try clear p6
                  try clear c7
                  try clear c7b0
                  try clear c8
                  try clear c8b0
                  try clear c8b1
                  try clear c10
                  try clear c10b0
                  try clear c11
                  try clear c11b0
                  try clear p12
                  try clear q12
                  try clear hx12
                  try clear c13
                  try clear c13b0
                  try clear c13b1
                  try clear c14
                  try clear p1
                  try clear p12
                  try clear p2
                  try clear p5
                  try clear p6
                  try clear q1
                  try clear q12
                  try clear q5
                  obtain ⟨x6_3, x7_3, rfl, rfl, HA, HK3, ⟨m3, rfl⟩⟩ := hrel
                  cases gk with
                  | zero => exact absurd HA.out (by simp [juratref02_Take.l1])
                  | succ k3 =>
                    have H := HA.out
                    clear HA
                    simp only [juratref02_Take.l1] at H
                    by_cases c15 : x7_3 ≥ 0
                    · rw [if_pos c15] at H
                      have c15b0 : decide (0 ≤ x7_3) = true := decide_eq_true c15
                      clear c15
                      by_cases c16 : 0 ≤ x7_3
                      · rw [if_pos c16] at H
                        have c16b0 : decide (0 ≤ x7_3) = true := decide_eq_true c16
                        clear c16
                        by_cases c17 : x7_3 < (a0.size : Int)
                        · rw [if_pos c17] at H
                          have c17b0 : decide (x7_3 < (a0.size : Int)) = true := decide_eq_true c17
                          clear c17
                          have H' := Aside0.mk H
                          clear H
                          have p18 : 0 ≤ (x7_3 : Int) := of_decide_eq_true (by first | (with_reducible assumption) | assumption)
                          have q18 : x7_3 < (a0.size : Int) := of_decide_eq_true (by first | (with_reducible assumption) | assumption)
                          have hx18 := bt_at a0 x7_3
                          replace p18 := eq_true p18
                          replace q18 := eq_true q18
                          go_wp2
                          go_roundg k3
                          case measure => have := HJ1.out; have := HJ8.out; have := HK3.out; omega
                          case rel => exact ⟨(wrap64 ((wrap64 (x6_3 * 128)) + (Int.tmod (wrap64 (bt a0 x7_3)) 128))), (wrap64 (x7_3 - 1)), (by first | rfl | (simp; done) | (simp [*]; done)), (by first | rfl | (simp; done) | (simp [*]; done)), H', ⟨by have := HJ1.out; have := HJ8.out; have := HK3.out; omega⟩, by repeat (first | exact Drawn0.refl _ | apply Drawn0.step)⟩
                        · rw [if_neg c17] at H
                          exact absurd H (by simp)
                      · rw [if_neg c16] at H
                        exact absurd H (by simp)
                    · rw [if_neg c15] at H
                      have c15b0 : decide (0 ≤ x7_3) = false := decide_eq_false c15
                      clear c15
                      simp only [Option.some.injEq, Prod.mk.injEq] at H
                      obtain ⟨rfl, rfl, rfl⟩ := H
                      go_wp2
                      go_ret3
                      exact ⟨by first | rfl | (simp; done) | (simp [*]; done), by repeat (first | exact Drawn0.refl _ | apply Drawn0.step)⟩
def juratref28_ids.l0 : Nat → ByteArray → Int → List Int → Int → Option (List Int × Int × Int)
  | 0, _, _, _, _ => none
  | k + 1, x0, x5, x8, x9 => if (x8.length : Int) < x5 then (if 0 ≤ x9 then (if x9 ≤ (x0.size : Int) then ((juratref02_Take.f k (x0.extract (x9 : Int).toNat x0.size)).bind fun bt208 => (if bt208.2.2 = 0 then (if (x8.length : Int) > 0 then (if bt208.1 = 0 then (some (([] : List Int), 0, 9)) else (if 0 ≤ (wrap64 ((x8.length : Int) - 1)) then (if (wrap64 ((x8.length : Int) - 1)) < (x8.length : Int) then (if bt208.1 > (wrap64 (65534 - (rd x8 (wrap64 ((x8.length : Int) - 1))))) then (some (([] : List Int), 0, 11)) else (if x8.length < 17592186044416 then (juratref28_ids.l0 k x0 x5 (x8 ++ [wrap64 ((rd x8 (wrap64 ((x8.length : Int) - 1))) + bt208.1)]) (wrap64 (x9 + bt208.2.1))) else (none))) else (none)) else (none))) else (if bt208.1 > 65534 then (some (([] : List Int), 0, 11)) else (if x8.length < 17592186044416 then (juratref28_ids.l0 k x0 x5 (x8 ++ [wrap64 bt208.1]) (wrap64 (x9 + bt208.2.1))) else (none)))) else (some (([] : List Int), 0, bt208.2.2)))) else (none)) else (none)) else (some (x8, x9, 0))
def juratref28_ids.f (k : Nat) (a0 : ByteArray) : Option (List Int × Int × Int) := if 1 ≤ (a0.size : Int) then ((juratref02_Take.f k (a0.extract 1 a0.size)).bind fun bt202 => (if bt202.2.2 = 0 then (if bt202.1 > 65535 then (some (([] : List Int), 0, 6)) else (juratref28_ids.l0 k a0 bt202.1 (([] : List Int)) (wrap64 (1 + bt202.2.1)))) else (some (([] : List Int), 0, bt202.2.2)))) else (none)
set_option maxHeartbeats 8000000 in
set_option maxRecDepth 100000 in
theorem juratref28_ids.calls (k : Nat) (a0 : ByteArray) (r1 : List Int) (r2 : Int) (r3 : Int) (w : World) (h : juratref28_ids.f k a0 = some (r1, r2, r3)) :
    Calls Try.prog 52 #[.string a0] w fun e w' => ∃ v0_ : Value, e = .returned (.tuple #[v0_, .int .i64 r2, .int .i64 r3]) ∧ Kd.R (Kd.int .i64) 3 w' w.heap.size (fun _ => True) v0_ r1 ∧ Below w.heap.size w w' := by
  have HB := Aside0.mk (Below.refl w.heap.size w)
  have H : (if 1 ≤ (a0.size : Int) then ((juratref02_Take.f k (a0.extract 1 a0.size)).bind fun bt202 => (if bt202.2.2 = 0 then (if bt202.1 > 65535 then (some (([] : List Int), 0, 6)) else (juratref28_ids.l0 k a0 bt202.1 (([] : List Int)) (wrap64 (1 + bt202.2.1)))) else (some (([] : List Int), 0, bt202.2.2)))) else (none)) = some (r1, r2, r3) := h
  clear h
  by_cases c2 : 1 ≤ (a0.size : Int)
  · rw [if_pos c2] at H
    have c2b0 := eq_true c2
    have c2b1 : decide (1 ≤ (a0.size : Int)) = true := decide_eq_true c2
    clear c2
    replace H := Option.bind_eq_some_iff.mp H
    obtain ⟨⟨t202, t203, t204⟩, A30, H⟩ := H
    replace H : (if t204 = 0 then (if t202 > 65535 then (some (([] : List Int), 0, 6)) else (juratref28_ids.l0 k a0 t202 (([] : List Int)) (wrap64 (1 + t203)))) else (some (([] : List Int), 0, t204))) = some (r1, r2, r3) := H
    have A3 := Aside0.mk A30
    clear A30
    by_cases c4 : t204 = 0
    · rw [if_pos c4] at H
      have c4b0 : (t204 == 0) = true := beq_iff_eq.mpr c4
      have c4b1 : (t204 != 0) = false := bne_eq_false_iff_eq.mpr c4
      clear c4
      by_cases c5 : t202 > 65535
      · rw [if_pos c5] at H
        have c5b0 : decide (65535 < t202) = true := decide_eq_true c5
        clear c5
        simp only [Option.some.injEq, Prod.mk.injEq] at H
        obtain ⟨rfl, rfl, rfl⟩ := H
        go_enter Try.func52, Try.ntmps52
        go_wp2_with (first | ((with_reducible refine gate_callee (f := 53) rfl ?_); refine goesL_ (some 17) rfl rfl Try.func53 (by kernel_rfl) rfl #[.string (a0.extract 1 a0.size)] rfl (by (try simp only [List.map_toArray, List.map_cons, List.map_nil]); first | done | rfl | (simp only [List.length_drop, List.length_take]; rfl)) ?_; (with_reducible refine (juratref02_Take.calls k (a0.extract 1 a0.size) t202 t203 t204 _ A3.out).mono ?_); rintro e w' ⟨rfl, ⟨nd, rfl⟩⟩; refine ⟨_, rfl, ?_⟩))
        go_ret3
        exact ⟨_, by first | rfl | (simp [errW_none, errW_some] <;> rfl) | (simp [*, errW_none, errW_some] <;> rfl), by first | exact Kd.R_nil _ _ _ _ _ | exact Kd.N_nil _ _ _ _ _ | exact Kd.V_nil _ _ _ _ _ | exact Kd.Q_nil _ _ _ _ _ | exact Kd.S_nil _ _ _ _ _, by repeat (first | (with_reducible first | exact HB.out | apply below_alloc | apply pw_below_drewN | apply below_drew1) | exact HB.out)⟩
      · rw [if_neg c5] at H
        have c5b0 : decide (65535 < t202) = false := decide_eq_false c5
        clear c5
        obtain ⟨y205, hy205⟩ : ∃ y_ : List Int, y_ = (([] : List Int)) := ⟨_, rfl⟩
        replace H : (juratref28_ids.l0 k a0 t202 y205 (wrap64 (1 + t203))) = some (r1, r2, r3) := by first | (rw [hy205]; with_reducible exact H) | (have H2_ := (Option.bind_some _ _).symm.trans H; rw [hy205]; with_reducible exact H2_) | (have H2_ := (Option.bind_some _ _).symm.trans H; with_reducible exact H2_) | with_reducible exact H | (rw [hy205]; exact H) | exact H
        have Ny205 := Aside0.mk hy205
        clear hy205
        have H' := Aside0.mk H
        clear H
        go_enter Try.func52, Try.ntmps52
        go_wp2_with (first | ((with_reducible refine gate_callee (f := 53) rfl ?_); refine goesL_ (some 17) rfl rfl Try.func53 (by kernel_rfl) rfl #[.string (a0.extract 1 a0.size)] rfl (by (try simp only [List.map_toArray, List.map_cons, List.map_nil]); first | done | rfl | (simp only [List.length_drop, List.length_take]; rfl)) ?_; (with_reducible refine (juratref02_Take.calls k (a0.extract 1 a0.size) t202 t203 t204 _ A3.out).mono ?_); rintro e w' ⟨rfl, ⟨nd, rfl⟩⟩; refine ⟨_, rfl, ?_⟩) | ((with_reducible refine gate_dst (N := 26) rfl ?_); refine Kd.R_lit (Kd.int .i64) _ 3 ?hg (N := 26) ?hd (xs := ([] : List Int)) (inner := []) (ok := fun _ => True) (okp := fun _ => True) ?hr ?hp (fun _ hk => hk) trivial (Below.refl _ _) (Nat.le_refl _) (by simp) ?_; (case hd => rfl); (case hg => rfl); (case hr => first | (go_simp; done) | (go_simp; rfl)); (case hp => exact (Reps.none _ _)); intro v206 w6 ho7 hb hg_ hnew_; clear hg_ hnew_; (first | rw [← Ny205.out] at ho7 | (simp only [Int.reduceToNat] at ho7; rw [← Ny205.out] at ho7)); have n0_ := Aside0.mk (Kd.R_lower ho7 (below_size (by repeat (first | (with_reducible first | exact HB.out | apply below_alloc | apply pw_below_drewN | apply below_drew1) | exact HB.out)))); have n1_ := Aside0.mk (below_step (by repeat (first | (with_reducible first | exact HB.out | apply below_alloc | apply pw_below_drewN | apply below_drew1) | exact HB.out)) hb); clear HB; have HO207 := n0_; have HB := n1_; clear n0_ n1_; clear hb ho7))
        go_loopg [8, 9] k (fun kq v8 v9 w' => ∃ (x8_1 : List Int) (x9_1 : Int), v9 = .int .i64 x9_1 ∧ Aside0 (juratref28_ids.l0 kq a0 t202 x8_1 x9_1 = some (r1, r2, r3)) ∧ Aside0 (kq ≤ k) ∧ Aside0 (Kd.R (Kd.int .i64) 3 w' w.heap.size (fun _ => True) v8 x8_1) ∧ Aside0 (Below w.heap.size w w'))
        case atStart => exact ⟨(y205), (wrap64 (1 + t203)), (by first | rfl | (simp; done) | (simp [*]; done)), H', ⟨Nat.le_refl _⟩, ⟨by (with_reducible repeat (first | apply Kd.R_alloc | apply Kd.R_drewN | apply Kd.R_drew)); exact HO207.out⟩, ⟨by repeat (first | (with_reducible first | exact HB.out | apply below_alloc | apply pw_below_drewN | apply below_drew1) | exact HB.out)⟩⟩
        case round =>
          clear H'
          try clear c2
          try clear c2b0
          try clear c2b1
          try clear p2
          try clear c4
          try clear c4b0
          try clear c4b1
          try clear c5
          try clear c5b0
          try clear p6
          obtain ⟨x8_1, x9_1, rfl, HA, HK1, HO_8, HB⟩ := hrel
          cases gk with
          | zero => exact absurd HA.out (by simp [juratref28_ids.l0])
          | succ k1 =>
            have H := HA.out
            clear HA
            simp only [juratref28_ids.l0] at H
            by_cases c8 : (x8_1.length : Int) < t202
            · rw [if_pos c8] at H
              have c8b0 : decide ((x8_1.length : Int) < t202) = true := decide_eq_true c8
              clear c8
              by_cases c9 : 0 ≤ x9_1
              · rw [if_pos c9] at H
                have c9b0 := eq_true c9
                have c9b1 : decide (0 ≤ x9_1) = true := decide_eq_true c9
                clear c9
                by_cases c10 : x9_1 ≤ (a0.size : Int)
                · rw [if_pos c10] at H
                  have c10b0 := eq_true c10
                  have c10b1 : decide (x9_1 ≤ (a0.size : Int)) = true := decide_eq_true c10
                  clear c10
                  replace H := Option.bind_eq_some_iff.mp H
                  obtain ⟨⟨t208, t209, t210⟩, A110, H⟩ := H
                  replace H : (if t210 = 0 then (if (x8_1.length : Int) > 0 then (if t208 = 0 then (some (([] : List Int), 0, 9)) else (if 0 ≤ (wrap64 ((x8_1.length : Int) - 1)) then (if (wrap64 ((x8_1.length : Int) - 1)) < (x8_1.length : Int) then (if t208 > (wrap64 (65534 - (rd x8_1 (wrap64 ((x8_1.length : Int) - 1))))) then (some (([] : List Int), 0, 11)) else (if x8_1.length < 17592186044416 then (juratref28_ids.l0 k1 a0 t202 (x8_1 ++ [wrap64 ((rd x8_1 (wrap64 ((x8_1.length : Int) - 1))) + t208)]) (wrap64 (x9_1 + t209))) else (none))) else (none)) else (none))) else (if t208 > 65534 then (some (([] : List Int), 0, 11)) else (if x8_1.length < 17592186044416 then (juratref28_ids.l0 k1 a0 t202 (x8_1 ++ [wrap64 t208]) (wrap64 (x9_1 + t209))) else (none)))) else (some (([] : List Int), 0, t210))) = some (r1, r2, r3) := H
                  have A11 := Aside0.mk A110
                  clear A110
                  by_cases c12 : t210 = 0
                  · rw [if_pos c12] at H
                    have c12b0 : (t210 == 0) = true := beq_iff_eq.mpr c12
                    have c12b1 : (t210 != 0) = false := bne_eq_false_iff_eq.mpr c12
                    clear c12
                    by_cases c13 : (x8_1.length : Int) > 0
                    · rw [if_pos c13] at H
                      have c13b0 : decide (0 < (x8_1.length : Int)) = true := decide_eq_true c13
                      have c13b1 : decide (0 < x8_1.length) = true := decide_eq_true (by omega)
                      clear c13
                      by_cases c14 : t208 = 0
                      · rw [if_pos c14] at H
                        have c14b0 : (t208 == 0) = true := beq_iff_eq.mpr c14
                        have c14b1 : (t208 != 0) = false := bne_eq_false_iff_eq.mpr c14
                        clear c14
                        simp only [Option.some.injEq, Prod.mk.injEq] at H
                        obtain ⟨rfl, rfl, rfl⟩ := H
                        obtain ⟨Ao15, co15, eo15⟩ := Kd.R_slice HO_8.out
                        subst eo15
                        go_wp2_with (first | ((with_reducible refine gate_callee (f := 53) rfl ?_); refine goesL_ (some 37) rfl rfl Try.func53 (by kernel_rfl) rfl #[.string (a0.extract (x9_1 : Int).toNat a0.size)] rfl (by (try simp only [List.map_toArray, List.map_cons, List.map_nil]); first | done | rfl | (simp only [List.length_drop, List.length_take]; rfl)) ?_; (with_reducible refine (juratref02_Take.calls k1 (a0.extract (x9_1 : Int).toNat a0.size) t208 t209 t210 _ A11.out).mono ?_); rintro e w' ⟨rfl, ⟨nd, rfl⟩⟩; refine ⟨_, rfl, ?_⟩))
                        go_ret3
                        exact ⟨_, by first | rfl | (simp [errW_none, errW_some] <;> rfl) | (simp [*, errW_none, errW_some] <;> rfl), by first | exact Kd.R_nil _ _ _ _ _ | exact Kd.N_nil _ _ _ _ _ | exact Kd.V_nil _ _ _ _ _ | exact Kd.Q_nil _ _ _ _ _ | exact Kd.S_nil _ _ _ _ _, by repeat (first | (with_reducible first | exact HB.out | apply below_alloc | apply pw_below_drewN | apply below_drew1) | exact HB.out)⟩
                      · rw [if_neg c14] at H
                        have c14b0 : (t208 == 0) = false := beq_eq_false_iff_ne.mpr c14
                        have c14b1 : (t208 != 0) = true := bne_iff_ne.mpr c14
                        obtain ⟨ji16, hji16⟩ : ∃ j_ : Int, (wrap64 ((x8_1.length : Int) - 1)) = j_ := ⟨_, rfl⟩
                        replace H : (if 0 ≤ (ji16) then (if (ji16) < (x8_1.length : Int) then (if t208 > (wrap64 (65534 - (rd x8_1 (ji16)))) then (some (([] : List Int), 0, 11)) else (if x8_1.length < 17592186044416 then (juratref28_ids.l0 k1 a0 t202 (x8_1 ++ [wrap64 ((rd x8_1 (ji16)) + t208)]) (wrap64 (x9_1 + t209))) else (none))) else (none)) else (none)) = some (r1, r2, r3) := by first | (rw [hji16] at H; exact H) | (simp only [hji16] at H ⊢; exact H)
                        (try rw [hji16] at A11)
                        have hji16w : (IntKind.i64.wrap ((x8_1.length : Int) - 1)) = ji16 := (i64_w _).trans hji16
                        by_cases c17 : 0 ≤ (ji16)
                        · rw [if_pos c17] at H
                          have c17b0 : decide (0 ≤ (ji16)) = true := decide_eq_true c17
                          clear c17
                          by_cases c18 : (ji16) < (x8_1.length : Int)
                          · rw [if_pos c18] at H
                            have c18b0 : decide ((ji16) < (x8_1.length : Int)) = true := decide_eq_true c18
                            clear c18
                            by_cases c19 : t208 > (wrap64 (65534 - (rd x8_1 (ji16))))
                            · rw [if_pos c19] at H
                              have c19b0 : decide ((wrap64 (65534 - (rd x8_1 (ji16)))) < t208) = true := decide_eq_true c19
                              clear c19
                              simp only [Option.some.injEq, Prod.mk.injEq] at H
                              obtain ⟨rfl, rfl, rfl⟩ := H
                              obtain ⟨Ao20, co20, eo20⟩ := Kd.R_slice HO_8.out
                              subst eo20
                              go_wp2_with (first | ((with_reducible refine gate_callee (f := 53) rfl ?_); refine goesL_ (some 37) rfl rfl Try.func53 (by kernel_rfl) rfl #[.string (a0.extract (x9_1 : Int).toNat a0.size)] rfl (by (try simp only [List.map_toArray, List.map_cons, List.map_nil]); first | done | rfl | (simp only [List.length_drop, List.length_take]; rfl)) ?_; (with_reducible refine (juratref02_Take.calls k1 (a0.extract (x9_1 : Int).toNat a0.size) t208 t209 t210 _ A11.out).mono ?_); rintro e w' ⟨rfl, ⟨nd, rfl⟩⟩; refine ⟨_, rfl, ?_⟩; have p211 : 0 ≤ ((ji16) : Int) := of_decide_eq_true (by first | (with_reducible assumption) | assumption); have q211 : (ji16) < (x8_1.length : Int) := of_decide_eq_true (by first | (with_reducible assumption) | assumption); obtain ⟨ad211, e211, hx211_0⟩ := Kd.at_int (Kd.R_reads' HO_8.out).2.2 (ji16) p211 q211; cases e211; replace p211 := eq_true p211; replace q211 := eq_true q211))
                              go_ret3
                              exact ⟨_, by first | rfl | (simp [errW_none, errW_some] <;> rfl) | (simp only [← hji16]; first | rfl | (simp [errW_none, errW_some] <;> rfl)) | (simp [*, errW_none, errW_some] <;> rfl), by first | exact Kd.R_nil _ _ _ _ _ | exact Kd.N_nil _ _ _ _ _ | exact Kd.V_nil _ _ _ _ _ | exact Kd.Q_nil _ _ _ _ _ | exact Kd.S_nil _ _ _ _ _, by repeat (first | (with_reducible first | exact HB.out | apply below_alloc | apply pw_below_drewN | apply below_drew1) | exact HB.out)⟩
                            · rw [if_neg c19] at H
                              have c19b0 : decide ((wrap64 (65534 - (rd x8_1 (ji16)))) < t208) = false := decide_eq_false c19
                              clear c19
                              by_cases c21 : x8_1.length < 17592186044416
                              · rw [if_pos c21] at H
                                have LMc21 := Aside0.mk c21
                                clear c21
                                obtain ⟨y212, hy212⟩ : ∃ y_ : List Int, y_ = (x8_1 ++ [wrap64 ((rd x8_1 (ji16)) + t208)]) := ⟨_, rfl⟩
                                replace H : (juratref28_ids.l0 k1 a0 t202 y212 (wrap64 (x9_1 + t209))) = some (r1, r2, r3) := by first | (rw [hy212]; with_reducible exact H) | (have H2_ := (Option.bind_some _ _).symm.trans H; rw [hy212]; with_reducible exact H2_) | (have H2_ := (Option.bind_some _ _).symm.trans H; with_reducible exact H2_) | with_reducible exact H | (rw [hy212]; exact H) | exact H
                                have Ny212 := Aside0.mk hy212
                                clear hy212
                                have H' := Aside0.mk H
                                clear H
                                obtain ⟨Ao22, co22, eo22⟩ := Kd.R_slice HO_8.out
                                subst eo22
                                go_wp2_with (first | ((with_reducible refine gate_callee (f := 53) rfl ?_); refine goesL_ (some 37) rfl rfl Try.func53 (by kernel_rfl) rfl #[.string (a0.extract (x9_1 : Int).toNat a0.size)] rfl (by (try simp only [List.map_toArray, List.map_cons, List.map_nil]); first | done | rfl | (simp only [List.length_drop, List.length_take]; rfl)) ?_; (with_reducible refine (juratref02_Take.calls k1 (a0.extract (x9_1 : Int).toNat a0.size) t208 t209 t210 _ A11.out).mono ?_); rintro e w' ⟨rfl, ⟨nd, rfl⟩⟩; refine ⟨_, rfl, ?_⟩; have p211 : 0 ≤ ((ji16) : Int) := of_decide_eq_true (by first | (with_reducible assumption) | assumption); have q211 : (ji16) < (x8_1.length : Int) := of_decide_eq_true (by first | (with_reducible assumption) | assumption); obtain ⟨ad211, e211, hx211_0⟩ := Kd.at_int (Kd.R_reads' HO_8.out).2.2 (ji16) p211 q211; cases e211; replace p211 := eq_true p211; replace q211 := eq_true q211) | ((with_reducible refine gate_builtin (b := .append) (xs := #[.tmp 62, .tmp 66]) rfl ?_); at_builtin; refine Kd.R_append (Kd.int .i64) (w0 := w) w.heap.size rfl (.tmp 62) (.tmp 66) 28 3 (.int .i64 0) 8 rfl Try.underlying28 info3 rfl (by decide) (by omega) (.slice (some ad211) x8_1.length co22) x8_1 (wrap64 ((rd x8_1 (ji16)) + t208)) [.int .i64 (wrap64 ((rd x8_1 (ji16)) + t208))] (fun _ => True) (fun _ => False) rfl rfl ?aP (fun _ hk => hk.elim) ?aF ?aO ?aB ?aS ?aL ?_; (case aP => exact rfl); (case aB => exact (by repeat (first | (with_reducible first | exact HB.out | apply below_alloc | apply pw_below_drewN | apply below_drew1) | exact HB.out))); (case aF => exact (fun _ _ => trivial)); (case aO => exact (by (with_reducible repeat (first | apply Kd.R_alloc | apply Kd.R_drewN | apply Kd.R_drew)); exact HO_8.out)); (case aS => exact (below_size (by repeat (first | (with_reducible first | exact HB.out | apply below_alloc | apply pw_below_drewN | apply below_drew1) | exact HB.out)))); (case aL => have := LMc21.out; omega); intro v213 w23 ho hb hg hat; rw [← Ny212.out] at ho; have n0_ := Aside0.mk (hb); have n1_ := Aside0.mk (ho); clear HB; clear HO_8; have HB := n0_; have HO214 := n1_; clear n0_ n1_; clear ho hb hg hat))
                                go_roundg k1
                                case measure => have := HK1.out; omega
                                case rel => exact ⟨(y212), (wrap64 (x9_1 + t209)), (by first | rfl | (simp; done) | (simp [*]; done)), H', ⟨by have := HK1.out; omega⟩, ⟨by (with_reducible repeat (first | apply Kd.R_alloc | apply Kd.R_drewN | apply Kd.R_drew)); exact HO214.out⟩, ⟨by repeat (first | (with_reducible first | exact HB.out | apply below_alloc | apply pw_below_drewN | apply below_drew1) | exact HB.out)⟩⟩
                              · rw [if_neg c21] at H
                                exact absurd H (by simp)
                          · rw [if_neg c18] at H
                            exact absurd H (by simp)
                        · rw [if_neg c17] at H
                          exact absurd H (by simp)
                    · rw [if_neg c13] at H
                      have c13b0 : decide (0 < (x8_1.length : Int)) = false := decide_eq_false c13
                      have c13b1 : decide (0 < x8_1.length) = false := decide_eq_false (by omega)
                      clear c13
                      by_cases c24 : t208 > 65534
                      · rw [if_pos c24] at H
                        have c24b0 : decide (65534 < t208) = true := decide_eq_true c24
                        clear c24
                        simp only [Option.some.injEq, Prod.mk.injEq] at H
                        obtain ⟨rfl, rfl, rfl⟩ := H
                        obtain ⟨Ao25, co25, eo25⟩ := Kd.R_slice HO_8.out
                        subst eo25
                        go_wp2_with (first | ((with_reducible refine gate_callee (f := 53) rfl ?_); refine goesL_ (some 37) rfl rfl Try.func53 (by kernel_rfl) rfl #[.string (a0.extract (x9_1 : Int).toNat a0.size)] rfl (by (try simp only [List.map_toArray, List.map_cons, List.map_nil]); first | done | rfl | (simp only [List.length_drop, List.length_take]; rfl)) ?_; (with_reducible refine (juratref02_Take.calls k1 (a0.extract (x9_1 : Int).toNat a0.size) t208 t209 t210 _ A11.out).mono ?_); rintro e w' ⟨rfl, ⟨nd, rfl⟩⟩; refine ⟨_, rfl, ?_⟩))
                        go_ret3
                        exact ⟨_, by first | rfl | (simp [errW_none, errW_some] <;> rfl) | (simp [*, errW_none, errW_some] <;> rfl), by first | exact Kd.R_nil _ _ _ _ _ | exact Kd.N_nil _ _ _ _ _ | exact Kd.V_nil _ _ _ _ _ | exact Kd.Q_nil _ _ _ _ _ | exact Kd.S_nil _ _ _ _ _, by repeat (first | (with_reducible first | exact HB.out | apply below_alloc | apply pw_below_drewN | apply below_drew1) | exact HB.out)⟩
                      · rw [if_neg c24] at H
                        have c24b0 : decide (65534 < t208) = false := decide_eq_false c24
                        clear c24
                        by_cases c26 : x8_1.length < 17592186044416
                        · rw [if_pos c26] at H
                          have LMc26 := Aside0.mk c26
                          clear c26
                          obtain ⟨y215, hy215⟩ : ∃ y_ : List Int, y_ = (x8_1 ++ [wrap64 t208]) := ⟨_, rfl⟩
                          replace H : (juratref28_ids.l0 k1 a0 t202 y215 (wrap64 (x9_1 + t209))) = some (r1, r2, r3) := by first | (rw [hy215]; with_reducible exact H) | (have H2_ := (Option.bind_some _ _).symm.trans H; rw [hy215]; with_reducible exact H2_) | (have H2_ := (Option.bind_some _ _).symm.trans H; with_reducible exact H2_) | with_reducible exact H | (rw [hy215]; exact H) | exact H
                          have Ny215 := Aside0.mk hy215
                          clear hy215
                          have H' := Aside0.mk H
                          clear H
                          obtain ⟨Ao27, co27, eo27⟩ := Kd.R_slice HO_8.out
                          subst eo27
                          go_wp2_with (first | ((with_reducible refine gate_callee (f := 53) rfl ?_); refine goesL_ (some 37) rfl rfl Try.func53 (by kernel_rfl) rfl #[.string (a0.extract (x9_1 : Int).toNat a0.size)] rfl (by (try simp only [List.map_toArray, List.map_cons, List.map_nil]); first | done | rfl | (simp only [List.length_drop, List.length_take]; rfl)) ?_; (with_reducible refine (juratref02_Take.calls k1 (a0.extract (x9_1 : Int).toNat a0.size) t208 t209 t210 _ A11.out).mono ?_); rintro e w' ⟨rfl, ⟨nd, rfl⟩⟩; refine ⟨_, rfl, ?_⟩) | ((with_reducible refine gate_builtin (b := .append) (xs := #[.tmp 62, .tmp 66]) rfl ?_); at_builtin; refine Kd.R_append (Kd.int .i64) (w0 := w) w.heap.size rfl (.tmp 62) (.tmp 66) 28 3 (.int .i64 0) 8 rfl Try.underlying28 info3 rfl (by decide) (by omega) (.slice Ao27 x8_1.length co27) x8_1 (wrap64 t208) [.int .i64 (wrap64 t208)] (fun _ => True) (fun _ => False) rfl rfl ?aP (fun _ hk => hk.elim) ?aF ?aO ?aB ?aS ?aL ?_; (case aP => exact rfl); (case aB => exact (by repeat (first | (with_reducible first | exact HB.out | apply below_alloc | apply pw_below_drewN | apply below_drew1) | exact HB.out))); (case aF => exact (fun _ _ => trivial)); (case aO => exact (by (with_reducible repeat (first | apply Kd.R_alloc | apply Kd.R_drewN | apply Kd.R_drew)); exact HO_8.out)); (case aS => exact (below_size (by repeat (first | (with_reducible first | exact HB.out | apply below_alloc | apply pw_below_drewN | apply below_drew1) | exact HB.out)))); (case aL => have := LMc26.out; omega); intro v216 w28 ho hb hg hat; rw [← Ny215.out] at ho; have n0_ := Aside0.mk (hb); have n1_ := Aside0.mk (ho); clear HB; clear HO_8; have HB := n0_; have HO217 := n1_; clear n0_ n1_; clear ho hb hg hat))
                          go_roundg k1
                          case measure => have := HK1.out; omega
                          case rel => exact ⟨(y215), (wrap64 (x9_1 + t209)), (by first | rfl | (simp; done) | (simp [*]; done)), H', ⟨by have := HK1.out; omega⟩, ⟨by (with_reducible repeat (first | apply Kd.R_alloc | apply Kd.R_drewN | apply Kd.R_drew)); exact HO217.out⟩, ⟨by repeat (first | (with_reducible first | exact HB.out | apply below_alloc | apply pw_below_drewN | apply below_drew1) | exact HB.out)⟩⟩
                        · rw [if_neg c26] at H
                          exact absurd H (by simp)
                  · rw [if_neg c12] at H
                    have c12b0 : (t210 == 0) = false := beq_eq_false_iff_ne.mpr c12
                    have c12b1 : (t210 != 0) = true := bne_iff_ne.mpr c12
                    simp only [Option.some.injEq, Prod.mk.injEq] at H
                    obtain ⟨rfl, rfl, rfl⟩ := H
                    obtain ⟨Ao29, co29, eo29⟩ := Kd.R_slice HO_8.out
                    subst eo29
                    go_wp2_with (first | ((with_reducible refine gate_callee (f := 53) rfl ?_); refine goesL_ (some 37) rfl rfl Try.func53 (by kernel_rfl) rfl #[.string (a0.extract (x9_1 : Int).toNat a0.size)] rfl (by (try simp only [List.map_toArray, List.map_cons, List.map_nil]); first | done | rfl | (simp only [List.length_drop, List.length_take]; rfl)) ?_; (with_reducible refine (juratref02_Take.calls k1 (a0.extract (x9_1 : Int).toNat a0.size) t208 t209 t210 _ A11.out).mono ?_); rintro e w' ⟨rfl, ⟨nd, rfl⟩⟩; refine ⟨_, rfl, ?_⟩))
                    go_ret3
                    exact ⟨_, by first | rfl | (simp [errW_none, errW_some] <;> rfl) | (simp [*, errW_none, errW_some] <;> rfl), by first | exact Kd.R_nil _ _ _ _ _ | exact Kd.N_nil _ _ _ _ _ | exact Kd.V_nil _ _ _ _ _ | exact Kd.Q_nil _ _ _ _ _ | exact Kd.S_nil _ _ _ _ _, by repeat (first | (with_reducible first | exact HB.out | apply below_alloc | apply pw_below_drewN | apply below_drew1) | exact HB.out)⟩
                · rw [if_neg c10] at H
                  exact absurd H (by simp)
              · rw [if_neg c9] at H
                exact absurd H (by simp)
            · rw [if_neg c8] at H
              have c8b0 : decide ((x8_1.length : Int) < t202) = false := decide_eq_false c8
              clear c8
              simp only [Option.some.injEq, Prod.mk.injEq] at H
              obtain ⟨rfl, rfl, rfl⟩ := H
              obtain ⟨Ao30, co30, eo30⟩ := Kd.R_slice HO_8.out
              subst eo30
              go_wp2
              go_ret3
              exact ⟨_, by first | rfl | (simp [errW_none, errW_some] <;> rfl) | (simp [*, errW_none, errW_some] <;> rfl), by (with_reducible repeat (first | apply Kd.R_alloc | apply Kd.R_drewN | apply Kd.R_drew)); exact HO_8.out, by repeat (first | (with_reducible first | exact HB.out | apply below_alloc | apply pw_below_drewN | apply below_drew1) | exact HB.out)⟩
    · rw [if_neg c4] at H
      have c4b0 : (t204 == 0) = false := beq_eq_false_iff_ne.mpr c4
      have c4b1 : (t204 != 0) = true := bne_iff_ne.mpr c4
      simp only [Option.some.injEq, Prod.mk.injEq] at H
      obtain ⟨rfl, rfl, rfl⟩ := H
      go_enter Try.func52, Try.ntmps52
      go_wp2_with (first | ((with_reducible refine gate_callee (f := 53) rfl ?_); refine goesL_ (some 17) rfl rfl Try.func53 (by kernel_rfl) rfl #[.string (a0.extract 1 a0.size)] rfl (by (try simp only [List.map_toArray, List.map_cons, List.map_nil]); first | done | rfl | (simp only [List.length_drop, List.length_take]; rfl)) ?_; (with_reducible refine (juratref02_Take.calls k (a0.extract 1 a0.size) t202 t203 t204 _ A3.out).mono ?_); rintro e w' ⟨rfl, ⟨nd, rfl⟩⟩; refine ⟨_, rfl, ?_⟩))
      go_ret3
      exact ⟨_, by first | rfl | (simp [errW_none, errW_some] <;> rfl) | (simp [*, errW_none, errW_some] <;> rfl), by first | exact Kd.R_nil _ _ _ _ _ | exact Kd.N_nil _ _ _ _ _ | exact Kd.V_nil _ _ _ _ _ | exact Kd.Q_nil _ _ _ _ _ | exact Kd.S_nil _ _ _ _ _, by repeat (first | (with_reducible first | exact HB.out | apply below_alloc | apply pw_below_drewN | apply below_drew1) | exact HB.out)⟩
  · rw [if_neg c2] at H
    exact absurd H (by simp)
def juratref03_Is.f (a0 : Int) : Option (Bool) := if a0 ≥ 0 then (some (decide (a0 ≤ 4611686018427387903))) else (some false)
set_option maxHeartbeats 8000000 in
set_option maxRecDepth 100000 in
theorem juratref03_Is.calls (a0 : Int) (r : Bool) (w : World) (h : juratref03_Is.f a0 = some r) :
    Calls Try.prog 54 #[.int .i64 a0] w fun e w' => e = .returned (.bool r) ∧ Drawn0 w w' := by
  have H : (if a0 ≥ 0 then (some (decide (a0 ≤ 4611686018427387903))) else (some false)) = some r := h
  clear h
  by_cases c2 : a0 ≥ 0
  · rw [if_pos c2] at H
    have c2b0 : decide (0 ≤ a0) = true := decide_eq_true c2
    clear c2
    obtain rfl := Option.some.inj H
    go_enter Try.func54, Try.ntmps54
    go_wp2
    go_ret
    exact ⟨by first | rfl | (simp; done) | (simp [*]; done), by repeat (first | exact Drawn0.refl _ | apply Drawn0.step)⟩
  · rw [if_neg c2] at H
    have c2b0 : decide (0 ≤ a0) = false := decide_eq_false c2
    clear c2
    obtain rfl := Option.some.inj H
    go_enter Try.func54, Try.ntmps54
    go_wp2
    go_ret
    exact ⟨by first | rfl | (simp; done) | (simp [*]; done), by repeat (first | exact Drawn0.refl _ | apply Drawn0.step)⟩
end Go.Proofs.Ytejcopppchaneaa.PF
end
section
namespace Go.Proofs.Ytejcopppchaneaa.PF
open Go.RowKit Go.Proofs.YtejcopppchaneaaW.PrintWords Go.Proofs.YtejcopppchaneaaW.PrintLast Go.Proofs.YtejcopppchaneaaW.PrintMore
attribute [local go_sem] max2_int min2_int max_two min_two max_three min_three max_four min_four   -- for this text's walks alone
set_option linter.unusedVariables false
set_option linter.unusedSimpArgs false
mutual
def juratref28_Take.j0 : Nat → ByteArray → Int → Bool → Option (Int × Int × Int × List Int × Int × Int)
  | 0, _, _, _ => none
  | k + 1, x0, x5, x26 => if x26 = true then (some (0, 0, 0, ([] : List Int), 0, 3)) else (if x5 = 4 then ((juratref28_ids.f k x0).bind fun bt219 => (if bt219.2.2 = 0 then (some (4, 0, 0, bt219.1, bt219.2.1, 0)) else (some (0, 0, 0, ([] : List Int), 0, bt219.2.2)))) else (if 1 ≤ (x0.size : Int) then ((juratref02_Take.f k (x0.extract 1 x0.size)).bind fun bt224 => (if bt224.2.2 = 0 then ((juratref03_Is.f bt224.1).bind fun t227 => (if t227 = true then (if x5 < 4 then (juratref28_Take.j1 k x0 x5 bt224.1 bt224.2.1 (bt224.1 == 0)) else (juratref28_Take.j1 k x0 x5 bt224.1 bt224.2.1 false)) else (juratref28_Take.j1 k x0 x5 bt224.1 bt224.2.1 true))) else (some (0, 0, 0, ([] : List Int), 0, bt224.2.2)))) else (none)))
def juratref28_Take.j1 : Nat → ByteArray → Int → Int → Int → Bool → Option (Int × Int × Int × List Int × Int × Int)
  | 0, _, _, _, _, _ => none
  | k + 1, x0, x5, x9, x10, x64 => if x64 = true then (some (0, 0, 0, ([] : List Int), 0, 11)) else (if 0 ≤ (wrap64 (1 + x10)) then (if (wrap64 (1 + x10)) ≤ (x0.size : Int) then ((juratref02_Take.f k (x0.extract ((wrap64 (1 + x10)) : Int).toNat x0.size)).bind fun bt228 => (if bt228.2.2 = 0 then ((juratref03_Is.f bt228.1).bind fun t231 => (if t231 = true then (if x5 < 4 then (if bt228.1 = 0 then (some (0, 0, 0, ([] : List Int), 0, 11)) else (some (x5, x9, bt228.1, ([] : List Int), wrap64 ((wrap64 (1 + x10)) + bt228.2.1), 0))) else (some (x5, x9, bt228.1, ([] : List Int), wrap64 ((wrap64 (1 + x10)) + bt228.2.1), 0))) else (some (0, 0, 0, ([] : List Int), 0, 11)))) else (some (0, 0, 0, ([] : List Int), 0, bt228.2.2)))) else (none)) else (none))
end
def juratref28_Take.f (k : Nat) (a0 : ByteArray) : Option (Int × Int × Int × List Int × Int × Int) := if (a0.size : Int) = 0 then (some (0, 0, 0, ([] : List Int), 0, 4)) else (if 0 < (a0.size : Int) then (if (wrap64 (bt a0 0)) < 1 then (juratref28_Take.j0 k a0 (wrap64 (bt a0 0)) true) else (juratref28_Take.j0 k a0 (wrap64 (bt a0 0)) (decide ((wrap64 (bt a0 0)) > 6)))) else (none))
set_option maxHeartbeats 8000000 in
set_option maxRecDepth 100000 in
theorem juratref28_Take.calls (k : Nat) (a0 : ByteArray) (r1 : Int) (r2 : Int) (r3 : Int) (r4 : List Int) (r5 : Int) (r6 : Int) (w : World) (h : juratref28_Take.f k a0 = some (r1, r2, r3, r4, r5, r6)) :
    Calls Try.prog 37 #[.string a0] w fun e w' => ∃ v3_ : Value, e = .returned (.tuple #[.agg #[.int .i64 r1, .int .i64 r2, .int .i64 r3, v3_], .int .i64 r5, .int .i64 r6]) ∧ Kd.R (Kd.int .i64) 3 w' w.heap.size (fun _ => True) v3_ r4 ∧ Below w.heap.size w w' := by
  have hu30 := Try.underlying30
  have HB := Aside0.mk (Below.refl w.heap.size w)
  have H : (if (a0.size : Int) = 0 then (some (0, 0, 0, ([] : List Int), 0, 4)) else (if 0 < (a0.size : Int) then (if (wrap64 (bt a0 0)) < 1 then (juratref28_Take.j0 k a0 (wrap64 (bt a0 0)) true) else (juratref28_Take.j0 k a0 (wrap64 (bt a0 0)) (decide ((wrap64 (bt a0 0)) > 6)))) else (none))) = some (r1, r2, r3, r4, r5, r6) := h
  clear h
  by_cases c2 : (a0.size : Int) = 0
  · rw [if_pos c2] at H
    have c2b0 : ((a0.size : Int) == 0) = true := beq_iff_eq.mpr c2
    have c2b1 : ((a0.size : Int) != 0) = false := bne_eq_false_iff_eq.mpr c2
    clear c2
    simp only [Option.some.injEq, Prod.mk.injEq] at H
    obtain ⟨rfl, rfl, rfl, rfl, rfl, rfl⟩ := H
    go_enter Try.func37, Try.ntmps37
    go_wp2_with (first | ((with_reducible refine gate_dst (N := 2) rfl ?_); refine box_event ?hg (N := 2) ?hd (cs := #[.int .i64 0, .int .i64 0, .int .i64 0, .slice none 0 0]) (t := 30) ?hr ?_; (case hd => rfl); (case hg => rfl); (case hr => first | (go_simp; done) | (go_simp; rfl)); intro gb218 hg w3 hbox hb; have n0_ := Aside0.mk (below_step (by repeat (first | (with_reducible first | exact HB.out | apply below_alloc | apply pw_below_drewN | apply below_drew1) | exact HB.out)) hb); have n1_ := Aside0.mk (hbox); have n2_ := Aside0.mk ((by rw [hg]; exact (below_size (by repeat (first | (with_reducible first | exact HB.out | apply below_alloc | apply pw_below_drewN | apply below_drew1) | exact HB.out))) : w.heap.size ≤ gb218)); have n3_ := Aside0.mk ((by rw [hg]; exact (below_size (by repeat (first | (with_reducible first | exact HB.out | apply below_alloc | apply pw_below_drewN | apply below_drew1) | exact HB.out))) : w.heap.size ≤ gb218)); clear HB; have HB := n0_; have BK218 := n1_; have GW218 := n2_; have GE218 := n3_; clear n0_ n1_ n2_ n3_; clear hb hbox hg; have hcz4_0 : w3.cell? ⟨gb218, 0, none⟩ = some (.int .i64 0) := (blk_cell BK218.out 0).trans rfl; have hcz4_1 : w3.cell? ⟨gb218, 1, none⟩ = some (.int .i64 0) := (blk_cell BK218.out 1).trans rfl; have hcz4_2 : w3.cell? ⟨gb218, 2, none⟩ = some (.int .i64 0) := (blk_cell BK218.out 2).trans rfl; have hcz4_3 : w3.cell? ⟨gb218, 3, none⟩ = some (.slice none 0 0) := (blk_cell BK218.out 3).trans rfl; have hfz4_0 := blk_frozen BK218.out 0; have hfz4_1 := blk_frozen BK218.out 1; have hfz4_2 := blk_frozen BK218.out 2; have hfz4_3 := blk_frozen BK218.out 3))
    refine bodyPost_ret (results_ctt rfl _ _ gb218 30 #[.int .i64 0, .int .i64 0, .int .i64 0, .slice none 0 0] (0, 0) _ rfl (by (with_reducible repeat (first | refine blk_drewN ?_ _ | refine blk_drew ?_ | refine blk_alloc ?_ _)); refine blk_put (cs := #[.int .i64 0, .int .i64 0, .int .i64 0, .slice none 0 0]) ?_ 3 _ rfl; (with_reducible repeat (first | refine blk_drewN ?_ _ | refine blk_drew ?_ | refine blk_alloc ?_ _)); refine blk_put (cs := #[.int .i64 0, .int .i64 0, .int .i64 0, .slice none 0 0]) ?_ 2 _ rfl; (with_reducible repeat (first | refine blk_drewN ?_ _ | refine blk_drew ?_ | refine blk_alloc ?_ _)); refine blk_put (cs := #[.int .i64 0, .int .i64 0, .int .i64 0, .slice none 0 0]) ?_ 1 _ rfl; (with_reducible repeat (first | refine blk_drewN ?_ _ | refine blk_drew ?_ | refine blk_alloc ?_ _)); refine blk_put (cs := #[.int .i64 0, .int .i64 0, .int .i64 0, .slice none 0 0]) ?_ 0 _ rfl; (with_reducible repeat (first | refine blk_drewN ?_ _ | refine blk_drew ?_ | refine blk_alloc ?_ _)); exact BK218.out) Try.underlying30 rfl (by kernel_rfl)) rfl ?_
    exact ⟨_, by first | rfl | (simp [errW_none, errW_some] <;> rfl) | (simp [*, errW_none, errW_some] <;> rfl), by first | exact Kd.R_nil _ _ _ _ _ | exact Kd.N_nil _ _ _ _ _ | exact Kd.V_nil _ _ _ _ _ | exact Kd.Q_nil _ _ _ _ _ | exact Kd.S_nil _ _ _ _ _, by repeat (first | (with_reducible first | exact HB.out | apply below_alloc | apply pw_below_drewN | apply below_drew1 | refine below_set ?_ GE218.out) | exact HB.out)⟩
  · rw [if_neg c2] at H
    have c2b0 : ((a0.size : Int) == 0) = false := beq_eq_false_iff_ne.mpr c2
    have c2b1 : ((a0.size : Int) != 0) = true := bne_iff_ne.mpr c2
    by_cases c5 : 0 < (a0.size : Int)
    · rw [if_pos c5] at H
      have c5b0 : decide (0 < (a0.size : Int)) = true := decide_eq_true c5
      have c5b1 : decide (0 < a0.size) = true := decide_eq_true (by omega)
      clear c5
      have HC7 := Aside0.mk H
      clear H
      go_enter Try.func37, Try.ntmps37
      go_upto_region 4 with (first | ((with_reducible refine gate_dst (N := 2) rfl ?_); refine box_event ?hg (N := 2) ?hd (cs := #[.int .i64 0, .int .i64 0, .int .i64 0, .slice none 0 0]) (t := 30) ?hr ?_; (case hd => rfl); (case hg => rfl); (case hr => first | (go_simp; done) | (go_simp; rfl)); intro gb218 hg w8 hbox hb; have n0_ := Aside0.mk (below_step (by repeat (first | (with_reducible first | exact HB.out | apply below_alloc | apply pw_below_drewN | apply below_drew1) | exact HB.out)) hb); have n1_ := Aside0.mk (hbox); have n2_ := Aside0.mk ((by rw [hg]; exact (below_size (by repeat (first | (with_reducible first | exact HB.out | apply below_alloc | apply pw_below_drewN | apply below_drew1) | exact HB.out))) : w.heap.size ≤ gb218)); have n3_ := Aside0.mk ((by rw [hg]; exact (below_size (by repeat (first | (with_reducible first | exact HB.out | apply below_alloc | apply pw_below_drewN | apply below_drew1) | exact HB.out))) : w.heap.size ≤ gb218)); clear HB; have HB := n0_; have BK218 := n1_; have GW218 := n2_; have GE218 := n3_; clear n0_ n1_ n2_ n3_; clear hb hbox hg; have p6 : 0 ≤ (0 : Int) := (by omega); have q6 : 0 < a0.size := (by have : (0 : Int) < (a0.size : Int) := of_decide_eq_true (by first | (with_reducible assumption) | assumption); omega); have hx6 : ∀ h : 0 < a0.size, ((a0[0]'h).toNat : Int) = bt a0 0 := bt_at a0 0; clear p6; have qi6 : (0 < (a0.size : Int)) = True := eq_true (of_decide_eq_true (by first | (with_reducible assumption) | assumption)); replace q6 := eq_true q6))
      (try simp only [Act.put, List.setIfInBounds_toArray, List.set_cons_zero, List.set_cons_succ])
      go_cut [26] (fun v26 wc => ∃ (kq : Nat) (x26_6 : Bool), v26 = .bool x26_6 ∧ Aside0 (juratref28_Take.j0 kq a0 (wrap64 (bt a0 0)) x26_6 = some (r1, r2, r3, r4, r5, r6)) ∧ Aside0 (kq ≤ k) ∧ Aside0 (wc.heap[gb218]? = some (.cells #[.int .i64 0, .int .i64 0, .int .i64 0, (.slice none 0 0)] 30 (0, 0))) ∧ Aside0 (Below w.heap.size w wc))
      case first =>
        have H := HC7.out
        clear HC7
        by_cases c9 : (wrap64 (bt a0 0)) < 1
        · rw [if_pos c9] at H
          have c9b0 : decide ((wrap64 (bt a0 0)) < 1) = true := decide_eq_true c9
          clear c9
          (first | rw [c9b0] | (simp only [i64_w, i32_w]; rw [c9b0]) | skip)
          have H' := Aside0.mk H
          clear H
          go_wp2
          go_meet
          case rel => exact ⟨_, (true), (by first | rfl | (simp; done) | (simp [*]; done)), H', ⟨by first | omega | exact Nat.le_refl _⟩, ⟨by (with_reducible repeat (first | refine blk_drewN ?_ _ | refine blk_drew ?_ | refine blk_alloc ?_ _)); exact BK218.out⟩, ⟨by repeat (first | (with_reducible first | exact HB.out | apply below_alloc | apply pw_below_drewN | apply below_drew1 | refine below_set ?_ GE218.out) | exact HB.out)⟩⟩
        · rw [if_neg c9] at H
          have c9b0 : decide ((wrap64 (bt a0 0)) < 1) = false := decide_eq_false c9
          clear c9
          (first | rw [c9b0] | (simp only [i64_w, i32_w]; rw [c9b0]) | skip)
          have H' := Aside0.mk H
          clear H
          go_wp2
          go_meet
          case rel => exact ⟨_, (decide ((wrap64 (bt a0 0)) > 6)), (by first | rfl | (simp; done) | (simp [*]; done)), H', ⟨by first | omega | exact Nat.le_refl _⟩, ⟨by (with_reducible repeat (first | refine blk_drewN ?_ _ | refine blk_drew ?_ | refine blk_alloc ?_ _)); exact BK218.out⟩, ⟨by repeat (first | (with_reducible first | exact HB.out | apply below_alloc | apply pw_below_drewN | apply below_drew1 | refine below_set ?_ GE218.out) | exact HB.out)⟩⟩
      case rest =>
        clear HC7
        try clear c2
        try clear c2b0
        try clear c2b1
        try clear p2
        try clear c3
        try clear c5
        try clear c5b0
        try clear c5b1
        try clear p6
        try clear q6
        try clear hx6
        try clear qi6
        try clear c9
        try clear c9b0
        try clear hcz4_0
        try clear hcz4_1
        try clear hcz4_2
        try clear hcz4_3
        try clear hfz4_0
        try clear hfz4_1
        try clear hfz4_2
        try clear hfz4_3
        try clear p6
        try clear q6
        obtain ⟨kq, x26_6, rfl, HA, HJ6, BK218, HB⟩ := hcut
        cases kq with
        | zero => exact absurd HA.out (by simp [juratref28_Take.j0])
        | succ kj6 =>
          have H := HA.out
          clear HA
          simp only [juratref28_Take.j0] at H
          by_cases c10 : x26_6 = true
          · subst c10
            have H1 : (some (0, 0, 0, ([] : List Int), 0, 3)) = some (r1, r2, r3, r4, r5, r6) := by rw [if_pos rfl] at H; exact H
            clear H
            have H := H1
            clear H1
            simp only [Option.some.injEq, Prod.mk.injEq] at H
            obtain ⟨rfl, rfl, rfl, rfl, rfl, rfl⟩ := H
            have hcz11_0 : wc.cell? ⟨gb218, 0, none⟩ = some (.int .i64 0) := (blk_cell BK218.out 0).trans rfl
            have hcz11_1 : wc.cell? ⟨gb218, 1, none⟩ = some (.int .i64 0) := (blk_cell BK218.out 1).trans rfl
            have hcz11_2 : wc.cell? ⟨gb218, 2, none⟩ = some (.int .i64 0) := (blk_cell BK218.out 2).trans rfl
            have hcz11_3 : wc.cell? ⟨gb218, 3, none⟩ = some (.slice none 0 0) := (blk_cell BK218.out 3).trans rfl
            have hfz11_0 := blk_frozen BK218.out 0
            have hfz11_1 := blk_frozen BK218.out 1
            have hfz11_2 := blk_frozen BK218.out 2
            have hfz11_3 := blk_frozen BK218.out 3
            go_wp2
            refine bodyPost_ret (results_ctt rfl _ _ gb218 30 #[.int .i64 0, .int .i64 0, .int .i64 0, .slice none 0 0] (0, 0) _ rfl (by (with_reducible repeat (first | refine blk_drewN ?_ _ | refine blk_drew ?_ | refine blk_alloc ?_ _)); refine blk_put (cs := #[.int .i64 0, .int .i64 0, .int .i64 0, .slice none 0 0]) ?_ 3 _ rfl; (with_reducible repeat (first | refine blk_drewN ?_ _ | refine blk_drew ?_ | refine blk_alloc ?_ _)); refine blk_put (cs := #[.int .i64 0, .int .i64 0, .int .i64 0, .slice none 0 0]) ?_ 2 _ rfl; (with_reducible repeat (first | refine blk_drewN ?_ _ | refine blk_drew ?_ | refine blk_alloc ?_ _)); refine blk_put (cs := #[.int .i64 0, .int .i64 0, .int .i64 0, .slice none 0 0]) ?_ 1 _ rfl; (with_reducible repeat (first | refine blk_drewN ?_ _ | refine blk_drew ?_ | refine blk_alloc ?_ _)); refine blk_put (cs := #[.int .i64 0, .int .i64 0, .int .i64 0, .slice none 0 0]) ?_ 0 _ rfl; (with_reducible repeat (first | refine blk_drewN ?_ _ | refine blk_drew ?_ | refine blk_alloc ?_ _)); exact BK218.out) Try.underlying30 rfl (by kernel_rfl)) rfl ?_
            exact ⟨_, by first | rfl | (simp [errW_none, errW_some] <;> rfl) | (simp [*, errW_none, errW_some] <;> rfl), by first | exact Kd.R_nil _ _ _ _ _ | exact Kd.N_nil _ _ _ _ _ | exact Kd.V_nil _ _ _ _ _ | exact Kd.Q_nil _ _ _ _ _ | exact Kd.S_nil _ _ _ _ _, by repeat (first | (with_reducible first | exact HB.out | apply below_alloc | apply pw_below_drewN | apply below_drew1 | refine below_set ?_ GE218.out) | exact HB.out)⟩
          · replace c10 := Bool.eq_false_iff.mpr c10
            subst c10
            have H1 : (if (wrap64 (bt a0 0)) = 4 then ((juratref28_ids.f kj6 a0).bind fun bt219 => (if bt219.2.2 = 0 then (some (4, 0, 0, bt219.1, bt219.2.1, 0)) else (some (0, 0, 0, ([] : List Int), 0, bt219.2.2)))) else (if 1 ≤ (a0.size : Int) then ((juratref02_Take.f kj6 (a0.extract 1 a0.size)).bind fun bt224 => (if bt224.2.2 = 0 then ((juratref03_Is.f bt224.1).bind fun t227 => (if t227 = true then (if (wrap64 (bt a0 0)) < 4 then (juratref28_Take.j1 kj6 a0 (wrap64 (bt a0 0)) bt224.1 bt224.2.1 (bt224.1 == 0)) else (juratref28_Take.j1 kj6 a0 (wrap64 (bt a0 0)) bt224.1 bt224.2.1 false)) else (juratref28_Take.j1 kj6 a0 (wrap64 (bt a0 0)) bt224.1 bt224.2.1 true))) else (some (0, 0, 0, ([] : List Int), 0, bt224.2.2)))) else (none))) = some (r1, r2, r3, r4, r5, r6) := by rw [if_neg (show ¬ (false = true) by decide)] at H; exact H
            clear H
            have H := H1
            clear H1
            by_cases c12 : (wrap64 (bt a0 0)) = 4
            · rw [if_pos c12] at H
              have c12b0 : ((wrap64 (bt a0 0)) == 4) = true := beq_iff_eq.mpr c12
              have c12b1 : ((wrap64 (bt a0 0)) != 4) = false := bne_eq_false_iff_eq.mpr c12
              clear c12
              replace H := Option.bind_eq_some_iff.mp H
              obtain ⟨⟨t219, t220, t221⟩, A130, H⟩ := H
              replace H : (if t221 = 0 then (some (4, 0, 0, t219, t220, 0)) else (some (0, 0, 0, ([] : List Int), 0, t221))) = some (r1, r2, r3, r4, r5, r6) := H
              have A13 := Aside0.mk A130
              clear A130
              by_cases c14 : t221 = 0
              · rw [if_pos c14] at H
                have c14b0 : (t221 == 0) = true := beq_iff_eq.mpr c14
                have c14b1 : (t221 != 0) = false := bne_eq_false_iff_eq.mpr c14
                clear c14
                simp only [Option.some.injEq, Prod.mk.injEq] at H
                obtain ⟨rfl, rfl, rfl, rfl, rfl, rfl⟩ := H
                go_wp2_with (first | ((with_reducible refine gate_callee (f := 52) rfl ?_); refine goesL_ (some 32) rfl rfl Try.func52 (by kernel_rfl) rfl #[.string a0] rfl (by (try simp only [List.map_toArray, List.map_cons, List.map_nil]); first | done | rfl | (simp only [List.length_drop, List.length_take]; rfl)) ?_; (with_reducible refine (juratref28_ids.calls kj6 a0 t219 t220 t221 _ A13.out).mono ?_); rintro e w15 ⟨v222, rfl, ho0, hb⟩; refine ⟨_, rfl, ?_⟩; have n0_ := Aside0.mk (Kd.R_lower ho0 (below_size (by repeat (first | (with_reducible first | exact HB.out | apply below_alloc | apply pw_below_drewN | apply below_drew1 | refine below_set ?_ GE218.out) | exact HB.out)))); have n1_ := Aside0.mk (blk_below (g := gb218) (o := .cells #[.int .i64 0, .int .i64 0, .int .i64 0, .slice none 0 0] 30 (0, 0)) (by (with_reducible repeat (first | refine blk_drewN ?_ _ | refine blk_drew ?_ | refine blk_alloc ?_ _)); exact BK218.out) hb); have n2_ := Aside0.mk (below_step (by repeat (first | (with_reducible first | exact HB.out | apply below_alloc | apply pw_below_drewN | apply below_drew1 | refine below_set ?_ GE218.out) | exact HB.out)) hb); clear BK218; clear HB; have HO223 := n0_; have BK218 := n1_; have HB := n2_; clear n0_ n1_ n2_; (try clear hb); (try clear hb2); (try clear hk); (try clear hi); (try clear ho0); obtain ⟨Ao16, co16, eo16⟩ := Kd.R_slice HO223.out; subst eo16; have hcz17_0 : w15.cell? ⟨gb218, 0, none⟩ = some (.int .i64 0) := (blk_cell BK218.out 0).trans rfl; have hcz17_1 : w15.cell? ⟨gb218, 1, none⟩ = some (.int .i64 0) := (blk_cell BK218.out 1).trans rfl; have hcz17_2 : w15.cell? ⟨gb218, 2, none⟩ = some (.int .i64 0) := (blk_cell BK218.out 2).trans rfl; have hcz17_3 : w15.cell? ⟨gb218, 3, none⟩ = some (.slice none 0 0) := (blk_cell BK218.out 3).trans rfl; have hfz17_0 := blk_frozen BK218.out 0; have hfz17_1 := blk_frozen BK218.out 1; have hfz17_2 := blk_frozen BK218.out 2; have hfz17_3 := blk_frozen BK218.out 3))
                refine bodyPost_ret (results_ctt rfl _ _ gb218 30 #[.int .i64 4, .int .i64 0, .int .i64 0, .slice Ao16 t219.length co16] (0, 0) _ rfl (by (with_reducible repeat (first | refine blk_drewN ?_ _ | refine blk_drew ?_ | refine blk_alloc ?_ _)); refine blk_put (cs := #[.int .i64 4, .int .i64 0, .int .i64 0, .slice none 0 0]) ?_ 3 _ rfl; (with_reducible repeat (first | refine blk_drewN ?_ _ | refine blk_drew ?_ | refine blk_alloc ?_ _)); refine blk_put (cs := #[.int .i64 4, .int .i64 0, .int .i64 0, .slice none 0 0]) ?_ 2 _ rfl; (with_reducible repeat (first | refine blk_drewN ?_ _ | refine blk_drew ?_ | refine blk_alloc ?_ _)); refine blk_put (cs := #[.int .i64 4, .int .i64 0, .int .i64 0, .slice none 0 0]) ?_ 1 _ rfl; (with_reducible repeat (first | refine blk_drewN ?_ _ | refine blk_drew ?_ | refine blk_alloc ?_ _)); refine blk_put (cs := #[.int .i64 0, .int .i64 0, .int .i64 0, .slice none 0 0]) ?_ 0 _ rfl; (with_reducible repeat (first | refine blk_drewN ?_ _ | refine blk_drew ?_ | refine blk_alloc ?_ _)); exact BK218.out) Try.underlying30 rfl (by kernel_rfl)) rfl ?_
                exact ⟨_, by first | rfl | (simp [errW_none, errW_some] <;> rfl) | (simp [*, errW_none, errW_some] <;> rfl), by (with_reducible repeat (first | apply Kd.R_alloc | apply Kd.R_drewN | apply Kd.R_drew)); exact Kd.R_mono (Kd.R_far (p := ⟨gb218, 3, none⟩) (Kd.R_far (p := ⟨gb218, 2, none⟩) (Kd.R_far (p := ⟨gb218, 1, none⟩) (Kd.R_far (p := ⟨gb218, 0, none⟩) (Kd.R_types HO223.out BK218.out (by decide)) (fun _ hk => hk.2) (.int .i64 4)) (fun _ hk => hk.2) (.int .i64 0)) (fun _ hk => hk.2) (.int .i64 0)) (fun _ hk => hk.2) (.slice Ao16 t219.length co16)) (fun _ hk => trivial), by repeat (first | (with_reducible first | exact HB.out | apply below_alloc | apply pw_below_drewN | apply below_drew1 | refine below_set ?_ GE218.out) | exact HB.out)⟩
              · rw [if_neg c14] at H
                have c14b0 : (t221 == 0) = false := beq_eq_false_iff_ne.mpr c14
                have c14b1 : (t221 != 0) = true := bne_iff_ne.mpr c14
                simp only [Option.some.injEq, Prod.mk.injEq] at H
                obtain ⟨rfl, rfl, rfl, rfl, rfl, rfl⟩ := H
                go_wp2_with (first | ((with_reducible refine gate_callee (f := 52) rfl ?_); refine goesL_ (some 32) rfl rfl Try.func52 (by kernel_rfl) rfl #[.string a0] rfl (by (try simp only [List.map_toArray, List.map_cons, List.map_nil]); first | done | rfl | (simp only [List.length_drop, List.length_take]; rfl)) ?_; (with_reducible refine (juratref28_ids.calls kj6 a0 t219 t220 t221 _ A13.out).mono ?_); rintro e w18 ⟨v222, rfl, ho0, hb⟩; refine ⟨_, rfl, ?_⟩; have n0_ := Aside0.mk (Kd.R_lower ho0 (below_size (by repeat (first | (with_reducible first | exact HB.out | apply below_alloc | apply pw_below_drewN | apply below_drew1 | refine below_set ?_ GE218.out) | exact HB.out)))); have n1_ := Aside0.mk (blk_below (g := gb218) (o := .cells #[.int .i64 0, .int .i64 0, .int .i64 0, .slice none 0 0] 30 (0, 0)) (by (with_reducible repeat (first | refine blk_drewN ?_ _ | refine blk_drew ?_ | refine blk_alloc ?_ _)); exact BK218.out) hb); have n2_ := Aside0.mk (below_step (by repeat (first | (with_reducible first | exact HB.out | apply below_alloc | apply pw_below_drewN | apply below_drew1 | refine below_set ?_ GE218.out) | exact HB.out)) hb); clear BK218; clear HB; have HO223 := n0_; have BK218 := n1_; have HB := n2_; clear n0_ n1_ n2_; (try clear hb); (try clear hb2); (try clear hk); (try clear hi); (try clear ho0); have hcz19_0 : w18.cell? ⟨gb218, 0, none⟩ = some (.int .i64 0) := (blk_cell BK218.out 0).trans rfl; have hcz19_1 : w18.cell? ⟨gb218, 1, none⟩ = some (.int .i64 0) := (blk_cell BK218.out 1).trans rfl; have hcz19_2 : w18.cell? ⟨gb218, 2, none⟩ = some (.int .i64 0) := (blk_cell BK218.out 2).trans rfl; have hcz19_3 : w18.cell? ⟨gb218, 3, none⟩ = some (.slice none 0 0) := (blk_cell BK218.out 3).trans rfl; have hfz19_0 := blk_frozen BK218.out 0; have hfz19_1 := blk_frozen BK218.out 1; have hfz19_2 := blk_frozen BK218.out 2; have hfz19_3 := blk_frozen BK218.out 3))
                refine bodyPost_ret (results_ctt rfl _ _ gb218 30 #[.int .i64 0, .int .i64 0, .int .i64 0, .slice none 0 0] (0, 0) _ rfl (by (with_reducible repeat (first | refine blk_drewN ?_ _ | refine blk_drew ?_ | refine blk_alloc ?_ _)); refine blk_put (cs := #[.int .i64 0, .int .i64 0, .int .i64 0, .slice none 0 0]) ?_ 3 _ rfl; (with_reducible repeat (first | refine blk_drewN ?_ _ | refine blk_drew ?_ | refine blk_alloc ?_ _)); refine blk_put (cs := #[.int .i64 0, .int .i64 0, .int .i64 0, .slice none 0 0]) ?_ 2 _ rfl; (with_reducible repeat (first | refine blk_drewN ?_ _ | refine blk_drew ?_ | refine blk_alloc ?_ _)); refine blk_put (cs := #[.int .i64 0, .int .i64 0, .int .i64 0, .slice none 0 0]) ?_ 1 _ rfl; (with_reducible repeat (first | refine blk_drewN ?_ _ | refine blk_drew ?_ | refine blk_alloc ?_ _)); refine blk_put (cs := #[.int .i64 0, .int .i64 0, .int .i64 0, .slice none 0 0]) ?_ 0 _ rfl; (with_reducible repeat (first | refine blk_drewN ?_ _ | refine blk_drew ?_ | refine blk_alloc ?_ _)); exact BK218.out) Try.underlying30 rfl (by kernel_rfl)) rfl ?_
                exact ⟨_, by first | rfl | (simp [errW_none, errW_some] <;> rfl) | (simp [*, errW_none, errW_some] <;> rfl), by first | exact Kd.R_nil _ _ _ _ _ | exact Kd.N_nil _ _ _ _ _ | exact Kd.V_nil _ _ _ _ _ | exact Kd.Q_nil _ _ _ _ _ | exact Kd.S_nil _ _ _ _ _, by repeat (first | (with_reducible first | exact HB.out | apply below_alloc | apply pw_below_drewN | apply below_drew1 | refine below_set ?_ GE218.out) | exact HB.out)⟩
            · rw [if_neg c12] at H
              have c12b0 : ((wrap64 (bt a0 0)) == 4) = false := beq_eq_false_iff_ne.mpr c12
              have c12b1 : ((wrap64 (bt a0 0)) != 4) = true := bne_iff_ne.mpr c12
              by_cases c20 : 1 ≤ (a0.size : Int)
              · rw [if_pos c20] at H
                have c20b0 := eq_true c20
                have c20b1 : decide (1 ≤ (a0.size : Int)) = true := decide_eq_true c20
                clear c20
                replace H := Option.bind_eq_some_iff.mp H
                obtain ⟨⟨t224, t225, t226⟩, A210, H⟩ := H
                replace H : (if t226 = 0 then ((juratref03_Is.f t224).bind fun t227 => (if t227 = true then (if (wrap64 (bt a0 0)) < 4 then (juratref28_Take.j1 kj6 a0 (wrap64 (bt a0 0)) t224 t225 (t224 == 0)) else (juratref28_Take.j1 kj6 a0 (wrap64 (bt a0 0)) t224 t225 false)) else (juratref28_Take.j1 kj6 a0 (wrap64 (bt a0 0)) t224 t225 true))) else (some (0, 0, 0, ([] : List Int), 0, t226))) = some (r1, r2, r3, r4, r5, r6) := H
                have A21 := Aside0.mk A210
                clear A210
                by_cases c22 : t226 = 0
                · rw [if_pos c22] at H
                  have c22b0 : (t226 == 0) = true := beq_iff_eq.mpr c22
                  have c22b1 : (t226 != 0) = false := bne_eq_false_iff_eq.mpr c22
                  clear c22
                  have HC23 := Aside0.mk H
                  clear H
                  go_upto_region 14 with (first | ((with_reducible refine gate_callee (f := 53) rfl ?_); refine goesL_ (some 46) rfl rfl Try.func53 (by kernel_rfl) rfl #[.string (a0.extract 1 a0.size)] rfl (by (try simp only [List.map_toArray, List.map_cons, List.map_nil]); first | done | rfl | (simp only [List.length_drop, List.length_take]; rfl)) ?_; (with_reducible refine (juratref02_Take.calls kj6 (a0.extract 1 a0.size) t224 t225 t226 _ A21.out).mono ?_); rintro e w' ⟨rfl, ⟨nd, rfl⟩⟩; refine ⟨_, rfl, ?_⟩))
                  (try simp only [Act.put, List.setIfInBounds_toArray, List.set_cons_zero, List.set_cons_succ])
                  go_cut [64] (fun v64 wc => ∃ (kq : Nat) (x64_22 : Bool), v64 = .bool x64_22 ∧ Aside0 (juratref28_Take.j1 kq a0 (wrap64 (bt a0 0)) t224 t225 x64_22 = some (r1, r2, r3, r4, r5, r6)) ∧ Aside0 (kq ≤ kj6) ∧ Aside0 (wc.heap[gb218]? = some (.cells #[.int .i64 0, .int .i64 0, .int .i64 0, (.slice none 0 0)] 30 (0, 0))) ∧ Aside0 (Below w.heap.size w wc))
                  case first =>
                    have H := HC23.out
                    clear HC23
                    replace H := Option.bind_eq_some_iff.mp H
                    obtain ⟨t227, A240, H⟩ := H
                    replace H : (if t227 = true then (if (wrap64 (bt a0 0)) < 4 then (juratref28_Take.j1 kj6 a0 (wrap64 (bt a0 0)) t224 t225 (t224 == 0)) else (juratref28_Take.j1 kj6 a0 (wrap64 (bt a0 0)) t224 t225 false)) else (juratref28_Take.j1 kj6 a0 (wrap64 (bt a0 0)) t224 t225 true)) = some (r1, r2, r3, r4, r5, r6) := H
                    have A24 := Aside0.mk A240
                    clear A240
                    by_cases c25 : t227 = true
                    · subst c25
                      have H1 : (if (wrap64 (bt a0 0)) < 4 then (juratref28_Take.j1 kj6 a0 (wrap64 (bt a0 0)) t224 t225 (t224 == 0)) else (juratref28_Take.j1 kj6 a0 (wrap64 (bt a0 0)) t224 t225 false)) = some (r1, r2, r3, r4, r5, r6) := by rw [if_pos rfl] at H; exact H
                      clear H
                      have H := H1
                      clear H1
                      by_cases c26 : (wrap64 (bt a0 0)) < 4
                      · rw [if_pos c26] at H
                        have c26b0 : decide ((wrap64 (bt a0 0)) < 4) = true := decide_eq_true c26
                        clear c26
                        (first | rw [c26b0] | (simp only [i64_w, i32_w]; rw [c26b0]) | skip)
                        have H' := Aside0.mk H
                        clear H
                        go_wp2_with (first | ((with_reducible refine gate_callee (f := 54) rfl ?_); refine goesL_ (some 55) rfl rfl Try.func54 (by kernel_rfl) rfl #[.int .i64 t224] rfl (by (try simp only [List.map_toArray, List.map_cons, List.map_nil]); first | done | rfl | (simp only [List.length_drop, List.length_take]; rfl)) ?_; (with_reducible refine (juratref03_Is.calls t224 true _ A24.out).mono ?_); rintro e w' ⟨rfl, ⟨nd, rfl⟩⟩; refine ⟨_, rfl, ?_⟩))
                        go_meet
                        case rel => exact ⟨_, ((t224 == 0)), (by first | rfl | (simp; done) | (simp [*]; done)), H', ⟨by have := HJ6.out; first | omega | exact Nat.le_refl _⟩, ⟨by (with_reducible repeat (first | refine blk_drewN ?_ _ | refine blk_drew ?_ | refine blk_alloc ?_ _)); exact BK218.out⟩, ⟨by repeat (first | (with_reducible first | exact HB.out | apply below_alloc | apply pw_below_drewN | apply below_drew1 | refine below_set ?_ GE218.out) | exact HB.out)⟩⟩
                      · rw [if_neg c26] at H
                        have c26b0 : decide ((wrap64 (bt a0 0)) < 4) = false := decide_eq_false c26
                        clear c26
                        (first | rw [c26b0] | (simp only [i64_w, i32_w]; rw [c26b0]) | skip)
                        have H' := Aside0.mk H
                        clear H
                        go_wp2_with (first | ((with_reducible refine gate_callee (f := 54) rfl ?_); refine goesL_ (some 55) rfl rfl Try.func54 (by kernel_rfl) rfl #[.int .i64 t224] rfl (by (try simp only [List.map_toArray, List.map_cons, List.map_nil]); first | done | rfl | (simp only [List.length_drop, List.length_take]; rfl)) ?_; (with_reducible refine (juratref03_Is.calls t224 true _ A24.out).mono ?_); rintro e w' ⟨rfl, ⟨nd, rfl⟩⟩; refine ⟨_, rfl, ?_⟩))
                        go_meet
                        case rel => exact ⟨_, (false), (by first | rfl | (simp; done) | (simp [*]; done)), H', ⟨by have := HJ6.out; first | omega | exact Nat.le_refl _⟩, ⟨by (with_reducible repeat (first | refine blk_drewN ?_ _ | refine blk_drew ?_ | refine blk_alloc ?_ _)); exact BK218.out⟩, ⟨by repeat (first | (with_reducible first | exact HB.out | apply below_alloc | apply pw_below_drewN | apply below_drew1 | refine below_set ?_ GE218.out) | exact HB.out)⟩⟩
                    · replace c25 := Bool.eq_false_iff.mpr c25
                      subst c25
                      have H1 : (juratref28_Take.j1 kj6 a0 (wrap64 (bt a0 0)) t224 t225 true) = some (r1, r2, r3, r4, r5, r6) := by rw [if_neg (show ¬ (false = true) by decide)] at H; exact H
                      clear H
                      have H := H1
                      clear H1
                      have H' := Aside0.mk H
                      clear H
                      go_wp2_with (first | ((with_reducible refine gate_callee (f := 54) rfl ?_); refine goesL_ (some 55) rfl rfl Try.func54 (by kernel_rfl) rfl #[.int .i64 t224] rfl (by (try simp only [List.map_toArray, List.map_cons, List.map_nil]); first | done | rfl | (simp only [List.length_drop, List.length_take]; rfl)) ?_; (with_reducible refine (juratref03_Is.calls t224 false _ A24.out).mono ?_); rintro e w' ⟨rfl, ⟨nd, rfl⟩⟩; refine ⟨_, rfl, ?_⟩))
                      go_meet
                      case rel => exact ⟨_, (true), (by first | rfl | (simp; done) | (simp [*]; done)), H', ⟨by have := HJ6.out; first | omega | exact Nat.le_refl _⟩, ⟨by (with_reducible repeat (first | refine blk_drewN ?_ _ | refine blk_drew ?_ | refine blk_alloc ?_ _)); exact BK218.out⟩, ⟨by repeat (first | (with_reducible first | exact HB.out | apply below_alloc | apply pw_below_drewN | apply below_drew1 | refine below_set ?_ GE218.out) | exact HB.out)⟩⟩
                  case rest =>
                    clear HC23
                    try clear c1
                    try clear c2
                    try clear c2b0
                    try clear c2b1
                    try clear p2
                    try clear c3
                    try clear c5
                    try clear c5b0
                    try clear c5b1
                    try clear p6
                    try clear q6
                    try clear hx6
                    try clear qi6
                    try clear c9
                    try clear c9b0
                    try clear c10
                    try clear c12
                    try clear c12b0
                    try clear c12b1
                    try clear c14
                    try clear c14b0
                    try clear c14b1
                    try clear c20
                    try clear c20b0
                    try clear c20b1
                    try clear c22
                    try clear c22b0
                    try clear c22b1
                    try clear c25
                    try clear c26
                    try clear c26b0
                    try clear hcz11_0
                    try clear hcz11_1
                    try clear hcz11_2
                    try clear hcz11_3
                    try clear hcz17_0
                    try clear hcz17_1
                    try clear hcz17_2
                    try clear hcz17_3
                    try clear hcz19_0
                    try clear hcz19_1
                    try clear hcz19_2
                    try clear hcz19_3
                    try clear hcz4_0
                    try clear hcz4_1
                    try clear hcz4_2
                    try clear hcz4_3
                    try clear hfz11_0
                    try clear hfz11_1
                    try clear hfz11_2
                    try clear hfz11_3
                    try clear hfz17_0
                    try clear hfz17_1
                    try clear hfz17_2
                    try clear hfz17_3
                    try clear hfz19_0
                    try clear hfz19_1
                    try clear hfz19_2
                    try clear hfz19_3
                    try clear hfz4_0
                    try clear hfz4_1
                    try clear hfz4_2
                    try clear hfz4_3
                    try clear p2
                    try clear p6
                    try clear q6
                    obtain ⟨kq, x64_22, rfl, HA, HJ22, BK218, HB⟩ := hcut
                    cases kq with
                    | zero => exact absurd HA.out (by simp [juratref28_Take.j1])
                    | succ kj22 =>
                      have H := HA.out
                      clear HA
                      simp only [juratref28_Take.j1] at H
                      by_cases c27 : x64_22 = true
                      · subst c27
                        have H1 : (some (0, 0, 0, ([] : List Int), 0, 11)) = some (r1, r2, r3, r4, r5, r6) := by rw [if_pos rfl] at H; exact H
                        clear H
                        have H := H1
                        clear H1
                        simp only [Option.some.injEq, Prod.mk.injEq] at H
                        obtain ⟨rfl, rfl, rfl, rfl, rfl, rfl⟩ := H
                        have hcz28_0 : wc.cell? ⟨gb218, 0, none⟩ = some (.int .i64 0) := (blk_cell BK218.out 0).trans rfl
                        have hcz28_1 : wc.cell? ⟨gb218, 1, none⟩ = some (.int .i64 0) := (blk_cell BK218.out 1).trans rfl
                        have hcz28_2 : wc.cell? ⟨gb218, 2, none⟩ = some (.int .i64 0) := (blk_cell BK218.out 2).trans rfl
                        have hcz28_3 : wc.cell? ⟨gb218, 3, none⟩ = some (.slice none 0 0) := (blk_cell BK218.out 3).trans rfl
                        have hfz28_0 := blk_frozen BK218.out 0
                        have hfz28_1 := blk_frozen BK218.out 1
                        have hfz28_2 := blk_frozen BK218.out 2
                        have hfz28_3 := blk_frozen BK218.out 3
                        go_wp2
                        refine bodyPost_ret (results_ctt rfl _ _ gb218 30 #[.int .i64 0, .int .i64 0, .int .i64 0, .slice none 0 0] (0, 0) _ rfl (by (with_reducible repeat (first | refine blk_drewN ?_ _ | refine blk_drew ?_ | refine blk_alloc ?_ _)); refine blk_put (cs := #[.int .i64 0, .int .i64 0, .int .i64 0, .slice none 0 0]) ?_ 3 _ rfl; (with_reducible repeat (first | refine blk_drewN ?_ _ | refine blk_drew ?_ | refine blk_alloc ?_ _)); refine blk_put (cs := #[.int .i64 0, .int .i64 0, .int .i64 0, .slice none 0 0]) ?_ 2 _ rfl; (with_reducible repeat (first | refine blk_drewN ?_ _ | refine blk_drew ?_ | refine blk_alloc ?_ _)); refine blk_put (cs := #[.int .i64 0, .int .i64 0, .int .i64 0, .slice none 0 0]) ?_ 1 _ rfl; (with_reducible repeat (first | refine blk_drewN ?_ _ | refine blk_drew ?_ | refine blk_alloc ?_ _)); refine blk_put (cs := #[.int .i64 0, .int .i64 0, .int .i64 0, .slice none 0 0]) ?_ 0 _ rfl; (with_reducible repeat (first | refine blk_drewN ?_ _ | refine blk_drew ?_ | refine blk_alloc ?_ _)); exact BK218.out) Try.underlying30 rfl (by kernel_rfl)) rfl ?_
                        exact ⟨_, by first | rfl | (simp [errW_none, errW_some] <;> rfl) | (simp [*, errW_none, errW_some] <;> rfl), by first | exact Kd.R_nil _ _ _ _ _ | exact Kd.N_nil _ _ _ _ _ | exact Kd.V_nil _ _ _ _ _ | exact Kd.Q_nil _ _ _ _ _ | exact Kd.S_nil _ _ _ _ _, by repeat (first | (with_reducible first | exact HB.out | apply below_alloc | apply pw_below_drewN | apply below_drew1 | refine below_set ?_ GE218.out) | exact HB.out)⟩
                      · replace c27 := Bool.eq_false_iff.mpr c27
                        subst c27
                        have H1 : (if 0 ≤ (wrap64 (1 + t225)) then (if (wrap64 (1 + t225)) ≤ (a0.size : Int) then ((juratref02_Take.f kj22 (a0.extract ((wrap64 (1 + t225)) : Int).toNat a0.size)).bind fun bt228 => (if bt228.2.2 = 0 then ((juratref03_Is.f bt228.1).bind fun t231 => (if t231 = true then (if (wrap64 (bt a0 0)) < 4 then (if bt228.1 = 0 then (some (0, 0, 0, ([] : List Int), 0, 11)) else (some ((wrap64 (bt a0 0)), t224, bt228.1, ([] : List Int), wrap64 ((wrap64 (1 + t225)) + bt228.2.1), 0))) else (some ((wrap64 (bt a0 0)), t224, bt228.1, ([] : List Int), wrap64 ((wrap64 (1 + t225)) + bt228.2.1), 0))) else (some (0, 0, 0, ([] : List Int), 0, 11)))) else (some (0, 0, 0, ([] : List Int), 0, bt228.2.2)))) else (none)) else (none)) = some (r1, r2, r3, r4, r5, r6) := by rw [if_neg (show ¬ (false = true) by decide)] at H; exact H
                        clear H
                        have H := H1
                        clear H1
                        obtain ⟨ji29, hji29⟩ : ∃ j_ : Int, (wrap64 (1 + t225)) = j_ := ⟨_, rfl⟩
                        replace H : (if 0 ≤ (ji29) then (if (ji29) ≤ (a0.size : Int) then ((juratref02_Take.f kj22 (a0.extract ((ji29) : Int).toNat a0.size)).bind fun bt228 => (if bt228.2.2 = 0 then ((juratref03_Is.f bt228.1).bind fun t231 => (if t231 = true then (if (wrap64 (bt a0 0)) < 4 then (if bt228.1 = 0 then (some (0, 0, 0, ([] : List Int), 0, 11)) else (some ((wrap64 (bt a0 0)), t224, bt228.1, ([] : List Int), wrap64 ((ji29) + bt228.2.1), 0))) else (some ((wrap64 (bt a0 0)), t224, bt228.1, ([] : List Int), wrap64 ((ji29) + bt228.2.1), 0))) else (some (0, 0, 0, ([] : List Int), 0, 11)))) else (some (0, 0, 0, ([] : List Int), 0, bt228.2.2)))) else (none)) else (none)) = some (r1, r2, r3, r4, r5, r6) := by first | (rw [hji29] at H; exact H) | (simp only [hji29] at H ⊢; exact H)
                        have hji29w : (IntKind.i64.wrap (1 + t225)) = ji29 := (i64_w _).trans hji29
                        by_cases c30 : 0 ≤ (ji29)
                        · rw [if_pos c30] at H
                          have c30b0 := eq_true c30
                          have c30b1 : decide (0 ≤ (ji29)) = true := decide_eq_true c30
                          clear c30
                          by_cases c31 : (ji29) ≤ (a0.size : Int)
                          · rw [if_pos c31] at H
                            have c31b0 := eq_true c31
                            have c31b1 : decide ((ji29) ≤ (a0.size : Int)) = true := decide_eq_true c31
                            clear c31
                            replace H := Option.bind_eq_some_iff.mp H
                            obtain ⟨⟨t228, t229, t230⟩, A320, H⟩ := H
                            replace H : (if t230 = 0 then ((juratref03_Is.f t228).bind fun t231 => (if t231 = true then (if (wrap64 (bt a0 0)) < 4 then (if t228 = 0 then (some (0, 0, 0, ([] : List Int), 0, 11)) else (some ((wrap64 (bt a0 0)), t224, t228, ([] : List Int), wrap64 ((ji29) + t229), 0))) else (some ((wrap64 (bt a0 0)), t224, t228, ([] : List Int), wrap64 ((ji29) + t229), 0))) else (some (0, 0, 0, ([] : List Int), 0, 11)))) else (some (0, 0, 0, ([] : List Int), 0, t230))) = some (r1, r2, r3, r4, r5, r6) := H
                            have A32 := Aside0.mk A320
                            clear A320
                            by_cases c33 : t230 = 0
                            · rw [if_pos c33] at H
                              have c33b0 : (t230 == 0) = true := beq_iff_eq.mpr c33
                              have c33b1 : (t230 != 0) = false := bne_eq_false_iff_eq.mpr c33
                              clear c33
                              replace H := Option.bind_eq_some_iff.mp H
                              obtain ⟨t231, A340, H⟩ := H
                              replace H : (if t231 = true then (if (wrap64 (bt a0 0)) < 4 then (if t228 = 0 then (some (0, 0, 0, ([] : List Int), 0, 11)) else (some ((wrap64 (bt a0 0)), t224, t228, ([] : List Int), wrap64 ((ji29) + t229), 0))) else (some ((wrap64 (bt a0 0)), t224, t228, ([] : List Int), wrap64 ((ji29) + t229), 0))) else (some (0, 0, 0, ([] : List Int), 0, 11))) = some (r1, r2, r3, r4, r5, r6) := H
                              have A34 := Aside0.mk A340
                              clear A340
                              by_cases c35 : t231 = true
                              · subst c35
                                have H1 : (if (wrap64 (bt a0 0)) < 4 then (if t228 = 0 then (some (0, 0, 0, ([] : List Int), 0, 11)) else (some ((wrap64 (bt a0 0)), t224, t228, ([] : List Int), wrap64 ((ji29) + t229), 0))) else (some ((wrap64 (bt a0 0)), t224, t228, ([] : List Int), wrap64 ((ji29) + t229), 0))) = some (r1, r2, r3, r4, r5, r6) := by rw [if_pos rfl] at H; exact H
                                clear H
                                have H := H1
                                clear H1
                                by_cases c36 : (wrap64 (bt a0 0)) < 4
                                · rw [if_pos c36] at H
                                  have c36b0 : decide ((wrap64 (bt a0 0)) < 4) = true := decide_eq_true c36
                                  clear c36
                                  by_cases c37 : t228 = 0
                                  · rw [if_pos c37] at H
                                    have c37b0 : (t228 == 0) = true := beq_iff_eq.mpr c37
                                    have c37b1 : (t228 != 0) = false := bne_eq_false_iff_eq.mpr c37
                                    clear c37
                                    simp only [Option.some.injEq, Prod.mk.injEq] at H
                                    obtain ⟨rfl, rfl, rfl, rfl, rfl, rfl⟩ := H
                                    go_wp2_with (first | ((with_reducible refine gate_callee (f := 53) rfl ?_); refine goesL_ (some 71) rfl rfl Try.func53 (by kernel_rfl) rfl #[.string (a0.extract ((ji29) : Int).toNat a0.size)] rfl (by (try simp only [List.map_toArray, List.map_cons, List.map_nil]); first | done | (simp only [hji29]; rfl) | rfl | (simp only [List.length_drop, List.length_take]; rfl)) ?_; (with_reducible refine (juratref02_Take.calls kj22 (a0.extract ((ji29) : Int).toNat a0.size) t228 t229 t230 _ A32.out).mono ?_); rintro e w' ⟨rfl, ⟨nd, rfl⟩⟩; refine ⟨_, rfl, ?_⟩; (try (rw [drewN_self wc]; generalize hq_ : World.drewN wc _ = wc; have n0_ : Aside0 (wc.heap[gb218]? = some (.cells #[.int .i64 0, .int .i64 0, .int .i64 0, .slice none 0 0] 30 (0, 0))) := ⟨by rw [← hq_]; exact (by (with_reducible repeat (first | refine blk_drewN ?_ _ | refine blk_drew ?_ | refine blk_alloc ?_ _)); exact BK218.out)⟩; have n1_ : Aside0 (Below w.heap.size w wc) := ⟨by rw [← hq_]; exact (by repeat (first | (with_reducible first | exact HB.out | apply below_alloc | apply pw_below_drewN | apply below_drew1 | refine below_set ?_ GE218.out) | exact HB.out))⟩; clear BK218 HB hq_; have BK218 := n0_; have HB := n1_; clear n0_ n1_))) | ((with_reducible refine gate_callee (f := 54) rfl ?_); refine goesL_ (some 80) rfl rfl Try.func54 (by kernel_rfl) rfl #[.int .i64 t228] rfl (by (try simp only [List.map_toArray, List.map_cons, List.map_nil]); first | done | rfl | (simp only [List.length_drop, List.length_take]; rfl)) ?_; (with_reducible refine (juratref03_Is.calls t228 true _ A34.out).mono ?_); rintro e w' ⟨rfl, ⟨nd, rfl⟩⟩; refine ⟨_, rfl, ?_⟩; (try (rw [drewN_self wc]; generalize hq_ : World.drewN wc _ = wc; have n0_ : Aside0 (wc.heap[gb218]? = some (.cells #[.int .i64 0, .int .i64 0, .int .i64 0, .slice none 0 0] 30 (0, 0))) := ⟨by rw [← hq_]; exact (by (with_reducible repeat (first | refine blk_drewN ?_ _ | refine blk_drew ?_ | refine blk_alloc ?_ _)); exact BK218.out)⟩; have n1_ : Aside0 (Below w.heap.size w wc) := ⟨by rw [← hq_]; exact (by repeat (first | (with_reducible first | exact HB.out | apply below_alloc | apply pw_below_drewN | apply below_drew1 | refine below_set ?_ GE218.out) | exact HB.out))⟩; clear BK218 HB hq_; have BK218 := n0_; have HB := n1_; clear n0_ n1_)); have hcz38_0 : wc.cell? ⟨gb218, 0, none⟩ = some (.int .i64 0) := (blk_cell BK218.out 0).trans rfl; have hcz38_1 : wc.cell? ⟨gb218, 1, none⟩ = some (.int .i64 0) := (blk_cell BK218.out 1).trans rfl; have hcz38_2 : wc.cell? ⟨gb218, 2, none⟩ = some (.int .i64 0) := (blk_cell BK218.out 2).trans rfl; have hcz38_3 : wc.cell? ⟨gb218, 3, none⟩ = some (.slice none 0 0) := (blk_cell BK218.out 3).trans rfl; have hfz38_0 := blk_frozen BK218.out 0; have hfz38_1 := blk_frozen BK218.out 1; have hfz38_2 := blk_frozen BK218.out 2; have hfz38_3 := blk_frozen BK218.out 3))
                                    refine bodyPost_ret (results_ctt rfl _ _ gb218 30 #[.int .i64 0, .int .i64 0, .int .i64 0, .slice none 0 0] (0, 0) _ rfl (by (with_reducible repeat (first | refine blk_drewN ?_ _ | refine blk_drew ?_ | refine blk_alloc ?_ _)); refine blk_put (cs := #[.int .i64 0, .int .i64 0, .int .i64 0, .slice none 0 0]) ?_ 3 _ rfl; (with_reducible repeat (first | refine blk_drewN ?_ _ | refine blk_drew ?_ | refine blk_alloc ?_ _)); refine blk_put (cs := #[.int .i64 0, .int .i64 0, .int .i64 0, .slice none 0 0]) ?_ 2 _ rfl; (with_reducible repeat (first | refine blk_drewN ?_ _ | refine blk_drew ?_ | refine blk_alloc ?_ _)); refine blk_put (cs := #[.int .i64 0, .int .i64 0, .int .i64 0, .slice none 0 0]) ?_ 1 _ rfl; (with_reducible repeat (first | refine blk_drewN ?_ _ | refine blk_drew ?_ | refine blk_alloc ?_ _)); refine blk_put (cs := #[.int .i64 0, .int .i64 0, .int .i64 0, .slice none 0 0]) ?_ 0 _ rfl; (with_reducible repeat (first | refine blk_drewN ?_ _ | refine blk_drew ?_ | refine blk_alloc ?_ _)); exact BK218.out) Try.underlying30 rfl (by kernel_rfl)) rfl ?_
                                    exact ⟨_, by first | rfl | (simp [errW_none, errW_some] <;> rfl) | (simp only [← hji29]; first | rfl | (simp [errW_none, errW_some] <;> rfl)) | (simp [*, errW_none, errW_some] <;> rfl), by first | exact Kd.R_nil _ _ _ _ _ | exact Kd.N_nil _ _ _ _ _ | exact Kd.V_nil _ _ _ _ _ | exact Kd.Q_nil _ _ _ _ _ | exact Kd.S_nil _ _ _ _ _, by repeat (first | (with_reducible first | exact HB.out | apply below_alloc | apply pw_below_drewN | apply below_drew1 | refine below_set ?_ GE218.out) | exact HB.out)⟩
                                  · rw [if_neg c37] at H
                                    have c37b0 : (t228 == 0) = false := beq_eq_false_iff_ne.mpr c37
                                    have c37b1 : (t228 != 0) = true := bne_iff_ne.mpr c37
                                    simp only [Option.some.injEq, Prod.mk.injEq] at H
                                    obtain ⟨rfl, rfl, rfl, rfl, rfl, rfl⟩ := H
                                    go_wp2_with (first | ((with_reducible refine gate_callee (f := 53) rfl ?_); refine goesL_ (some 71) rfl rfl Try.func53 (by kernel_rfl) rfl #[.string (a0.extract ((ji29) : Int).toNat a0.size)] rfl (by (try simp only [List.map_toArray, List.map_cons, List.map_nil]); first | done | (simp only [hji29]; rfl) | rfl | (simp only [List.length_drop, List.length_take]; rfl)) ?_; (with_reducible refine (juratref02_Take.calls kj22 (a0.extract ((ji29) : Int).toNat a0.size) t228 t229 t230 _ A32.out).mono ?_); rintro e w' ⟨rfl, ⟨nd, rfl⟩⟩; refine ⟨_, rfl, ?_⟩; (try (rw [drewN_self wc]; generalize hq_ : World.drewN wc _ = wc; have n0_ : Aside0 (wc.heap[gb218]? = some (.cells #[.int .i64 0, .int .i64 0, .int .i64 0, .slice none 0 0] 30 (0, 0))) := ⟨by rw [← hq_]; exact (by (with_reducible repeat (first | refine blk_drewN ?_ _ | refine blk_drew ?_ | refine blk_alloc ?_ _)); exact BK218.out)⟩; have n1_ : Aside0 (Below w.heap.size w wc) := ⟨by rw [← hq_]; exact (by repeat (first | (with_reducible first | exact HB.out | apply below_alloc | apply pw_below_drewN | apply below_drew1 | refine below_set ?_ GE218.out) | exact HB.out))⟩; clear BK218 HB hq_; have BK218 := n0_; have HB := n1_; clear n0_ n1_))) | ((with_reducible refine gate_callee (f := 54) rfl ?_); refine goesL_ (some 80) rfl rfl Try.func54 (by kernel_rfl) rfl #[.int .i64 t228] rfl (by (try simp only [List.map_toArray, List.map_cons, List.map_nil]); first | done | rfl | (simp only [List.length_drop, List.length_take]; rfl)) ?_; (with_reducible refine (juratref03_Is.calls t228 true _ A34.out).mono ?_); rintro e w' ⟨rfl, ⟨nd, rfl⟩⟩; refine ⟨_, rfl, ?_⟩; (try (rw [drewN_self wc]; generalize hq_ : World.drewN wc _ = wc; have n0_ : Aside0 (wc.heap[gb218]? = some (.cells #[.int .i64 0, .int .i64 0, .int .i64 0, .slice none 0 0] 30 (0, 0))) := ⟨by rw [← hq_]; exact (by (with_reducible repeat (first | refine blk_drewN ?_ _ | refine blk_drew ?_ | refine blk_alloc ?_ _)); exact BK218.out)⟩; have n1_ : Aside0 (Below w.heap.size w wc) := ⟨by rw [← hq_]; exact (by repeat (first | (with_reducible first | exact HB.out | apply below_alloc | apply pw_below_drewN | apply below_drew1 | refine below_set ?_ GE218.out) | exact HB.out))⟩; clear BK218 HB hq_; have BK218 := n0_; have HB := n1_; clear n0_ n1_)); have hcz39_0 : wc.cell? ⟨gb218, 0, none⟩ = some (.int .i64 0) := (blk_cell BK218.out 0).trans rfl; have hcz39_1 : wc.cell? ⟨gb218, 1, none⟩ = some (.int .i64 0) := (blk_cell BK218.out 1).trans rfl; have hcz39_2 : wc.cell? ⟨gb218, 2, none⟩ = some (.int .i64 0) := (blk_cell BK218.out 2).trans rfl; have hcz39_3 : wc.cell? ⟨gb218, 3, none⟩ = some (.slice none 0 0) := (blk_cell BK218.out 3).trans rfl; have hfz39_0 := blk_frozen BK218.out 0; have hfz39_1 := blk_frozen BK218.out 1; have hfz39_2 := blk_frozen BK218.out 2; have hfz39_3 := blk_frozen BK218.out 3))
                                    refine bodyPost_ret (results_ctt rfl _ _ gb218 30 #[.int .i64 (wrap64 (bt a0 0)), .int .i64 t224, .int .i64 t228, .slice none 0 0] (0, 0) _ rfl (by (with_reducible repeat (first | refine blk_drewN ?_ _ | refine blk_drew ?_ | refine blk_alloc ?_ _)); refine blk_put (cs := #[.int .i64 (wrap64 (bt a0 0)), .int .i64 t224, .int .i64 t228, .slice none 0 0]) ?_ 3 _ rfl; (with_reducible repeat (first | refine blk_drewN ?_ _ | refine blk_drew ?_ | refine blk_alloc ?_ _)); refine blk_put (cs := #[.int .i64 (wrap64 (bt a0 0)), .int .i64 t224, .int .i64 0, .slice none 0 0]) ?_ 2 _ rfl; (with_reducible repeat (first | refine blk_drewN ?_ _ | refine blk_drew ?_ | refine blk_alloc ?_ _)); refine blk_put (cs := #[.int .i64 (wrap64 (bt a0 0)), .int .i64 0, .int .i64 0, .slice none 0 0]) ?_ 1 _ rfl; (with_reducible repeat (first | refine blk_drewN ?_ _ | refine blk_drew ?_ | refine blk_alloc ?_ _)); refine blk_put (cs := #[.int .i64 0, .int .i64 0, .int .i64 0, .slice none 0 0]) ?_ 0 _ rfl; (with_reducible repeat (first | refine blk_drewN ?_ _ | refine blk_drew ?_ | refine blk_alloc ?_ _)); exact BK218.out) Try.underlying30 rfl (by kernel_rfl)) rfl ?_
                                    exact ⟨_, by first | rfl | (simp [errW_none, errW_some] <;> rfl) | (simp only [← hji29]; first | rfl | (simp [errW_none, errW_some] <;> rfl)) | (simp [*, errW_none, errW_some] <;> rfl), by first | exact Kd.R_nil _ _ _ _ _ | exact Kd.N_nil _ _ _ _ _ | exact Kd.V_nil _ _ _ _ _ | exact Kd.Q_nil _ _ _ _ _ | exact Kd.S_nil _ _ _ _ _, by repeat (first | (with_reducible first | exact HB.out | apply below_alloc | apply pw_below_drewN | apply below_drew1 | refine below_set ?_ GE218.out) | exact HB.out)⟩
                                · rw [if_neg c36] at H
                                  have c36b0 : decide ((wrap64 (bt a0 0)) < 4) = false := decide_eq_false c36
                                  clear c36
                                  simp only [Option.some.injEq, Prod.mk.injEq] at H
                                  obtain ⟨rfl, rfl, rfl, rfl, rfl, rfl⟩ := H
                                  go_wp2_with (first | ((with_reducible refine gate_callee (f := 53) rfl ?_); refine goesL_ (some 71) rfl rfl Try.func53 (by kernel_rfl) rfl #[.string (a0.extract ((ji29) : Int).toNat a0.size)] rfl (by (try simp only [List.map_toArray, List.map_cons, List.map_nil]); first | done | (simp only [hji29]; rfl) | rfl | (simp only [List.length_drop, List.length_take]; rfl)) ?_; (with_reducible refine (juratref02_Take.calls kj22 (a0.extract ((ji29) : Int).toNat a0.size) t228 t229 t230 _ A32.out).mono ?_); rintro e w' ⟨rfl, ⟨nd, rfl⟩⟩; refine ⟨_, rfl, ?_⟩; (try (rw [drewN_self wc]; generalize hq_ : World.drewN wc _ = wc; have n0_ : Aside0 (wc.heap[gb218]? = some (.cells #[.int .i64 0, .int .i64 0, .int .i64 0, .slice none 0 0] 30 (0, 0))) := ⟨by rw [← hq_]; exact (by (with_reducible repeat (first | refine blk_drewN ?_ _ | refine blk_drew ?_ | refine blk_alloc ?_ _)); exact BK218.out)⟩; have n1_ : Aside0 (Below w.heap.size w wc) := ⟨by rw [← hq_]; exact (by repeat (first | (with_reducible first | exact HB.out | apply below_alloc | apply pw_below_drewN | apply below_drew1 | refine below_set ?_ GE218.out) | exact HB.out))⟩; clear BK218 HB hq_; have BK218 := n0_; have HB := n1_; clear n0_ n1_))) | ((with_reducible refine gate_callee (f := 54) rfl ?_); refine goesL_ (some 80) rfl rfl Try.func54 (by kernel_rfl) rfl #[.int .i64 t228] rfl (by (try simp only [List.map_toArray, List.map_cons, List.map_nil]); first | done | rfl | (simp only [List.length_drop, List.length_take]; rfl)) ?_; (with_reducible refine (juratref03_Is.calls t228 true _ A34.out).mono ?_); rintro e w' ⟨rfl, ⟨nd, rfl⟩⟩; refine ⟨_, rfl, ?_⟩; (try (rw [drewN_self wc]; generalize hq_ : World.drewN wc _ = wc; have n0_ : Aside0 (wc.heap[gb218]? = some (.cells #[.int .i64 0, .int .i64 0, .int .i64 0, .slice none 0 0] 30 (0, 0))) := ⟨by rw [← hq_]; exact (by (with_reducible repeat (first | refine blk_drewN ?_ _ | refine blk_drew ?_ | refine blk_alloc ?_ _)); exact BK218.out)⟩; have n1_ : Aside0 (Below w.heap.size w wc) := ⟨by rw [← hq_]; exact (by repeat (first | (with_reducible first | exact HB.out | apply below_alloc | apply pw_below_drewN | apply below_drew1 | refine below_set ?_ GE218.out) | exact HB.out))⟩; clear BK218 HB hq_; have BK218 := n0_; have HB := n1_; clear n0_ n1_)); have hcz40_0 : wc.cell? ⟨gb218, 0, none⟩ = some (.int .i64 0) := (blk_cell BK218.out 0).trans rfl; have hcz40_1 : wc.cell? ⟨gb218, 1, none⟩ = some (.int .i64 0) := (blk_cell BK218.out 1).trans rfl; have hcz40_2 : wc.cell? ⟨gb218, 2, none⟩ = some (.int .i64 0) := (blk_cell BK218.out 2).trans rfl; have hcz40_3 : wc.cell? ⟨gb218, 3, none⟩ = some (.slice none 0 0) := (blk_cell BK218.out 3).trans rfl; have hfz40_0 := blk_frozen BK218.out 0; have hfz40_1 := blk_frozen BK218.out 1; have hfz40_2 := blk_frozen BK218.out 2; have hfz40_3 := blk_frozen BK218.out 3))
                                  refine bodyPost_ret (results_ctt rfl _ _ gb218 30 #[.int .i64 (wrap64 (bt a0 0)), .int .i64 t224, .int .i64 t228, .slice none 0 0] (0, 0) _ rfl (by (with_reducible repeat (first | refine blk_drewN ?_ _ | refine blk_drew ?_ | refine blk_alloc ?_ _)); refine blk_put (cs := #[.int .i64 (wrap64 (bt a0 0)), .int .i64 t224, .int .i64 t228, .slice none 0 0]) ?_ 3 _ rfl; (with_reducible repeat (first | refine blk_drewN ?_ _ | refine blk_drew ?_ | refine blk_alloc ?_ _)); refine blk_put (cs := #[.int .i64 (wrap64 (bt a0 0)), .int .i64 t224, .int .i64 0, .slice none 0 0]) ?_ 2 _ rfl; (with_reducible repeat (first | refine blk_drewN ?_ _ | refine blk_drew ?_ | refine blk_alloc ?_ _)); refine blk_put (cs := #[.int .i64 (wrap64 (bt a0 0)), .int .i64 0, .int .i64 0, .slice none 0 0]) ?_ 1 _ rfl; (with_reducible repeat (first | refine blk_drewN ?_ _ | refine blk_drew ?_ | refine blk_alloc ?_ _)); refine blk_put (cs := #[.int .i64 0, .int .i64 0, .int .i64 0, .slice none 0 0]) ?_ 0 _ rfl; (with_reducible repeat (first | refine blk_drewN ?_ _ | refine blk_drew ?_ | refine blk_alloc ?_ _)); exact BK218.out) Try.underlying30 rfl (by kernel_rfl)) rfl ?_
                                  exact ⟨_, by first | rfl | (simp [errW_none, errW_some] <;> rfl) | (simp only [← hji29]; first | rfl | (simp [errW_none, errW_some] <;> rfl)) | (simp [*, errW_none, errW_some] <;> rfl), by first | exact Kd.R_nil _ _ _ _ _ | exact Kd.N_nil _ _ _ _ _ | exact Kd.V_nil _ _ _ _ _ | exact Kd.Q_nil _ _ _ _ _ | exact Kd.S_nil _ _ _ _ _, by repeat (first | (with_reducible first | exact HB.out | apply below_alloc | apply pw_below_drewN | apply below_drew1 | refine below_set ?_ GE218.out) | exact HB.out)⟩
                              · replace c35 := Bool.eq_false_iff.mpr c35
                                subst c35
                                have H1 : (some (0, 0, 0, ([] : List Int), 0, 11)) = some (r1, r2, r3, r4, r5, r6) := by rw [if_neg (show ¬ (false = true) by decide)] at H; exact H
                                clear H
                                have H := H1
                                clear H1
                                simp only [Option.some.injEq, Prod.mk.injEq] at H
                                obtain ⟨rfl, rfl, rfl, rfl, rfl, rfl⟩ := H
                                go_wp2_with (first | ((with_reducible refine gate_callee (f := 53) rfl ?_); refine goesL_ (some 71) rfl rfl Try.func53 (by kernel_rfl) rfl #[.string (a0.extract ((ji29) : Int).toNat a0.size)] rfl (by (try simp only [List.map_toArray, List.map_cons, List.map_nil]); first | done | (simp only [hji29]; rfl) | rfl | (simp only [List.length_drop, List.length_take]; rfl)) ?_; (with_reducible refine (juratref02_Take.calls kj22 (a0.extract ((ji29) : Int).toNat a0.size) t228 t229 t230 _ A32.out).mono ?_); rintro e w' ⟨rfl, ⟨nd, rfl⟩⟩; refine ⟨_, rfl, ?_⟩; (try (rw [drewN_self wc]; generalize hq_ : World.drewN wc _ = wc; have n0_ : Aside0 (wc.heap[gb218]? = some (.cells #[.int .i64 0, .int .i64 0, .int .i64 0, .slice none 0 0] 30 (0, 0))) := ⟨by rw [← hq_]; exact (by (with_reducible repeat (first | refine blk_drewN ?_ _ | refine blk_drew ?_ | refine blk_alloc ?_ _)); exact BK218.out)⟩; have n1_ : Aside0 (Below w.heap.size w wc) := ⟨by rw [← hq_]; exact (by repeat (first | (with_reducible first | exact HB.out | apply below_alloc | apply pw_below_drewN | apply below_drew1 | refine below_set ?_ GE218.out) | exact HB.out))⟩; clear BK218 HB hq_; have BK218 := n0_; have HB := n1_; clear n0_ n1_))) | ((with_reducible refine gate_callee (f := 54) rfl ?_); refine goesL_ (some 80) rfl rfl Try.func54 (by kernel_rfl) rfl #[.int .i64 t228] rfl (by (try simp only [List.map_toArray, List.map_cons, List.map_nil]); first | done | rfl | (simp only [List.length_drop, List.length_take]; rfl)) ?_; (with_reducible refine (juratref03_Is.calls t228 false _ A34.out).mono ?_); rintro e w' ⟨rfl, ⟨nd, rfl⟩⟩; refine ⟨_, rfl, ?_⟩; (try (rw [drewN_self wc]; generalize hq_ : World.drewN wc _ = wc; have n0_ : Aside0 (wc.heap[gb218]? = some (.cells #[.int .i64 0, .int .i64 0, .int .i64 0, .slice none 0 0] 30 (0, 0))) := ⟨by rw [← hq_]; exact (by (with_reducible repeat (first | refine blk_drewN ?_ _ | refine blk_drew ?_ | refine blk_alloc ?_ _)); exact BK218.out)⟩; have n1_ : Aside0 (Below w.heap.size w wc) := ⟨by rw [← hq_]; exact (by repeat (first | (with_reducible first | exact HB.out | apply below_alloc | apply pw_below_drewN | apply below_drew1 | refine below_set ?_ GE218.out) | exact HB.out))⟩; clear BK218 HB hq_; have BK218 := n0_; have HB := n1_; clear n0_ n1_)); have hcz41_0 : wc.cell? ⟨gb218, 0, none⟩ = some (.int .i64 0) := (blk_cell BK218.out 0).trans rfl; have hcz41_1 : wc.cell? ⟨gb218, 1, none⟩ = some (.int .i64 0) := (blk_cell BK218.out 1).trans rfl; have hcz41_2 : wc.cell? ⟨gb218, 2, none⟩ = some (.int .i64 0) := (blk_cell BK218.out 2).trans rfl; have hcz41_3 : wc.cell? ⟨gb218, 3, none⟩ = some (.slice none 0 0) := (blk_cell BK218.out 3).trans rfl; have hfz41_0 := blk_frozen BK218.out 0; have hfz41_1 := blk_frozen BK218.out 1; have hfz41_2 := blk_frozen BK218.out 2; have hfz41_3 := blk_frozen BK218.out 3))
                                refine bodyPost_ret (results_ctt rfl _ _ gb218 30 #[.int .i64 0, .int .i64 0, .int .i64 0, .slice none 0 0] (0, 0) _ rfl (by (with_reducible repeat (first | refine blk_drewN ?_ _ | refine blk_drew ?_ | refine blk_alloc ?_ _)); refine blk_put (cs := #[.int .i64 0, .int .i64 0, .int .i64 0, .slice none 0 0]) ?_ 3 _ rfl; (with_reducible repeat (first | refine blk_drewN ?_ _ | refine blk_drew ?_ | refine blk_alloc ?_ _)); refine blk_put (cs := #[.int .i64 0, .int .i64 0, .int .i64 0, .slice none 0 0]) ?_ 2 _ rfl; (with_reducible repeat (first | refine blk_drewN ?_ _ | refine blk_drew ?_ | refine blk_alloc ?_ _)); refine blk_put (cs := #[.int .i64 0, .int .i64 0, .int .i64 0, .slice none 0 0]) ?_ 1 _ rfl; (with_reducible repeat (first | refine blk_drewN ?_ _ | refine blk_drew ?_ | refine blk_alloc ?_ _)); refine blk_put (cs := #[.int .i64 0, .int .i64 0, .int .i64 0, .slice none 0 0]) ?_ 0 _ rfl; (with_reducible repeat (first | refine blk_drewN ?_ _ | refine blk_drew ?_ | refine blk_alloc ?_ _)); exact BK218.out) Try.underlying30 rfl (by kernel_rfl)) rfl ?_
                                exact ⟨_, by first | rfl | (simp [errW_none, errW_some] <;> rfl) | (simp only [← hji29]; first | rfl | (simp [errW_none, errW_some] <;> rfl)) | (simp [*, errW_none, errW_some] <;> rfl), by first | exact Kd.R_nil _ _ _ _ _ | exact Kd.N_nil _ _ _ _ _ | exact Kd.V_nil _ _ _ _ _ | exact Kd.Q_nil _ _ _ _ _ | exact Kd.S_nil _ _ _ _ _, by repeat (first | (with_reducible first | exact HB.out | apply below_alloc | apply pw_below_drewN | apply below_drew1 | refine below_set ?_ GE218.out) | exact HB.out)⟩
                            · rw [if_neg c33] at H
                              have c33b0 : (t230 == 0) = false := beq_eq_false_iff_ne.mpr c33
                              have c33b1 : (t230 != 0) = true := bne_iff_ne.mpr c33
                              simp only [Option.some.injEq, Prod.mk.injEq] at H
                              obtain ⟨rfl, rfl, rfl, rfl, rfl, rfl⟩ := H
                              go_wp2_with (first | ((with_reducible refine gate_callee (f := 53) rfl ?_); refine goesL_ (some 71) rfl rfl Try.func53 (by kernel_rfl) rfl #[.string (a0.extract ((ji29) : Int).toNat a0.size)] rfl (by (try simp only [List.map_toArray, List.map_cons, List.map_nil]); first | done | (simp only [hji29]; rfl) | rfl | (simp only [List.length_drop, List.length_take]; rfl)) ?_; (with_reducible refine (juratref02_Take.calls kj22 (a0.extract ((ji29) : Int).toNat a0.size) t228 t229 t230 _ A32.out).mono ?_); rintro e w' ⟨rfl, ⟨nd, rfl⟩⟩; refine ⟨_, rfl, ?_⟩; (try (rw [drewN_self wc]; generalize hq_ : World.drewN wc _ = wc; have n0_ : Aside0 (wc.heap[gb218]? = some (.cells #[.int .i64 0, .int .i64 0, .int .i64 0, .slice none 0 0] 30 (0, 0))) := ⟨by rw [← hq_]; exact (by (with_reducible repeat (first | refine blk_drewN ?_ _ | refine blk_drew ?_ | refine blk_alloc ?_ _)); exact BK218.out)⟩; have n1_ : Aside0 (Below w.heap.size w wc) := ⟨by rw [← hq_]; exact (by repeat (first | (with_reducible first | exact HB.out | apply below_alloc | apply pw_below_drewN | apply below_drew1 | refine below_set ?_ GE218.out) | exact HB.out))⟩; clear BK218 HB hq_; have BK218 := n0_; have HB := n1_; clear n0_ n1_)); have hcz42_0 : wc.cell? ⟨gb218, 0, none⟩ = some (.int .i64 0) := (blk_cell BK218.out 0).trans rfl; have hcz42_1 : wc.cell? ⟨gb218, 1, none⟩ = some (.int .i64 0) := (blk_cell BK218.out 1).trans rfl; have hcz42_2 : wc.cell? ⟨gb218, 2, none⟩ = some (.int .i64 0) := (blk_cell BK218.out 2).trans rfl; have hcz42_3 : wc.cell? ⟨gb218, 3, none⟩ = some (.slice none 0 0) := (blk_cell BK218.out 3).trans rfl; have hfz42_0 := blk_frozen BK218.out 0; have hfz42_1 := blk_frozen BK218.out 1; have hfz42_2 := blk_frozen BK218.out 2; have hfz42_3 := blk_frozen BK218.out 3))
                              refine bodyPost_ret (results_ctt rfl _ _ gb218 30 #[.int .i64 0, .int .i64 0, .int .i64 0, .slice none 0 0] (0, 0) _ rfl (by (with_reducible repeat (first | refine blk_drewN ?_ _ | refine blk_drew ?_ | refine blk_alloc ?_ _)); refine blk_put (cs := #[.int .i64 0, .int .i64 0, .int .i64 0, .slice none 0 0]) ?_ 3 _ rfl; (with_reducible repeat (first | refine blk_drewN ?_ _ | refine blk_drew ?_ | refine blk_alloc ?_ _)); refine blk_put (cs := #[.int .i64 0, .int .i64 0, .int .i64 0, .slice none 0 0]) ?_ 2 _ rfl; (with_reducible repeat (first | refine blk_drewN ?_ _ | refine blk_drew ?_ | refine blk_alloc ?_ _)); refine blk_put (cs := #[.int .i64 0, .int .i64 0, .int .i64 0, .slice none 0 0]) ?_ 1 _ rfl; (with_reducible repeat (first | refine blk_drewN ?_ _ | refine blk_drew ?_ | refine blk_alloc ?_ _)); refine blk_put (cs := #[.int .i64 0, .int .i64 0, .int .i64 0, .slice none 0 0]) ?_ 0 _ rfl; (with_reducible repeat (first | refine blk_drewN ?_ _ | refine blk_drew ?_ | refine blk_alloc ?_ _)); exact BK218.out) Try.underlying30 rfl (by kernel_rfl)) rfl ?_
                              exact ⟨_, by first | rfl | (simp [errW_none, errW_some] <;> rfl) | (simp only [← hji29]; first | rfl | (simp [errW_none, errW_some] <;> rfl)) | (simp [*, errW_none, errW_some] <;> rfl), by first | exact Kd.R_nil _ _ _ _ _ | exact Kd.N_nil _ _ _ _ _ | exact Kd.V_nil _ _ _ _ _ | exact Kd.Q_nil _ _ _ _ _ | exact Kd.S_nil _ _ _ _ _, by repeat (first | (with_reducible first | exact HB.out | apply below_alloc | apply pw_below_drewN | apply below_drew1 | refine below_set ?_ GE218.out) | exact HB.out)⟩
                          · rw [if_neg c31] at H
                            exact absurd H (by simp)
                        · rw [if_neg c30] at H
                          exact absurd H (by simp)
                · rw [if_neg c22] at H
                  have c22b0 : (t226 == 0) = false := beq_eq_false_iff_ne.mpr c22
                  have c22b1 : (t226 != 0) = true := bne_iff_ne.mpr c22
                  simp only [Option.some.injEq, Prod.mk.injEq] at H
                  obtain ⟨rfl, rfl, rfl, rfl, rfl, rfl⟩ := H
                  go_wp2_with (first | ((with_reducible refine gate_callee (f := 53) rfl ?_); refine goesL_ (some 46) rfl rfl Try.func53 (by kernel_rfl) rfl #[.string (a0.extract 1 a0.size)] rfl (by (try simp only [List.map_toArray, List.map_cons, List.map_nil]); first | done | rfl | (simp only [List.length_drop, List.length_take]; rfl)) ?_; (with_reducible refine (juratref02_Take.calls kj6 (a0.extract 1 a0.size) t224 t225 t226 _ A21.out).mono ?_); rintro e w' ⟨rfl, ⟨nd, rfl⟩⟩; refine ⟨_, rfl, ?_⟩; (try (rw [drewN_self wc]; generalize hq_ : World.drewN wc _ = wc; have n0_ : Aside0 (wc.heap[gb218]? = some (.cells #[.int .i64 0, .int .i64 0, .int .i64 0, .slice none 0 0] 30 (0, 0))) := ⟨by rw [← hq_]; exact (by (with_reducible repeat (first | refine blk_drewN ?_ _ | refine blk_drew ?_ | refine blk_alloc ?_ _)); exact BK218.out)⟩; have n1_ : Aside0 (Below w.heap.size w wc) := ⟨by rw [← hq_]; exact (by repeat (first | (with_reducible first | exact HB.out | apply below_alloc | apply pw_below_drewN | apply below_drew1 | refine below_set ?_ GE218.out) | exact HB.out))⟩; clear BK218 HB hq_; have BK218 := n0_; have HB := n1_; clear n0_ n1_)); have hcz43_0 : wc.cell? ⟨gb218, 0, none⟩ = some (.int .i64 0) := (blk_cell BK218.out 0).trans rfl; have hcz43_1 : wc.cell? ⟨gb218, 1, none⟩ = some (.int .i64 0) := (blk_cell BK218.out 1).trans rfl; have hcz43_2 : wc.cell? ⟨gb218, 2, none⟩ = some (.int .i64 0) := (blk_cell BK218.out 2).trans rfl; have hcz43_3 : wc.cell? ⟨gb218, 3, none⟩ = some (.slice none 0 0) := (blk_cell BK218.out 3).trans rfl; have hfz43_0 := blk_frozen BK218.out 0; have hfz43_1 := blk_frozen BK218.out 1; have hfz43_2 := blk_frozen BK218.out 2; have hfz43_3 := blk_frozen BK218.out 3))
                  refine bodyPost_ret (results_ctt rfl _ _ gb218 30 #[.int .i64 0, .int .i64 0, .int .i64 0, .slice none 0 0] (0, 0) _ rfl (by (with_reducible repeat (first | refine blk_drewN ?_ _ | refine blk_drew ?_ | refine blk_alloc ?_ _)); refine blk_put (cs := #[.int .i64 0, .int .i64 0, .int .i64 0, .slice none 0 0]) ?_ 3 _ rfl; (with_reducible repeat (first | refine blk_drewN ?_ _ | refine blk_drew ?_ | refine blk_alloc ?_ _)); refine blk_put (cs := #[.int .i64 0, .int .i64 0, .int .i64 0, .slice none 0 0]) ?_ 2 _ rfl; (with_reducible repeat (first | refine blk_drewN ?_ _ | refine blk_drew ?_ | refine blk_alloc ?_ _)); refine blk_put (cs := #[.int .i64 0, .int .i64 0, .int .i64 0, .slice none 0 0]) ?_ 1 _ rfl; (with_reducible repeat (first | refine blk_drewN ?_ _ | refine blk_drew ?_ | refine blk_alloc ?_ _)); refine blk_put (cs := #[.int .i64 0, .int .i64 0, .int .i64 0, .slice none 0 0]) ?_ 0 _ rfl; (with_reducible repeat (first | refine blk_drewN ?_ _ | refine blk_drew ?_ | refine blk_alloc ?_ _)); exact BK218.out) Try.underlying30 rfl (by kernel_rfl)) rfl ?_
                  exact ⟨_, by first | rfl | (simp [errW_none, errW_some] <;> rfl) | (simp [*, errW_none, errW_some] <;> rfl), by first | exact Kd.R_nil _ _ _ _ _ | exact Kd.N_nil _ _ _ _ _ | exact Kd.V_nil _ _ _ _ _ | exact Kd.Q_nil _ _ _ _ _ | exact Kd.S_nil _ _ _ _ _, by repeat (first | (with_reducible first | exact HB.out | apply below_alloc | apply pw_below_drewN | apply below_drew1 | refine below_set ?_ GE218.out) | exact HB.out)⟩
              · rw [if_neg c20] at H
                exact absurd H (by simp)
    · rw [if_neg c5] at H
      exact absurd H (by simp)
end Go.Proofs.Ytejcopppchaneaa.PF
end
section
namespace Go.Proofs.Ytejcopppchaneaa.PF
open Go.RowKit Go.Proofs.YtejcopppchaneaaW.PrintWords Go.Proofs.YtejcopppchaneaaW.PrintLast Go.Proofs.YtejcopppchaneaaW.PrintMore
attribute [local go_sem] max2_int min2_int max_two min_two max_three min_three max_four min_four   -- for this text's walks alone
set_option linter.unusedVariables false
set_option linter.unusedSimpArgs false
def juratref27_Two.j0 : Nat → Bool → Int → Int → Int → List Int → Int → Int → Int → List Int → Option (Int × Int × Int × List Int × Bool)
  | 0, _, _, _, _, _, _, _, _, _ => none
  | k + 1, x39, x233000, x233001, x233002, x233003, x234000, x234001, x234002, x234003 => if x39 = true then (some (0, 0, 0, ([] : List Int), false)) else (if x233002 < 1 then (some (0, 0, 0, ([] : List Int), false)) else (if x234002 < 1 then (some (0, 0, 0, ([] : List Int), false)) else (if x233002 > 4611686018427387903 then (some (0, 0, 0, ([] : List Int), false)) else (if x234002 > (wrap64 (4611686018427387903 - x233002)) then (some (0, 0, 0, ([] : List Int), false)) else (some (x233000, x233001, wrap64 (x233002 + x234002), ([] : List Int), true))))))
def juratref27_Two.f (k : Nat) (a0_0 : Int) (a0_1 : Int) (a0_2 : Int) (l0_3 : List Int) (a1_0 : Int) (a1_1 : Int) (a1_2 : Int) (l1_3 : List Int) : Option (Int × Int × Int × List Int × Bool) := if a0_0 < 1 then (juratref27_Two.j0 k true a0_0 a0_1 a0_2 l0_3 a1_0 a1_1 a1_2 l1_3) else (if a0_0 > 3 then (juratref27_Two.j0 k true a0_0 a0_1 a0_2 l0_3 a1_0 a1_1 a1_2 l1_3) else (if a1_0 = a0_0 then (if a1_1 = a0_1 then (if (l0_3.length : Int) > 0 then (juratref27_Two.j0 k true a0_0 a0_1 a0_2 l0_3 a1_0 a1_1 a1_2 l1_3) else (juratref27_Two.j0 k (decide ((l1_3.length : Int) > 0)) a0_0 a0_1 a0_2 l0_3 a1_0 a1_1 a1_2 l1_3)) else (juratref27_Two.j0 k true a0_0 a0_1 a0_2 l0_3 a1_0 a1_1 a1_2 l1_3)) else (juratref27_Two.j0 k true a0_0 a0_1 a0_2 l0_3 a1_0 a1_1 a1_2 l1_3)))
set_option maxHeartbeats 8000000 in
set_option maxRecDepth 100000 in
theorem juratref27_Two.calls (k : Nat) (a0_0 : Int) (a0_1 : Int) (a0_2 : Int) (A0_3 : Option Addr) (c0_3 : Nat) (l0_3 : List Int) (a1_0 : Int) (a1_1 : Int) (a1_2 : Int) (A1_3 : Option Addr) (c1_3 : Nat) (l1_3 : List Int) (r1 : Int) (r2 : Int) (r3 : Int) (r4 : List Int) (r5 : Bool) (w : World) (hr0_3 : Kd.C (Kd.int .i64) w A0_3 l0_3.length l0_3) (hc0_3 : l0_3.length ≤ c0_3) (hr1_3 : Kd.C (Kd.int .i64) w A1_3 l1_3.length l1_3) (hc1_3 : l1_3.length ≤ c1_3) (h : juratref27_Two.f k a0_0 a0_1 a0_2 l0_3 a1_0 a1_1 a1_2 l1_3 = some (r1, r2, r3, r4, r5)) :
    Calls Try.prog 38 #[.agg #[.int .i64 a0_0, .int .i64 a0_1, .int .i64 a0_2, .slice A0_3 l0_3.length c0_3], .agg #[.int .i64 a1_0, .int .i64 a1_1, .int .i64 a1_2, .slice A1_3 l1_3.length c1_3]] w fun e w' => ∃ v3_ : Value, e = .returned (.tuple #[.agg #[.int .i64 r1, .int .i64 r2, .int .i64 r3, v3_], .bool r5]) ∧ Kd.R (Kd.int .i64) 3 w' w.heap.size (fun _ => True) v3_ r4 ∧ Below w.heap.size w w' := by
  have hu30 := Try.underlying30
  have HR0_3 := Aside0.mk hr0_3
  have HC0_3 := Aside0.mk hc0_3
  clear hr0_3 hc0_3
  have HR1_3 := Aside0.mk hr1_3
  have HC1_3 := Aside0.mk hc1_3
  clear hr1_3 hc1_3
  have HB := Aside0.mk (Below.refl w.heap.size w)
  have H : (if a0_0 < 1 then (juratref27_Two.j0 k true a0_0 a0_1 a0_2 l0_3 a1_0 a1_1 a1_2 l1_3) else (if a0_0 > 3 then (juratref27_Two.j0 k true a0_0 a0_1 a0_2 l0_3 a1_0 a1_1 a1_2 l1_3) else (if a1_0 = a0_0 then (if a1_1 = a0_1 then (if (l0_3.length : Int) > 0 then (juratref27_Two.j0 k true a0_0 a0_1 a0_2 l0_3 a1_0 a1_1 a1_2 l1_3) else (juratref27_Two.j0 k (decide ((l1_3.length : Int) > 0)) a0_0 a0_1 a0_2 l0_3 a1_0 a1_1 a1_2 l1_3)) else (juratref27_Two.j0 k true a0_0 a0_1 a0_2 l0_3 a1_0 a1_1 a1_2 l1_3)) else (juratref27_Two.j0 k true a0_0 a0_1 a0_2 l0_3 a1_0 a1_1 a1_2 l1_3)))) = some (r1, r2, r3, r4, r5) := h
  clear h
  have HC3 := Aside0.mk H
  clear H
  go_enter Try.func38, Try.ntmps38
  go_upto_region 1 with (first | ((with_reducible refine gate_dst (N := 2) rfl ?_); (try (refine gate_guard (by rfl) ?_; dsimp only)); refine box_event ?hg (N := 2) ?hd (cs := #[.int .i64 a0_0, .int .i64 a0_1, .int .i64 a0_2, .slice A0_3 l0_3.length c0_3]) (t := 30) ?hr ?_; (case hd => rfl); (case hg => rfl); (case hr => first | (go_simp; done) | (go_simp; rfl)); intro gb232 hg w4 hbox hb; have n0_ := Aside0.mk (below_step (by repeat (first | (with_reducible first | exact HB.out | apply below_alloc | apply pw_below_drewN | apply below_drew1) | exact HB.out)) hb); have n1_ := Aside0.mk (hbox); have n2_ := Aside0.mk ((by rw [hg]; exact (below_size (by repeat (first | (with_reducible first | exact HB.out | apply below_alloc | apply pw_below_drewN | apply below_drew1) | exact HB.out))) : w.heap.size ≤ gb232)); have n3_ := Aside0.mk ((by rw [hg]; exact (below_size (by repeat (first | (with_reducible first | exact HB.out | apply below_alloc | apply pw_below_drewN | apply below_drew1) | exact HB.out))) : w.heap.size ≤ gb232)); clear HB; have HB := n0_; have BK232 := n1_; have GW232 := n2_; have GE232 := n3_; clear n0_ n1_ n2_ n3_; clear hb hbox hg) | ((with_reducible refine gate_dst (N := 3) rfl ?_); (try (refine gate_guard (by rfl) ?_; dsimp only)); refine box_event ?hg (N := 3) ?hd (cs := #[.int .i64 a1_0, .int .i64 a1_1, .int .i64 a1_2, .slice A1_3 l1_3.length c1_3]) (t := 30) ?hr ?_; (case hd => rfl); (case hg => rfl); (case hr => first | (go_simp; done) | (go_simp; rfl)); intro gb233 hg w5 hbox hb; have n0_ := Aside0.mk (blk_below (g := gb232) (o := .cells #[.int .i64 a0_0, .int .i64 a0_1, .int .i64 a0_2, .slice A0_3 l0_3.length c0_3] 30 (0, 0)) (by (with_reducible repeat (first | refine blk_drewN ?_ _ | refine blk_drew ?_ | refine blk_alloc ?_ _)); exact BK232.out) hb); have n1_ := Aside0.mk (below_step (by repeat (first | (with_reducible first | exact HB.out | apply below_alloc | apply pw_below_drewN | apply below_drew1 | refine below_set ?_ GE232.out) | exact HB.out)) hb); have n2_ := Aside0.mk (hbox); have n3_ := Aside0.mk ((by rw [hg]; exact (below_size (by repeat (first | (with_reducible first | exact HB.out | apply below_alloc | apply pw_below_drewN | apply below_drew1 | refine below_set ?_ GE232.out) | exact HB.out))) : w.heap.size ≤ gb233)); have n4_ := Aside0.mk ((by rw [hg]; exact (below_size (by repeat (first | (with_reducible first | exact HB.out | apply below_alloc | apply pw_below_drewN | apply below_drew1 | refine below_set ?_ GE232.out) | exact HB.out))) : w.heap.size ≤ gb233)); have n5_ := Aside0.mk ((by rw [hg]; exact Nat.ne_of_lt (blk_lt (g := gb232) (o := .cells #[.int .i64 a0_0, .int .i64 a0_1, .int .i64 a0_2, .slice A0_3 l0_3.length c0_3] 30 (0, 0)) (by (with_reducible repeat (first | refine blk_drewN ?_ _ | refine blk_drew ?_ | refine blk_alloc ?_ _)); exact BK232.out)) : gb232 ≠ gb233)); have n6_ := Aside0.mk ((by rw [hg]; exact Nat.ne_of_gt (blk_lt (g := gb232) (o := .cells #[.int .i64 a0_0, .int .i64 a0_1, .int .i64 a0_2, .slice A0_3 l0_3.length c0_3] 30 (0, 0)) (by (with_reducible repeat (first | refine blk_drewN ?_ _ | refine blk_drew ?_ | refine blk_alloc ?_ _)); exact BK232.out)) : gb233 ≠ gb232)); clear BK232; clear HB; have BK232 := n0_; have HB := n1_; have BK233 := n2_; have GW233 := n3_; have GE233 := n4_; have NB232_233 := n5_; have NB233_232 := n6_; clear n0_ n1_ n2_ n3_ n4_ n5_ n6_; clear hb hbox hg) | ((with_reducible refine gate_dst (N := 4) rfl ?_); (try (refine gate_guard (by rfl) ?_; dsimp only)); refine box_event ?hg (N := 4) ?hd (cs := #[.int .i64 0, .int .i64 0, .int .i64 0, .slice none 0 0]) (t := 30) ?hr ?_; (case hd => rfl); (case hg => rfl); (case hr => first | (go_simp; done) | (go_simp; rfl)); intro gb234 hg w6 hbox hb; have n0_ := Aside0.mk (blk_below (g := gb232) (o := .cells #[.int .i64 a0_0, .int .i64 a0_1, .int .i64 a0_2, .slice A0_3 l0_3.length c0_3] 30 (0, 0)) (by (with_reducible repeat (first | refine blk_drewN ?_ _ | refine blk_drew ?_ | refine blk_alloc ?_ _)); exact BK232.out) hb); have n1_ := Aside0.mk (blk_below (g := gb233) (o := .cells #[.int .i64 a1_0, .int .i64 a1_1, .int .i64 a1_2, .slice A1_3 l1_3.length c1_3] 30 (0, 0)) (by (with_reducible repeat (first | refine blk_drewN ?_ _ | refine blk_drew ?_ | refine blk_alloc ?_ _)); exact BK233.out) hb); have n2_ := Aside0.mk (below_step (by repeat (first | (with_reducible first | exact HB.out | apply below_alloc | apply pw_below_drewN | apply below_drew1 | refine below_set ?_ GE232.out | refine below_set ?_ GE233.out) | exact HB.out)) hb); have n3_ := Aside0.mk (hbox); have n4_ := Aside0.mk ((by rw [hg]; exact (below_size (by repeat (first | (with_reducible first | exact HB.out | apply below_alloc | apply pw_below_drewN | apply below_drew1 | refine below_set ?_ GE232.out | refine below_set ?_ GE233.out) | exact HB.out))) : w.heap.size ≤ gb234)); have n5_ := Aside0.mk ((by rw [hg]; exact (below_size (by repeat (first | (with_reducible first | exact HB.out | apply below_alloc | apply pw_below_drewN | apply below_drew1 | refine below_set ?_ GE232.out | refine below_set ?_ GE233.out) | exact HB.out))) : w.heap.size ≤ gb234)); have n6_ := Aside0.mk ((by rw [hg]; exact Nat.ne_of_lt (blk_lt (g := gb232) (o := .cells #[.int .i64 a0_0, .int .i64 a0_1, .int .i64 a0_2, .slice A0_3 l0_3.length c0_3] 30 (0, 0)) (by (with_reducible repeat (first | refine blk_drewN ?_ _ | refine blk_drew ?_ | refine blk_alloc ?_ _)); exact BK232.out)) : gb232 ≠ gb234)); have n7_ := Aside0.mk ((by rw [hg]; exact Nat.ne_of_gt (blk_lt (g := gb232) (o := .cells #[.int .i64 a0_0, .int .i64 a0_1, .int .i64 a0_2, .slice A0_3 l0_3.length c0_3] 30 (0, 0)) (by (with_reducible repeat (first | refine blk_drewN ?_ _ | refine blk_drew ?_ | refine blk_alloc ?_ _)); exact BK232.out)) : gb234 ≠ gb232)); have n8_ := Aside0.mk ((by rw [hg]; exact Nat.ne_of_lt (blk_lt (g := gb233) (o := .cells #[.int .i64 a1_0, .int .i64 a1_1, .int .i64 a1_2, .slice A1_3 l1_3.length c1_3] 30 (0, 0)) (by (with_reducible repeat (first | refine blk_drewN ?_ _ | refine blk_drew ?_ | refine blk_alloc ?_ _)); exact BK233.out)) : gb233 ≠ gb234)); have n9_ := Aside0.mk ((by rw [hg]; exact Nat.ne_of_gt (blk_lt (g := gb233) (o := .cells #[.int .i64 a1_0, .int .i64 a1_1, .int .i64 a1_2, .slice A1_3 l1_3.length c1_3] 30 (0, 0)) (by (with_reducible repeat (first | refine blk_drewN ?_ _ | refine blk_drew ?_ | refine blk_alloc ?_ _)); exact BK233.out)) : gb234 ≠ gb233)); clear BK232; clear BK233; clear HB; have BK232 := n0_; have BK233 := n1_; have HB := n2_; have BK234 := n3_; have GW234 := n4_; have GE234 := n5_; have NB232_234 := n6_; have NB234_232 := n7_; have NB233_234 := n8_; have NB234_233 := n9_; clear n0_ n1_ n2_ n3_ n4_ n5_ n6_ n7_ n8_ n9_; clear hb hbox hg))
  (try simp only [Act.put, List.setIfInBounds_toArray, List.set_cons_zero, List.set_cons_succ])
  go_cut [39] (fun v39 wc => ∃ (kq : Nat) (x39_2 : Bool), v39 = .bool x39_2 ∧ Aside0 (juratref27_Two.j0 kq x39_2 a0_0 a0_1 a0_2 l0_3 a1_0 a1_1 a1_2 l1_3 = some (r1, r2, r3, r4, r5)) ∧ Aside0 (kq ≤ k) ∧ Aside0 (wc.heap[gb232]? = some (.cells #[.int .i64 a0_0, .int .i64 a0_1, .int .i64 a0_2, (.slice A0_3 l0_3.length c0_3)] 30 (0, 0))) ∧ Aside0 (wc.heap[gb233]? = some (.cells #[.int .i64 a1_0, .int .i64 a1_1, .int .i64 a1_2, (.slice A1_3 l1_3.length c1_3)] 30 (0, 0))) ∧ Aside0 (wc.heap[gb234]? = some (.cells #[.int .i64 0, .int .i64 0, .int .i64 0, (.slice none 0 0)] 30 (0, 0))) ∧ Aside0 (Below w.heap.size w wc))
  case first =>
    have H := HC3.out
    clear HC3
    by_cases c7 : a0_0 < 1
    · rw [if_pos c7] at H
      have c7b0 : decide (a0_0 < 1) = true := decide_eq_true c7
      clear c7
      (first | rw [c7b0] | (simp only [i64_w, i32_w]; rw [c7b0]) | skip)
      have H' := Aside0.mk H
      clear H
      have hnb8 := NB232_233.out
      have hnc8 := NB233_232.out
      have hnb9 := NB232_234.out
      have hnc9 := NB234_232.out
      have hcz10_0 : w6.cell? ⟨gb232, 0, none⟩ = some (.int .i64 a0_0) := (blk_cell BK232.out 0).trans rfl
      have hcz10_1 : w6.cell? ⟨gb232, 1, none⟩ = some (.int .i64 a0_1) := (blk_cell BK232.out 1).trans rfl
      have hcz10_2 : w6.cell? ⟨gb232, 2, none⟩ = some (.int .i64 a0_2) := (blk_cell BK232.out 2).trans rfl
      have hcz10_3 : w6.cell? ⟨gb232, 3, none⟩ = some (.slice A0_3 l0_3.length c0_3) := (blk_cell BK232.out 3).trans rfl
      have hfz10_0 := blk_frozen BK232.out 0
      have hfz10_1 := blk_frozen BK232.out 1
      have hfz10_2 := blk_frozen BK232.out 2
      have hfz10_3 := blk_frozen BK232.out 3
      go_wp2
      go_meet
      case rel => exact ⟨_, (true), (by first | rfl | (simp; done) | (simp [*]; done)), H', ⟨by first | omega | exact Nat.le_refl _⟩, ⟨by (with_reducible repeat (first | refine blk_drewN ?_ _ | refine blk_drew ?_ | refine blk_alloc ?_ _)); exact BK232.out⟩, ⟨by (with_reducible repeat (first | refine blk_drewN ?_ _ | refine blk_drew ?_ | refine blk_alloc ?_ _)); exact BK233.out⟩, ⟨by (with_reducible repeat (first | refine blk_drewN ?_ _ | refine blk_drew ?_ | refine blk_alloc ?_ _)); exact BK234.out⟩, ⟨by repeat (first | (with_reducible first | exact HB.out | apply below_alloc | apply pw_below_drewN | apply below_drew1 | refine below_set ?_ GE232.out | refine below_set ?_ GE233.out | refine below_set ?_ GE234.out) | exact HB.out)⟩⟩
    · rw [if_neg c7] at H
      have c7b0 : decide (a0_0 < 1) = false := decide_eq_false c7
      clear c7
      (first | rw [c7b0] | (simp only [i64_w, i32_w]; rw [c7b0]) | skip)
      by_cases c11 : a0_0 > 3
      · rw [if_pos c11] at H
        have c11b0 : decide (3 < a0_0) = true := decide_eq_true c11
        clear c11
        have H' := Aside0.mk H
        clear H
        have hnb12 := NB232_233.out
        have hnc12 := NB233_232.out
        have hnb13 := NB232_234.out
        have hnc13 := NB234_232.out
        have hcz14_0 : w6.cell? ⟨gb232, 0, none⟩ = some (.int .i64 a0_0) := (blk_cell BK232.out 0).trans rfl
        have hcz14_1 : w6.cell? ⟨gb232, 1, none⟩ = some (.int .i64 a0_1) := (blk_cell BK232.out 1).trans rfl
        have hcz14_2 : w6.cell? ⟨gb232, 2, none⟩ = some (.int .i64 a0_2) := (blk_cell BK232.out 2).trans rfl
        have hcz14_3 : w6.cell? ⟨gb232, 3, none⟩ = some (.slice A0_3 l0_3.length c0_3) := (blk_cell BK232.out 3).trans rfl
        have hfz14_0 := blk_frozen BK232.out 0
        have hfz14_1 := blk_frozen BK232.out 1
        have hfz14_2 := blk_frozen BK232.out 2
        have hfz14_3 := blk_frozen BK232.out 3
        go_wp2
        go_meet
        case rel => exact ⟨_, (true), (by first | rfl | (simp; done) | (simp [*]; done)), H', ⟨by first | omega | exact Nat.le_refl _⟩, ⟨by (with_reducible repeat (first | refine blk_drewN ?_ _ | refine blk_drew ?_ | refine blk_alloc ?_ _)); exact BK232.out⟩, ⟨by (with_reducible repeat (first | refine blk_drewN ?_ _ | refine blk_drew ?_ | refine blk_alloc ?_ _)); exact BK233.out⟩, ⟨by (with_reducible repeat (first | refine blk_drewN ?_ _ | refine blk_drew ?_ | refine blk_alloc ?_ _)); exact BK234.out⟩, ⟨by repeat (first | (with_reducible first | exact HB.out | apply below_alloc | apply pw_below_drewN | apply below_drew1 | refine below_set ?_ GE232.out | refine below_set ?_ GE233.out | refine below_set ?_ GE234.out) | exact HB.out)⟩⟩
      · rw [if_neg c11] at H
        have c11b0 : decide (3 < a0_0) = false := decide_eq_false c11
        clear c11
        by_cases c15 : a1_0 = a0_0
        · rw [if_pos c15] at H
          have c15b0 : (a1_0 == a0_0) = true := beq_iff_eq.mpr c15
          have c15b1 : (a1_0 != a0_0) = false := bne_eq_false_iff_eq.mpr c15
          clear c15
          by_cases c16 : a1_1 = a0_1
          · rw [if_pos c16] at H
            have c16b0 : (a1_1 == a0_1) = true := beq_iff_eq.mpr c16
            have c16b1 : (a1_1 != a0_1) = false := bne_eq_false_iff_eq.mpr c16
            clear c16
            by_cases c17 : (l0_3.length : Int) > 0
            · rw [if_pos c17] at H
              have c17b0 : decide (0 < (l0_3.length : Int)) = true := decide_eq_true c17
              have c17b1 : decide (0 < l0_3.length) = true := decide_eq_true (by omega)
              clear c17
              have H' := Aside0.mk H
              clear H
              have hnb18 := NB232_233.out
              have hnc18 := NB233_232.out
              have hnb19 := NB232_234.out
              have hnc19 := NB234_232.out
              have hcz20_0 : w6.cell? ⟨gb232, 0, none⟩ = some (.int .i64 a0_0) := (blk_cell BK232.out 0).trans rfl
              have hcz20_1 : w6.cell? ⟨gb232, 1, none⟩ = some (.int .i64 a0_1) := (blk_cell BK232.out 1).trans rfl
              have hcz20_2 : w6.cell? ⟨gb232, 2, none⟩ = some (.int .i64 a0_2) := (blk_cell BK232.out 2).trans rfl
              have hcz20_3 : w6.cell? ⟨gb232, 3, none⟩ = some (.slice A0_3 l0_3.length c0_3) := (blk_cell BK232.out 3).trans rfl
              have hfz20_0 := blk_frozen BK232.out 0
              have hfz20_1 := blk_frozen BK232.out 1
              have hfz20_2 := blk_frozen BK232.out 2
              have hfz20_3 := blk_frozen BK232.out 3
              have hnb21 := NB233_234.out
              have hnc21 := NB234_233.out
              have hcz22_0 : w6.cell? ⟨gb233, 0, none⟩ = some (.int .i64 a1_0) := (blk_cell BK233.out 0).trans rfl
              have hcz22_1 : w6.cell? ⟨gb233, 1, none⟩ = some (.int .i64 a1_1) := (blk_cell BK233.out 1).trans rfl
              have hcz22_2 : w6.cell? ⟨gb233, 2, none⟩ = some (.int .i64 a1_2) := (blk_cell BK233.out 2).trans rfl
              have hcz22_3 : w6.cell? ⟨gb233, 3, none⟩ = some (.slice A1_3 l1_3.length c1_3) := (blk_cell BK233.out 3).trans rfl
              have hfz22_0 := blk_frozen BK233.out 0
              have hfz22_1 := blk_frozen BK233.out 1
              have hfz22_2 := blk_frozen BK233.out 2
              have hfz22_3 := blk_frozen BK233.out 3
              go_wp2
              go_meet
              case rel => exact ⟨_, (true), (by first | rfl | (simp; done) | (simp [*]; done)), H', ⟨by first | omega | exact Nat.le_refl _⟩, ⟨by (with_reducible repeat (first | refine blk_drewN ?_ _ | refine blk_drew ?_ | refine blk_alloc ?_ _)); exact BK232.out⟩, ⟨by (with_reducible repeat (first | refine blk_drewN ?_ _ | refine blk_drew ?_ | refine blk_alloc ?_ _)); exact BK233.out⟩, ⟨by (with_reducible repeat (first | refine blk_drewN ?_ _ | refine blk_drew ?_ | refine blk_alloc ?_ _)); exact BK234.out⟩, ⟨by repeat (first | (with_reducible first | exact HB.out | apply below_alloc | apply pw_below_drewN | apply below_drew1 | refine below_set ?_ GE232.out | refine below_set ?_ GE233.out | refine below_set ?_ GE234.out) | exact HB.out)⟩⟩
            · rw [if_neg c17] at H
              have c17b0 : decide (0 < (l0_3.length : Int)) = false := decide_eq_false c17
              have c17b1 : decide (0 < l0_3.length) = false := decide_eq_false (by omega)
              clear c17
              have H' := Aside0.mk H
              clear H
              have hnb23 := NB232_233.out
              have hnc23 := NB233_232.out
              have hnb24 := NB232_234.out
              have hnc24 := NB234_232.out
              have hcz25_0 : w6.cell? ⟨gb232, 0, none⟩ = some (.int .i64 a0_0) := (blk_cell BK232.out 0).trans rfl
              have hcz25_1 : w6.cell? ⟨gb232, 1, none⟩ = some (.int .i64 a0_1) := (blk_cell BK232.out 1).trans rfl
              have hcz25_2 : w6.cell? ⟨gb232, 2, none⟩ = some (.int .i64 a0_2) := (blk_cell BK232.out 2).trans rfl
              have hcz25_3 : w6.cell? ⟨gb232, 3, none⟩ = some (.slice A0_3 l0_3.length c0_3) := (blk_cell BK232.out 3).trans rfl
              have hfz25_0 := blk_frozen BK232.out 0
              have hfz25_1 := blk_frozen BK232.out 1
              have hfz25_2 := blk_frozen BK232.out 2
              have hfz25_3 := blk_frozen BK232.out 3
              have hnb26 := NB233_234.out
              have hnc26 := NB234_233.out
              have hcz27_0 : w6.cell? ⟨gb233, 0, none⟩ = some (.int .i64 a1_0) := (blk_cell BK233.out 0).trans rfl
              have hcz27_1 : w6.cell? ⟨gb233, 1, none⟩ = some (.int .i64 a1_1) := (blk_cell BK233.out 1).trans rfl
              have hcz27_2 : w6.cell? ⟨gb233, 2, none⟩ = some (.int .i64 a1_2) := (blk_cell BK233.out 2).trans rfl
              have hcz27_3 : w6.cell? ⟨gb233, 3, none⟩ = some (.slice A1_3 l1_3.length c1_3) := (blk_cell BK233.out 3).trans rfl
              have hfz27_0 := blk_frozen BK233.out 0
              have hfz27_1 := blk_frozen BK233.out 1
              have hfz27_2 := blk_frozen BK233.out 2
              have hfz27_3 := blk_frozen BK233.out 3
              go_wp2
              go_meet
              case rel => exact ⟨_, (decide ((l1_3.length : Int) > 0)), (by first | rfl | (simp; done) | (simp [*]; done)), H', ⟨by first | omega | exact Nat.le_refl _⟩, ⟨by (with_reducible repeat (first | refine blk_drewN ?_ _ | refine blk_drew ?_ | refine blk_alloc ?_ _)); exact BK232.out⟩, ⟨by (with_reducible repeat (first | refine blk_drewN ?_ _ | refine blk_drew ?_ | refine blk_alloc ?_ _)); exact BK233.out⟩, ⟨by (with_reducible repeat (first | refine blk_drewN ?_ _ | refine blk_drew ?_ | refine blk_alloc ?_ _)); exact BK234.out⟩, ⟨by repeat (first | (with_reducible first | exact HB.out | apply below_alloc | apply pw_below_drewN | apply below_drew1 | refine below_set ?_ GE232.out | refine below_set ?_ GE233.out | refine below_set ?_ GE234.out) | exact HB.out)⟩⟩
          · rw [if_neg c16] at H
            have c16b0 : (a1_1 == a0_1) = false := beq_eq_false_iff_ne.mpr c16
            have c16b1 : (a1_1 != a0_1) = true := bne_iff_ne.mpr c16
            have H' := Aside0.mk H
            clear H
            have hnb28 := NB232_233.out
            have hnc28 := NB233_232.out
            have hnb29 := NB232_234.out
            have hnc29 := NB234_232.out
            have hcz30_0 : w6.cell? ⟨gb232, 0, none⟩ = some (.int .i64 a0_0) := (blk_cell BK232.out 0).trans rfl
            have hcz30_1 : w6.cell? ⟨gb232, 1, none⟩ = some (.int .i64 a0_1) := (blk_cell BK232.out 1).trans rfl
            have hcz30_2 : w6.cell? ⟨gb232, 2, none⟩ = some (.int .i64 a0_2) := (blk_cell BK232.out 2).trans rfl
            have hcz30_3 : w6.cell? ⟨gb232, 3, none⟩ = some (.slice A0_3 l0_3.length c0_3) := (blk_cell BK232.out 3).trans rfl
            have hfz30_0 := blk_frozen BK232.out 0
            have hfz30_1 := blk_frozen BK232.out 1
            have hfz30_2 := blk_frozen BK232.out 2
            have hfz30_3 := blk_frozen BK232.out 3
            have hnb31 := NB233_234.out
            have hnc31 := NB234_233.out
            have hcz32_0 : w6.cell? ⟨gb233, 0, none⟩ = some (.int .i64 a1_0) := (blk_cell BK233.out 0).trans rfl
            have hcz32_1 : w6.cell? ⟨gb233, 1, none⟩ = some (.int .i64 a1_1) := (blk_cell BK233.out 1).trans rfl
            have hcz32_2 : w6.cell? ⟨gb233, 2, none⟩ = some (.int .i64 a1_2) := (blk_cell BK233.out 2).trans rfl
            have hcz32_3 : w6.cell? ⟨gb233, 3, none⟩ = some (.slice A1_3 l1_3.length c1_3) := (blk_cell BK233.out 3).trans rfl
            have hfz32_0 := blk_frozen BK233.out 0
            have hfz32_1 := blk_frozen BK233.out 1
            have hfz32_2 := blk_frozen BK233.out 2
            have hfz32_3 := blk_frozen BK233.out 3
            go_wp2
            go_meet
            case rel => exact ⟨_, (true), (by first | rfl | (simp; done) | (simp [*]; done)), H', ⟨by first | omega | exact Nat.le_refl _⟩, ⟨by (with_reducible repeat (first | refine blk_drewN ?_ _ | refine blk_drew ?_ | refine blk_alloc ?_ _)); exact BK232.out⟩, ⟨by (with_reducible repeat (first | refine blk_drewN ?_ _ | refine blk_drew ?_ | refine blk_alloc ?_ _)); exact BK233.out⟩, ⟨by (with_reducible repeat (first | refine blk_drewN ?_ _ | refine blk_drew ?_ | refine blk_alloc ?_ _)); exact BK234.out⟩, ⟨by repeat (first | (with_reducible first | exact HB.out | apply below_alloc | apply pw_below_drewN | apply below_drew1 | refine below_set ?_ GE232.out | refine below_set ?_ GE233.out | refine below_set ?_ GE234.out) | exact HB.out)⟩⟩
        · rw [if_neg c15] at H
          have c15b0 : (a1_0 == a0_0) = false := beq_eq_false_iff_ne.mpr c15
          have c15b1 : (a1_0 != a0_0) = true := bne_iff_ne.mpr c15
          have H' := Aside0.mk H
          clear H
          have hnb33 := NB232_233.out
          have hnc33 := NB233_232.out
          have hnb34 := NB232_234.out
          have hnc34 := NB234_232.out
          have hcz35_0 : w6.cell? ⟨gb232, 0, none⟩ = some (.int .i64 a0_0) := (blk_cell BK232.out 0).trans rfl
          have hcz35_1 : w6.cell? ⟨gb232, 1, none⟩ = some (.int .i64 a0_1) := (blk_cell BK232.out 1).trans rfl
          have hcz35_2 : w6.cell? ⟨gb232, 2, none⟩ = some (.int .i64 a0_2) := (blk_cell BK232.out 2).trans rfl
          have hcz35_3 : w6.cell? ⟨gb232, 3, none⟩ = some (.slice A0_3 l0_3.length c0_3) := (blk_cell BK232.out 3).trans rfl
          have hfz35_0 := blk_frozen BK232.out 0
          have hfz35_1 := blk_frozen BK232.out 1
          have hfz35_2 := blk_frozen BK232.out 2
          have hfz35_3 := blk_frozen BK232.out 3
          have hnb36 := NB233_234.out
          have hnc36 := NB234_233.out
          have hcz37_0 : w6.cell? ⟨gb233, 0, none⟩ = some (.int .i64 a1_0) := (blk_cell BK233.out 0).trans rfl
          have hcz37_1 : w6.cell? ⟨gb233, 1, none⟩ = some (.int .i64 a1_1) := (blk_cell BK233.out 1).trans rfl
          have hcz37_2 : w6.cell? ⟨gb233, 2, none⟩ = some (.int .i64 a1_2) := (blk_cell BK233.out 2).trans rfl
          have hcz37_3 : w6.cell? ⟨gb233, 3, none⟩ = some (.slice A1_3 l1_3.length c1_3) := (blk_cell BK233.out 3).trans rfl
          have hfz37_0 := blk_frozen BK233.out 0
          have hfz37_1 := blk_frozen BK233.out 1
          have hfz37_2 := blk_frozen BK233.out 2
          have hfz37_3 := blk_frozen BK233.out 3
          go_wp2
          go_meet
          case rel => exact ⟨_, (true), (by first | rfl | (simp; done) | (simp [*]; done)), H', ⟨by first | omega | exact Nat.le_refl _⟩, ⟨by (with_reducible repeat (first | refine blk_drewN ?_ _ | refine blk_drew ?_ | refine blk_alloc ?_ _)); exact BK232.out⟩, ⟨by (with_reducible repeat (first | refine blk_drewN ?_ _ | refine blk_drew ?_ | refine blk_alloc ?_ _)); exact BK233.out⟩, ⟨by (with_reducible repeat (first | refine blk_drewN ?_ _ | refine blk_drew ?_ | refine blk_alloc ?_ _)); exact BK234.out⟩, ⟨by repeat (first | (with_reducible first | exact HB.out | apply below_alloc | apply pw_below_drewN | apply below_drew1 | refine below_set ?_ GE232.out | refine below_set ?_ GE233.out | refine below_set ?_ GE234.out) | exact HB.out)⟩⟩
  case rest =>
    clear HC3
    try clear c1
    try clear c2
    try clear p2
    try clear c3
    try clear c7
    try clear c7b0
    try clear c8
    try clear c9
    try clear c11
    try clear c11b0
    try clear c12
    try clear c13
    try clear c15
    try clear c15b0
    try clear c15b1
    try clear c16
    try clear c16b0
    try clear c16b1
    try clear c17
    try clear c17b0
    try clear c17b1
    try clear c18
    try clear c19
    try clear c21
    try clear c23
    try clear c24
    try clear c26
    try clear c28
    try clear c29
    try clear c31
    try clear c33
    try clear c34
    try clear c36
    try clear hcz10_0
    try clear hcz10_1
    try clear hcz10_2
    try clear hcz10_3
    try clear hcz14_0
    try clear hcz14_1
    try clear hcz14_2
    try clear hcz14_3
    try clear hcz20_0
    try clear hcz20_1
    try clear hcz20_2
    try clear hcz20_3
    try clear hcz22_0
    try clear hcz22_1
    try clear hcz22_2
    try clear hcz22_3
    try clear hcz25_0
    try clear hcz25_1
    try clear hcz25_2
    try clear hcz25_3
    try clear hcz27_0
    try clear hcz27_1
    try clear hcz27_2
    try clear hcz27_3
    try clear hcz30_0
    try clear hcz30_1
    try clear hcz30_2
    try clear hcz30_3
    try clear hcz32_0
    try clear hcz32_1
    try clear hcz32_2
    try clear hcz32_3
    try clear hcz35_0
    try clear hcz35_1
    try clear hcz35_2
    try clear hcz35_3
    try clear hcz37_0
    try clear hcz37_1
    try clear hcz37_2
    try clear hcz37_3
    try clear hfz10_0
    try clear hfz10_1
    try clear hfz10_2
    try clear hfz10_3
    try clear hfz14_0
    try clear hfz14_1
    try clear hfz14_2
    try clear hfz14_3
    try clear hfz20_0
    try clear hfz20_1
    try clear hfz20_2
    try clear hfz20_3
    try clear hfz22_0
    try clear hfz22_1
    try clear hfz22_2
    try clear hfz22_3
    try clear hfz25_0
    try clear hfz25_1
    try clear hfz25_2
    try clear hfz25_3
    try clear hfz27_0
    try clear hfz27_1
    try clear hfz27_2
    try clear hfz27_3
    try clear hfz30_0
    try clear hfz30_1
    try clear hfz30_2
    try clear hfz30_3
    try clear hfz32_0
    try clear hfz32_1
    try clear hfz32_2
    try clear hfz32_3
    try clear hfz35_0
    try clear hfz35_1
    try clear hfz35_2
    try clear hfz35_3
    try clear hfz37_0
    try clear hfz37_1
    try clear hfz37_2
    try clear hfz37_3
    obtain ⟨kq, x39_2, rfl, HA, HJ2, BK232, BK233, BK234, HB⟩ := hcut
    cases kq with
    | zero => exact absurd HA.out (by simp [juratref27_Two.j0])
    | succ kj2 =>
      have H := HA.out
      clear HA
      simp only [juratref27_Two.j0] at H
      by_cases c38 : x39_2 = true
      · subst c38
        have H1 : (some (0, 0, 0, ([] : List Int), false)) = some (r1, r2, r3, r4, r5) := by rw [if_pos rfl] at H; exact H
        clear H
        have H := H1
        clear H1
        simp only [Option.some.injEq, Prod.mk.injEq] at H
        obtain ⟨rfl, rfl, rfl, rfl, rfl⟩ := H
        have hnb39 := NB234_232.out
        have hnc39 := NB232_234.out
        have hnb40 := NB234_233.out
        have hnc40 := NB233_234.out
        have hcz41_0 : wc.cell? ⟨gb234, 0, none⟩ = some (.int .i64 0) := (blk_cell BK234.out 0).trans rfl
        have hcz41_1 : wc.cell? ⟨gb234, 1, none⟩ = some (.int .i64 0) := (blk_cell BK234.out 1).trans rfl
        have hcz41_2 : wc.cell? ⟨gb234, 2, none⟩ = some (.int .i64 0) := (blk_cell BK234.out 2).trans rfl
        have hcz41_3 : wc.cell? ⟨gb234, 3, none⟩ = some (.slice none 0 0) := (blk_cell BK234.out 3).trans rfl
        have hfz41_0 := blk_frozen BK234.out 0
        have hfz41_1 := blk_frozen BK234.out 1
        have hfz41_2 := blk_frozen BK234.out 2
        have hfz41_3 := blk_frozen BK234.out 3
        go_wp2
        refine bodyPost_ret (results_ct rfl _ _ gb234 30 #[.int .i64 0, .int .i64 0, .int .i64 0, .slice none 0 0] (0, 0) _ rfl (by (with_reducible repeat (first | refine blk_drewN ?_ _ | refine blk_drew ?_ | refine blk_alloc ?_ _)); refine blk_put (cs := #[.int .i64 0, .int .i64 0, .int .i64 0, .slice none 0 0]) ?_ 3 _ rfl; (with_reducible repeat (first | refine blk_drewN ?_ _ | refine blk_drew ?_ | refine blk_alloc ?_ _)); refine blk_put (cs := #[.int .i64 0, .int .i64 0, .int .i64 0, .slice none 0 0]) ?_ 2 _ rfl; (with_reducible repeat (first | refine blk_drewN ?_ _ | refine blk_drew ?_ | refine blk_alloc ?_ _)); refine blk_put (cs := #[.int .i64 0, .int .i64 0, .int .i64 0, .slice none 0 0]) ?_ 1 _ rfl; (with_reducible repeat (first | refine blk_drewN ?_ _ | refine blk_drew ?_ | refine blk_alloc ?_ _)); refine blk_put (cs := #[.int .i64 0, .int .i64 0, .int .i64 0, .slice none 0 0]) ?_ 0 _ rfl; (with_reducible repeat (first | refine blk_drewN ?_ _ | refine blk_drew ?_ | refine blk_alloc ?_ _)); exact BK234.out) Try.underlying30 rfl (by kernel_rfl)) rfl ?_
        exact ⟨_, by first | rfl | (simp [errW_none, errW_some] <;> rfl) | (simp [*, errW_none, errW_some] <;> rfl), by first | exact Kd.R_nil _ _ _ _ _ | exact Kd.N_nil _ _ _ _ _ | exact Kd.V_nil _ _ _ _ _ | exact Kd.Q_nil _ _ _ _ _ | exact Kd.S_nil _ _ _ _ _, by repeat (first | (with_reducible first | exact HB.out | apply below_alloc | apply pw_below_drewN | apply below_drew1 | refine below_set ?_ GE232.out | refine below_set ?_ GE233.out | refine below_set ?_ GE234.out) | exact HB.out)⟩
      · replace c38 := Bool.eq_false_iff.mpr c38
        subst c38
        have H1 : (if a0_2 < 1 then (some (0, 0, 0, ([] : List Int), false)) else (if a1_2 < 1 then (some (0, 0, 0, ([] : List Int), false)) else (if a0_2 > 4611686018427387903 then (some (0, 0, 0, ([] : List Int), false)) else (if a1_2 > (wrap64 (4611686018427387903 - a0_2)) then (some (0, 0, 0, ([] : List Int), false)) else (some (a0_0, a0_1, wrap64 (a0_2 + a1_2), ([] : List Int), true)))))) = some (r1, r2, r3, r4, r5) := by rw [if_neg (show ¬ (false = true) by decide)] at H; exact H
        clear H
        have H := H1
        clear H1
        by_cases c42 : a0_2 < 1
        · rw [if_pos c42] at H
          have c42b0 : decide (a0_2 < 1) = true := decide_eq_true c42
          clear c42
          simp only [Option.some.injEq, Prod.mk.injEq] at H
          obtain ⟨rfl, rfl, rfl, rfl, rfl⟩ := H
          have hnb43 := NB232_233.out
          have hnc43 := NB233_232.out
          have hnb44 := NB232_234.out
          have hnc44 := NB234_232.out
          have hcz45_0 : wc.cell? ⟨gb232, 0, none⟩ = some (.int .i64 a0_0) := (blk_cell BK232.out 0).trans rfl
          have hcz45_1 : wc.cell? ⟨gb232, 1, none⟩ = some (.int .i64 a0_1) := (blk_cell BK232.out 1).trans rfl
          have hcz45_2 : wc.cell? ⟨gb232, 2, none⟩ = some (.int .i64 a0_2) := (blk_cell BK232.out 2).trans rfl
          have hcz45_3 : wc.cell? ⟨gb232, 3, none⟩ = some (.slice A0_3 l0_3.length c0_3) := (blk_cell BK232.out 3).trans rfl
          have hfz45_0 := blk_frozen BK232.out 0
          have hfz45_1 := blk_frozen BK232.out 1
          have hfz45_2 := blk_frozen BK232.out 2
          have hfz45_3 := blk_frozen BK232.out 3
          have hnb46 := NB234_233.out
          have hnc46 := NB233_234.out
          have hcz47_0 : wc.cell? ⟨gb234, 0, none⟩ = some (.int .i64 0) := (blk_cell BK234.out 0).trans rfl
          have hcz47_1 : wc.cell? ⟨gb234, 1, none⟩ = some (.int .i64 0) := (blk_cell BK234.out 1).trans rfl
          have hcz47_2 : wc.cell? ⟨gb234, 2, none⟩ = some (.int .i64 0) := (blk_cell BK234.out 2).trans rfl
          have hcz47_3 : wc.cell? ⟨gb234, 3, none⟩ = some (.slice none 0 0) := (blk_cell BK234.out 3).trans rfl
          have hfz47_0 := blk_frozen BK234.out 0
          have hfz47_1 := blk_frozen BK234.out 1
          have hfz47_2 := blk_frozen BK234.out 2
          have hfz47_3 := blk_frozen BK234.out 3
          go_wp2
          refine bodyPost_ret (results_ct rfl _ _ gb234 30 #[.int .i64 0, .int .i64 0, .int .i64 0, .slice none 0 0] (0, 0) _ rfl (by (with_reducible repeat (first | refine blk_drewN ?_ _ | refine blk_drew ?_ | refine blk_alloc ?_ _)); refine blk_put (cs := #[.int .i64 0, .int .i64 0, .int .i64 0, .slice none 0 0]) ?_ 3 _ rfl; (with_reducible repeat (first | refine blk_drewN ?_ _ | refine blk_drew ?_ | refine blk_alloc ?_ _)); refine blk_put (cs := #[.int .i64 0, .int .i64 0, .int .i64 0, .slice none 0 0]) ?_ 2 _ rfl; (with_reducible repeat (first | refine blk_drewN ?_ _ | refine blk_drew ?_ | refine blk_alloc ?_ _)); refine blk_put (cs := #[.int .i64 0, .int .i64 0, .int .i64 0, .slice none 0 0]) ?_ 1 _ rfl; (with_reducible repeat (first | refine blk_drewN ?_ _ | refine blk_drew ?_ | refine blk_alloc ?_ _)); refine blk_put (cs := #[.int .i64 0, .int .i64 0, .int .i64 0, .slice none 0 0]) ?_ 0 _ rfl; (with_reducible repeat (first | refine blk_drewN ?_ _ | refine blk_drew ?_ | refine blk_alloc ?_ _)); exact BK234.out) Try.underlying30 rfl (by kernel_rfl)) rfl ?_
          exact ⟨_, by first | rfl | (simp [errW_none, errW_some] <;> rfl) | (simp [*, errW_none, errW_some] <;> rfl), by first | exact Kd.R_nil _ _ _ _ _ | exact Kd.N_nil _ _ _ _ _ | exact Kd.V_nil _ _ _ _ _ | exact Kd.Q_nil _ _ _ _ _ | exact Kd.S_nil _ _ _ _ _, by repeat (first | (with_reducible first | exact HB.out | apply below_alloc | apply pw_below_drewN | apply below_drew1 | refine below_set ?_ GE232.out | refine below_set ?_ GE233.out | refine below_set ?_ GE234.out) | exact HB.out)⟩
        · rw [if_neg c42] at H
          have c42b0 : decide (a0_2 < 1) = false := decide_eq_false c42
          clear c42
          by_cases c48 : a1_2 < 1
          · rw [if_pos c48] at H
            have c48b0 : decide (a1_2 < 1) = true := decide_eq_true c48
            clear c48
            simp only [Option.some.injEq, Prod.mk.injEq] at H
            obtain ⟨rfl, rfl, rfl, rfl, rfl⟩ := H
            have hnb49 := NB232_233.out
            have hnc49 := NB233_232.out
            have hnb50 := NB232_234.out
            have hnc50 := NB234_232.out
            have hcz51_0 : wc.cell? ⟨gb232, 0, none⟩ = some (.int .i64 a0_0) := (blk_cell BK232.out 0).trans rfl
            have hcz51_1 : wc.cell? ⟨gb232, 1, none⟩ = some (.int .i64 a0_1) := (blk_cell BK232.out 1).trans rfl
            have hcz51_2 : wc.cell? ⟨gb232, 2, none⟩ = some (.int .i64 a0_2) := (blk_cell BK232.out 2).trans rfl
            have hcz51_3 : wc.cell? ⟨gb232, 3, none⟩ = some (.slice A0_3 l0_3.length c0_3) := (blk_cell BK232.out 3).trans rfl
            have hfz51_0 := blk_frozen BK232.out 0
            have hfz51_1 := blk_frozen BK232.out 1
            have hfz51_2 := blk_frozen BK232.out 2
            have hfz51_3 := blk_frozen BK232.out 3
            have hnb52 := NB233_234.out
            have hnc52 := NB234_233.out
            have hcz53_0 : wc.cell? ⟨gb233, 0, none⟩ = some (.int .i64 a1_0) := (blk_cell BK233.out 0).trans rfl
            have hcz53_1 : wc.cell? ⟨gb233, 1, none⟩ = some (.int .i64 a1_1) := (blk_cell BK233.out 1).trans rfl
            have hcz53_2 : wc.cell? ⟨gb233, 2, none⟩ = some (.int .i64 a1_2) := (blk_cell BK233.out 2).trans rfl
            have hcz53_3 : wc.cell? ⟨gb233, 3, none⟩ = some (.slice A1_3 l1_3.length c1_3) := (blk_cell BK233.out 3).trans rfl
            have hfz53_0 := blk_frozen BK233.out 0
            have hfz53_1 := blk_frozen BK233.out 1
            have hfz53_2 := blk_frozen BK233.out 2
            have hfz53_3 := blk_frozen BK233.out 3
            have hcz54_0 : wc.cell? ⟨gb234, 0, none⟩ = some (.int .i64 0) := (blk_cell BK234.out 0).trans rfl
            have hcz54_1 : wc.cell? ⟨gb234, 1, none⟩ = some (.int .i64 0) := (blk_cell BK234.out 1).trans rfl
            have hcz54_2 : wc.cell? ⟨gb234, 2, none⟩ = some (.int .i64 0) := (blk_cell BK234.out 2).trans rfl
            have hcz54_3 : wc.cell? ⟨gb234, 3, none⟩ = some (.slice none 0 0) := (blk_cell BK234.out 3).trans rfl
            have hfz54_0 := blk_frozen BK234.out 0
            have hfz54_1 := blk_frozen BK234.out 1
            have hfz54_2 := blk_frozen BK234.out 2
            have hfz54_3 := blk_frozen BK234.out 3
            go_wp2
            refine bodyPost_ret (results_ct rfl _ _ gb234 30 #[.int .i64 0, .int .i64 0, .int .i64 0, .slice none 0 0] (0, 0) _ rfl (by (with_reducible repeat (first | refine blk_drewN ?_ _ | refine blk_drew ?_ | refine blk_alloc ?_ _)); refine blk_put (cs := #[.int .i64 0, .int .i64 0, .int .i64 0, .slice none 0 0]) ?_ 3 _ rfl; (with_reducible repeat (first | refine blk_drewN ?_ _ | refine blk_drew ?_ | refine blk_alloc ?_ _)); refine blk_put (cs := #[.int .i64 0, .int .i64 0, .int .i64 0, .slice none 0 0]) ?_ 2 _ rfl; (with_reducible repeat (first | refine blk_drewN ?_ _ | refine blk_drew ?_ | refine blk_alloc ?_ _)); refine blk_put (cs := #[.int .i64 0, .int .i64 0, .int .i64 0, .slice none 0 0]) ?_ 1 _ rfl; (with_reducible repeat (first | refine blk_drewN ?_ _ | refine blk_drew ?_ | refine blk_alloc ?_ _)); refine blk_put (cs := #[.int .i64 0, .int .i64 0, .int .i64 0, .slice none 0 0]) ?_ 0 _ rfl; (with_reducible repeat (first | refine blk_drewN ?_ _ | refine blk_drew ?_ | refine blk_alloc ?_ _)); exact BK234.out) Try.underlying30 rfl (by kernel_rfl)) rfl ?_
            exact ⟨_, by first | rfl | (simp [errW_none, errW_some] <;> rfl) | (simp [*, errW_none, errW_some] <;> rfl), by first | exact Kd.R_nil _ _ _ _ _ | exact Kd.N_nil _ _ _ _ _ | exact Kd.V_nil _ _ _ _ _ | exact Kd.Q_nil _ _ _ _ _ | exact Kd.S_nil _ _ _ _ _, by repeat (first | (with_reducible first | exact HB.out | apply below_alloc | apply pw_below_drewN | apply below_drew1 | refine below_set ?_ GE232.out | refine below_set ?_ GE233.out | refine below_set ?_ GE234.out) | exact HB.out)⟩
          · rw [if_neg c48] at H
            have c48b0 : decide (a1_2 < 1) = false := decide_eq_false c48
            clear c48
            by_cases c55 : a0_2 > 4611686018427387903
            · rw [if_pos c55] at H
              have c55b0 : decide (4611686018427387903 < a0_2) = true := decide_eq_true c55
              clear c55
              simp only [Option.some.injEq, Prod.mk.injEq] at H
              obtain ⟨rfl, rfl, rfl, rfl, rfl⟩ := H
              have hnb56 := NB232_233.out
              have hnc56 := NB233_232.out
              have hnb57 := NB232_234.out
              have hnc57 := NB234_232.out
              have hcz58_0 : wc.cell? ⟨gb232, 0, none⟩ = some (.int .i64 a0_0) := (blk_cell BK232.out 0).trans rfl
              have hcz58_1 : wc.cell? ⟨gb232, 1, none⟩ = some (.int .i64 a0_1) := (blk_cell BK232.out 1).trans rfl
              have hcz58_2 : wc.cell? ⟨gb232, 2, none⟩ = some (.int .i64 a0_2) := (blk_cell BK232.out 2).trans rfl
              have hcz58_3 : wc.cell? ⟨gb232, 3, none⟩ = some (.slice A0_3 l0_3.length c0_3) := (blk_cell BK232.out 3).trans rfl
              have hfz58_0 := blk_frozen BK232.out 0
              have hfz58_1 := blk_frozen BK232.out 1
              have hfz58_2 := blk_frozen BK232.out 2
              have hfz58_3 := blk_frozen BK232.out 3
              have hnb59 := NB233_234.out
              have hnc59 := NB234_233.out
              have hcz60_0 : wc.cell? ⟨gb233, 0, none⟩ = some (.int .i64 a1_0) := (blk_cell BK233.out 0).trans rfl
              have hcz60_1 : wc.cell? ⟨gb233, 1, none⟩ = some (.int .i64 a1_1) := (blk_cell BK233.out 1).trans rfl
              have hcz60_2 : wc.cell? ⟨gb233, 2, none⟩ = some (.int .i64 a1_2) := (blk_cell BK233.out 2).trans rfl
              have hcz60_3 : wc.cell? ⟨gb233, 3, none⟩ = some (.slice A1_3 l1_3.length c1_3) := (blk_cell BK233.out 3).trans rfl
              have hfz60_0 := blk_frozen BK233.out 0
              have hfz60_1 := blk_frozen BK233.out 1
              have hfz60_2 := blk_frozen BK233.out 2
              have hfz60_3 := blk_frozen BK233.out 3
              have hcz61_0 : wc.cell? ⟨gb234, 0, none⟩ = some (.int .i64 0) := (blk_cell BK234.out 0).trans rfl
              have hcz61_1 : wc.cell? ⟨gb234, 1, none⟩ = some (.int .i64 0) := (blk_cell BK234.out 1).trans rfl
              have hcz61_2 : wc.cell? ⟨gb234, 2, none⟩ = some (.int .i64 0) := (blk_cell BK234.out 2).trans rfl
              have hcz61_3 : wc.cell? ⟨gb234, 3, none⟩ = some (.slice none 0 0) := (blk_cell BK234.out 3).trans rfl
              have hfz61_0 := blk_frozen BK234.out 0
              have hfz61_1 := blk_frozen BK234.out 1
              have hfz61_2 := blk_frozen BK234.out 2
              have hfz61_3 := blk_frozen BK234.out 3
              go_wp2
              refine bodyPost_ret (results_ct rfl _ _ gb234 30 #[.int .i64 0, .int .i64 0, .int .i64 0, .slice none 0 0] (0, 0) _ rfl (by (with_reducible repeat (first | refine blk_drewN ?_ _ | refine blk_drew ?_ | refine blk_alloc ?_ _)); refine blk_put (cs := #[.int .i64 0, .int .i64 0, .int .i64 0, .slice none 0 0]) ?_ 3 _ rfl; (with_reducible repeat (first | refine blk_drewN ?_ _ | refine blk_drew ?_ | refine blk_alloc ?_ _)); refine blk_put (cs := #[.int .i64 0, .int .i64 0, .int .i64 0, .slice none 0 0]) ?_ 2 _ rfl; (with_reducible repeat (first | refine blk_drewN ?_ _ | refine blk_drew ?_ | refine blk_alloc ?_ _)); refine blk_put (cs := #[.int .i64 0, .int .i64 0, .int .i64 0, .slice none 0 0]) ?_ 1 _ rfl; (with_reducible repeat (first | refine blk_drewN ?_ _ | refine blk_drew ?_ | refine blk_alloc ?_ _)); refine blk_put (cs := #[.int .i64 0, .int .i64 0, .int .i64 0, .slice none 0 0]) ?_ 0 _ rfl; (with_reducible repeat (first | refine blk_drewN ?_ _ | refine blk_drew ?_ | refine blk_alloc ?_ _)); exact BK234.out) Try.underlying30 rfl (by kernel_rfl)) rfl ?_
              exact ⟨_, by first | rfl | (simp [errW_none, errW_some] <;> rfl) | (simp [*, errW_none, errW_some] <;> rfl), by first | exact Kd.R_nil _ _ _ _ _ | exact Kd.N_nil _ _ _ _ _ | exact Kd.V_nil _ _ _ _ _ | exact Kd.Q_nil _ _ _ _ _ | exact Kd.S_nil _ _ _ _ _, by repeat (first | (with_reducible first | exact HB.out | apply below_alloc | apply pw_below_drewN | apply below_drew1 | refine below_set ?_ GE232.out | refine below_set ?_ GE233.out | refine below_set ?_ GE234.out) | exact HB.out)⟩
            · rw [if_neg c55] at H
              have c55b0 : decide (4611686018427387903 < a0_2) = false := decide_eq_false c55
              clear c55
              by_cases c62 : a1_2 > (wrap64 (4611686018427387903 - a0_2))
              · rw [if_pos c62] at H
                have c62b0 : decide ((wrap64 (4611686018427387903 - a0_2)) < a1_2) = true := decide_eq_true c62
                clear c62
                simp only [Option.some.injEq, Prod.mk.injEq] at H
                obtain ⟨rfl, rfl, rfl, rfl, rfl⟩ := H
                have hnb63 := NB232_233.out
                have hnc63 := NB233_232.out
                have hnb64 := NB232_234.out
                have hnc64 := NB234_232.out
                have hcz65_0 : wc.cell? ⟨gb232, 0, none⟩ = some (.int .i64 a0_0) := (blk_cell BK232.out 0).trans rfl
                have hcz65_1 : wc.cell? ⟨gb232, 1, none⟩ = some (.int .i64 a0_1) := (blk_cell BK232.out 1).trans rfl
                have hcz65_2 : wc.cell? ⟨gb232, 2, none⟩ = some (.int .i64 a0_2) := (blk_cell BK232.out 2).trans rfl
                have hcz65_3 : wc.cell? ⟨gb232, 3, none⟩ = some (.slice A0_3 l0_3.length c0_3) := (blk_cell BK232.out 3).trans rfl
                have hfz65_0 := blk_frozen BK232.out 0
                have hfz65_1 := blk_frozen BK232.out 1
                have hfz65_2 := blk_frozen BK232.out 2
                have hfz65_3 := blk_frozen BK232.out 3
                have hnb66 := NB233_234.out
                have hnc66 := NB234_233.out
                have hcz67_0 : wc.cell? ⟨gb233, 0, none⟩ = some (.int .i64 a1_0) := (blk_cell BK233.out 0).trans rfl
                have hcz67_1 : wc.cell? ⟨gb233, 1, none⟩ = some (.int .i64 a1_1) := (blk_cell BK233.out 1).trans rfl
                have hcz67_2 : wc.cell? ⟨gb233, 2, none⟩ = some (.int .i64 a1_2) := (blk_cell BK233.out 2).trans rfl
                have hcz67_3 : wc.cell? ⟨gb233, 3, none⟩ = some (.slice A1_3 l1_3.length c1_3) := (blk_cell BK233.out 3).trans rfl
                have hfz67_0 := blk_frozen BK233.out 0
                have hfz67_1 := blk_frozen BK233.out 1
                have hfz67_2 := blk_frozen BK233.out 2
                have hfz67_3 := blk_frozen BK233.out 3
                have hcz68_0 : wc.cell? ⟨gb234, 0, none⟩ = some (.int .i64 0) := (blk_cell BK234.out 0).trans rfl
                have hcz68_1 : wc.cell? ⟨gb234, 1, none⟩ = some (.int .i64 0) := (blk_cell BK234.out 1).trans rfl
                have hcz68_2 : wc.cell? ⟨gb234, 2, none⟩ = some (.int .i64 0) := (blk_cell BK234.out 2).trans rfl
                have hcz68_3 : wc.cell? ⟨gb234, 3, none⟩ = some (.slice none 0 0) := (blk_cell BK234.out 3).trans rfl
                have hfz68_0 := blk_frozen BK234.out 0
                have hfz68_1 := blk_frozen BK234.out 1
                have hfz68_2 := blk_frozen BK234.out 2
                have hfz68_3 := blk_frozen BK234.out 3
                go_wp2
                refine bodyPost_ret (results_ct rfl _ _ gb234 30 #[.int .i64 0, .int .i64 0, .int .i64 0, .slice none 0 0] (0, 0) _ rfl (by (with_reducible repeat (first | refine blk_drewN ?_ _ | refine blk_drew ?_ | refine blk_alloc ?_ _)); refine blk_put (cs := #[.int .i64 0, .int .i64 0, .int .i64 0, .slice none 0 0]) ?_ 3 _ rfl; (with_reducible repeat (first | refine blk_drewN ?_ _ | refine blk_drew ?_ | refine blk_alloc ?_ _)); refine blk_put (cs := #[.int .i64 0, .int .i64 0, .int .i64 0, .slice none 0 0]) ?_ 2 _ rfl; (with_reducible repeat (first | refine blk_drewN ?_ _ | refine blk_drew ?_ | refine blk_alloc ?_ _)); refine blk_put (cs := #[.int .i64 0, .int .i64 0, .int .i64 0, .slice none 0 0]) ?_ 1 _ rfl; (with_reducible repeat (first | refine blk_drewN ?_ _ | refine blk_drew ?_ | refine blk_alloc ?_ _)); refine blk_put (cs := #[.int .i64 0, .int .i64 0, .int .i64 0, .slice none 0 0]) ?_ 0 _ rfl; (with_reducible repeat (first | refine blk_drewN ?_ _ | refine blk_drew ?_ | refine blk_alloc ?_ _)); exact BK234.out) Try.underlying30 rfl (by kernel_rfl)) rfl ?_
                exact ⟨_, by first | rfl | (simp [errW_none, errW_some] <;> rfl) | (simp [*, errW_none, errW_some] <;> rfl), by first | exact Kd.R_nil _ _ _ _ _ | exact Kd.N_nil _ _ _ _ _ | exact Kd.V_nil _ _ _ _ _ | exact Kd.Q_nil _ _ _ _ _ | exact Kd.S_nil _ _ _ _ _, by repeat (first | (with_reducible first | exact HB.out | apply below_alloc | apply pw_below_drewN | apply below_drew1 | refine below_set ?_ GE232.out | refine below_set ?_ GE233.out | refine below_set ?_ GE234.out) | exact HB.out)⟩
              · rw [if_neg c62] at H
                have c62b0 : decide ((wrap64 (4611686018427387903 - a0_2)) < a1_2) = false := decide_eq_false c62
                clear c62
                simp only [Option.some.injEq, Prod.mk.injEq] at H
                obtain ⟨rfl, rfl, rfl, rfl, rfl⟩ := H
                have hnb69 := NB232_233.out
                have hnc69 := NB233_232.out
                have hnb70 := NB232_234.out
                have hnc70 := NB234_232.out
                have hcz71_0 : wc.cell? ⟨gb232, 0, none⟩ = some (.int .i64 a0_0) := (blk_cell BK232.out 0).trans rfl
                have hcz71_1 : wc.cell? ⟨gb232, 1, none⟩ = some (.int .i64 a0_1) := (blk_cell BK232.out 1).trans rfl
                have hcz71_2 : wc.cell? ⟨gb232, 2, none⟩ = some (.int .i64 a0_2) := (blk_cell BK232.out 2).trans rfl
                have hcz71_3 : wc.cell? ⟨gb232, 3, none⟩ = some (.slice A0_3 l0_3.length c0_3) := (blk_cell BK232.out 3).trans rfl
                have hfz71_0 := blk_frozen BK232.out 0
                have hfz71_1 := blk_frozen BK232.out 1
                have hfz71_2 := blk_frozen BK232.out 2
                have hfz71_3 := blk_frozen BK232.out 3
                have hnb72 := NB233_234.out
                have hnc72 := NB234_233.out
                have hcz73_0 : wc.cell? ⟨gb233, 0, none⟩ = some (.int .i64 a1_0) := (blk_cell BK233.out 0).trans rfl
                have hcz73_1 : wc.cell? ⟨gb233, 1, none⟩ = some (.int .i64 a1_1) := (blk_cell BK233.out 1).trans rfl
                have hcz73_2 : wc.cell? ⟨gb233, 2, none⟩ = some (.int .i64 a1_2) := (blk_cell BK233.out 2).trans rfl
                have hcz73_3 : wc.cell? ⟨gb233, 3, none⟩ = some (.slice A1_3 l1_3.length c1_3) := (blk_cell BK233.out 3).trans rfl
                have hfz73_0 := blk_frozen BK233.out 0
                have hfz73_1 := blk_frozen BK233.out 1
                have hfz73_2 := blk_frozen BK233.out 2
                have hfz73_3 := blk_frozen BK233.out 3
                have hcz74_0 : wc.cell? ⟨gb234, 0, none⟩ = some (.int .i64 0) := (blk_cell BK234.out 0).trans rfl
                have hcz74_1 : wc.cell? ⟨gb234, 1, none⟩ = some (.int .i64 0) := (blk_cell BK234.out 1).trans rfl
                have hcz74_2 : wc.cell? ⟨gb234, 2, none⟩ = some (.int .i64 0) := (blk_cell BK234.out 2).trans rfl
                have hcz74_3 : wc.cell? ⟨gb234, 3, none⟩ = some (.slice none 0 0) := (blk_cell BK234.out 3).trans rfl
                have hfz74_0 := blk_frozen BK234.out 0
                have hfz74_1 := blk_frozen BK234.out 1
                have hfz74_2 := blk_frozen BK234.out 2
                have hfz74_3 := blk_frozen BK234.out 3
                go_wp2
                refine bodyPost_ret (results_ct rfl _ _ gb234 30 #[.int .i64 a0_0, .int .i64 a0_1, .int .i64 (wrap64 (a0_2 + a1_2)), .slice none 0 0] (0, 0) _ rfl (by (with_reducible repeat (first | refine blk_drewN ?_ _ | refine blk_drew ?_ | refine blk_alloc ?_ _)); refine blk_put (cs := #[.int .i64 a0_0, .int .i64 a0_1, .int .i64 (wrap64 (a0_2 + a1_2)), .slice none 0 0]) ?_ 3 _ rfl; (with_reducible repeat (first | refine blk_drewN ?_ _ | refine blk_drew ?_ | refine blk_alloc ?_ _)); refine blk_put (cs := #[.int .i64 a0_0, .int .i64 a0_1, .int .i64 0, .slice none 0 0]) ?_ 2 _ rfl; (with_reducible repeat (first | refine blk_drewN ?_ _ | refine blk_drew ?_ | refine blk_alloc ?_ _)); refine blk_put (cs := #[.int .i64 a0_0, .int .i64 0, .int .i64 0, .slice none 0 0]) ?_ 1 _ rfl; (with_reducible repeat (first | refine blk_drewN ?_ _ | refine blk_drew ?_ | refine blk_alloc ?_ _)); refine blk_put (cs := #[.int .i64 0, .int .i64 0, .int .i64 0, .slice none 0 0]) ?_ 0 _ rfl; (with_reducible repeat (first | refine blk_drewN ?_ _ | refine blk_drew ?_ | refine blk_alloc ?_ _)); exact BK234.out) Try.underlying30 rfl (by kernel_rfl)) rfl ?_
                exact ⟨_, by first | rfl | (simp [errW_none, errW_some] <;> rfl) | (simp [*, errW_none, errW_some] <;> rfl), by first | exact Kd.R_nil _ _ _ _ _ | exact Kd.N_nil _ _ _ _ _ | exact Kd.V_nil _ _ _ _ _ | exact Kd.Q_nil _ _ _ _ _ | exact Kd.S_nil _ _ _ _ _, by repeat (first | (with_reducible first | exact HB.out | apply below_alloc | apply pw_below_drewN | apply below_drew1 | refine below_set ?_ GE232.out | refine below_set ?_ GE233.out | refine below_set ?_ GE234.out) | exact HB.out)⟩
end Go.Proofs.Ytejcopppchaneaa.PF
end
section
set_option linter.unusedVariables false
set_option linter.unusedSimpArgs false
namespace Go.Proofs.Ytejcopppchaneaa.PF
open Go.RowKit Go.Proofs.YtejcopppchaneaaW.PrintWords Go.Proofs.YtejcopppchaneaaW.PrintLast Go.Proofs.YtejcopppchaneaaW.PrintMore Go.Proofs.Ytejcopppchaneaa.Pure
def lastOf (R : List S30) : S30 := if R.length = 0 then ⟨0, 0, 0, []⟩ else rd_T30 R ((R.length - 1 : Nat) : Int)
def LastPost (w : World) (x : S30) (e : Ending) (w' : World) : Prop := ∃ A3 c3, e = .returned (.agg #[.int .i64 x.f0, .int .i64 x.f1, .int .i64 x.f2, .slice A3 x.f3.length c3]) ∧ x.f3.length ≤ c3 ∧ Kd.C (Kd.int .i64) w' A3 x.f3.length x.f3 ∧ Below w.heap.size w w' 
set_option maxHeartbeats 16000000 in
set_option maxRecDepth 100000 in
theorem rlast.calls_ (A : Option Addr) (c : Nat) (R : List S30) (rest : ByteArray) (closed : Bool) (e0 : Int) (w : World) (hC : Kd.C k30 w A R.length R) (hc : R.length ≤ c) (hl : R.length ≤ 100000) (x : S30) (hx : lastOf R = x) :
    Calls Try.prog 39 #[.agg #[.slice A R.length c, .string rest, .bool closed, .int .i64 e0]] w (LastPost w x) := by
  have hu45 := Try.underlying45
  have hu30 := Try.underlying30
  have HC := Aside0.mk hC
  have HL := Aside0.mk hl
  have HX := Aside0.mk hx
  clear hC hc hl hx
  go_enter Try.func39, Try.ntmps39
  go_upto_region 1 with (first | ((with_reducible refine gate_dst (N := 1) rfl ?_); refine box_event ?hg (N := 1) ?hd (cs := #[.slice A R.length c, .string rest, .bool closed, .int .i64 e0]) (t := 45) ?hr ?_; (case hd => rfl); (case hg => rfl); (case hr => first | (go_simp; done) | (go_simp; rfl)); intro g1 hg_ w1 hbox hb; have G1 := Aside0.mk (show w.heap.size ≤ g1 by omega); clear hg_; have X1 := Aside0.mk hbox; have B1 := Aside0.mk hb; clear hbox hb; skip) | ((with_reducible refine gate_dst (N := 2) rfl ?_); refine box_event ?hg (N := 2) ?hd (cs := #[.int .i64 0, .int .i64 0, .int .i64 0, .slice none 0 0]) (t := 30) ?hr ?_; (case hd => rfl); (case hg => rfl); (case hr => first | (go_simp; done) | (go_simp; rfl)); intro g2 hg_ w2 hbox hb; have G2 := Aside0.mk (show w.heap.size ≤ g2 by have := B1.out.size; omega); have N2 := Aside0.mk (show g1 ≠ g2 by have := blk_lt X1.out; omega); clear hg_; have X2 := Aside0.mk (blk_below X1.out hb); have Y2 := Aside0.mk hbox; have B2 := Aside0.mk (below_step B1.out hb); clear hbox hb; obtain ⟨⟨i0, i1, i2, i3⟩, u0, u1, u2, u3⟩ := cell4 X2.out; obtain ⟨⟨k0, k1, k2, k3⟩, z0, z1, z2, z3⟩ := cell4 Y2.out) | fail)
  by_cases h0 : R.length = 0
  · have c1 : ((R.length : Int) == 0) = true := beq_iff_eq.mpr (by omega)
    have hx := HX.out
    rw [lastOf, if_pos h0] at hx
    subst hx
    clear h0
    go_wp2
    refine bodyPost_ret (results_cell_row rfl _ _ g2 30 #[.int .i64 0, .int .i64 0, .int .i64 0, .slice none 0 0] (0, 0) _ rfl (by exact blk4_put Y2.out) Try.underlying30 rfl (by kernel_rfl)) rfl ?_
    exact ⟨none, 0, rfl, Nat.le_refl _, Kd.C_nil _ _, below4_put B2.out G2.out⟩
  · have c1 : ((R.length : Int) == 0) = false := beq_eq_false_iff_ne.mpr (by omega)
    obtain ⟨m, hm⟩ : ∃ m, R.length = m + 1 := ⟨R.length - 1, by omega⟩
    have hw : IntKind.i64.wrap ((R.length : Int) - 1) = (m : Int) := (i64_w _).trans (by rw [hm]; have := HL.out; rw [jw64 (by omega) (by omega)]; omega)
    obtain ⟨ad, A3, c3, eA, hx0, hx1, hx2, hx3, hl3, hi3⟩ := at_T30 HC.out (m : Int) (by omega) (by omega)
    have hx := HX.out
    rw [lastOf, if_neg h0, show R.length - 1 = m by omega] at hx
    rw [hx] at hx0 hx1 hx2 hx3 hl3 hi3
    replace hx0 := pw_cell_below B2.out hx0
    replace hx1 := pw_cell_below B2.out hx1
    replace hx2 := pw_cell_below B2.out hx2
    replace hx3 := pw_cell_below B2.out hx3
    have HC3 := Aside0.mk hi3
    have HL3 := Aside0.mk hl3
    have HA := Aside0.mk eA
    have d1 := eq_true (show (0 : Int) ≤ (m : Int) by omega)
    have d2 := eq_true (show (m : Int) < (R.length : Int) by omega)
    have d3 : decide ((m : Int) < (R.length : Int)) = true := decide_eq_true (by omega)
    have d4 := eq_true (show m < R.length by omega)
    simp only [Int.toNat_natCast] at hx0 hx1 hx2 hx3
    clear h0 hx HX hl3 hi3
    subst eA
    clear hm
    go_wp2
    refine bodyPost_ret (results_cell_row rfl _ _ g2 30 #[.int .i64 x.f0, .int .i64 x.f1, .int .i64 x.f2, .slice A3 x.f3.length c3] (0, 0) _ rfl (by exact blk4_put Y2.out) Try.underlying30 rfl (by kernel_rfl)) rfl ?_
    exact ⟨A3, c3, rfl, HL3.out, Kd.C_below HC3.out (below4_put B2.out G2.out), below4_put B2.out G2.out⟩
theorem field30 (a b c : Int) (A : Option Addr) (n m : Nat) (w : World) : (Instr.field 30 (.agg #[.int .i64 a, .int .i64 b, .int .i64 c, .slice A n m]) 0).run Try.prog w = .ok (.int .i64 a) w := by
  have hu := Try.underlying30
  simp [Instr.field, go_sem, hu, asAgg]
set_option maxHeartbeats 16000000 in
set_option maxRecDepth 100000 in
theorem rEnded.calls_ (A : Option Addr) (c : Nat) (R : List S30) (rest : ByteArray) (closed : Bool) (e0 : Int) (w : World) (hC : Kd.C k30 w A R.length R) (hc : R.length ≤ c) (hl : R.length ≤ 100000) :
    Calls Try.prog 22 #[.agg #[.slice A R.length c, .string rest, .bool closed, .int .i64 e0]] w fun e w' => e = .returned (.bool ((lastOf R).f0 == 6)) ∧ Below w.heap.size w w' := by
  have hu45 := Try.underlying45
  have hu30 := Try.underlying30
  have HC := Aside0.mk hC
  have HL := Aside0.mk hl
  have HCC := Aside0.mk hc
  clear hC hc hl
  have hfd := field30
  go_enter Try.func22, Try.ntmps22
  go_upto_region 1 with (first | ((with_reducible refine gate_dst (N := 1) rfl ?_); refine box_event ?hg (N := 1) ?hd (cs := #[.slice A R.length c, .string rest, .bool closed, .int .i64 e0]) (t := 45) ?hr ?_; (case hd => rfl); (case hg => rfl); (case hr => first | (go_simp; done) | (go_simp; rfl)); intro g1 hg_ w1 hbox hb; have G1 := Aside0.mk (show w.heap.size ≤ g1 by omega); clear hg_; have X1 := Aside0.mk hbox; have B1 := Aside0.mk hb; clear hbox hb; skip) | fail)
  obtain ⟨⟨i0, i1, i2, i3⟩, u0, u1, u2, u3⟩ := cell4 X1.out
  go_wp2_with (first | (go_at_call 39; (refine (rlast.calls_ A c R rest closed e0 _ (Kd.C_below HC.out B1.out) HCC.out HL.out _ rfl).mono ?_); rintro e w2 ⟨A3, c3, rfl, h1, h2, hb⟩; have B2 := Aside0.mk (below_step B1.out hb); clear h1 h2 hb) | fail)
  go_ret
  exact ⟨rfl, B2.out⟩
set_option maxHeartbeats 16000000 in
set_option maxRecDepth 100000 in
theorem rfail.calls_ (A : Option Addr) (c : Nat) (R : List S30) (rest : ByteArray) (closed : Bool) (e0 : Int) (w : World) (e1 : Int) :
    Calls Try.prog 36 #[.agg #[.slice A R.length c, .string rest, .bool closed, .int .i64 e0], .int .i64 e1] w fun e w' => e = .returned (.tuple #[.agg #[.slice A R.length c, .string rest, .bool closed, .int .i64 e1], .bool false]) ∧ Below w.heap.size w w' := by
  have hu45 := Try.underlying45
  go_enter Try.func36, Try.ntmps36
  go_upto_region 1 with (first | ((with_reducible refine gate_dst (N := 2) rfl ?_); refine box_event ?hg (N := 2) ?hd (cs := #[.slice A R.length c, .string rest, .bool closed, .int .i64 e0]) (t := 45) ?hr ?_; (case hd => rfl); (case hg => rfl); (case hr => first | (go_simp; done) | (go_simp; rfl)); intro g1 hg_ w1 hbox hb; have G1 := Aside0.mk (show w.heap.size ≤ g1 by omega); clear hg_; have X1 := Aside0.mk hbox; have B1 := Aside0.mk hb; clear hbox hb; skip) | ((with_reducible refine gate_dst (N := 4) rfl ?_); refine box_event ?hg (N := 4) ?hd (cs := #[.slice none 0 0, .string ⟨#[]⟩, .bool false, .int .i64 0]) (t := 45) ?hr ?_; (case hd => rfl); (case hg => rfl); (case hr => first | (go_simp; done) | (go_simp; rfl)); intro g2 hg_ w2 hbox hb; have G2 := Aside0.mk (show w.heap.size ≤ g2 by have := B1.out.size; omega); have N2 := Aside0.mk (show g1 ≠ g2 by have := blk_lt X1.out; omega); clear hg_; have X2 := Aside0.mk (blk_below X1.out hb); have Y2 := Aside0.mk hbox; have B2 := Aside0.mk (below_step B1.out hb); clear hbox hb; obtain ⟨⟨i0, i1, i2, i3⟩, u0, u1, u2, u3⟩ := cell4 X2.out; obtain ⟨⟨k0, k1, k2, k3⟩, z0, z1, z2, z3⟩ := cell4 Y2.out) | fail)
  have hne := N2.out
  go_wp2
  refine bodyPost_ret (results_ct rfl _ _ g2 45 #[.slice A R.length c, .string rest, .bool closed, .int .i64 e1] (0, 0) _ rfl (by exact blk4_put (far8 Y2.out (Ne.symm hne) 3 _)) Try.underlying45 rfl (by kernel_rfl)) rfl ?_
  exact ⟨rfl, below4_put (B2.out.setCell (p := ⟨g1, 3, none⟩) G1.out _) G2.out⟩
end Go.Proofs.Ytejcopppchaneaa.PF
end
section
namespace Go.Proofs.Ytejcopppchaneaa.Pure
open Go.RowKit Go.Proofs.YtejcopppchaneaaW.PrintWords Go.Proofs.YtejcopppchaneaaW.PrintLast Go.Proofs.YtejcopppchaneaaW.PrintMore Go.Proofs.Ytejcopppchaneaa.PF
theorem ris_is (n : Int) : juratref03_Is.f n = some (isR n) := by
  unfold juratref03_Is.f isR
  by_cases h : n ≥ 0
  · rw [if_pos h]; congr 1; simp; omega
  · rw [if_neg h]; congr 1; simp; omega
end Go.Proofs.Ytejcopppchaneaa.Pure
end
section
namespace Go.Proofs.Ytejcopppchaneaa.Pure
open Go.RowKit Go.Proofs.YtejcopppchaneaaW.PrintWords Go.Proofs.YtejcopppchaneaaW.PrintLast Go.Proofs.YtejcopppchaneaaW.PrintMore Go.Proofs.Ytejcopppchaneaa.PF
def lead : List Int → Nat
  | [] => 0
  | c :: l => if c < 128 then 0 else lead l + 1
def valL : List Int → Int
  | [] => 0
  | c :: l => c % 128 + 128 * valL l
theorem lead_le : ∀ l : List Int, lead l ≤ l.length
  | [] => Nat.le_refl _
  | c :: l => by
    simp only [lead]
    split
    · omega
    · have := lead_le l; simp; omega
theorem valL_bound : ∀ l : List Int, 0 ≤ valL l ∧ valL l < 128 ^ l.length
  | [] => by simp [valL]
  | c :: l => by
    have := valL_bound l
    simp only [valL, List.length_cons, Int.pow_succ]
    omega
theorem vt_rt : ∀ (r : Nat) (l : List Int), r ≤ 9 → IsB l → vt r l = if r ≤ lead l then (0, 0, 5) else if lead l = l.length then (0, 0, 4) else if l.getD (lead l) 0 = 0 ∧ (0 < lead l ∨ r < 9) then (0, 0, 3) else (valL (l.take (lead l + 1)), (lead l : Int) + 1, 0) := by
  intro r
  induction r with
  | zero => intro l _ _; rw [if_pos (by omega)]; rfl
  | succ r ih =>
    intro l hr hb
    cases l with
    | nil => rw [show lead ([] : List Int) = 0 from rfl, if_neg (by omega), if_pos (show (0 : Nat) = ([] : List Int).length from rfl)]; rfl
    | cons c l =>
      have hc := (isB_cons hb).1
      by_cases h1 : c < 128
      · have hz : lead (c :: l) = 0 := by simp only [lead]; rw [if_pos h1]
        rw [hz, if_neg (by omega), if_neg (by simp), show (c :: l).getD 0 0 = c from rfl]
        simp only [vt]
        rw [if_pos h1]
        by_cases h2 : c = 0 ∧ r < 8
        · rw [if_pos h2, if_pos ⟨h2.1, by omega⟩]
        · rw [if_neg h2, if_neg (fun h => h2 ⟨h.1, by omega⟩)]
          refine Prod.ext ?_ rfl
          simp [valL]; omega
      · have hz : lead (c :: l) = lead l + 1 := by simp only [lead]; rw [if_neg h1]
        have := ih l (by omega) (isB_cons hb).2
        rw [hz, show (c :: l).getD (lead l + 1) 0 = l.getD (lead l) 0 from rfl]
        have hv : vt (r + 1) (c :: l) = if (vt r l).2.2 = 0 then (c % 128 + 128 * (vt r l).1, (vt r l).2.1 + 1, 0) else (0, 0, (vt r l).2.2) := by
          simp only [vt]; rw [if_neg h1]
        rw [hv]
        by_cases h2 : r ≤ lead l
        · rw [if_pos h2] at this
          rw [this, if_neg (show ¬ ((5 : Int) = 0) by decide), if_pos (show r + 1 ≤ lead l + 1 by omega)]
        · rw [if_neg h2] at this
          rw [if_neg (show ¬ (r + 1 ≤ lead l + 1) by omega)]
          by_cases h3 : lead l = l.length
          · rw [if_pos h3] at this
            rw [this, if_neg (show ¬ ((4 : Int) = 0) by decide), if_pos (show lead l + 1 = (c :: l).length by simp; exact h3)]
          · rw [if_neg h3] at this
            rw [if_neg (show ¬ (lead l + 1 = (c :: l).length) by simp; exact h3)]
            by_cases h4 : l.getD (lead l) 0 = 0
            · rw [if_pos ⟨h4, by omega⟩] at this
              rw [this, if_neg (show ¬ ((3 : Int) = 0) by decide), if_pos (show l.getD (lead l) 0 = 0 ∧ (0 < lead l + 1 ∨ r + 1 < 9) from ⟨h4, by omega⟩)]
            · rw [if_neg (fun h => h4 h.1)] at this
              rw [this, if_pos rfl, if_neg (fun h => h4 h.1)]
              refine Prod.ext ?_ (Prod.ext ?_ rfl)
              · simp [valL]
              · simp only; omega
theorem lead_at : ∀ (l : List Int) (i : Nat), i < lead l → 128 ≤ l.getD i 0
  | [], i, h => by simp [lead] at h
  | c :: l, i, h => by
    simp only [lead] at h
    split at h
    · omega
    · cases i with
      | zero => simp; omega
      | succ i => simp only [List.getD_cons_succ]; exact lead_at l i (by omega)
theorem lead_stop : ∀ (l : List Int), lead l < l.length → l.getD (lead l) 0 < 128
  | [], h => by simp at h
  | c :: l, h => by
    simp only [lead] at h ⊢
    split
    · simp; omega
    · rename_i h1
      rw [if_neg h1] at h
      simp only [List.getD_cons_succ]
      exact lead_stop l (by simp at h; omega)
theorem bt_getD (s : ByteArray) (i : Nat) : bt s (i : Int) = (bytesOf s).getD i 0 := by rw [← rd_bytesOf]; rfl
theorem rtake_l1 (s : ByteArray) (p : Nat) (hp : p < s.size) (hp8 : p ≤ 8) : ∀ (d k : Nat), d ≤ p + 1 → d < k →
    juratref02_Take.l1 k s (p : Int) (valL (((bytesOf s).take (p + 1)).drop d)) ((d : Int) - 1) = some (valL ((bytesOf s).take (p + 1)), (p : Int) + 1, 0) := by
  intro d
  induction d with
  | zero =>
    intro k _ hk
    obtain ⟨k, rfl⟩ : ∃ m, k = m + 1 := ⟨k - 1, by omega⟩
    rw [juratref02_Take.l1, if_neg (by omega), List.drop_zero, jw64 (by omega) (by omega)]
  | succ d ih =>
    intro k hd hk
    obtain ⟨k, rfl⟩ : ∃ m, k = m + 1 := ⟨k - 1, by omega⟩
    have e0 : (((d + 1 : Nat) : Int) - 1) = (d : Int) := by omega
    have hc := bt_range s (d : Int)
    have hlen : ((bytesOf s).take (p + 1)).length = p + 1 := by rw [List.length_take, bytesOf_length]; omega
    have hb := valL_bound (((bytesOf s).take (p + 1)).drop (d + 1))
    rw [List.length_drop, hlen] at hb
    have hle : (128 : Int) ^ (p + 1 - (d + 1)) ≤ 128 ^ 8 := by
      have h3 : (128 : Nat) ^ (p + 1 - (d + 1)) ≤ 128 ^ 8 := Nat.pow_le_pow_right (by decide) (by omega)
      have h4 : ((128 ^ (p + 1 - (d + 1)) : Nat) : Int) ≤ ((128 ^ 8 : Nat) : Int) := by exact_mod_cast h3
      rwa [Int.natCast_pow, Int.natCast_pow] at h4
    have hstep : ((bytesOf s).take (p + 1)).drop d = bt s (d : Int) :: ((bytesOf s).take (p + 1)).drop (d + 1) := by
      rw [List.drop_eq_getElem_cons (by omega)]
      congr 1
      rw [List.getElem_take, bt_get s d (by omega)]
    have := ih k (by omega) (by omega)
    rw [hstep] at this
    simp only [valL] at this
    rw [e0, juratref02_Take.l1, if_pos (by omega), if_pos (by omega), if_pos (by omega)]
    rw [jw64 (n := bt s (d : Int)) (by omega) (by omega), Int.tmod_eq_emod_of_nonneg hc.1, jw64 (n := valL _ * 128) (by omega) (by omega), jw64 (n := (d : Int) - 1) (by omega) (by omega)]
    rw [jw64 (by omega) (by omega), Int.mul_comm _ 128, Int.add_comm]
    exact this
theorem rtake_j1 (s : ByteArray) (p : Nat) (hp : p = lead (bytesOf s)) : Ev (fun k => juratref02_Take.j1 k s (p : Int)) (vt 9 (bytesOf s)) := by
  have hb := isB_bytesOf s
  have hle := lead_le (bytesOf s)
  rw [vt_rt 9 _ (by omega) hb, ← hp]
  rw [bytesOf_length] at hle ⊢
  by_cases h9 : 9 ≤ p
  · rw [if_pos h9]
    exact ev_add 1 (fun k => by rw [juratref02_Take.j1, if_pos (by omega)])
  · rw [if_neg h9]
    by_cases hs : p = s.size
    · rw [if_pos hs]
      exact ev_add 1 (fun k => by rw [juratref02_Take.j1, if_neg (by omega), if_pos (by omega)])
    · rw [if_neg hs]
      have hc : (bytesOf s).getD p 0 = bt s (p : Int) := (bt_getD s p).symm
      rw [hc]
      have hl1 : ∀ b : Bool, b = false → Ev (fun k => juratref02_Take.j2 k s (p : Int) b) (valL ((bytesOf s).take (p + 1)), (p : Int) + 1, 0) := by
        rintro b rfl
        refine Ev.step (fun k => by rw [juratref02_Take.j2, if_neg (by decide)]) ?_
        refine ⟨p + 2, fun k hk => ?_⟩
        have := rtake_l1 s p (by omega) (by omega) (p + 1) k (by omega) (by omega)
        rw [List.drop_eq_nil_of_le (by rw [List.length_take]; omega), show (((p + 1 : Nat) : Int) - 1) = (p : Int) by omega] at this
        exact this
      by_cases h0 : bt s (p : Int) = 0
      · refine Ev.step (fun k => by rw [juratref02_Take.j1, if_neg (by omega), if_neg (by omega), if_pos (by omega), if_pos (by omega), if_pos h0]) ?_
        by_cases hp0 : 0 < p
        · rw [if_pos ⟨h0, by omega⟩]
          exact ev_add 1 (fun k => by rw [juratref02_Take.j2, if_pos (by simp; omega)])
        · rw [if_neg (fun h => by omega)]
          exact hl1 _ (by simp; omega)
      · rw [if_neg (fun h => h0 h.1)]
        refine Ev.step (fun k => by rw [juratref02_Take.j1, if_neg (by omega), if_neg (by omega), if_pos (by omega), if_pos (by omega), if_neg h0]) ?_
        exact hl1 _ rfl
theorem rtake_l0 (s : ByteArray) (hs : s.size ≤ 140737488351232) : ∀ (d i : Nat), i + d = lead (bytesOf s) → Ev (fun k => juratref02_Take.l0 k s (i : Int)) (vt 9 (bytesOf s)) := by
  have hle := lead_le (bytesOf s)
  rw [bytesOf_length] at hle
  intro d
  induction d with
  | zero =>
    intro i hi
    by_cases hl : i < s.size
    · have hst := lead_stop (bytesOf s) (by rw [bytesOf_length]; omega)
      rw [← bt_getD] at hst
      refine Ev.step (fun k => by rw [juratref02_Take.l0, if_pos (by omega), if_pos (by omega), if_neg (by rw [show i = lead (bytesOf s) by omega]; omega)]) ?_
      exact rtake_j1 s i (by omega)
    · refine Ev.step (fun k => by rw [juratref02_Take.l0, if_neg (by omega)]) ?_
      exact rtake_j1 s i (by omega)
  | succ d ih =>
    intro i hi
    have hat := lead_at (bytesOf s) i (by omega)
    rw [← bt_getD] at hat
    refine Ev.step (fun k => by rw [juratref02_Take.l0, if_pos (by omega), if_pos (by omega), if_pos (by omega), jw64 (n := (i : Int) + 1) (by omega) (by omega), show (i : Int) + 1 = ((i + 1 : Nat) : Int) from rfl]) ?_
    exact ih (i + 1) (by omega)
theorem rtake_ev (s : ByteArray) (hs : s.size ≤ 140737488351232) : Ev (fun k => juratref02_Take.f k s) (vt 9 (bytesOf s)) := rtake_l0 s hs (lead (bytesOf s)) 0 (by omega)
end Go.Proofs.Ytejcopppchaneaa.Pure
end
section
namespace Go.Proofs.Ytejcopppchaneaa.Pure
open Go.RowKit Go.Proofs.YtejcopppchaneaaW.PrintWords Go.Proofs.YtejcopppchaneaaW.PrintLast Go.Proofs.YtejcopppchaneaaW.PrintMore Go.Proofs.Ytejcopppchaneaa.PF
theorem size_extract' (s : ByteArray) (i j : Nat) (h : j ≤ s.size) : (s.extract i j).size = j - i := by rw [ByteArray.size_extract]; omega
theorem wrap_bt (s : ByteArray) (i : Int) : wrap64 (bt s i) = bt s i := by have := bt_range s i; exact jw64 (by omega) (by omega)
def rres (acc : List Int) (p : Int) (q : List Int × Int × Int) : List Int × Int × Int := if q.2.2 = 0 then (acc ++ q.1, p + q.2.1, 0) else ([], 0, q.2.2)
theorem rres_no (acc : List Int) (p e : Int) (l : List Int) (j : Int) (h : e ≠ 0) : rres acc p (l, j, e) = ([], 0, e) := by unfold rres; rw [if_neg h]
theorem rres_step (acc : List Int) (x p j : Int) (Q : List Int × Int × Int) : rres (acc ++ [x]) (p + j) Q = rres acc p (if Q.2.2 = 0 then (x :: Q.1, j + Q.2.1, 0) else ([], 0, Q.2.2)) := by
  unfold rres
  by_cases h : Q.2.2 = 0
  · simp [h, Int.add_assoc]
  · simp [h]
theorem rids_go (s : ByteArray) (hs : s.size ≤ 1000000) (n : Int) (hn : n ≤ 65535) : ∀ (m : Nat) (ah : Int) (acc : List Int) (p : Nat), (acc.length : Int) + m = n → p ≤ s.size → 0 ≤ ah → ah ≤ 65534 → (acc = [] ∧ ah = 0 ∨ 0 < acc.length ∧ rd acc ((acc.length : Int) - 1) = ah) →
    Ev (fun k => juratref28_ids.l0 k s n acc (p : Int)) (rres acc (p : Int) (idsL m ah (decide (acc.length = 0)) ((bytesOf s).drop p))) := by
  intro m
  induction m with
  | zero =>
    intro ah acc p hi hp h0 h1 hA
    refine ev_add 1 (fun k => ?_)
    rw [juratref28_ids.l0, if_neg (by omega)]
    simp [idsL, rres]
  | succ m ih =>
    intro ah acc p hi hp h0 h1 hA
    simp only [idsL]
    have hok := vt_at s p
    have hdd : ∀ j : Nat, ((bytesOf s).drop p).drop j = (bytesOf s).drop (p + j) := fun j => by rw [List.drop_drop]
    have hrt := rtake_ev (s.extract p s.size) (by rw [size_extract' _ _ _ (Nat.le_refl _)]; omega)
    rw [bytes_from] at hrt
    generalize hv : vt 9 ((bytesOf s).drop p) = v at hrt hok ⊢
    obtain ⟨d, j, e⟩ := v
    simp only at hrt hok ⊢
    have hbig : acc.length < 17592186044416 := by omega
    refine Ev.step (fun k => by rw [juratref28_ids.l0, if_pos (by omega), if_pos (by omega), if_pos (by omega), Int.toNat_natCast]) ?_
    refine Ev.bind hrt ?_
    by_cases he : e = 0
    · have hok := hok he
      simp only [if_pos he]
      have hnext : d ≤ 65534 - ah → Ev (fun k => juratref28_ids.l0 k s n (acc ++ [ah + d]) (wrap64 ((p : Int) + j))) (rres acc (p : Int) (if (idsL m (ah + d) false (((bytesOf s).drop p).drop j.toNat)).2.2 = 0 then ((ah + d) :: (idsL m (ah + d) false (((bytesOf s).drop p).drop j.toNat)).1, j + (idsL m (ah + d) false (((bytesOf s).drop p).drop j.toNat)).2.1, 0) else ([], 0, (idsL m (ah + d) false (((bytesOf s).drop p).drop j.toNat)).2.2))) := by
        intro hd
        have := ih (ah + d) (acc ++ [ah + d]) (p + j.toNat) (by rw [List.length_append]; simp; omega) (by omega) (by omega) (by omega) (.inr ⟨by rw [List.length_append]; simp, by
          have hx : (((acc ++ [ah + d]).length : Nat) : Int) - 1 = ((acc.length : Nat) : Int) := by rw [List.length_append]; simp
          rw [hx, rd_get _ _ (by rw [List.length_append]; simp)]
          simp⟩)
        have hf : decide ((acc ++ [ah + d]).length = 0) = false := decide_eq_false (by rw [List.length_append]; simp)
        have hpj : ((p + j.toNat : Nat) : Int) = (p : Int) + j := by omega
        rw [hf, ← hdd, hpj, rres_step] at this
        rw [jw64 (n := (p : Int) + j) (by omega) (by omega)]
        exact this
      rcases hA with ⟨ha, h00⟩ | ⟨ha, hr⟩
      · subst ha h00
        refine Ev.congr (fun k => by rw [if_neg (by simp)]) ?_
        simp only [List.length_nil, Int.sub_zero, Int.zero_add] at hnext ⊢
        rw [if_neg (show ¬ (d = 0 ∧ decide True = false) from fun h => absurd h.2 (by decide))]
        by_cases h11 : 65534 < d
        · rw [if_pos h11, rres_no _ _ _ _ _ (by decide)]
          exact ev_is (fun k => by rw [if_pos h11])
        · rw [if_neg h11]
          refine Ev.congr (fun k => by rw [if_neg h11, if_pos (by decide), jw64 (n := d) (by omega) (by omega)]) ?_
          exact hnext (by omega)
      · have hn0 : acc.length ≠ 0 := by omega
        have hf : decide (acc.length = 0) = false := decide_eq_false hn0
        rw [hf]
        have hw : wrap64 ((acc.length : Int) - 1) = (acc.length : Int) - 1 := jw64 (by omega) (by omega)
        refine Ev.congr (fun k => by rw [if_pos (by omega)]) ?_
        by_cases h9 : d = 0
        · rw [if_pos (show d = 0 ∧ false = false from ⟨h9, rfl⟩), rres_no _ _ _ _ _ (by decide)]
          exact ev_is (fun k => by rw [if_pos h9])
        · rw [if_neg (show ¬ (d = 0 ∧ false = false) from fun h => h9 h.1)]
          refine Ev.congr (fun k => by rw [if_neg h9, hw, if_pos (by omega), if_pos (by omega), hr, jw64 (n := 65534 - ah) (by omega) (by omega)]) ?_
          by_cases h11 : 65534 - ah < d
          · rw [if_pos h11, rres_no _ _ _ _ _ (by decide)]
            exact ev_is (fun k => by rw [if_pos h11])
          · rw [if_neg h11]
            refine Ev.congr (fun k => by rw [if_neg h11, if_pos hbig, jw64 (n := ah + d) (by omega) (by omega)]) ?_
            exact hnext (by omega)
    · simp only [if_neg he]
      rw [rres_no _ _ _ _ _ he]
      exact Ev.now _
theorem rec_rids_ev (s : ByteArray) (hs : s.size ≤ 1000000) (h1 : 1 ≤ s.size) : Ev (fun k => (juratref28_ids.f k s).bind fun q => if q.2.2 = 0 then some ((4, 0, 0, q.1, q.2.1, 0) : RT) else some (0, 0, 0, [], 0, q.2.2)) (rtI ((bytesOf s).drop 1)) := by
  unfold juratref28_ids.f rtI
  have hok := vt_at s 1
  have hdd : ∀ j : Nat, ((bytesOf s).drop 1).drop j = (bytesOf s).drop (1 + j) := fun j => by rw [List.drop_drop]
  have hrt := rtake_ev (s.extract 1 s.size) (by rw [size_extract' _ _ _ (Nat.le_refl _)]; omega)
  rw [bytes_from] at hrt
  have h1' : (1 : Int) ≤ (s.size : Int) := by omega
  simp only [if_pos h1']
  generalize hv : vt 9 ((bytesOf s).drop 1) = v at hrt hok ⊢
  obtain ⟨d, j, e⟩ := v
  simp only at hrt hok ⊢
  by_cases he : e = 0
  · have hok := hok he
    simp only [if_pos he]
    by_cases h6 : 65535 < d
    · simp only [if_pos h6]
      refine Ev.bind (a := (([] : List Int), 0, 6)) ?_ (ev_is (fun k => by rw [if_neg (by decide)]; rfl))
      refine Ev.bind hrt ?_
      exact ev_is (fun k => by rw [if_pos he, if_pos h6])
    · simp only [if_neg h6]
      have := rids_go s hs d (by omega) d.toNat 0 [] (1 + j.toNat) (by simp; omega) (by omega) (by omega) (by omega) (.inl ⟨rfl, rfl⟩)
      have hf : decide (([] : List Int).length = 0) = true := rfl
      have hpj : ((1 + j.toNat : Nat) : Int) = 1 + j := by omega
      rw [hf, ← hdd, hpj] at this
      generalize idsL d.toNat 0 true (((bytesOf s).drop 1).drop j.toNat) = Q at this ⊢
      refine Ev.bind (a := rres [] (1 + j) Q) (Ev.bind hrt ?_) ?_
      · simp only [if_pos he, if_neg h6]
        rw [jw64 (n := 1 + j) (by omega) (by omega)]
        exact this
      · unfold rres
        by_cases hq : Q.2.2 = 0
        · simp only [if_pos hq]
          exact Ev.now _
        · simp only [if_neg hq]
          exact Ev.now _
  · simp only [if_neg he]
    refine Ev.bind (a := (([] : List Int), 0, e)) ?_ (ev_is (fun k => by rw [if_neg he]; rfl))
    refine Ev.bind hrt ?_
    exact ev_is (fun k => by rw [if_neg he])
theorem rec_rj1_ev (s : ByteArray) (hs : s.size ≤ 1000000) (c d j : Int) (hj : 0 ≤ j) (hj1 : 1 + j ≤ s.size) :
    Ev (fun k => juratref28_Take.j1 k s c d j false) (if (vt 9 (((bytesOf s).drop 1).drop j.toNat)).2.2 = 0 then (if goodN c (vt 9 (((bytesOf s).drop 1).drop j.toNat)).1 = true then ((c, d, (vt 9 (((bytesOf s).drop 1).drop j.toNat)).1, [], 1 + j + (vt 9 (((bytesOf s).drop 1).drop j.toNat)).2.1, 0) : RT) else er 11) else er (vt 9 (((bytesOf s).drop 1).drop j.toNat)).2.2) := by
  have hok := vt_at s (1 + j.toNat)
  have hrt := rtake_ev (s.extract (1 + j.toNat) s.size) (by rw [size_extract' _ _ _ (Nat.le_refl _)]; omega)
  rw [bytes_from] at hrt
  rw [List.drop_drop]
  have hw : wrap64 (1 + j) = 1 + j := jw64 (by omega) (by omega)
  refine Ev.step (fun k => by rw [juratref28_Take.j1, if_neg (by decide), hw, if_pos (by omega), if_pos (by omega), show (1 + j).toNat = 1 + j.toNat by omega]) ?_
  generalize hv : vt 9 ((bytesOf s).drop (1 + j.toNat)) = v at hrt hok ⊢
  obtain ⟨d2, j2, e2⟩ := v
  simp only at hrt hok ⊢
  refine Ev.bind hrt ?_
  by_cases he : e2 = 0
  · have hok := hok he
    simp only [if_pos he]
    have hw2 : wrap64 (1 + j + j2) = 1 + j + j2 := jw64 (by omega) (by omega)
    refine Ev.congr (fun k => by rw [ris_is, Option.bind_some]) ?_
    unfold goodN
    cases hR : isR d2 with
    | false =>
      rw [Bool.false_and]
      exact ev_is (fun k => rfl)
    | true =>
      rw [Bool.true_and]
      refine Ev.congr (fun k => by rw [if_pos rfl]) ?_
      have hR' : 0 ≤ d2 ∧ d2 ≤ 4611686018427387903 := by simpa [isR] using hR
      by_cases h4 : c < 4
      · by_cases h0 : d2 = 0
        · rw [decide_eq_false (show ¬ (c < 4 → 0 < d2) from fun h => by have := h h4; omega)]
          exact ev_is (fun k => by rw [if_pos h4, if_pos h0]; rfl)
        · rw [decide_eq_true (show c < 4 → 0 < d2 from fun _ => by omega), if_pos rfl]
          exact ev_is (fun k => by rw [if_pos h4, if_neg h0, hw2])
      · rw [decide_eq_true (show c < 4 → 0 < d2 from fun h => absurd h h4), if_pos rfl]
        exact ev_is (fun k => by rw [if_neg h4, hw2])
  · simp only [if_neg he]
    exact Ev.now _
theorem rec_rnums_ev (s : ByteArray) (hs : s.size ≤ 1000000) (h1 : 1 ≤ s.size) (c : Int) :
    Ev (fun k => (juratref02_Take.f k (s.extract 1 s.size)).bind fun bt232 => (if bt232.2.2 = 0 then ((juratref03_Is.f bt232.1).bind fun t235 => (if t235 = true then (if c < 4 then (juratref28_Take.j1 k s c bt232.1 bt232.2.1 (bt232.1 == 0)) else (juratref28_Take.j1 k s c bt232.1 bt232.2.1 false)) else (juratref28_Take.j1 k s c bt232.1 bt232.2.1 true))) else (some (0, 0, 0, ([] : List Int), 0, bt232.2.2)))) (rtN c ((bytesOf s).drop 1)) := by
  unfold rtN
  have hok := vt_at s 1
  have hrt := rtake_ev (s.extract 1 s.size) (by rw [size_extract' _ _ _ (Nat.le_refl _)]; omega)
  rw [bytes_from] at hrt
  refine Ev.bind hrt ?_
  generalize hv : vt 9 ((bytesOf s).drop 1) = v at hok ⊢
  obtain ⟨d, j, e⟩ := v
  simp only at hok ⊢
  have hbad : ∀ b : Bool, b = true → Ev (fun k => juratref28_Take.j1 k s c d j b) (er 11) := by
    rintro b rfl
    exact ev_add 1 (fun k => by rw [juratref28_Take.j1, if_pos rfl]; rfl)
  by_cases he : e = 0
  · have hok := hok he
    simp only [if_pos he]
    refine Ev.congr (fun k => by rw [ris_is, Option.bind_some]) ?_
    have hgood := rec_rj1_ev s hs c d j (by omega) (by omega)
    cases hR : isR d with
    | false =>
      have hg : goodN c d = false := by unfold goodN; rw [hR, Bool.false_and]
      rw [hg, if_neg (show ¬ (false = true) by decide)]
      exact hbad true rfl
    | true =>
      have hR' : 0 ≤ d ∧ d ≤ 4611686018427387903 := by simpa [isR] using hR
      refine Ev.congr (fun k => by rw [if_pos rfl]) ?_
      by_cases h4 : c < 4
      · refine Ev.congr (fun k => by rw [if_pos h4]) ?_
        by_cases h0 : d = 0
        · have hg : goodN c d = false := by unfold goodN; rw [hR, Bool.true_and]; exact decide_eq_false (fun h => by have := h h4; omega)
          rw [hg, if_neg (show ¬ (false = true) by decide)]
          exact hbad _ (beq_iff_eq.mpr h0)
        · have hg : goodN c d = true := by unfold goodN; rw [hR, Bool.true_and]; exact decide_eq_true (fun _ => by omega)
          rw [hg, if_pos rfl]
          have hb : (d == 0) = false := beq_eq_false_iff_ne.mpr h0
          rw [hb]
          exact hgood
      · refine Ev.congr (fun k => by rw [if_neg h4]) ?_
        have hg : goodN c d = true := by unfold goodN; rw [hR, Bool.true_and]; exact decide_eq_true (fun h => absurd h h4)
        rw [hg, if_pos rfl]
        exact hgood
  · simp only [if_neg he]
    exact Ev.now _
theorem rrec_take_ev (s : ByteArray) (hs : s.size ≤ 1000000) : Ev (fun k => juratref28_Take.f k s) (rt s) := by
  have hbr := bt_range s 0
  unfold juratref28_Take.f rt
  rw [wrap_bt]
  by_cases h0 : s.size = 0
  · rw [if_pos h0]
    exact ev_is (fun k => by rw [if_pos (by omega)]; rfl)
  · rw [if_neg h0]
    refine Ev.congr (fun k => by rw [if_neg (by omega), if_pos (by omega)]) ?_
    generalize bt s 0 = c
    have hj : ∀ b : Bool, b = true → Ev (fun k => juratref28_Take.j0 k s c b) (er 3) := by
      rintro b rfl
      exact ev_add 1 (fun k => by rw [juratref28_Take.j0, if_pos rfl]; rfl)
    by_cases h1 : c < 1
    · rw [if_pos (.inl h1)]
      exact Ev.congr (fun k => by rw [if_pos h1]) (hj true rfl)
    · refine Ev.congr (fun k => by rw [if_neg h1]) ?_
      by_cases h6 : c > 6
      · rw [if_pos (.inr h6)]
        exact hj _ (decide_eq_true h6)
      · rw [if_neg (by omega), decide_eq_false h6]
        refine Ev.step (fun k => by rw [juratref28_Take.j0, if_neg (by decide)]) ?_
        by_cases h4 : c = 4
        · rw [if_pos h4]
          refine Ev.congr (fun k => by rw [if_pos h4]) ?_
          exact rec_rids_ev s hs (by omega)
        · rw [if_neg h4]
          refine Ev.congr (fun k => by rw [if_neg h4, if_pos (by omega)]) ?_
          exact rec_rnums_ev s hs (by omega) c
theorem same_ev (l m : List Int) (hl : l.length ≤ 1000000000) : Ev (fun k => juratref01_Same.f k l m) (decide (l = m)) := by
  unfold juratref01_Same.f
  by_cases h : l.length = m.length
  · refine Ev.congr (fun k => by rw [if_pos (by omega)]) ?_
    have key : ∀ (d i : Nat), i + d = l.length → Ev (fun k => juratref01_Same.l0 k l m (i : Int)) (decide (l.drop i = m.drop i)) := by
      intro d
      induction d with
      | zero =>
        intro i hi
        rw [List.drop_eq_nil_of_le (by omega), List.drop_eq_nil_of_le (by omega), decide_eq_true rfl]
        exact ev_add 1 (fun k => by rw [juratref01_Same.l0, if_neg (by omega)])
      | succ d ih =>
        intro i hi
        have h1 : i < l.length := by omega
        have h2 : i < m.length := by omega
        rw [List.drop_eq_getElem_cons h1, List.drop_eq_getElem_cons h2]
        refine Ev.step (fun k => by rw [juratref01_Same.l0, if_pos (by omega), if_pos (by omega), if_pos (by omega), rd_get l i h1, rd_get m i h2]) ?_
        by_cases he : l[i] = m[i]
        · refine Ev.congr (fun k => by rw [if_pos he, jw64 (n := (i : Int) + 1) (by omega) (by omega)]) ?_
          have := ih (i + 1) (by omega)
          rw [he]
          simp only [List.cons.injEq, true_and]
          exact this
        · refine ev_is (fun k => by rw [if_neg he]; congr 1; exact (decide_eq_false (fun h => he (by injection h))).symm)
    exact key l.length 0 (by omega)
  · refine ev_is (fun k => by rw [if_neg (by omega)]; congr 1; exact (decide_eq_false (fun e => h (by rw [e]))).symm)
end Go.Proofs.Ytejcopppchaneaa.Pure
end
section
namespace Go.Proofs.Ytejcopppchaneaa.Pure
open Go.RowKit Go.Proofs.YtejcopppchaneaaW.PrintWords Go.Proofs.YtejcopppchaneaaW.PrintLast Go.Proofs.YtejcopppchaneaaW.PrintMore Go.Proofs.Ytejcopppchaneaa.PF
theorem rtwo_false (k : Nat) (a b c : Int) (d : List Int) (a' b' c' : Int) (d' : List Int) : juratref27_Two.j0 (k + 1) true a b c d a' b' c' d' = some (0, 0, 0, [], false) := by rw [juratref27_Two.j0, if_pos rfl]
theorem rtwo_ev (a b : S30) (ha : okR a) (hb : okR b) : Ev (fun k => juratref27_Two.f k a.f0 a.f1 a.f2 a.f3 b.f0 b.f1 b.f2 b.f3) (twoS a b) := by
  obtain ⟨_, _, h2, h3⟩ := ha
  obtain ⟨_, _, g2, g3⟩ := hb
  unfold juratref27_Two.f
  have neg : cmb a b = false → twoS a b = (0, 0, 0, [], false) := fun h => by unfold twoS; rw [if_neg (by rw [h]; decide)]
  by_cases c1 : a.f0 < 1
  · rw [neg (by unfold cmb; rw [decide_eq_false_iff_not]; omega)]
    exact Ev.congr (fun k => by rw [if_pos c1]) (ev_add 1 (fun k => rtwo_false ..))
  refine Ev.congr (fun k => by rw [if_neg c1]) ?_
  by_cases c2 : a.f0 > 3
  · rw [neg (by unfold cmb; rw [decide_eq_false_iff_not]; omega)]
    exact Ev.congr (fun k => by rw [if_pos c2]) (ev_add 1 (fun k => rtwo_false ..))
  refine Ev.congr (fun k => by rw [if_neg c2]) ?_
  by_cases c3 : b.f0 ≠ a.f0
  · rw [neg (by unfold cmb; rw [decide_eq_false_iff_not]; rintro ⟨_, _, h, _⟩; exact c3 h.symm)]
    exact Ev.congr (fun k => by rw [if_neg c3]) (ev_add 1 (fun k => rtwo_false ..))
  replace c3 : b.f0 = a.f0 := by omega
  refine Ev.congr (fun k => by rw [if_pos c3]) ?_
  by_cases c4 : b.f1 ≠ a.f1
  · rw [neg (by unfold cmb; rw [decide_eq_false_iff_not]; rintro ⟨_, _, _, h, _⟩; exact c4 h.symm)]
    exact Ev.congr (fun k => by rw [if_neg c4]) (ev_add 1 (fun k => rtwo_false ..))
  replace c4 : b.f1 = a.f1 := by omega
  refine Ev.congr (fun k => by rw [if_pos c4]) ?_
  by_cases c5 : (a.f3.length : Int) > 0
  · rw [neg (by unfold cmb; rw [decide_eq_false_iff_not]; rintro ⟨_, _, _, _, h, _⟩; rw [h] at c5; simp at c5)]
    exact Ev.congr (fun k => by rw [if_pos c5]) (ev_add 1 (fun k => rtwo_false ..))
  refine Ev.congr (fun k => by rw [if_neg c5]) ?_
  by_cases c6 : (b.f3.length : Int) > 0
  · rw [neg (by unfold cmb; rw [decide_eq_false_iff_not]; rintro ⟨_, _, _, _, _, h, _⟩; rw [h] at c6; simp at c6)]
    exact Ev.congr (fun k => by rw [decide_eq_true c6]) (ev_add 1 (fun k => rtwo_false ..))
  refine Ev.congr (fun k => by rw [decide_eq_false c6]) ?_
  have e1 : a.f3 = [] := nil_len (by omega)
  have e2 : b.f3 = [] := nil_len (by omega)
  refine Ev.step (fun k => by rw [juratref27_Two.j0, if_neg (by decide)]) ?_
  by_cases c7 : a.f2 < 1
  · rw [neg (by unfold cmb; rw [decide_eq_false_iff_not]; omega)]
    exact Ev.congr (fun k => by rw [if_pos c7]) (Ev.now _)
  refine Ev.congr (fun k => by rw [if_neg c7]) ?_
  by_cases c8 : b.f2 < 1
  · rw [neg (by unfold cmb; rw [decide_eq_false_iff_not]; omega)]
    exact Ev.congr (fun k => by rw [if_pos c8]) (Ev.now _)
  refine Ev.congr (fun k => by rw [if_neg c8]) ?_
  by_cases c9 : a.f2 > 4611686018427387903
  · rw [neg (by unfold cmb; rw [decide_eq_false_iff_not]; omega)]
    exact Ev.congr (fun k => by rw [if_pos c9]) (Ev.now _)
  refine Ev.congr (fun k => by rw [if_neg c9, jw64 (by omega) (by omega)]) ?_
  by_cases c10 : b.f2 > 4611686018427387903 - a.f2
  · rw [neg (by unfold cmb; rw [decide_eq_false_iff_not]; omega)]
    exact Ev.congr (fun k => by rw [if_pos c10]) (Ev.now _)
  have hc : cmb a b = true := by unfold cmb; rw [decide_eq_true_iff]; exact ⟨by omega, by omega, c3.symm, c4.symm, e1, e2, by omega, by omega, by omega⟩
  unfold twoS
  rw [if_pos hc]
  exact Ev.congr (fun k => by rw [if_neg c10, jw64 (by omega) (by omega)]) (Ev.now _)
end Go.Proofs.Ytejcopppchaneaa.Pure
end
section
set_option linter.unusedVariables false
set_option linter.unusedSimpArgs false
namespace Go.Proofs.Ytejcopppchaneaa.PF
open Go.RowKit Go.Proofs.YtejcopppchaneaaW.PrintWords Go.Proofs.YtejcopppchaneaaW.PrintLast Go.Proofs.YtejcopppchaneaaW.PrintMore Go.Proofs.Ytejcopppchaneaa.Pure
structure RS where
  R : List S30
  rest : ByteArray
  closed : Bool
  e : Int
def rbad (R : List S30) (x : S30) : Bool := (twoS (lastOf R) x).2.2.2.2 || ((x.f0 == 5) && ((R.length == 0) || ((lastOf R).f0 == 5)))
def rStep (bad : Bool) (s : RS) (q : RT) : RS × Bool := if bad = true then ({ s with e := 9 }, false) else (⟨s.R ++ [xOf q], s.rest.extract q.2.2.2.2.1.toNat s.rest.size, s.closed, s.e⟩, true)
def rNextS (s : RS) : RS × Bool :=
  if s.e ≠ 0 then (s, false)
  else if (lastOf s.R).f0 = 6 then (if s.rest.size = 0 then (s, false) else ({ s with e := 20 }, false))
  else if ((rt s.rest).2.2.2.2.2 == 4 && !s.closed) = true then (s, false)
  else if (rt s.rest).2.2.2.2.2 ≠ 0 then ({ s with e := (rt s.rest).2.2.2.2.2 }, false)
  else rStep (rbad s.R (xOf (rt s.rest))) s (rt s.rest)
def NextPost (w : World) (ok : Nat → Prop) (p : RS × Bool) (e : Ending) (w' : World) : Prop :=
  ∃ v : Value, e = .returned (.tuple #[.agg #[v, .string p.1.rest, .bool p.1.closed, .int .i64 p.1.e], .bool p.2]) ∧ (∃ A' c', v = .slice A' p.1.R.length c' ∧ p.1.R.length ≤ c' ∧ Kd.F k30 w' (fun k => ok k ∨ w.heap.size ≤ k) A' p.1.R.length p.1.R) ∧ Below w.heap.size w w' 
def rnextR12.T : Bool × List (List Nat × List Nat) := (true, [([], []), ([0], [0]), ([], []), ([1, 2, 1], [1, 2]), ([3], [3]), ([4], [4]), ([4], [4]), ([], []), ([7, 5, 3, 0, 1, 2, 3, 4, 5, 7], [5, 7]), ([6, 8, 0, 1, 2, 3, 4, 5, 6, 7, 8], [6])])
def rnextR12.B : List Nat := [0, 1, 0, 7, 15, 31, 31, 0, 191, 511]
theorem rnextR12.tab : rtab .any (opsOf Try.f21 12) = rnextR12.T := by kernel_rfl
theorem rnextR12.bits : waitsOk rnextR12.T.2 rnextR12.B = true := by kernel_rfl
set_option maxHeartbeats 32000000 in
set_option maxRecDepth 100000 in
theorem rNext.calls_ (A : Option Addr) (c : Nat) (R : List S30) (rest : ByteArray) (closed : Bool) (e0 : Int) (ok : Nat → Prop) (p : RS × Bool) (w : World) (hF : Kd.F k30 w ok A R.length R) (hc : R.length ≤ c) (hl : R.length ≤ 90000) (hz : rest.size ≤ 90000) (hok : okR (lastOf R)) (hp : rNextS ⟨R, rest, closed, e0⟩ = p) :
    Calls Try.prog 21 #[.agg #[.slice A R.length c, .string rest, .bool closed, .int .i64 e0]] w (NextPost w ok p) := by
  have hu45 := Try.underlying45
  have hu30 := Try.underlying30
  have HF := Aside0.mk hF
  have HCC := Aside0.mk hc
  have HL := Aside0.mk (show R.length ≤ 100000 by omega)
  have HZ := Aside0.mk hz
  have HOK := Aside0.mk hok
  have HP := Aside0.mk hp
  clear hF hc hl hz hok hp
  go_enter Try.func21, Try.ntmps21
  go_upto_region 1 with (first | ((with_reducible refine gate_dst (N := 1) rfl ?_); refine box_event ?hg (N := 1) ?hd (cs := #[.slice A R.length c, .string rest, .bool closed, .int .i64 e0]) (t := 45) ?hr ?_; (case hd => rfl); (case hg => rfl); (case hr => first | (go_simp; done) | (go_simp; rfl)); intro g1 hg_ w1 hbox hb; have G1 := Aside0.mk (show w.heap.size ≤ g1 by omega); clear hg_; have X := Aside0.mk hbox; have B := Aside0.mk hb; clear hbox hb; skip) | ((with_reducible refine gate_dst (N := 2) rfl ?_); refine box_event ?hg (N := 2) ?hd (cs := #[.slice none 0 0, .string ⟨#[]⟩, .bool false, .int .i64 0]) (t := 45) ?hr ?_; (case hd => rfl); (case hg => rfl); (case hr => first | (go_simp; done) | (go_simp; rfl)); intro g2 hg_ w2 hbox hb; have G2 := Aside0.mk (show w.heap.size ≤ g2 by have := B.out.size; omega); have N2 := Aside0.mk (show g1 ≠ g2 by have := blk_lt X.out; omega); clear hg_; have XN := Aside0.mk (blk_below X.out hb); clear X; have X := XN; clear XN; have Y := Aside0.mk hbox; have BN := Aside0.mk (below_step B.out hb); clear B; have B := BN; clear BN; clear hbox hb; obtain ⟨⟨i0, i1, i2, i3⟩, u0, u1, u2, u3⟩ := cell4 X.out; obtain ⟨⟨k0, k1, k2, k3⟩, z0, z1, z2, z3⟩ := cell4 Y.out) | fail)
  by_cases he : e0 = 0
  · have b0 : (e0 != 0) = false := bne_eq_false_iff_eq.mpr he
    subst he
    by_cases h6 : (lastOf R).f0 = 6
    · have b6 : ((lastOf R).f0 == 6) = true := beq_iff_eq.mpr h6
      have B6 := Aside0.mk b6
      have hp := HP.out
      rw [rNextS, if_neg (by simp), if_pos h6] at hp
      by_cases hr : rest.size = 0
      · rw [if_pos hr] at hp
        subst hp
        have d1 : decide ((rest.size : Int) > 0) = false := decide_eq_false (by omega)
        have d2 : decide (0 < rest.size) = false := decide_eq_false (by omega)
        clear h6 b6 hr
        go_wp2_with (first | (go_at_call 22; (refine (rEnded.calls_ A c R rest closed 0 _ (Kd.C_below (Kd.F_now HF.out) B.out) HCC.out HL.out).mono ?_); rintro e w5 ⟨he5, hb⟩; rw [B6.out] at he5; subst he5; have XN := Aside0.mk (blk_below X.out hb); have YN := Aside0.mk (blk_below Y.out hb); have BN := Aside0.mk (below_step B.out hb); clear X Y B i0 i1 i2 i3 u0 u1 u2 u3 k0 k1 k2 k3 z0 z1 z2 z3; have X := XN; have Y := YN; have B := BN; clear XN YN BN; obtain ⟨⟨i0, i1, i2, i3⟩, u0, u1, u2, u3⟩ := cell4 X.out; obtain ⟨⟨k0, k1, k2, k3⟩, z0, z1, z2, z3⟩ := cell4 Y.out; clear hb) | fail)
        (try simp only [Exit.inBlock, Exit.then])
        (refine bodyPost_ret (results_ct rfl _ _ g2 45 #[.slice A R.length c, .string rest, .bool closed, .int .i64 0] (0, 0) _ rfl (by exact blk4_put Y.out) Try.underlying45 rfl (by kernel_rfl)) rfl ?_)
        exact ⟨_, rfl, ⟨A, c, rfl, HCC.out, Kd.F_mono (Kd.F_below HF.out (below4_put B.out G2.out)) (fun _ h => .inl h)⟩, below4_put B.out G2.out⟩
      · rw [if_neg hr] at hp
        subst hp
        have d1 : decide ((rest.size : Int) > 0) = true := decide_eq_true (by omega)
        have d2 : decide (0 < rest.size) = true := decide_eq_true (by omega)
        clear h6 b6 hr
        go_wp2_with (first | (go_at_call 22; (refine (rEnded.calls_ A c R rest closed 0 _ (Kd.C_below (Kd.F_now HF.out) B.out) HCC.out HL.out).mono ?_); rintro e w5 ⟨he5, hb⟩; rw [B6.out] at he5; subst he5; have XN := Aside0.mk (blk_below X.out hb); have YN := Aside0.mk (blk_below Y.out hb); have BN := Aside0.mk (below_step B.out hb); clear X Y B i0 i1 i2 i3 u0 u1 u2 u3 k0 k1 k2 k3 z0 z1 z2 z3; have X := XN; have Y := YN; have B := BN; clear XN YN BN; obtain ⟨⟨i0, i1, i2, i3⟩, u0, u1, u2, u3⟩ := cell4 X.out; obtain ⟨⟨k0, k1, k2, k3⟩, z0, z1, z2, z3⟩ := cell4 Y.out; clear hb) | (go_at_call 36; (refine (rfail.calls_ A c R rest _ _ _ 20).mono ?_); rintro e w5 ⟨rfl, hb⟩; have XN := Aside0.mk (blk_below X.out hb); have YN := Aside0.mk (blk_below Y.out hb); have BN := Aside0.mk (below_step B.out hb); clear X Y B i0 i1 i2 i3 u0 u1 u2 u3 k0 k1 k2 k3 z0 z1 z2 z3; have X := XN; have Y := YN; have B := BN; clear XN YN BN; obtain ⟨⟨i0, i1, i2, i3⟩, u0, u1, u2, u3⟩ := cell4 X.out; obtain ⟨⟨k0, k1, k2, k3⟩, z0, z1, z2, z3⟩ := cell4 Y.out; clear hb) | fail)
        (try simp only [Exit.inBlock, Exit.then])
        (refine bodyPost_ret (results_ct rfl _ _ g2 45 #[.slice A R.length c, .string rest, .bool closed, .int .i64 20] (0, 0) _ rfl (by exact blk4_put Y.out) Try.underlying45 rfl (by kernel_rfl)) rfl ?_)
        exact ⟨_, rfl, ⟨A, c, rfl, HCC.out, Kd.F_mono (Kd.F_below HF.out (below4_put B.out G2.out)) (fun _ h => .inl h)⟩, below4_put B.out G2.out⟩
    · have b6 : ((lastOf R).f0 == 6) = false := beq_eq_false_iff_ne.mpr h6
      have B6 := Aside0.mk b6
      have hp := HP.out
      rw [rNextS, if_neg (by simp), if_neg h6] at hp
      clear h6 b6 HP
      obtain ⟨kk, hk⟩ := (rrec_take_ev rest (by have := HZ.out; omega)).rounds
      have hg := rt_good rest HZ.out
      simp only at hp
      obtain ⟨⟨q1, q2, q3, q4, q5, q6⟩, hq⟩ : ∃ q, rt rest = q := ⟨_, rfl⟩
      rw [hq] at hk hp hg
      simp only [xOf] at hp hg
      have TK := Aside0.mk hk
      have HP := Aside0.mk hp
      have HGD := Aside0.mk hg
      clear hk hp hq hg
      go_upto_region 8 with (first | (go_at_call 22; (refine (rEnded.calls_ A c R rest closed 0 _ (Kd.C_below (Kd.F_now HF.out) B.out) HCC.out HL.out).mono ?_); rintro e w5 ⟨he5, hb⟩; rw [B6.out] at he5; subst he5; have XN := Aside0.mk (blk_below X.out hb); have YN := Aside0.mk (blk_below Y.out hb); have BN := Aside0.mk (below_step B.out hb); clear X Y B i0 i1 i2 i3 u0 u1 u2 u3 k0 k1 k2 k3 z0 z1 z2 z3; have X := XN; have Y := YN; have B := BN; clear XN YN BN; obtain ⟨⟨i0, i1, i2, i3⟩, u0, u1, u2, u3⟩ := cell4 X.out; obtain ⟨⟨k0, k1, k2, k3⟩, z0, z1, z2, z3⟩ := cell4 Y.out; clear hb) | (go_at_call 37; (with_reducible refine (juratref28_Take.calls kk rest q1 q2 q3 q4 q5 q6 _ TK.out).mono ?_); rintro e w3 ⟨v, rfl, hR, hb⟩; obtain ⟨A4, c4, rfl⟩ := Kd.R_slice hR; have HR := Aside0.mk (Kd.R_lower hR B.out.size); have XN := Aside0.mk (blk_below X.out hb); have YN := Aside0.mk (blk_below Y.out hb); have BN := Aside0.mk (below_step B.out hb); clear X Y B i0 i1 i2 i3 u0 u1 u2 u3 k0 k1 k2 k3 z0 z1 z2 z3; have X := XN; have Y := YN; have B := BN; clear XN YN BN; obtain ⟨⟨i0, i1, i2, i3⟩, u0, u1, u2, u3⟩ := cell4 X.out; obtain ⟨⟨k0, k1, k2, k3⟩, z0, z1, z2, z3⟩ := cell4 Y.out; clear hb hR) | fail)
      have D := Aside0.mk (blk_new w3 (.cells #[.int .i64 q1, .int .i64 q2, .int .i64 q3, .slice A4 q4.length c4] 30))
      have hb := below_alloc (Below.refl w3.heap.size w3) (.cells #[.int .i64 q1, .int .i64 q2, .int .i64 q3, .slice A4 q4.length c4] 30)
      have N4 := Aside0.mk (show w.heap.size ≤ w3.heap.size ∧ w3.heap.size ≠ g1 ∧ w3.heap.size ≠ g2 from by have h1 := blk_lt X.out; have h2 := blk_lt Y.out; have h3 := B.out.size; exact ⟨by omega, by omega, by omega⟩)
      have HN := Aside0.mk (Kd.R_below HR.out hb)
      clear HR
      have HR := HN
      clear HN
      have XN := Aside0.mk (blk_below X.out hb); have YN := Aside0.mk (blk_below Y.out hb); have BN := Aside0.mk (below_step B.out hb); clear X Y B i0 i1 i2 i3 u0 u1 u2 u3 k0 k1 k2 k3 z0 z1 z2 z3; have X := XN; have Y := YN; have B := BN; clear XN YN BN; obtain ⟨⟨i0, i1, i2, i3⟩, u0, u1, u2, u3⟩ := cell4 X.out; obtain ⟨⟨k0, k1, k2, k3⟩, z0, z1, z2, z3⟩ := cell4 Y.out
      clear hb
      generalize w3.alloc (.cells #[.int .i64 q1, .int .i64 q2, .int .i64 q3, .slice A4 q4.length c4] 30) = w4 at X Y D HR B i0 i1 i2 i3 u0 u1 u2 u3 k0 k1 k2 k3 z0 z1 z2 z3 ⊢
      generalize w3.heap.size = g4 at D N4 ⊢
      obtain ⟨⟨l0, l1, l2, l3⟩, m0, m1, m2, m3⟩ := cell4 D.out
      by_cases h4 : q6 = 4
      · have e4 : (q6 == 4) = true := beq_iff_eq.mpr h4
        have e5 : (q6 != 0) = true := bne_iff_ne.mpr (by omega)
        cases closed with
        | false =>
          have hp := HP.out
          rw [if_pos (by simp [e4])] at hp
          subst hp
          clear h4
          go_wp2
          (try simp only [Exit.inBlock, Exit.then])
          (refine bodyPost_ret (results_ct rfl _ _ g2 45 #[.slice A R.length c, .string rest, .bool false, .int .i64 0] (0, 0) _ rfl (by exact blk4_put Y.out) Try.underlying45 rfl (by kernel_rfl)) rfl ?_)
          exact ⟨_, rfl, ⟨A, c, rfl, HCC.out, Kd.F_mono (Kd.F_below HF.out (below4_put B.out G2.out)) (fun _ h => .inl h)⟩, below4_put B.out G2.out⟩
        | true =>
          have hp := HP.out
          rw [if_neg (by simp), if_pos (by omega)] at hp
          subst hp
          clear h4
          go_wp2_with (first | (go_at_call 36; (refine (rfail.calls_ A c R rest _ _ _ q6).mono ?_); rintro e w5 ⟨rfl, hb⟩; have XN := Aside0.mk (blk_below X.out hb); have YN := Aside0.mk (blk_below Y.out hb); have BN := Aside0.mk (below_step B.out hb); clear X Y B i0 i1 i2 i3 u0 u1 u2 u3 k0 k1 k2 k3 z0 z1 z2 z3; have X := XN; have Y := YN; have B := BN; clear XN YN BN; obtain ⟨⟨i0, i1, i2, i3⟩, u0, u1, u2, u3⟩ := cell4 X.out; obtain ⟨⟨k0, k1, k2, k3⟩, z0, z1, z2, z3⟩ := cell4 Y.out; clear hb) | fail)
          (try simp only [Exit.inBlock, Exit.then])
          (refine bodyPost_ret (results_ct rfl _ _ g2 45 #[.slice A R.length c, .string rest, .bool true, .int .i64 q6] (0, 0) _ rfl (by exact blk4_put Y.out) Try.underlying45 rfl (by kernel_rfl)) rfl ?_)
          exact ⟨_, rfl, ⟨A, c, rfl, HCC.out, Kd.F_mono (Kd.F_below HF.out (below4_put B.out G2.out)) (fun _ h => .inl h)⟩, below4_put B.out G2.out⟩
      · have e4 : (q6 == 4) = false := beq_eq_false_iff_ne.mpr h4
        have hp := HP.out
        rw [if_neg (by simp [e4])] at hp
        by_cases h5 : q6 = 0
        · have e5 : (q6 != 0) = false := bne_eq_false_iff_eq.mpr h5
          rw [if_neg (by simp [h5])] at hp
          obtain ⟨kt, hkt⟩ := (rtwo_ev (lastOf R) ⟨q1, q2, q3, q4⟩ HOK.out (HGD.out h5).1).rounds
          obtain ⟨⟨t1, t2, t3, t4, t5⟩, ht⟩ : ∃ q, twoS (lastOf R) ⟨q1, q2, q3, q4⟩ = q := ⟨_, rfl⟩
          obtain ⟨bad, hbad⟩ : ∃ b : Bool, rbad R ⟨q1, q2, q3, q4⟩ = b := ⟨_, rfl⟩
          rw [hbad] at hp
          unfold rbad at hbad
          rw [ht] at hkt hbad
          simp only at hkt hbad
          have TW : Aside0 (juratref27_Two.f kt (lastOf R).f0 (lastOf R).f1 (lastOf R).f2 (lastOf R).f3 q1 q2 q3 q4 = some (t1, t2, t3, t4, t5)) := ⟨hkt⟩
          have HBAD := Aside0.mk hbad
          have HP2 := Aside0.mk hp
          have HG5 := Aside0.mk (HGD.out h5).2
          clear hp hkt ht hbad HP h4 h5
          go_upto_region 12 with fail
          go_cut [8] (fun v8 wx => v8 = .bool t5 ∧ Aside0 (wx.heap[g1]? = some (.cells #[.slice A R.length c, .string rest, .bool closed, .int .i64 0] 45 (0, 0))) ∧ Aside0 (wx.heap[g2]? = some (.cells #[.slice none 0 0, .string ⟨#[]⟩, .bool false, .int .i64 0] 45 (0, 0))) ∧ Aside0 (wx.heap[g4]? = some (.cells #[.int .i64 q1, .int .i64 q2, .int .i64 q3, .slice A4 q4.length c4] 30 (0, 0))) ∧ Aside0 (Kd.R (Kd.int .i64) 3 wx w.heap.size (fun _ => True) (.slice A4 q4.length c4) q4) ∧ Aside0 (Below w.heap.size w wx))
          case first =>
            refine start_ (n := 10) (S := (fun w' => w'.cell? ⟨g1, 0, none⟩ = some (.slice A R.length c) ∧ w'.cell? ⟨g1, 1, none⟩ = some (.string rest) ∧ w'.cell? ⟨g1, 2, none⟩ = some (.bool closed) ∧ w'.cell? ⟨g1, 3, none⟩ = some (.int .i64 0) ∧ w'.cell? ⟨g4, 0, none⟩ = some (.int .i64 q1) ∧ w'.cell? ⟨g4, 1, none⟩ = some (.int .i64 q2) ∧ w'.cell? ⟨g4, 2, none⟩ = some (.int .i64 q3) ∧ w'.cell? ⟨g4, 3, none⟩ = some (.slice A4 q4.length c4))) (ds := [8]) #[false, false, false, false, false, false, false, false, false, false] (by kernel_rfl) rfl rfl ⟨i0, i1, i2, i3, l0, l1, l2, l3⟩ (fun hHeld => ?_); refine with_tabW rnextR12.tab rnextR12.bits (fun HT_ HW_ => ?_)
            have hb := below_drew1 (Below.refl w4.heap.size w4)
            have XN := Aside0.mk (blk_below X.out hb); have YN := Aside0.mk (blk_below Y.out hb); have DN := Aside0.mk (blk_below D.out hb); have HN := Aside0.mk (Kd.R_below HR.out hb); have BN := Aside0.mk (below_step B.out hb); (try have CN := Aside0.mk (Kd.C_below LC.out hb)); clear X Y B D HR i0 i1 i2 i3 u0 u1 u2 u3 k0 k1 k2 k3 z0 z1 z2 z3 l0 l1 l2 l3 m0 m1 m2 m3; (try clear LC); have X := XN; have Y := YN; have B := BN; have D := DN; have HR := HN; (try have LC := CN); clear XN YN BN DN HN; (try clear CN); obtain ⟨⟨i0, i1, i2, i3⟩, u0, u1, u2, u3⟩ := cell4 X.out; obtain ⟨⟨k0, k1, k2, k3⟩, z0, z1, z2, z3⟩ := cell4 Y.out; obtain ⟨⟨l0, l1, l2, l3⟩, m0, m1, m2, m3⟩ := cell4 D.out
            clear hb
            generalize w4.drew = w5 at X Y D HR B hHeld i0 i1 i2 i3 u0 u1 u2 u3 k0 k1 k2 k3 z0 z1 z2 z3 l0 l1 l2 l3 m0 m1 m2 m3 ⊢
            refine take_ (i := 0) (N := some 48) (v := ?_) (a' := ?_) #[true, false, false, false, false, false, false, false, false, false] rfl rfl (take_ofW HT_.out HW_.out (by kernel_rfl)) (fun _ _ _ h => h) (Or.inl ⟨by rfl, ?_⟩) hHeld ?_ ?_
            rotate_left
            · rintro w' ⟨s0, s1, s2, s3, s4, s5, s6, s7⟩
              go_simp
              with_reducible rfl
            rotate_left
            · simp only [Act.put, List.setIfInBounds_toArray, List.set_cons_zero, List.set_cons_succ, i64_w, i32_w]
              rfl
            refine take_ (i := 2) (N := some 50) (v := ?_) (a' := ?_) #[true, false, true, false, false, false, false, false, false, false] rfl rfl (take_ofW HT_.out HW_.out (by kernel_rfl)) (fun _ _ _ h => h) (Or.inl ⟨by rfl, ?_⟩) hHeld ?_ ?_
            rotate_left
            · rintro w' ⟨s0, s1, s2, s3, s4, s5, s6, s7⟩
              go_simp
              with_reducible rfl
            rotate_left
            · simp only [Act.put, List.setIfInBounds_toArray, List.set_cons_zero, List.set_cons_succ, i64_w, i32_w]
              rfl
            refine two_ (i := 1) (j := 7) (Ni := some 49) (Nj := some 7) #[true, true, true, false, false, false, false, false, false, false] #[true, false, true, false, false, false, false, true, false, false] rfl rfl rfl rfl (two_of HT_.out (by kernel_rfl)) (by decide) (by decide) (fun K hK => ?_) (fun K hK => ?_)
            · skip
              refine goes_ Try.func39 (by kernel_rfl) rfl #[.agg #[.slice A R.length c, .string rest, .bool closed, .int .i64 0]] (by rfl) rfl rfl (by (try simp only [List.map_toArray, List.map_cons, List.map_nil]); first | done | rfl) ?_
              refine (rlast.calls_ A c R rest closed 0 _ (Kd.C_below (Kd.F_now HF.out) B.out) HCC.out HL.out _ rfl).mono ?_
              rintro e w5 ⟨A3, c3, rfl, h3, hC3, hb⟩
              refine ⟨_, rfl, ?_⟩
              have XN := Aside0.mk (blk_below X.out hb); have YN := Aside0.mk (blk_below Y.out hb); have DN := Aside0.mk (blk_below D.out hb); have HN := Aside0.mk (Kd.R_below HR.out hb); have BN := Aside0.mk (below_step B.out hb); (try have CN := Aside0.mk (Kd.C_below LC.out hb)); clear X Y B D HR i0 i1 i2 i3 u0 u1 u2 u3 k0 k1 k2 k3 z0 z1 z2 z3 l0 l1 l2 l3 m0 m1 m2 m3; (try clear LC); have X := XN; have Y := YN; have B := BN; have D := DN; have HR := HN; (try have LC := CN); clear XN YN BN DN HN; (try clear CN); obtain ⟨⟨i0, i1, i2, i3⟩, u0, u1, u2, u3⟩ := cell4 X.out; obtain ⟨⟨k0, k1, k2, k3⟩, z0, z1, z2, z3⟩ := cell4 Y.out; obtain ⟨⟨l0, l1, l2, l3⟩, m0, m1, m2, m3⟩ := cell4 D.out
              have LC := Aside0.mk hC3
              have L3 := Aside0.mk h3
              (try (have QN := Aside0.mk (blk_below Q7.out hb); clear Q7; have Q7 := QN; clear QN))
              clear hb hC3 h3
              refine hK.out _ _ ⟨i0, i1, i2, i3, l0, l1, l2, l3⟩ (fun hHeld => ?_)
              clear hK K
              refine norm_ (a' := ?_) ?_ ?_
              rotate_left
              · show Act.put _ (some 49) _ = _
                simp only [Act.put, List.setIfInBounds_toArray, List.set_cons_zero, List.set_cons_succ, i64_w, i32_w]
                rfl
              refine two_ (i := 3) (j := 7) (Ni := some 51) (Nj := some 7) #[true, true, true, true, false, false, false, false, false, false] #[true, true, true, false, false, false, false, true, false, false] rfl rfl rfl rfl (two_of HT_.out (by kernel_rfl)) (by decide) (by decide) (fun K hK => ?_) (fun K hK => ?_)
              · skip
                refine goes_ Try.func38 (by kernel_rfl) rfl #[.agg #[.int .i64 (lastOf R).f0, .int .i64 (lastOf R).f1, .int .i64 (lastOf R).f2, .slice A3 (lastOf R).f3.length c3], .agg #[.int .i64 q1, .int .i64 q2, .int .i64 q3, .slice A4 q4.length c4]] (by rfl) rfl rfl (by (try simp only [List.map_toArray, List.map_cons, List.map_nil]); first | done | rfl) ?_
                refine (juratref27_Two.calls kt (lastOf R).f0 (lastOf R).f1 (lastOf R).f2 A3 c3 (lastOf R).f3 q1 q2 q3 A4 c4 q4 t1 t2 t3 t4 t5 _ LC.out L3.out (Kd.R_reads' HR.out).2.2 (Kd.R_reads' HR.out).2.1 TW.out).mono ?_
                rintro e w6 ⟨v6, rfl, hR6, hb⟩
                refine ⟨_, rfl, ?_⟩
                obtain ⟨A6, c6, rfl⟩ := Kd.R_slice hR6
                have XN := Aside0.mk (blk_below X.out hb); have YN := Aside0.mk (blk_below Y.out hb); have DN := Aside0.mk (blk_below D.out hb); have HN := Aside0.mk (Kd.R_below HR.out hb); have BN := Aside0.mk (below_step B.out hb); (try have CN := Aside0.mk (Kd.C_below LC.out hb)); clear X Y B D HR i0 i1 i2 i3 u0 u1 u2 u3 k0 k1 k2 k3 z0 z1 z2 z3 l0 l1 l2 l3 m0 m1 m2 m3; (try clear LC); have X := XN; have Y := YN; have B := BN; have D := DN; have HR := HN; (try have LC := CN); clear XN YN BN DN HN; (try clear CN); obtain ⟨⟨i0, i1, i2, i3⟩, u0, u1, u2, u3⟩ := cell4 X.out; obtain ⟨⟨k0, k1, k2, k3⟩, z0, z1, z2, z3⟩ := cell4 Y.out; obtain ⟨⟨l0, l1, l2, l3⟩, m0, m1, m2, m3⟩ := cell4 D.out
                (try (have QN := Aside0.mk (blk_below Q7.out hb); clear Q7; have Q7 := QN; clear QN))
                clear hb hR6
                refine hK.out _ _ ⟨i0, i1, i2, i3, l0, l1, l2, l3⟩ (fun hHeld => ?_)
                clear hK K
                refine norm_ (a' := ?_) ?_ ?_
                rotate_left
                · show Act.put _ (some 51) _ = _
                  simp only [Act.put, List.setIfInBounds_toArray, List.set_cons_zero, List.set_cons_succ, i64_w, i32_w]
                  rfl
                refine pure_ (i := 4) (N := some 47) (v := ?_) (a' := ?_) #[true, true, true, true, true, false, false, false, false, false] rfl rfl (any_of HT_.out (by kernel_rfl)) (fun _ _ _ h => h) (Or.inl ⟨by rfl, ?_⟩) ?_ ?_
                rotate_left
                · intro w'
                  go_simp
                  with_reducible rfl
                rotate_left
                · simp only [Act.put, List.setIfInBounds_toArray, List.set_cons_zero, List.set_cons_succ, i64_w, i32_w]
                  rfl
                refine pure_ (i := 5) (N := some 52) (v := ?_) (a' := ?_) #[true, true, true, true, true, true, false, false, false, false] rfl rfl (any_of HT_.out (by kernel_rfl)) (fun _ _ _ h => h) (Or.inl ⟨by rfl, ?_⟩) ?_ ?_
                rotate_left
                · intro w'
                  go_simp
                  with_reducible rfl
                rotate_left
                · simp only [Act.put, List.setIfInBounds_toArray, List.set_cons_zero, List.set_cons_succ, i64_w, i32_w]
                  rfl
                refine pure_ (i := 6) (N := some 53) (v := ?_) (a' := ?_) #[true, true, true, true, true, true, true, false, false, false] rfl rfl (any_of HT_.out (by kernel_rfl)) (fun _ _ _ h => h) (Or.inl ⟨by rfl, ?_⟩) ?_ ?_
                rotate_left
                · intro w'
                  go_simp
                  with_reducible rfl
                rotate_left
                · simp only [Act.put, List.setIfInBounds_toArray, List.set_cons_zero, List.set_cons_succ, i64_w, i32_w]
                  rfl
                refine one_ (i := 7) (N := some 7) #[true, true, true, true, true, true, true, true, false, false] rfl rfl (one_of HT_.out (by kernel_rfl)) (by decide) (fun K hK => ?_)
                refine box_step ?hg (N := 7) ?hd (cs := #[.int .i64 0, .int .i64 0, .int .i64 0, .slice none 0 0]) (t := 30) ?hr ?_; (case hd => rfl); (case hg => rfl); (case hr => first | (go_simp; done) | (go_simp; rfl))
                intro g7 hg7 w9 hbox hb
                have N7 := Aside0.mk (show w.heap.size ≤ g7 ∧ g7 ≠ g1 ∧ g7 ≠ g2 ∧ g7 ≠ g4 from by have h1 := blk_lt X.out; have h2 := blk_lt Y.out; have h3 := blk_lt D.out; have h4 := B.out.size; exact ⟨by omega, by omega, by omega, by omega⟩)
                have Q7 := Aside0.mk hbox
                have XN := Aside0.mk (blk_below X.out hb); have YN := Aside0.mk (blk_below Y.out hb); have DN := Aside0.mk (blk_below D.out hb); have HN := Aside0.mk (Kd.R_below HR.out hb); have BN := Aside0.mk (below_step B.out hb); (try have CN := Aside0.mk (Kd.C_below LC.out hb)); clear X Y B D HR i0 i1 i2 i3 u0 u1 u2 u3 k0 k1 k2 k3 z0 z1 z2 z3 l0 l1 l2 l3 m0 m1 m2 m3; (try clear LC); have X := XN; have Y := YN; have B := BN; have D := DN; have HR := HN; (try have LC := CN); clear XN YN BN DN HN; (try clear CN); obtain ⟨⟨i0, i1, i2, i3⟩, u0, u1, u2, u3⟩ := cell4 X.out; obtain ⟨⟨k0, k1, k2, k3⟩, z0, z1, z2, z3⟩ := cell4 Y.out; obtain ⟨⟨l0, l1, l2, l3⟩, m0, m1, m2, m3⟩ := cell4 D.out
                clear hb hbox hg7
                refine hK.out _ _ ⟨i0, i1, i2, i3, l0, l1, l2, l3⟩ (fun hHeld => ?_)
                clear hK K
                refine norm_ (a' := ?_) ?_ ?_
                rotate_left
                · show Act.put _ (some 7) _ = _
                  simp only [Act.put, List.setIfInBounds_toArray, List.set_cons_zero, List.set_cons_succ, i64_w, i32_w]
                  rfl
                refine last_ (i := 8) (N := none) #[true, true, true, true, true, true, true, true, true, false] rfl rfl (one_of HT_.out (by kernel_rfl)) (by decide) (fun K hK => ?_)
                obtain ⟨⟨e0, e1, e2, e3⟩, f0, f1, f2, f3⟩ := cell4 Q7.out
                refine skip_ (w1 := ?_) (by rfl) rfl ?_ ?_
                rotate_left
                · go_simp
                  rfl
                refine hK.out _ _ ?_
                clear hK K
                refine pure_ (i := 9) (N := some 8) (v := ?_) (a' := ?_) #[true, true, true, true, true, true, true, true, true, true] rfl rfl (any_of HT_.out (by kernel_rfl)) (fun _ _ _ h => h) (Or.inl ⟨by rfl, ?_⟩) ?_ ?_
                rotate_left
                · intro w'
                  go_simp
                  with_reducible rfl
                rotate_left
                · simp only [Act.put, List.setIfInBounds_toArray, List.set_cons_zero, List.set_cons_succ, i64_w, i32_w]
                  rfl
                refine done_ (done_of HT_.out (by kernel_rfl)) ?_
                go_wp2_with fail
                go_meet
                exact ⟨rfl, ⟨blk_kept X.out (kept4 _ g7 _ _ _ _) (Ne.symm N7.out.2.1)⟩, ⟨blk_kept Y.out (kept4 _ g7 _ _ _ _) (Ne.symm N7.out.2.2.1)⟩, ⟨blk_kept D.out (kept4 _ g7 _ _ _ _) (Ne.symm N7.out.2.2.2)⟩, ⟨row4_put Q7.out HR.out⟩, ⟨below4_put B.out N7.out.1⟩⟩
              · skip
                refine box_step ?hg (N := 7) ?hd (cs := #[.int .i64 0, .int .i64 0, .int .i64 0, .slice none 0 0]) (t := 30) ?hr ?_; (case hd => rfl); (case hg => rfl); (case hr => first | (go_simp; done) | (go_simp; rfl))
                intro g7 hg7 w9 hbox hb
                have N7 := Aside0.mk (show w.heap.size ≤ g7 ∧ g7 ≠ g1 ∧ g7 ≠ g2 ∧ g7 ≠ g4 from by have h1 := blk_lt X.out; have h2 := blk_lt Y.out; have h3 := blk_lt D.out; have h4 := B.out.size; exact ⟨by omega, by omega, by omega, by omega⟩)
                have Q7 := Aside0.mk hbox
                have XN := Aside0.mk (blk_below X.out hb); have YN := Aside0.mk (blk_below Y.out hb); have DN := Aside0.mk (blk_below D.out hb); have HN := Aside0.mk (Kd.R_below HR.out hb); have BN := Aside0.mk (below_step B.out hb); (try have CN := Aside0.mk (Kd.C_below LC.out hb)); clear X Y B D HR i0 i1 i2 i3 u0 u1 u2 u3 k0 k1 k2 k3 z0 z1 z2 z3 l0 l1 l2 l3 m0 m1 m2 m3; (try clear LC); have X := XN; have Y := YN; have B := BN; have D := DN; have HR := HN; (try have LC := CN); clear XN YN BN DN HN; (try clear CN); obtain ⟨⟨i0, i1, i2, i3⟩, u0, u1, u2, u3⟩ := cell4 X.out; obtain ⟨⟨k0, k1, k2, k3⟩, z0, z1, z2, z3⟩ := cell4 Y.out; obtain ⟨⟨l0, l1, l2, l3⟩, m0, m1, m2, m3⟩ := cell4 D.out
                clear hb hbox hg7
                refine hK.out _ _ ⟨i0, i1, i2, i3, l0, l1, l2, l3⟩ (fun hHeld => ?_)
                clear hK K
                refine norm_ (a' := ?_) ?_ ?_
                rotate_left
                · show Act.put _ (some 7) _ = _
                  simp only [Act.put, List.setIfInBounds_toArray, List.set_cons_zero, List.set_cons_succ, i64_w, i32_w]
                  rfl
                refine one_ (i := 3) (N := some 51) #[true, true, true, true, false, false, false, true, false, false] rfl rfl (one_of HT_.out (by kernel_rfl)) (by decide) (fun K hK => ?_)
                refine goes_ Try.func38 (by kernel_rfl) rfl #[.agg #[.int .i64 (lastOf R).f0, .int .i64 (lastOf R).f1, .int .i64 (lastOf R).f2, .slice A3 (lastOf R).f3.length c3], .agg #[.int .i64 q1, .int .i64 q2, .int .i64 q3, .slice A4 q4.length c4]] (by rfl) rfl rfl (by (try simp only [List.map_toArray, List.map_cons, List.map_nil]); first | done | rfl) ?_
                refine (juratref27_Two.calls kt (lastOf R).f0 (lastOf R).f1 (lastOf R).f2 A3 c3 (lastOf R).f3 q1 q2 q3 A4 c4 q4 t1 t2 t3 t4 t5 _ LC.out L3.out (Kd.R_reads' HR.out).2.2 (Kd.R_reads' HR.out).2.1 TW.out).mono ?_
                rintro e w6 ⟨v6, rfl, hR6, hb⟩
                refine ⟨_, rfl, ?_⟩
                obtain ⟨A6, c6, rfl⟩ := Kd.R_slice hR6
                have XN := Aside0.mk (blk_below X.out hb); have YN := Aside0.mk (blk_below Y.out hb); have DN := Aside0.mk (blk_below D.out hb); have HN := Aside0.mk (Kd.R_below HR.out hb); have BN := Aside0.mk (below_step B.out hb); (try have CN := Aside0.mk (Kd.C_below LC.out hb)); clear X Y B D HR i0 i1 i2 i3 u0 u1 u2 u3 k0 k1 k2 k3 z0 z1 z2 z3 l0 l1 l2 l3 m0 m1 m2 m3; (try clear LC); have X := XN; have Y := YN; have B := BN; have D := DN; have HR := HN; (try have LC := CN); clear XN YN BN DN HN; (try clear CN); obtain ⟨⟨i0, i1, i2, i3⟩, u0, u1, u2, u3⟩ := cell4 X.out; obtain ⟨⟨k0, k1, k2, k3⟩, z0, z1, z2, z3⟩ := cell4 Y.out; obtain ⟨⟨l0, l1, l2, l3⟩, m0, m1, m2, m3⟩ := cell4 D.out
                (try (have QN := Aside0.mk (blk_below Q7.out hb); clear Q7; have Q7 := QN; clear QN))
                clear hb hR6
                refine hK.out _ _ ⟨i0, i1, i2, i3, l0, l1, l2, l3⟩ (fun hHeld => ?_)
                clear hK K
                refine norm_ (a' := ?_) ?_ ?_
                rotate_left
                · show Act.put _ (some 51) _ = _
                  simp only [Act.put, List.setIfInBounds_toArray, List.set_cons_zero, List.set_cons_succ, i64_w, i32_w]
                  rfl
                refine pure_ (i := 4) (N := some 47) (v := ?_) (a' := ?_) #[true, true, true, true, true, false, false, true, false, false] rfl rfl (any_of HT_.out (by kernel_rfl)) (fun _ _ _ h => h) (Or.inl ⟨by rfl, ?_⟩) ?_ ?_
                rotate_left
                · intro w'
                  go_simp
                  with_reducible rfl
                rotate_left
                · simp only [Act.put, List.setIfInBounds_toArray, List.set_cons_zero, List.set_cons_succ, i64_w, i32_w]
                  rfl
                refine pure_ (i := 5) (N := some 52) (v := ?_) (a' := ?_) #[true, true, true, true, true, true, false, true, false, false] rfl rfl (any_of HT_.out (by kernel_rfl)) (fun _ _ _ h => h) (Or.inl ⟨by rfl, ?_⟩) ?_ ?_
                rotate_left
                · intro w'
                  go_simp
                  with_reducible rfl
                rotate_left
                · simp only [Act.put, List.setIfInBounds_toArray, List.set_cons_zero, List.set_cons_succ, i64_w, i32_w]
                  rfl
                refine pure_ (i := 6) (N := some 53) (v := ?_) (a' := ?_) #[true, true, true, true, true, true, true, true, false, false] rfl rfl (any_of HT_.out (by kernel_rfl)) (fun _ _ _ h => h) (Or.inl ⟨by rfl, ?_⟩) ?_ ?_
                rotate_left
                · intro w'
                  go_simp
                  with_reducible rfl
                rotate_left
                · simp only [Act.put, List.setIfInBounds_toArray, List.set_cons_zero, List.set_cons_succ, i64_w, i32_w]
                  rfl
                refine last_ (i := 8) (N := none) #[true, true, true, true, true, true, true, true, true, false] rfl rfl (one_of HT_.out (by kernel_rfl)) (by decide) (fun K hK => ?_)
                obtain ⟨⟨e0, e1, e2, e3⟩, f0, f1, f2, f3⟩ := cell4 Q7.out
                refine skip_ (w1 := ?_) (by rfl) rfl ?_ ?_
                rotate_left
                · go_simp
                  rfl
                refine hK.out _ _ ?_
                clear hK K
                refine pure_ (i := 9) (N := some 8) (v := ?_) (a' := ?_) #[true, true, true, true, true, true, true, true, true, true] rfl rfl (any_of HT_.out (by kernel_rfl)) (fun _ _ _ h => h) (Or.inl ⟨by rfl, ?_⟩) ?_ ?_
                rotate_left
                · intro w'
                  go_simp
                  with_reducible rfl
                rotate_left
                · simp only [Act.put, List.setIfInBounds_toArray, List.set_cons_zero, List.set_cons_succ, i64_w, i32_w]
                  rfl
                refine done_ (done_of HT_.out (by kernel_rfl)) ?_
                go_wp2_with fail
                go_meet
                exact ⟨rfl, ⟨blk_kept X.out (kept4 _ g7 _ _ _ _) (Ne.symm N7.out.2.1)⟩, ⟨blk_kept Y.out (kept4 _ g7 _ _ _ _) (Ne.symm N7.out.2.2.1)⟩, ⟨blk_kept D.out (kept4 _ g7 _ _ _ _) (Ne.symm N7.out.2.2.2)⟩, ⟨row4_put Q7.out HR.out⟩, ⟨below4_put B.out N7.out.1⟩⟩
            · skip
              refine box_step ?hg (N := 7) ?hd (cs := #[.int .i64 0, .int .i64 0, .int .i64 0, .slice none 0 0]) (t := 30) ?hr ?_; (case hd => rfl); (case hg => rfl); (case hr => first | (go_simp; done) | (go_simp; rfl))
              intro g7 hg7 w9 hbox hb
              have N7 := Aside0.mk (show w.heap.size ≤ g7 ∧ g7 ≠ g1 ∧ g7 ≠ g2 ∧ g7 ≠ g4 from by have h1 := blk_lt X.out; have h2 := blk_lt Y.out; have h3 := blk_lt D.out; have h4 := B.out.size; exact ⟨by omega, by omega, by omega, by omega⟩)
              have Q7 := Aside0.mk hbox
              have XN := Aside0.mk (blk_below X.out hb); have YN := Aside0.mk (blk_below Y.out hb); have DN := Aside0.mk (blk_below D.out hb); have HN := Aside0.mk (Kd.R_below HR.out hb); have BN := Aside0.mk (below_step B.out hb); (try have CN := Aside0.mk (Kd.C_below LC.out hb)); clear X Y B D HR i0 i1 i2 i3 u0 u1 u2 u3 k0 k1 k2 k3 z0 z1 z2 z3 l0 l1 l2 l3 m0 m1 m2 m3; (try clear LC); have X := XN; have Y := YN; have B := BN; have D := DN; have HR := HN; (try have LC := CN); clear XN YN BN DN HN; (try clear CN); obtain ⟨⟨i0, i1, i2, i3⟩, u0, u1, u2, u3⟩ := cell4 X.out; obtain ⟨⟨k0, k1, k2, k3⟩, z0, z1, z2, z3⟩ := cell4 Y.out; obtain ⟨⟨l0, l1, l2, l3⟩, m0, m1, m2, m3⟩ := cell4 D.out
              clear hb hbox hg7
              refine hK.out _ _ ⟨i0, i1, i2, i3, l0, l1, l2, l3⟩ (fun hHeld => ?_)
              clear hK K
              refine norm_ (a' := ?_) ?_ ?_
              rotate_left
              · show Act.put _ (some 7) _ = _
                simp only [Act.put, List.setIfInBounds_toArray, List.set_cons_zero, List.set_cons_succ, i64_w, i32_w]
                rfl
              refine one_ (i := 1) (N := some 49) #[true, true, true, false, false, false, false, true, false, false] rfl rfl (one_of HT_.out (by kernel_rfl)) (by decide) (fun K hK => ?_)
              refine goes_ Try.func39 (by kernel_rfl) rfl #[.agg #[.slice A R.length c, .string rest, .bool closed, .int .i64 0]] (by rfl) rfl rfl (by (try simp only [List.map_toArray, List.map_cons, List.map_nil]); first | done | rfl) ?_
              refine (rlast.calls_ A c R rest closed 0 _ (Kd.C_below (Kd.F_now HF.out) B.out) HCC.out HL.out _ rfl).mono ?_
              rintro e w5 ⟨A3, c3, rfl, h3, hC3, hb⟩
              refine ⟨_, rfl, ?_⟩
              have XN := Aside0.mk (blk_below X.out hb); have YN := Aside0.mk (blk_below Y.out hb); have DN := Aside0.mk (blk_below D.out hb); have HN := Aside0.mk (Kd.R_below HR.out hb); have BN := Aside0.mk (below_step B.out hb); (try have CN := Aside0.mk (Kd.C_below LC.out hb)); clear X Y B D HR i0 i1 i2 i3 u0 u1 u2 u3 k0 k1 k2 k3 z0 z1 z2 z3 l0 l1 l2 l3 m0 m1 m2 m3; (try clear LC); have X := XN; have Y := YN; have B := BN; have D := DN; have HR := HN; (try have LC := CN); clear XN YN BN DN HN; (try clear CN); obtain ⟨⟨i0, i1, i2, i3⟩, u0, u1, u2, u3⟩ := cell4 X.out; obtain ⟨⟨k0, k1, k2, k3⟩, z0, z1, z2, z3⟩ := cell4 Y.out; obtain ⟨⟨l0, l1, l2, l3⟩, m0, m1, m2, m3⟩ := cell4 D.out
              have LC := Aside0.mk hC3
              have L3 := Aside0.mk h3
              (try (have QN := Aside0.mk (blk_below Q7.out hb); clear Q7; have Q7 := QN; clear QN))
              clear hb hC3 h3
              refine hK.out _ _ ⟨i0, i1, i2, i3, l0, l1, l2, l3⟩ (fun hHeld => ?_)
              clear hK K
              refine norm_ (a' := ?_) ?_ ?_
              rotate_left
              · show Act.put _ (some 49) _ = _
                simp only [Act.put, List.setIfInBounds_toArray, List.set_cons_zero, List.set_cons_succ, i64_w, i32_w]
                rfl
              refine one_ (i := 3) (N := some 51) #[true, true, true, true, false, false, false, true, false, false] rfl rfl (one_of HT_.out (by kernel_rfl)) (by decide) (fun K hK => ?_)
              refine goes_ Try.func38 (by kernel_rfl) rfl #[.agg #[.int .i64 (lastOf R).f0, .int .i64 (lastOf R).f1, .int .i64 (lastOf R).f2, .slice A3 (lastOf R).f3.length c3], .agg #[.int .i64 q1, .int .i64 q2, .int .i64 q3, .slice A4 q4.length c4]] (by rfl) rfl rfl (by (try simp only [List.map_toArray, List.map_cons, List.map_nil]); first | done | rfl) ?_
              refine (juratref27_Two.calls kt (lastOf R).f0 (lastOf R).f1 (lastOf R).f2 A3 c3 (lastOf R).f3 q1 q2 q3 A4 c4 q4 t1 t2 t3 t4 t5 _ LC.out L3.out (Kd.R_reads' HR.out).2.2 (Kd.R_reads' HR.out).2.1 TW.out).mono ?_
              rintro e w6 ⟨v6, rfl, hR6, hb⟩
              refine ⟨_, rfl, ?_⟩
              obtain ⟨A6, c6, rfl⟩ := Kd.R_slice hR6
              have XN := Aside0.mk (blk_below X.out hb); have YN := Aside0.mk (blk_below Y.out hb); have DN := Aside0.mk (blk_below D.out hb); have HN := Aside0.mk (Kd.R_below HR.out hb); have BN := Aside0.mk (below_step B.out hb); (try have CN := Aside0.mk (Kd.C_below LC.out hb)); clear X Y B D HR i0 i1 i2 i3 u0 u1 u2 u3 k0 k1 k2 k3 z0 z1 z2 z3 l0 l1 l2 l3 m0 m1 m2 m3; (try clear LC); have X := XN; have Y := YN; have B := BN; have D := DN; have HR := HN; (try have LC := CN); clear XN YN BN DN HN; (try clear CN); obtain ⟨⟨i0, i1, i2, i3⟩, u0, u1, u2, u3⟩ := cell4 X.out; obtain ⟨⟨k0, k1, k2, k3⟩, z0, z1, z2, z3⟩ := cell4 Y.out; obtain ⟨⟨l0, l1, l2, l3⟩, m0, m1, m2, m3⟩ := cell4 D.out
              (try (have QN := Aside0.mk (blk_below Q7.out hb); clear Q7; have Q7 := QN; clear QN))
              clear hb hR6
              refine hK.out _ _ ⟨i0, i1, i2, i3, l0, l1, l2, l3⟩ (fun hHeld => ?_)
              clear hK K
              refine norm_ (a' := ?_) ?_ ?_
              rotate_left
              · show Act.put _ (some 51) _ = _
                simp only [Act.put, List.setIfInBounds_toArray, List.set_cons_zero, List.set_cons_succ, i64_w, i32_w]
                rfl
              refine pure_ (i := 4) (N := some 47) (v := ?_) (a' := ?_) #[true, true, true, true, true, false, false, true, false, false] rfl rfl (any_of HT_.out (by kernel_rfl)) (fun _ _ _ h => h) (Or.inl ⟨by rfl, ?_⟩) ?_ ?_
              rotate_left
              · intro w'
                go_simp
                with_reducible rfl
              rotate_left
              · simp only [Act.put, List.setIfInBounds_toArray, List.set_cons_zero, List.set_cons_succ, i64_w, i32_w]
                rfl
              refine pure_ (i := 5) (N := some 52) (v := ?_) (a' := ?_) #[true, true, true, true, true, true, false, true, false, false] rfl rfl (any_of HT_.out (by kernel_rfl)) (fun _ _ _ h => h) (Or.inl ⟨by rfl, ?_⟩) ?_ ?_
              rotate_left
              · intro w'
                go_simp
                with_reducible rfl
              rotate_left
              · simp only [Act.put, List.setIfInBounds_toArray, List.set_cons_zero, List.set_cons_succ, i64_w, i32_w]
                rfl
              refine pure_ (i := 6) (N := some 53) (v := ?_) (a' := ?_) #[true, true, true, true, true, true, true, true, false, false] rfl rfl (any_of HT_.out (by kernel_rfl)) (fun _ _ _ h => h) (Or.inl ⟨by rfl, ?_⟩) ?_ ?_
              rotate_left
              · intro w'
                go_simp
                with_reducible rfl
              rotate_left
              · simp only [Act.put, List.setIfInBounds_toArray, List.set_cons_zero, List.set_cons_succ, i64_w, i32_w]
                rfl
              refine last_ (i := 8) (N := none) #[true, true, true, true, true, true, true, true, true, false] rfl rfl (one_of HT_.out (by kernel_rfl)) (by decide) (fun K hK => ?_)
              obtain ⟨⟨e0, e1, e2, e3⟩, f0, f1, f2, f3⟩ := cell4 Q7.out
              refine skip_ (w1 := ?_) (by rfl) rfl ?_ ?_
              rotate_left
              · go_simp
                rfl
              refine hK.out _ _ ?_
              clear hK K
              refine pure_ (i := 9) (N := some 8) (v := ?_) (a' := ?_) #[true, true, true, true, true, true, true, true, true, true] rfl rfl (any_of HT_.out (by kernel_rfl)) (fun _ _ _ h => h) (Or.inl ⟨by rfl, ?_⟩) ?_ ?_
              rotate_left
              · intro w'
                go_simp
                with_reducible rfl
              rotate_left
              · simp only [Act.put, List.setIfInBounds_toArray, List.set_cons_zero, List.set_cons_succ, i64_w, i32_w]
                rfl
              refine done_ (done_of HT_.out (by kernel_rfl)) ?_
              go_wp2_with fail
              go_meet
              exact ⟨rfl, ⟨blk_kept X.out (kept4 _ g7 _ _ _ _) (Ne.symm N7.out.2.1)⟩, ⟨blk_kept Y.out (kept4 _ g7 _ _ _ _) (Ne.symm N7.out.2.2.1)⟩, ⟨blk_kept D.out (kept4 _ g7 _ _ _ _) (Ne.symm N7.out.2.2.2)⟩, ⟨row4_put Q7.out HR.out⟩, ⟨below4_put B.out N7.out.1⟩⟩
          case rest =>
            obtain ⟨rfl, X, Y, D, HR, B⟩ := hcut
            obtain ⟨⟨i0, i1, i2, i3⟩, u0, u1, u2, u3⟩ := cell4 X.out
            obtain ⟨⟨k0, k1, k2, k3⟩, z0, z1, z2, z3⟩ := cell4 Y.out
            obtain ⟨⟨l0, l1, l2, l3⟩, m0, m1, m2, m3⟩ := cell4 D.out
            have hfd := field30
            go_upto_region 13 with fail
            go_cut [71] (fun v71 wx => v71 = .bool bad ∧ Aside0 (wx.heap[g1]? = some (.cells #[.slice A R.length c, .string rest, .bool closed, .int .i64 0] 45 (0, 0))) ∧ Aside0 (wx.heap[g2]? = some (.cells #[.slice none 0 0, .string ⟨#[]⟩, .bool false, .int .i64 0] 45 (0, 0))) ∧ Aside0 (wx.heap[g4]? = some (.cells #[.int .i64 q1, .int .i64 q2, .int .i64 q3, .slice A4 q4.length c4] 30 (0, 0))) ∧ Aside0 (Kd.R (Kd.int .i64) 3 wx w.heap.size (fun _ => True) (.slice A4 q4.length c4) q4) ∧ Aside0 (Below w.heap.size w wx))
            case first =>
              have hbad := HBAD.out
              cases t5 with
              | true =>
                subst hbad
                go_wp2
                go_meet
                exact ⟨by simp, X, Y, D, HR, B⟩
              | false =>
                by_cases c5 : q1 = 5
                · have d5 : (q1 == 5) = true := beq_iff_eq.mpr c5
                  by_cases c6 : R.length = 0
                  · have d6 : ((R.length : Int) == 0) = true := beq_iff_eq.mpr (by omega)
                    have hb1 : bad = true := by rw [← hbad]; simp [c5, c6]
                    subst hb1
                    clear c5 c6 hbad
                    go_wp2
                    go_meet
                    exact ⟨rfl, X, Y, D, HR, B⟩
                  · have d6 : ((R.length : Int) == 0) = false := beq_eq_false_iff_ne.mpr (by omega)
                    have hb1 : ((lastOf R).f0 == 5) = bad := by rw [← hbad]; simp [c5, c6]
                    have HB1 := Aside0.mk hb1
                    clear c5 c6 hbad hb1
                    go_wp2_with (first | (go_at_call 39; (refine (rlast.calls_ A c R rest closed 0 _ (Kd.C_below (Kd.F_now HF.out) B.out) HCC.out HL.out _ rfl).mono ?_); rintro e w6 ⟨A3, c3, rfl, h3, hC3, hb⟩; have XN := Aside0.mk (blk_below X.out hb); have YN := Aside0.mk (blk_below Y.out hb); have DN := Aside0.mk (blk_below D.out hb); have HN := Aside0.mk (Kd.R_below HR.out hb); have BN := Aside0.mk (below_step B.out hb); (try have CN := Aside0.mk (Kd.C_below LC.out hb)); clear X Y B D HR i0 i1 i2 i3 u0 u1 u2 u3 k0 k1 k2 k3 z0 z1 z2 z3 l0 l1 l2 l3 m0 m1 m2 m3; (try clear LC); have X := XN; have Y := YN; have B := BN; have D := DN; have HR := HN; (try have LC := CN); clear XN YN BN DN HN; (try clear CN); obtain ⟨⟨i0, i1, i2, i3⟩, u0, u1, u2, u3⟩ := cell4 X.out; obtain ⟨⟨k0, k1, k2, k3⟩, z0, z1, z2, z3⟩ := cell4 Y.out; obtain ⟨⟨l0, l1, l2, l3⟩, m0, m1, m2, m3⟩ := cell4 D.out; clear hb hC3 h3) | fail)
                    go_meet
                    exact ⟨by rw [← HB1.out], X, Y, D, HR, B⟩
                · have d5 : (q1 == 5) = false := beq_eq_false_iff_ne.mpr c5
                  have hb1 : bad = false := by rw [← hbad]; simp [c5]
                  subst hb1
                  clear c5 hbad
                  go_wp2
                  go_meet
                  exact ⟨rfl, X, Y, D, HR, B⟩
            case rest =>
              obtain ⟨rfl, X, Y, D, HR, B⟩ := hcut
              skip
              obtain ⟨⟨i0, i1, i2, i3⟩, u0, u1, u2, u3⟩ := cell4 X.out
              obtain ⟨⟨k0, k1, k2, k3⟩, z0, z1, z2, z3⟩ := cell4 Y.out
              obtain ⟨⟨l0, l1, l2, l3⟩, m0, m1, m2, m3⟩ := cell4 D.out
              have hp := HP2.out
              unfold rStep at hp
              cases bad with
              | true =>
                rw [if_pos rfl] at hp
                subst hp
                go_wp2_with (first | (go_at_call 36; (refine (rfail.calls_ A c R rest _ _ _ 9).mono ?_); rintro e w5 ⟨rfl, hb⟩; have XN := Aside0.mk (blk_below X.out hb); have YN := Aside0.mk (blk_below Y.out hb); have BN := Aside0.mk (below_step B.out hb); clear X Y B i0 i1 i2 i3 u0 u1 u2 u3 k0 k1 k2 k3 z0 z1 z2 z3; have X := XN; have Y := YN; have B := BN; clear XN YN BN; obtain ⟨⟨i0, i1, i2, i3⟩, u0, u1, u2, u3⟩ := cell4 X.out; obtain ⟨⟨k0, k1, k2, k3⟩, z0, z1, z2, z3⟩ := cell4 Y.out; clear hb) | fail)
                (try simp only [Exit.inBlock, Exit.then])
                (refine bodyPost_ret (results_ct rfl _ _ g2 45 #[.slice A R.length c, .string rest, .bool closed, .int .i64 9] (0, 0) _ rfl (by exact blk4_put Y.out) Try.underlying45 rfl (by kernel_rfl)) rfl ?_)
                exact ⟨_, rfl, ⟨A, c, rfl, HCC.out, Kd.F_mono (Kd.F_below HF.out (below4_put B.out G2.out)) (fun _ h => .inl h)⟩, below4_put B.out G2.out⟩
              | false =>
                rw [if_neg (by decide)] at hp
                subst hp
                have X7 := X
                have Y7 := Y
                have D7 := D
                have FX : Aside0 (Kd.F (Kd.int .i64) wc (fun k => (w.heap.size ≤ k ∧ k ≠ g1 ∧ k ≠ g2) ∧ k < wc.heap.size) A4 q4.length q4) := ⟨Kd.F_bound (Kd.F_mono (Kd.Q_F (Kd.Q_bound (Kd.Q_types (Kd.Q_types (Kd.Q_of_R HR.out) X7.out (by decide)) Y7.out (by decide)))) (fun k hk => ⟨hk.2.1, hk.1.1.2, hk.1.2⟩))⟩
                have FR : Aside0 (Kd.F k30 wc (fun k => ok k ∧ k < w.heap.size) A R.length R) := ⟨Kd.F_below (Kd.F_bound HF.out) B.out⟩
                have L4 := Aside0.mk (Kd.R_reads' HR.out).2.1
                have hne := N2.out
                have h41 := N4.out.2.1
                have h42 := N4.out.2.2
                have d1 : decide (0 ≤ q5) = true := decide_eq_true (by have := HG5.out; omega)
                have d2 : decide (q5 ≤ (rest.size : Int)) = true := decide_eq_true HG5.out.2
                have d3 := eq_true (show 0 ≤ q5 by have := HG5.out; omega)
                have d4 := eq_true HG5.out.2
                have FRESH : Aside0 (∀ k, wc.heap.size ≤ k → w.heap.size ≤ k ∧ k ≠ g1 ∧ k ≠ g2) := ⟨fun k hk => by have h1 := blk_lt X7.out; have h2 := blk_lt Y7.out; have h3 := B.out.size; exact ⟨by omega, by omega, by omega⟩⟩
                have BB := Aside0.mk (Below.refl wc.heap.size wc)
                clear HR
                go_upto_region 16 with (first | ((with_reducible refine gate_dst (N := 76) rfl ?_); refine Kd.N_lit k30 wc.heap.size 30 ?hg (N' := 76) ?hd (xs := ([] : List S30)) (inner := []) (ok := (fun k => (ok k ∧ k < w.heap.size) ∨ (w.heap.size ≤ k ∧ k ≠ g1 ∧ k ≠ g2))) (okp := fun _ => False) ?hr ?hp (fun _ hk => hk.elim) (.inr (FRESH.out _ (Nat.le_refl _))) (Below.refl wc.heap.size wc) (Nat.le_refl _) (by simp) ?_; (case hd => rfl); (case hg => rfl); (case hr => first | (go_simp; done) | (go_simp; rfl)); (case hp => exact Reps.none _ _); intro v5 w5 ho hb hg_ hnew_; obtain ⟨A5, c5, rfl⟩ := Kd.N_slice ho; have O := Aside0.mk ho; clear X Y D BB i0 i1 i2 i3 u0 u1 u2 u3 k0 k1 k2 k3 z0 z1 z2 z3 l0 l1 l2 l3 m0 m1 m2 m3; have X := Aside0.mk (blk_below X7.out hb); have Y := Aside0.mk (blk_below Y7.out hb); have D := Aside0.mk (blk_below D7.out hb); have BB := Aside0.mk hb; obtain ⟨⟨i0, i1, i2, i3⟩, u0, u1, u2, u3⟩ := cell4 X.out; obtain ⟨⟨k0, k1, k2, k3⟩, z0, z1, z2, z3⟩ := cell4 Y.out; obtain ⟨⟨l0, l1, l2, l3⟩, m0, m1, m2, m3⟩ := cell4 D.out; clear hg_ hnew_ ho hb) | fail)
                go_upto_region 17 with (first | (at_builtin; refine Kd.N_append_rows k30 (w0 := wc) wc.heap.size rfl (.tmp 77) (.tmp 79) 22 30 (.agg #[(.int .i64 0), (.int .i64 0), (.int .i64 0), (.slice none 0 0)]) 48 rfl Try.underlying22 info30 rfl (by decide) (by omega) (.slice A5 ([] : List S30).length c5) [] R A R.length c (fun k => (ok k ∧ k < w.heap.size) ∨ (w.heap.size ≤ k ∧ k ≠ g1 ∧ k ≠ g2)) (fun k => ok k ∧ k < w.heap.size) rfl rfl O.out (Kd.F_below FR.out BB.out) (fun k hk => ⟨.inl hk, fun he => by have h1 := Kd.N_base O.out k he.symm; have h2 := hk.2; have h3 := B.out.size; omega⟩) (fun k hk => .inr (FRESH.out k (Nat.le_trans BB.out.size hk))) BB.out BB.out.size (by have := HL.out; simp only [List.length_nil]; omega) ?_; intro v6 w6 ho hb hg_ hat_; have O2 : Aside0 (Kd.N k30 30 w6 wc.heap.size (fun k => (ok k ∧ k < w.heap.size) ∨ (w.heap.size ≤ k ∧ k ≠ g1 ∧ k ≠ g2)) v6 R) := ⟨ho⟩; obtain ⟨A6, c6, rfl⟩ := Kd.N_slice O2.out; clear O; clear X Y D BB i0 i1 i2 i3 u0 u1 u2 u3 k0 k1 k2 k3 z0 z1 z2 z3 l0 l1 l2 l3 m0 m1 m2 m3; have X := Aside0.mk (blk_below X7.out hb); have Y := Aside0.mk (blk_below Y7.out hb); have D := Aside0.mk (blk_below D7.out hb); have BB := Aside0.mk hb; obtain ⟨⟨i0, i1, i2, i3⟩, u0, u1, u2, u3⟩ := cell4 X.out; obtain ⟨⟨k0, k1, k2, k3⟩, z0, z1, z2, z3⟩ := cell4 Y.out; obtain ⟨⟨l0, l1, l2, l3⟩, m0, m1, m2, m3⟩ := cell4 D.out; clear hg_ hat_ ho hb) | fail)
                go_upto_region 18 with (first | (at_builtin; refine Kd.N_append k30 (w0 := wc) wc.heap.size rfl (.tmp 81) (.tmp 83) 22 30 (.agg #[(.int .i64 0), (.int .i64 0), (.int .i64 0), (.slice none 0 0)]) 48 rfl Try.underlying22 info30 rfl (by decide) (by omega) (.slice A6 R.length c6) R ⟨q1, q2, q3, q4⟩ [.int .i64 q1, .int .i64 q2, .int .i64 q3, .slice A4 q4.length c4] (fun k => (ok k ∧ k < w.heap.size) ∨ (w.heap.size ≤ k ∧ k ≠ g1 ∧ k ≠ g2)) (fun k => (w.heap.size ≤ k ∧ k ≠ g1 ∧ k ≠ g2) ∧ k < wc.heap.size) rfl ?aX ?aP (fun k hk => ⟨.inr hk.1, fun he => by have h1 := Kd.N_base O2.out k he.symm; have h2 := hk.2; omega⟩) (fun k hk => .inr (FRESH.out k (Nat.le_trans BB.out.size hk))) O2.out BB.out BB.out.size (by have := HL.out; omega) ?_; (case aX => first | (go_simp; done) | (go_simp; rfl)); (case aP => exact k30_mkF _ _ ⟨q1, q2, q3, q4⟩ L4.out (Kd.F_below FX.out BB.out)); intro v9 w9 ho hb hg_ hat_; obtain ⟨A9, c9, hv9⟩ := Kd.N_slice ho; rw [List.length_append, List.length_singleton] at hv9; subst hv9; have O3 := Aside0.mk ho; clear O2; clear X Y D BB i0 i1 i2 i3 u0 u1 u2 u3 k0 k1 k2 k3 z0 z1 z2 z3 l0 l1 l2 l3 m0 m1 m2 m3; have X := Aside0.mk (blk_below X7.out hb); have Y := Aside0.mk (blk_below Y7.out hb); have D := Aside0.mk (blk_below D7.out hb); have BB := Aside0.mk hb; obtain ⟨⟨i0, i1, i2, i3⟩, u0, u1, u2, u3⟩ := cell4 X.out; obtain ⟨⟨k0, k1, k2, k3⟩, z0, z1, z2, z3⟩ := cell4 Y.out; obtain ⟨⟨l0, l1, l2, l3⟩, m0, m1, m2, m3⟩ := cell4 D.out; clear hg_ hat_ ho hb) | fail)
                go_wp2
                (try simp only [Exit.inBlock, Exit.then])
                refine bodyPost_ret (results_ct rfl _ _ g2 45 #[.slice A9 (R.length + 1) c9, .string (rest.extract q5.toNat rest.size), .bool closed, .int .i64 0] (0, 0) _ rfl (by exact blk4_put (far8 (far8 Y.out (Ne.symm hne) 0 _) (Ne.symm hne) 1 _)) Try.underlying45 rfl (by kernel_rfl)) rfl ?_
                have hG1 := G1.out
                have hG2 := G2.out
                have FO : Kd.F k30 w9 (fun k => (ok k ∧ k < w.heap.size) ∨ (w.heap.size ≤ k ∧ k ≠ g1 ∧ k ≠ g2)) A9 (R ++ [(⟨q1, q2, q3, q4⟩ : S30)]).length (R ++ [(⟨q1, q2, q3, q4⟩ : S30)]) := Kd.N_F (by rw [List.length_append, List.length_singleton]; exact O3.out)
                have n1 : ∀ k, ((ok k ∧ k < w.heap.size) ∨ (w.heap.size ≤ k ∧ k ≠ g1 ∧ k ≠ g2)) → k ≠ g1 := fun k hk => by rcases hk with h | h <;> omega
                have n2 : ∀ k, ((ok k ∧ k < w.heap.size) ∨ (w.heap.size ≤ k ∧ k ≠ g1 ∧ k ≠ g2)) → k ≠ g2 := fun k hk => by rcases hk with h | h <;> omega
                refine ⟨_, rfl, ⟨A9, c9, by rw [List.length_append, List.length_singleton], (by rw [List.length_append, List.length_singleton]; exact (Kd.N_reads' (n := R.length + 1) O3.out).2.1), Kd.F_mono (Kd.F_far (p := ⟨g2, 3, none⟩) (Kd.F_far (p := ⟨g2, 2, none⟩) (Kd.F_far (p := ⟨g2, 1, none⟩) (Kd.F_far (p := ⟨g2, 0, none⟩) (Kd.F_far (p := ⟨g1, 1, none⟩) (Kd.F_far (p := ⟨g1, 0, none⟩) FO n1 _) n1 _) n2 _) n2 _) n2 _) n2 _) (fun k hk => hk.elim (fun h => .inl h.1) (fun h => .inr h.1))⟩, ?_⟩
                exact below4_put (((below_step B.out BB.out).setCell (p := ⟨g1, 0, none⟩) G1.out _).setCell (p := ⟨g1, 1, none⟩) G1.out _) G2.out
        · have e5 : (q6 != 0) = true := bne_iff_ne.mpr h5
          rw [if_pos h5] at hp
          subst hp
          clear h4 h5
          go_wp2_with (first | (go_at_call 36; (refine (rfail.calls_ A c R rest _ _ _ q6).mono ?_); rintro e w5 ⟨rfl, hb⟩; have XN := Aside0.mk (blk_below X.out hb); have YN := Aside0.mk (blk_below Y.out hb); have BN := Aside0.mk (below_step B.out hb); clear X Y B i0 i1 i2 i3 u0 u1 u2 u3 k0 k1 k2 k3 z0 z1 z2 z3; have X := XN; have Y := YN; have B := BN; clear XN YN BN; obtain ⟨⟨i0, i1, i2, i3⟩, u0, u1, u2, u3⟩ := cell4 X.out; obtain ⟨⟨k0, k1, k2, k3⟩, z0, z1, z2, z3⟩ := cell4 Y.out; clear hb) | fail)
          (try simp only [Exit.inBlock, Exit.then])
          (refine bodyPost_ret (results_ct rfl _ _ g2 45 #[.slice A R.length c, .string rest, .bool closed, .int .i64 q6] (0, 0) _ rfl (by exact blk4_put Y.out) Try.underlying45 rfl (by kernel_rfl)) rfl ?_)
          exact ⟨_, rfl, ⟨A, c, rfl, HCC.out, Kd.F_mono (Kd.F_below HF.out (below4_put B.out G2.out)) (fun _ h => .inl h)⟩, below4_put B.out G2.out⟩
  · have b0 : (e0 != 0) = true := bne_iff_ne.mpr he
    have hp := HP.out
    rw [rNextS, if_pos he] at hp
    subst hp
    clear he
    go_wp2
    (try simp only [Exit.inBlock, Exit.then])
    (refine bodyPost_ret (results_ct rfl _ _ g2 45 #[.slice A R.length c, .string rest, .bool closed, .int .i64 e0] (0, 0) _ rfl (by exact blk4_put Y.out) Try.underlying45 rfl (by kernel_rfl)) rfl ?_)
    exact ⟨_, rfl, ⟨A, c, rfl, HCC.out, Kd.F_mono (Kd.F_below HF.out (below4_put B.out G2.out)) (fun _ h => .inl h)⟩, below4_put B.out G2.out⟩
end Go.Proofs.Ytejcopppchaneaa.PF
end
section
set_option linter.unusedVariables false
set_option linter.unusedSimpArgs false
namespace Go.Proofs.Ytejcopppchaneaa.PF
open Go.RowKit Go.Proofs.YtejcopppchaneaaW.PrintWords Go.Proofs.YtejcopppchaneaaW.PrintLast Go.Proofs.YtejcopppchaneaaW.PrintMore Go.Proofs.Ytejcopppchaneaa.Pure
theorem rt_kind (s : ByteArray) (h : (rt s).2.2.2.2.2 = 0) : 1 ≤ (rt s).1 ∧ (rt s).1 ≤ 6 ∧ ((rt s).2.2.2.1 = [] ∨ (rt s).1 = 4) := by
  unfold rt at h ⊢
  by_cases h0 : s.size = 0
  · rw [if_pos h0] at h; exact absurd h (by decide)
  · rw [if_neg h0] at h ⊢
    by_cases h1 : bt s 0 < 1 ∨ 6 < bt s 0
    · rw [if_pos h1] at h; exact absurd h (by decide)
    · rw [if_neg h1] at h ⊢
      generalize (bytesOf s).drop 1 = r at h ⊢
      by_cases h4 : bt s 0 = 4
      · rw [if_pos h4] at h ⊢
        unfold rtI at h ⊢
        by_cases hv : (vt 9 r).2.2 = 0
        · rw [if_pos hv] at h ⊢
          by_cases h2 : 65535 < (vt 9 r).1
          · rw [if_pos h2] at h; exact absurd h (by decide)
          · rw [if_neg h2] at h ⊢
            by_cases h3 : (idsL (vt 9 r).1.toNat 0 true (r.drop (vt 9 r).2.1.toNat)).2.2 = 0
            · rw [if_pos h3] at h ⊢
              exact ⟨by simp, by simp, .inr rfl⟩
            · rw [if_neg h3] at h; exact absurd h h3
        · rw [if_neg hv] at h; exact absurd h hv
      · rw [if_neg h4] at h ⊢
        unfold rtN at h ⊢
        by_cases hv : (vt 9 r).2.2 = 0
        · rw [if_pos hv] at h ⊢
          by_cases hg : goodN (bt s 0) (vt 9 r).1 = true
          · rw [if_pos hg] at h ⊢
            by_cases hv2 : (vt 9 (r.drop (vt 9 r).2.1.toNat)).2.2 = 0
            · rw [if_pos hv2] at h ⊢
              by_cases hg2 : goodN (bt s 0) (vt 9 (r.drop (vt 9 r).2.1.toNat)).1 = true
              · rw [if_pos hg2] at h ⊢
                exact ⟨by simp only; omega, by simp only; omega, .inl rfl⟩
              · rw [if_neg hg2] at h; exact absurd h (by decide)
            · rw [if_neg hv2] at h; exact absurd h hv2
          · rw [if_neg hg] at h; exact absurd h (by decide)
        · rw [if_neg hv] at h; exact absurd h hv
theorem lastOf_snoc (R : List S30) (x : S30) : lastOf (R ++ [x]) = x := by
  unfold lastOf
  rw [if_neg (by simp)]
  simp [rd_T30, List.getD_eq_getElem?_getD]
structure Rel (s : LS) (q : RS) : Prop where
  rest : s.rest = q.rest
  closed : s.closed = q.closed
  e : s.e = q.e
  k : s.k = (lastOf q.R).f0
  n : s.n = (lastOf q.R).f1
  r : s.r = (lastOf q.R).f2
  ended : s.ended = ((lastOf q.R).f0 == 6)
  ids : (lastOf q.R).f3 = [] ∨ (lastOf q.R).f0 = 4
  none : q.R.length = 0 ↔ (lastOf q.R).f0 = 0
  ok : okR (lastOf q.R)
theorem two_cmb (a b : S30) : (twoS a b).2.2.2.2 = cmb a b := by
  unfold twoS
  cases h : cmb a b <;> simp [h]
theorem rel_cmb {s : LS} {q : RS} (h : Rel s q) (x : S30) : cmb (lastR s) x = cmb (lastOf q.R) x := by
  unfold cmb lastR
  simp only [decide_eq_decide]
  rw [h.k, h.n, h.r]
  rcases h.ids with h1 | h1
  · rw [h1]
    simp
  · constructor
    · rintro ⟨a, b, _⟩; omega
    · rintro ⟨a, b, _⟩; omega
theorem rel_bad {s : LS} {q : RS} (h : Rel s q) (x : S30) : fitsB s x = !rbad q.R x := by
  unfold fitsB rbad
  rw [two_cmb, two_cmb, rel_cmb h, h.k]
  have h0 : (q.R.length == 0) = ((lastOf q.R).f0 == 0) := by
    by_cases h1 : q.R.length = 0
    · rw [beq_iff_eq.mpr h1, beq_iff_eq.mpr (h.none.1 h1)]
    · rw [beq_eq_false_iff_ne.mpr h1, beq_eq_false_iff_ne.mpr (fun e => h1 (h.none.2 e))]
  rw [h0]
  simp only [bne]
  cases cmb (lastOf q.R) x <;> cases (x.f0 == 5) <;> cases ((lastOf q.R).f0 == 5) <;> cases ((lastOf q.R).f0 == 0) <;> rfl
theorem rel_lastR {s : LS} {q : RS} (h : Rel s q) : okR (lastR s) := by
  have := h.ok
  refine ⟨?_, ?_, ?_, by simp [lastR]⟩
  · show _ ≤ s.k ∧ s.k < _; rw [h.k]; exact this.1
  · show _ ≤ s.n ∧ s.n < _; rw [h.n]; exact this.2.1
  · show _ ≤ s.r ∧ s.r < _; rw [h.r]; exact this.2.2.1
theorem rel_step {s : LS} {q : RS} (h : Rel s q) (hz : s.rest.size ≤ 90000) :
    ((takeS s).2.2.2.2.2 = 0 ∧ (takeS s).2.2.2.2.1 ≠ 0 ∧ rNextS q = (⟨q.R ++ [xOf (takeS s)], (nextL s).rest, s.closed, 0⟩, true) ∧ Rel (nextL s) (rNextS q).1) ∨
    (((takeS s).2.2.2.2.2 ≠ 0 ∨ (takeS s).2.2.2.2.1 = 0) ∧ rNextS q = ({ q with e := (takeS s).2.2.2.2.2 }, false) ∧ Rel { s with e := (takeS s).2.2.2.2.2 } (rNextS q).1) := by
  have hst : ∀ e : Int, rNextS q = ({ q with e := e }, false) → (takeS s).2.2.2.2.2 = e → Rel { s with e := (takeS s).2.2.2.2.2 } (rNextS q).1 := by
    intro e h1 h2
    rw [h1, h2]
    exact ⟨h.rest, h.closed, rfl, h.k, h.n, h.r, h.ended, h.ids, h.none, h.ok⟩
  have hq : ∀ e : Int, e = q.e → ({ q with e := e } : RS) = q := fun e he => by rw [he]
  by_cases he : s.e = 0
  · have heq : q.e = 0 := by rw [← h.e]; exact he
    by_cases h6 : (lastOf q.R).f0 = 6
    · have hen : s.ended = true := by rw [h.ended]; exact beq_iff_eq.mpr h6
      right
      by_cases hr : s.rest.size = 0
      · have ht : takeS s = er 0 := by unfold takeS; rw [if_neg (by simp [he]), if_pos hen, if_pos hr]
        have hn : rNextS q = ({ q with e := 0 }, false) := by unfold rNextS; rw [if_neg (by simp [heq]), if_pos h6, if_pos (by rw [← h.rest]; exact hr), hq 0 heq.symm]
        exact ⟨.inr (by rw [ht]; rfl), by rw [ht]; exact hn, hst 0 hn (by rw [ht]; rfl)⟩
      · have ht : takeS s = er 20 := by unfold takeS; rw [if_neg (by simp [he]), if_pos hen, if_neg hr]
        have hn : rNextS q = ({ q with e := 20 }, false) := by unfold rNextS; rw [if_neg (by simp [heq]), if_pos h6, if_neg (by rw [← h.rest]; exact hr)]
        exact ⟨.inl (by rw [ht]; decide), by rw [ht]; exact hn, hst 20 hn (by rw [ht]; rfl)⟩
    · have hen : ¬ s.ended = true := by rw [h.ended]; simpa using h6
      have ht0 : takeS s = takeQ s.closed (fitsB s (xOf (rt s.rest))) (rt s.rest) := by unfold takeS; rw [if_neg (by simp [he]), if_neg hen]
      have hn0 : rNextS q = (if ((rt q.rest).2.2.2.2.2 == 4 && !q.closed) = true then (q, false) else if (rt q.rest).2.2.2.2.2 ≠ 0 then ({ q with e := (rt q.rest).2.2.2.2.2 }, false) else rStep (rbad q.R (xOf (rt q.rest))) q (rt q.rest)) := by
        unfold rNextS
        rw [if_neg (by simp [heq]), if_neg h6]
      have hr := h.rest
      have hc := h.closed
      rw [← hr, ← hc] at hn0
      unfold takeQ at ht0
      by_cases h4 : ((rt s.rest).2.2.2.2.2 == 4 && !s.closed) = true
      · rw [if_pos h4] at ht0 hn0
        right
        have hn : rNextS q = ({ q with e := 0 }, false) := by rw [hn0, hq 0 heq.symm]
        exact ⟨.inr (by rw [ht0]; rfl), by rw [ht0]; exact hn, hst 0 hn (by rw [ht0]; rfl)⟩
      · rw [if_neg h4] at ht0 hn0
        by_cases h5 : (rt s.rest).2.2.2.2.2 = 0
        · rw [if_neg (by simp [h5])] at hn0
          have hb := rel_bad h (xOf (rt s.rest))
          cases hbad : rbad q.R (xOf (rt s.rest)) with
          | true =>
            rw [hbad] at hb hn0
            rw [if_pos (by rw [hb]; simp [h5])] at ht0
            have hn : rNextS q = ({ q with e := 9 }, false) := by rw [hn0]; rfl
            right
            exact ⟨.inl (by rw [ht0]; decide), by rw [ht0]; exact hn, hst 9 hn (by rw [ht0]; rfl)⟩
          | false =>
            rw [hbad] at hb hn0
            rw [if_neg (by rw [hb]; simp)] at ht0
            obtain ⟨g1, g2, g3⟩ := rt_good s.rest hz h5
            obtain ⟨k1, k2, k3⟩ := rt_kind s.rest h5
            left
            have hn : rNextS q = (⟨q.R ++ [xOf (takeS s)], (nextL s).rest, s.closed, 0⟩, true) := by
              rw [hn0, ht0]
              show ((⟨q.R ++ [xOf (rt s.rest)], q.rest.extract (rt s.rest).2.2.2.2.1.toNat q.rest.size, q.closed, q.e⟩, true) : RS × Bool) = _
              rw [← h.rest, ← h.closed, heq]
              rfl
            refine ⟨by rw [ht0]; exact h5, by rw [ht0]; omega, hn, ?_⟩
            rw [hn, ht0]
            refine ⟨rfl, rfl, rfl, ?_, ?_, ?_, ?_, ?_, ?_, ?_⟩
            · show (rt s.rest).1 = _; rw [lastOf_snoc]; rfl
            · show (rt s.rest).2.1 = _; rw [lastOf_snoc]; rfl
            · show (rt s.rest).2.2.1 = _; rw [lastOf_snoc]; rfl
            · show ((rt s.rest).1 == 6) = _; rw [lastOf_snoc]; rfl
            · rw [lastOf_snoc]; exact k3
            · rw [lastOf_snoc]
              constructor
              · intro hh; simp at hh
              · intro hh; exact absurd (show (rt s.rest).1 = 0 from hh) (by omega)
            · rw [lastOf_snoc]; exact g1
        · rw [if_pos h5] at hn0
          replace hn0 : rNextS q = ({ q with e := (rt s.rest).2.2.2.2.2 }, false) := by rw [hn0, ← hr, ← hc]
          rw [if_neg (by simp [h5])] at ht0
          right
          exact ⟨.inl (by rw [ht0]; exact h5), by rw [ht0]; exact hn0, hst _ hn0 (by rw [ht0])⟩
  · right
    have ht : takeS s = er s.e := by unfold takeS; rw [if_pos he]
    have hn : rNextS q = ({ q with e := s.e }, false) := by unfold rNextS; rw [if_pos (by rw [← h.e]; exact he), hq s.e h.e]
    exact ⟨.inl (by rw [ht]; exact he), by rw [ht]; exact hn, hst s.e hn (by rw [ht]; rfl)⟩
end Go.Proofs.Ytejcopppchaneaa.PF
end
