/- Plain lemmas of this session (HVarint): numbers, bytes and lists. -/
import Derived.Test.YtejcopppchaneaaBytes
import Derived.Test.YtejcopppchaneaaPFx2
namespace Go.Proofs.Ytejcopppchaneaa.Pure
open Go.RowKit Go.Proofs.YtejcopppchaneaaW.PrintWords Go.Proofs.YtejcopppchaneaaW.PrintLast Go.Proofs.YtejcopppchaneaaW.PrintMore Go.Proofs.Ytejcopppchaneaa.PF
/-! ### varint: what the program and the document's reference compute -/
theorem jand127 {x : Int} (h0 : 0 ≤ x) (h1 : x < 9223372036854775808) : Go.bits .and .i64 x 127 = x % 128 :=
  bits_mask .i64 63 (by decide) jwraps_i64 7 (by decide) x h0 (by omega)
theorem jand127u8 {x : Int} (h0 : 0 ≤ x) (h1 : x ≤ 255) : Go.bits .and .u8 x 127 = x % 128 :=
  bits_mask .u8 8 (by decide) wraps_u8 7 (by decide) x h0 (by omega)
theorem jor_comm {x y : Int} (hx : 0 ≤ x) (hx1 : x < 2 ^ 63) (hy : 0 ≤ y) (hy1 : y < 2 ^ 63) : Go.bits .or .i64 x y = Go.bits .or .i64 y x := by
  obtain ⟨a, rfl⟩ := Int.eq_ofNat_of_zero_le hx
  obtain ⟨b, rfl⟩ := Int.eq_ofNat_of_zero_le hy
  have ha : a < 2 ^ 63 := by exact_mod_cast hx1
  have hb : b < 2 ^ 63 := by exact_mod_cast hy1
  rw [(bits_nat .i64 63 (by decide) jwraps_i64 a b ha hb).2, (bits_nat .i64 63 (by decide) jwraps_i64 b a hb ha).2, Nat.or_comm]
theorem jor128 {x : Int} (h0 : 0 ≤ x) (h1 : x < 128) : Go.bits .or .i64 x 128 = x + 128 := by
  rw [jor_comm h0 (by omega) (by omega) (by omega), bits_join .i64 63 (by decide) jwraps_i64 7 128 x (by omega) (by decide) (by decide) h0 (by omega) (by omega)]
  omega
theorem pow7 (i : Nat) : (2 : Int) ^ (7 * i) = 128 ^ i := by rw [Int.pow_mul]; rfl
theorem pow_le_63 {i : Nat} (h : i ≤ 8) : (128 : Int) ^ i * 128 ≤ 2 ^ 63 := by
  have h2 : (128 : Int) ^ i * 128 = 128 ^ (i + 1) := (Int.pow_succ _ _).symm
  have h3 : (128 : Nat) ^ (i + 1) ≤ 128 ^ 9 := Nat.pow_le_pow_right (by decide) (by omega)
  have h4 : ((128 ^ (i + 1) : Nat) : Int) ≤ ((128 ^ 9 : Nat) : Int) := by exact_mod_cast h3
  rw [h2]
  rw [Int.natCast_pow] at h4
  have h5 : ((128 ^ 9 : Nat) : Int) = 2 ^ 63 := by decide
  rw [h5] at h4
  exact h4
theorem jshl {c : Int} {i : Nat} (h0 : 0 ≤ c) (h1 : c ≤ 127) (hi : i ≤ 8) : shl .i64 c (7 * (i : Int)) = c * 128 ^ i := by
  unfold shl
  have e1 : min (7 * (i : Int)).toNat IntKind.i64.bits = 7 * i := by
    have : IntKind.i64.bits = 64 := rfl
    omega
  have hp : (0 : Int) < 128 ^ i := Int.pow_pos (by decide)
  have h5 := pow_le_63 hi
  rw [e1, pow7]
  have h6 : 0 ≤ c * 128 ^ i := Int.mul_nonneg h0 (Int.le_of_lt hp)
  have h7 : c * 128 ^ i ≤ 127 * 128 ^ i := Int.mul_le_mul_of_nonneg_right h1 (Int.le_of_lt hp)
  rw [IntKind.wrap_i64]
  generalize c * 128 ^ i = y at *
  generalize (128 : Int) ^ i = p at *
  omega
theorem jor_join {n c : Int} {i : Nat} (hn : 0 ≤ n) (hn1 : n < 128 ^ i) (h0 : 0 ≤ c) (h1 : c ≤ 127) (hi : i ≤ 8) : Go.bits .or .i64 n (c * 128 ^ i) = n + c * 128 ^ i := by
  have hp : (0 : Int) < 128 ^ i := Int.pow_pos (by decide)
  have h5 := pow_le_63 hi
  have h6 : 0 ≤ c * 128 ^ i := Int.mul_nonneg h0 (Int.le_of_lt hp)
  have h7 : c * 128 ^ i ≤ 127 * 128 ^ i := Int.mul_le_mul_of_nonneg_right h1 (Int.le_of_lt hp)
  have h8 : c * 128 ^ i < 2 ^ 63 := by
    generalize c * 128 ^ i = y at *
    generalize (128 : Int) ^ i = p at *
    omega
  have h9 : n < 2 ^ 63 := by
    generalize c * 128 ^ i = y at *
    generalize (128 : Int) ^ i = p at *
    omega
  rw [jor_comm hn h9 h6 h8, bits_join .i64 63 (by decide) jwraps_i64 (7 * i) (c * 128 ^ i) n h6 (by rw [pow7]; exact Int.mul_emod_left _ _) h8 hn (by rw [pow7]; exact hn1) h9]
  exact Int.add_comm _ _
def vres (i p n : Int) (t : Int × Int × Int) : Int × Int × Int := if t.2.2 = 0 then (n + p * t.1, i + t.2.1, 0) else (0, 0, t.2.2)
theorem vres_ok {i p n a b : Int} : vres i p n (a, b, 0) = (n + p * a, i + b, 0) := if_pos rfl
theorem vres_no {i p n e : Int} (h : e ≠ 0) (a b : Int) : vres i p n (a, b, e) = (0, 0, e) := if_neg h
theorem take_go (s : ByteArray) : ∀ (r i : Nat) (n : Int), i + r = 9 → i ≤ s.size → 0 ≤ n → n < 128 ^ i →
    Ev (fun k => varint_Take.l0 k s n (i : Int)) (vres i (128 ^ i) n (vt r ((bytesOf s).drop i))) := by
  intro r
  induction r with
  | zero =>
    intro i n hi _ _ _
    refine ev_add 1 (fun k => ?_)
    simp only [varint_Take.l0]
    rw [if_neg (by omega)]
    rfl
  | succ r ih =>
    intro i n hi his hn hn1
    by_cases he : i = s.size
    · refine ev_add 1 (fun k => ?_)
      simp only [varint_Take.l0]
      rw [if_pos (by omega), if_pos (by omega), List.drop_eq_nil_of_le (by rw [bytesOf_length]; omega)]
      rfl
    · have hlt : i < s.size := by omega
      have hc := bt_range s (i : Int)
      have hj := jor_join (c := bt s (i : Int) % 128) hn hn1 (by omega) (by omega) (by omega : i ≤ 8)
      have hstep : ∀ k, varint_Take.l0 (k + 1) s n (i : Int) = if bt s (i : Int) < 128 then (if bt s (i : Int) = 0 then (if (i : Int) + 1 > 1 then some (0, 0, 3) else some (n + bt s (i : Int) % 128 * 128 ^ i, (i : Int) + 1, 0)) else some (n + bt s (i : Int) % 128 * 128 ^ i, (i : Int) + 1, 0)) else varint_Take.l0 k s (n + bt s (i : Int) % 128 * 128 ^ i) ((i + 1 : Nat) : Int) := by
        intro k
        rw [varint_Take.l0, if_pos (by omega), if_neg (by omega), if_pos (by omega), if_pos (by omega), jw64 (n := 7 * (i : Int)) (by omega) (by omega), if_pos (by omega), jand127u8 hc.1 hc.2, jw64 (n := bt s (i : Int) % 128) (by omega) (by omega), jshl (by omega) (by omega) (by omega), hj, jw64 (n := (i : Int) + 1) (by omega) (by omega)]
        rfl
      rw [drop_cons s i hlt]
      by_cases h1 : bt s (i : Int) < 128
      · by_cases h2 : bt s (i : Int) = 0 ∧ r < 8
        · rw [show vt (r + 1) (bt s (i : Int) :: (bytesOf s).drop (i + 1)) = (0, 0, 3) by simp only [vt]; rw [if_pos h1, if_pos h2], vres_no (by decide)]
          refine ev_add 1 (fun k => ?_)
          rw [hstep, if_pos h1, if_pos h2.1, if_pos (by omega)]
        · rw [show vt (r + 1) (bt s (i : Int) :: (bytesOf s).drop (i + 1)) = (bt s (i : Int), 1, 0) by simp only [vt]; rw [if_pos h1, if_neg h2], vres_ok]
          refine ev_add 1 (fun k => ?_)
          have e1 : bt s (i : Int) % 128 * 128 ^ i = 128 ^ i * bt s (i : Int) := by rw [show bt s (i : Int) % 128 = bt s (i : Int) by omega, Int.mul_comm]
          rw [hstep, if_pos h1, e1]
          by_cases h3 : bt s (i : Int) = 0
          · have : i = 0 := by
              rcases Nat.eq_zero_or_pos i with h4 | h4
              · exact h4
              · exact absurd ⟨h3, by omega⟩ h2
            subst this
            rw [if_pos h3, if_neg (by omega)]
          · rw [if_neg h3]
      · refine Ev.step (fun k => by rw [hstep, if_neg h1]) ?_
        have hp : (0 : Int) < 128 ^ i := Int.pow_pos (by decide)
        have hq : 0 ≤ bt s (i : Int) % 128 * 128 ^ i := Int.mul_nonneg (by omega) (Int.le_of_lt hp)
        have hq1 : bt s (i : Int) % 128 * 128 ^ i ≤ 127 * 128 ^ i := Int.mul_le_mul_of_nonneg_right (by omega) (Int.le_of_lt hp)
        have := ih (i + 1) (n + bt s (i : Int) % 128 * 128 ^ i) (by omega) (by omega) (by omega) (by rw [Int.pow_succ]; omega)
        by_cases h2 : (vt r ((bytesOf s).drop (i + 1))).2.2 = 0
        · rw [show vt (r + 1) (bt s (i : Int) :: (bytesOf s).drop (i + 1)) = (bt s (i : Int) % 128 + 128 * (vt r ((bytesOf s).drop (i + 1))).1, (vt r ((bytesOf s).drop (i + 1))).2.1 + 1, 0) by simp only [vt]; rw [if_neg h1, if_pos h2], vres_ok]
          unfold vres at this
          rw [if_pos h2] at this
          refine (show ∀ a b : Int × Int × Int, a = b → Ev _ a → Ev _ b from fun a b h => h ▸ id) _ _ ?_ this
          refine Prod.ext ?_ (Prod.ext ?_ rfl)
          · simp only
            rw [Int.pow_succ, Int.mul_add, Int.mul_assoc, ← Int.mul_assoc (128 ^ i) 128, Int.mul_comm (bt s (i : Int) % 128)]
            omega
          · simp only; omega
        · rw [show vt (r + 1) (bt s (i : Int) :: (bytesOf s).drop (i + 1)) = (0, 0, (vt r ((bytesOf s).drop (i + 1))).2.2) by simp only [vt]; rw [if_neg h1, if_neg h2], vres_no h2]
          unfold vres at this
          rw [if_neg h2] at this
          exact this
theorem take_ev (s : ByteArray) : Ev (fun k => varint_Take.f k s) (vt 9 (bytesOf s)) := by
  have := take_go s 9 0 0 (by omega) (by omega) (by omega) (by simp)
  rw [List.drop_zero] at this
  unfold vres at this
  by_cases h : (vt 9 (bytesOf s)).2.2 = 0
  · rw [if_pos h] at this
    refine (show ∀ a b : Int × Int × Int, a = b → Ev _ a → Ev _ b from fun a b h => h ▸ id) _ _ ?_ this
    refine Prod.ext ?_ (Prod.ext ?_ h.symm)
    · simp
    · simp
  · rw [if_neg h] at this
    rw [vt_eta h]
    exact this
end Go.Proofs.Ytejcopppchaneaa.Pure
