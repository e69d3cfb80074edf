/- Plain lemmas of this session (Varsize): numbers, bytes and lists. -/
import Derived.Test.YtpeecclmpbickaaVarint
import Derived.Lib.Bytes
namespace Go.Proofs.Ytpeecclmpbickaa.Pure
open Go.RowKit Go.Proofs.YtpeecclmpbickaaW.PrintWords Go.Proofs.YtpeecclmpbickaaW.PrintLast Go.Proofs.YtpeecclmpbickaaW.PrintMore Go.Proofs.Ytpeecclmpbickaa.PA
/-! ### varint: how many bytes -/
def tab8 : ByteArray := ⟨#[0, 1, 2, 2, 3, 3, 3, 3, 4, 4, 4, 4, 4, 4, 4, 4, 5, 5, 5, 5, 5, 5, 5, 5, 5, 5, 5, 5, 5, 5, 5, 5, 6, 6, 6, 6, 6, 6, 6, 6, 6, 6, 6, 6, 6, 6, 6, 6, 6, 6, 6, 6, 6, 6, 6, 6, 6, 6, 6, 6, 6, 6, 6, 6, 7, 7, 7, 7, 7, 7, 7, 7, 7, 7, 7, 7, 7, 7, 7, 7, 7, 7, 7, 7, 7, 7, 7, 7, 7, 7, 7, 7, 7, 7, 7, 7, 7, 7, 7, 7, 7, 7, 7, 7, 7, 7, 7, 7, 7, 7, 7, 7, 7, 7, 7, 7, 7, 7, 7, 7, 7, 7, 7, 7, 7, 7, 7, 7, 8, 8, 8, 8, 8, 8, 8, 8, 8, 8, 8, 8, 8, 8, 8, 8, 8, 8, 8, 8, 8, 8, 8, 8, 8, 8, 8, 8, 8, 8, 8, 8, 8, 8, 8, 8, 8, 8, 8, 8, 8, 8, 8, 8, 8, 8, 8, 8, 8, 8, 8, 8, 8, 8, 8, 8, 8, 8, 8, 8, 8, 8, 8, 8, 8, 8, 8, 8, 8, 8, 8, 8, 8, 8, 8, 8, 8, 8, 8, 8, 8, 8, 8, 8, 8, 8, 8, 8, 8, 8, 8, 8, 8, 8, 8, 8, 8, 8, 8, 8, 8, 8, 8, 8, 8, 8, 8, 8, 8, 8, 8, 8, 8, 8, 8, 8, 8, 8, 8, 8, 8, 8, 8, 8, 8, 8, 8, 8]⟩
theorem tab8_tells : ∀ y : Fin 256, 0 ≤ bt tab8 (y.1 : Int) ∧ bt tab8 (y.1 : Int) ≤ 8 ∧ y.1 < 2 ^ (bt tab8 (y.1 : Int)).toNat ∧ (y.1 = 0 ∧ bt tab8 (y.1 : Int) = 0 ∨ 1 ≤ bt tab8 (y.1 : Int) ∧ 2 ^ ((bt tab8 (y.1 : Int)).toNat - 1) ≤ y.1) := by decide +kernel
/-- L is how many bits n has. -/
def Bits (n L : Nat) : Prop := n < 2 ^ L ∧ (n = 0 ∧ L = 0 ∨ 1 ≤ L ∧ 2 ^ (L - 1) ≤ n)
theorem bits_tab {T : ByteArray} (hT : T = tab8) {y : Int} (h0 : 0 ≤ y) (h1 : y < 256) : ∃ t : Nat, bt T y = (t : Int) ∧ t ≤ 8 ∧ Bits y.toNat t := by
  subst hT
  have h := tab8_tells ⟨y.toNat, by omega⟩
  simp only [Int.toNat_of_nonneg h0] at h
  refine ⟨(bt tab8 y).toNat, by omega, by omega, h.2.2.1, ?_⟩
  rcases h.2.2.2 with h2 | h2
  · exact .inl ⟨h2.1, by omega⟩
  · exact .inr ⟨by omega, h2.2⟩
theorem bits_up {n t b : Nat} (h : Bits (n / 2 ^ b) t) (ht : 1 ≤ t) : Bits n (b + t) := by
  have hp : 0 < 2 ^ b := Nat.pow_pos (by decide)
  refine ⟨?_, .inr ⟨by omega, ?_⟩⟩
  · have := h.1
    rw [Nat.div_lt_iff_lt_mul hp] at this
    rw [Nat.add_comm, Nat.pow_add]; exact this
  · rcases h.2 with h2 | h2
    · omega
    · have h3 := h2.2
      rw [Nat.le_div_iff_mul_le hp] at h3
      rw [show b + t - 1 = (t - 1) + b by omega, Nat.pow_add]; exact h3
theorem bits_pos {y t : Nat} (h : Bits y t) (hy : y ≠ 0) : 1 ≤ t := by
  rcases h.2 with h2 | h2
  · omega
  · exact h2.1
theorem j0_eq {T : ByteArray} (hT : T = tab8) (k : Nat) (x0 x2 : Int) : bits_Len64.j0 (k + 1) x0 x2 = if x0 ≥ 65536 then (if (x0 / 65536) ≥ 256 then (if 0 ≤ (((x0 / 65536) / 256) % 256) then (if (((x0 / 65536) / 256) % 256) < 256 then (some (wrap64 ((wrap64 ((wrap64 (x2 + 16)) + 8)) + (wrap64 (bt T (((x0 / 65536) / 256) % 256)))))) else (none)) else (none)) else (if 0 ≤ ((x0 / 65536) % 256) then (if ((x0 / 65536) % 256) < 256 then (some (wrap64 ((wrap64 (x2 + 16)) + (wrap64 (bt T ((x0 / 65536) % 256)))))) else (none)) else (none))) else (if x0 ≥ 256 then (if 0 ≤ ((x0 / 256) % 256) then (if ((x0 / 256) % 256) < 256 then (some (wrap64 ((wrap64 (x2 + 8)) + (wrap64 (bt T ((x0 / 256) % 256)))))) else (none)) else (none)) else (if 0 ≤ ((x0) % 256) then (if ((x0) % 256) < 256 then (some (wrap64 (x2 + (wrap64 (bt T ((x0) % 256)))))) else (none)) else (none))) := by subst hT; rfl
theorem j0_bits (n : Nat) (hn : n < 4294967296) (base : Int) (hb0 : 0 ≤ base) (hb1 : base ≤ 32) : ∃ t : Nat, t ≤ 32 ∧ Bits n t ∧ ∀ k, bits_Len64.j0 (k + 1) (n : Int) base = some (base + t) := by
  obtain ⟨T, hT⟩ : ∃ T, T = tab8 := ⟨_, rfl⟩
  by_cases h1 : n < 65536
  · by_cases h2 : n < 256
    · obtain ⟨t, ht, ht8, hB⟩ := bits_tab hT (y := (n : Int)) (by omega) (by omega)
      rw [Int.toNat_natCast] at hB
      refine ⟨t, by omega, hB, fun k => ?_⟩
      rw [j0_eq hT, if_neg (by omega), if_neg (by omega), show (n : Int) % 256 = (n : Int) by omega, if_pos (by omega), if_pos (by omega)]
      rw [ht, jw64 (n := (t : Int)) (by omega) (by omega), jw64 (by omega) (by omega)]
    · obtain ⟨t, ht, ht8, hB⟩ := bits_tab hT (y := (n : Int) / 256) (by omega) (by omega)
      rw [show ((n : Int) / 256).toNat = n / 2 ^ 8 by omega] at hB
      have ht1 := bits_pos hB (by omega)
      refine ⟨8 + t, by omega, bits_up hB ht1, fun k => ?_⟩
      rw [j0_eq hT, if_neg (by omega), if_pos (by omega), show (n : Int) / 256 % 256 = (n : Int) / 256 by omega, if_pos (by omega), if_pos (by omega)]
      rw [ht, jw64 (n := (t : Int)) (by omega) (by omega), jw64 (n := base + 8) (by omega) (by omega), jw64 (by omega) (by omega)]
      congr 1; omega
  · by_cases h2 : n / 65536 < 256
    · obtain ⟨t, ht, ht8, hB⟩ := bits_tab hT (y := (n : Int) / 65536) (by omega) (by omega)
      rw [show ((n : Int) / 65536).toNat = n / 2 ^ 16 by omega] at hB
      have ht1 := bits_pos hB (by omega)
      refine ⟨16 + t, by omega, bits_up hB ht1, fun k => ?_⟩
      rw [j0_eq hT, if_pos (by omega), if_neg (by omega), show (n : Int) / 65536 % 256 = (n : Int) / 65536 by omega, if_pos (by omega), if_pos (by omega)]
      rw [ht, jw64 (n := (t : Int)) (by omega) (by omega), jw64 (n := base + 16) (by omega) (by omega), jw64 (by omega) (by omega)]
      congr 1; omega
    · obtain ⟨t, ht, ht8, hB⟩ := bits_tab hT (y := (n : Int) / 65536 / 256) (by omega) (by omega)
      rw [show ((n : Int) / 65536 / 256).toNat = n / 2 ^ 24 by omega] at hB
      have ht1 := bits_pos hB (by omega)
      refine ⟨24 + t, by omega, bits_up hB ht1, fun k => ?_⟩
      rw [j0_eq hT, if_pos (by omega), if_pos (by omega), show (n : Int) / 65536 / 256 % 256 = (n : Int) / 65536 / 256 by omega, if_pos (by omega), if_pos (by omega)]
      rw [ht, jw64 (n := (t : Int)) (by omega) (by omega), jw64 (n := base + 16) (by omega) (by omega), jw64 (n := base + 16 + 8) (by omega) (by omega), jw64 (by omega) (by omega)]
      congr 1; omega
theorem len64_bits (n : Nat) (hn : n < 9223372036854775808) : ∃ L : Nat, L ≤ 64 ∧ Bits n L ∧ ∀ k, bits_Len64.f (k + 1) (n : Int) = some (L : Int) := by
  by_cases h : n < 4294967296
  · obtain ⟨t, h1, h2, h3⟩ := j0_bits n h 0 (by omega) (by omega)
    refine ⟨t, by omega, h2, fun k => ?_⟩
    unfold bits_Len64.f
    rw [if_neg (by omega), h3]; congr 1; omega
  · obtain ⟨t, h1, h2, h3⟩ := j0_bits (n / 4294967296) (by omega) 32 (by omega) (by omega)
    have ht1 := bits_pos h2 (by omega)
    refine ⟨32 + t, by omega, bits_up (b := 32) h2 ht1, fun k => ?_⟩
    unfold bits_Len64.f
    rw [if_pos (by omega), show (n : Int) / 4294967296 = ((n / 4294967296 : Nat) : Int) by omega, h3]; congr 1
theorem bits_vput {n L : Nat} (h : Bits n L) (hL : L ≤ 63) : (vput n).length = max 1 ((L + 6) / 7) := by
  rcases h.2 with h2 | h2
  · rw [h2.1, h2.2, vput_small (by omega)]; rfl
  · obtain ⟨m, hm⟩ : ∃ m, m = (L + 6) / 7 - 1 := ⟨_, rfl⟩
    rw [vput_len m n ?_ ?_]
    · omega
    · have h3 : (128 : Nat) ^ (m + 1) = 2 ^ (7 * (m + 1)) := by rw [Nat.pow_mul]
      rw [h3]
      exact Nat.lt_of_lt_of_le h.1 (Nat.pow_le_pow_right (by decide) (by omega))
    · rcases Nat.eq_zero_or_pos m with h0 | h0
      · exact .inl h0
      · refine .inr ?_
        have h3 : (128 : Nat) ^ m = 2 ^ (7 * m) := by rw [Nat.pow_mul]
        rw [h3]
        exact Nat.le_trans (Nat.pow_le_pow_right (by decide) (by omega)) h2.2
theorem size_ev {n : Int} (h : n < 9223372036854775808) : Ev (fun k => varint_Size.f k n) ((vp n).length : Int) := by
  unfold varint_Size.f vp
  by_cases h0 : n < 0
  · rw [if_pos h0]
    exact ev_is (fun k => by rw [if_pos h0]; rfl)
  · obtain ⟨m, rfl⟩ := Int.eq_ofNat_of_zero_le (by omega : 0 ≤ n)
    obtain ⟨L, hL, hB, hk⟩ := len64_bits m (by omega)
    have hL63 : L ≤ 63 := by
      rcases hB.2 with h2 | h2
      · omega
      · rcases Nat.lt_or_ge L 64 with h3 | h3
        · omega
        · exfalso
          have : L = 64 := by omega
          subst this
          have := h2.2
          omega
    refine ev_add 1 (fun k => ?_)
    rw [if_neg h0, if_neg h0, show IntKind.u64.wrap (m : Int) = (m : Int) by rw [jwu64]; omega, hk, Option.bind_some, Int.toNat_natCast, bits_vput hB hL63]
    rw [jw64 (n := (L : Int) + 6) (by omega) (by omega), Int.tdiv_eq_ediv_of_nonneg (by omega), jw64 (by omega) (by omega)]
    unfold mx
    congr 1
    split <;> omega
theorem awake02_ev : Ev (fun k => juratlaw02_awake.f k) true := by
  unfold juratlaw02_awake.f
  refine Ev.bind (take_ev _) (Ev.bind (take_ev _) (Ev.bind (put_ev (by omega)) ?_))
  have e1 : vt 9 (bytesOf (⟨#[128, 0]⟩ : ByteArray)) = (0, 0, 3) := by decide
  have e2 : vt 9 (bytesOf (⟨#[128]⟩ : ByteArray)) = (0, 0, 4) := by decide
  have e3 : vp 300 = [172, 2] := by
    unfold vp
    rw [if_neg (by decide), show (300 : Int).toNat = 300 from rfl, vput_big (by decide), vput_small (by decide)]; rfl
  rw [e1, e2, e3]
  refine Ev.congr (fun k => by rw [if_pos (by rw [Lib.toList_data]; decide)]) ?_
  refine Ev.bind (size_ev (by omega)) ?_
  rw [e3]
  exact ev_is (fun _ => by decide)
end Go.Proofs.Ytpeecclmpbickaa.Pure
