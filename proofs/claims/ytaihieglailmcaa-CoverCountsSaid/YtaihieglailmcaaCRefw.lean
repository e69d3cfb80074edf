/- Plain lemmas of this session (CRefw): numbers, bytes and lists. -/
import Derived.Test.YtaihieglailmcaaCPlain
import Derived.Test.YtaihieglailmcaaPCx3
import Derived.Test.YtaihieglailmcaaPCx3
namespace Go.Proofs.Ytaihieglailmcaa.Pure
open Go.RowKit Go.Proofs.YtaihieglailmcaaW.PrintWords Go.Proofs.YtaihieglailmcaaW.PrintLast Go.Proofs.YtaihieglailmcaaW.PrintMore Go.Proofs.Ytaihieglailmcaa.PC
theorem ris_eq (n : Int) : juratref03_Is.f n = some (decide (In n)) := is_eq n
theorem radd_ev (a b : Int) : Ev (fun k => juratref03_Add.f k a b) (addS a b) := by
  unfold addS
  refine ev_add 1 (fun k => ?_)
  unfold juratref03_Add.f
  rw [ris_eq, ris_eq]
  simp only [Option.bind_some]
  by_cases ha : In a
  · by_cases hb : In b
    · rw [decide_eq_true ha, decide_eq_true hb, if_pos rfl, juratref03_Add.j0, if_neg (by decide), if_pos (show In a ∧ In b from ⟨ha, hb⟩)]
      rw [jw64 (by omega) (by omega)]
      by_cases h2 : 4611686018427387903 < a + b
      · rw [if_pos h2, if_pos h2]
      · rw [if_neg h2, if_neg (by omega), if_neg h2]
    · rw [decide_eq_true ha, decide_eq_false hb, if_pos rfl, juratref03_Add.j0, if_pos (by decide), if_neg (show ¬ (In a ∧ In b) from fun h => hb h.2)]
  · rw [decide_eq_false ha, if_neg (by decide), juratref03_Add.j0, if_pos rfl, if_neg (show ¬ (In a ∧ In b) from fun h => ha h.1)]
theorem half_le (a n : Int) (e : Nat) (ha : 0 ≤ a) (hn : 0 ≤ n) : a * (n / 2 ^ e) ≤ a * n := Int.mul_le_mul_of_nonneg_left (Int.ediv_le_self _ hn) ha
theorem pow_step (n : Int) (e : Nat) : n / 2 ^ (e + 1) = (n / 2 ^ e) / 2 := by
  rw [Int.pow_succ, ← Int.ediv_ediv_of_nonneg (Int.le_of_lt (Int.pow_pos (by decide)))]
theorem rmul_go (a n : Int) (ha : In a) (hn : In n) : ∀ (d k : Nat) (out : Int), d ≤ 62 → d < k → out = a * (n / 2 ^ d) → out ≤ 4611686018427387903 →
    juratref03_Mul.l0 k a n out ((d : Int) - 1) = some (if 4611686018427387903 < a * n then (0, 10) else (a * n, 0)) := by
  intro d
  induction d with
  | zero =>
    intro k out _ hk ho hb
    obtain ⟨k, rfl⟩ : ∃ m, k = m + 1 := ⟨k - 1, by omega⟩
    simp only [juratref03_Mul.l0]
    have e1 : out = a * n := by rw [ho]; simp
    rw [if_neg (by omega), if_neg (by omega), e1]
  | succ d ih =>
    intro k out h62 hk ho hb
    obtain ⟨k, rfl⟩ : ∃ m, k = m + 1 := ⟨k - 1, by omega⟩
    simp only [juratref03_Mul.l0]
    have e0 : (((d + 1 : Nat) : Int) - 1) = (d : Int) := by omega
    have hq0 : 0 ≤ n / 2 ^ d := Int.ediv_nonneg hn.1 (Int.le_of_lt (Int.pow_pos (by decide)))
    have hqn : n / 2 ^ d ≤ n := Int.ediv_le_self _ hn.1
    have hs : shr .i64 n (d : Int) = n / 2 ^ d := by
      unfold shr
      rw [show min (d : Int).toNat IntKind.i64.bits = d by simp [IntKind.bits]; omega]
    have hp := pow_step n d
    have hall := half_le a n d ha.1 hn.1
    have hout0 : 0 ≤ out := by rw [ho]; exact Int.mul_nonneg ha.1 (Int.ediv_nonneg hn.1 (Int.le_of_lt (Int.pow_pos (by decide))))
    rw [e0, if_pos (by omega), hs, jand1 hq0 (by omega)]
    obtain ⟨q, hq⟩ : ∃ q, q = n / 2 ^ d := ⟨_, rfl⟩
    rw [← hq] at hp hall hq0 hqn ⊢
    rw [hp] at ho
    have h2 : a * q = 2 * out + a * (q % 2) := by
      have : q = 2 * (q / 2) + q % 2 := by omega
      rw [ho]
      conv => lhs; rw [this]
      rw [Int.mul_add, ← Int.mul_assoc, Int.mul_comm a 2, Int.mul_assoc]
    by_cases hbig : out > 2305843009213693951
    · have : 0 ≤ a * (q % 2) := Int.mul_nonneg ha.1 (by omega)
      rw [if_pos hbig, if_pos (by omega)]
    · rw [if_neg hbig, if_pos (by omega), jw64 (n := 2 * out) (by omega) (by omega)]
      by_cases hbit : q % 2 = 1
      · rw [if_pos hbit]
        rw [hbit, Int.mul_one] at h2
        rw [jw64 (n := 4611686018427387903 - a) (by omega) (by omega)]
        by_cases hov : 2 * out > 4611686018427387903 - a
        · rw [if_pos hov, if_pos (by omega)]
        · rw [if_neg hov, jw64 (n := 2 * out + a) (by omega) (by omega), jw64 (by omega) (by omega)]
          exact ih k (2 * out + a) (by omega) (by omega) (by rw [← hq]; omega) (by omega)
      · rw [if_neg hbit]
        have hz : q % 2 = 0 := by omega
        rw [hz, Int.mul_zero] at h2
        rw [jw64 (by omega) (by omega)]
        exact ih k (2 * out) (by omega) (by omega) (by rw [← hq]; omega) (by omega)
theorem rmul_ev (a b : Int) : Ev (fun k => juratref03_Mul.f k a b) (mulS a b) := by
  unfold mulS
  refine ev_add 80 (fun k => ?_)
  unfold juratref03_Mul.f
  rw [ris_eq, ris_eq]
  rw [show k + 80 = (k + 79) + 1 from rfl]
  simp only [Option.bind_some]
  by_cases ha : In a
  · by_cases hb : In b
    · rw [decide_eq_true ha, decide_eq_true hb, if_pos rfl, juratref03_Mul.j0, if_neg (by decide), if_pos (show In a ∧ In b from ⟨ha, hb⟩)]
      have hz : b / 2 ^ 62 = 0 := by omega
      exact rmul_go a b ha hb 62 (k + 79) 0 (by omega) (by omega) (by rw [hz, Int.mul_zero]) (by omega)
    · rw [decide_eq_true ha, decide_eq_false hb, if_pos rfl, juratref03_Mul.j0, if_pos (by decide), if_neg (show ¬ (In a ∧ In b) from fun h => hb h.2)]
  · rw [decide_eq_false ha, if_neg (by decide), juratref03_Mul.j0, if_pos rfl, if_neg (show ¬ (In a ∧ In b) from fun h => ha h.1)]
theorem rwalk_ev (a l t : Int) : Ev (fun k => juratref03_Walk.f k a l t) (walkS a l t) := by
  unfold walkS juratref03_Walk.f
  refine Ev.congr (fun k => by rw [ris_eq, ris_eq, ris_eq]) ?_
  simp only [Option.bind_some]
  by_cases ha : In a
  · by_cases hl : In l
    · by_cases ht : In t
      · rw [if_pos ⟨ha, hl, ht⟩]
        refine Ev.step (fun k => by rw [decide_eq_true ha, decide_eq_true hl, decide_eq_true ht, if_pos rfl, if_pos rfl, juratref03_Walk.j0, if_neg (by decide)]) ?_
        refine Ev.bind (rmul_ev l t) ?_
        by_cases h2 : (mulS l t).2 = 0
        · rw [if_pos h2]
          refine Ev.congr (fun k => by rw [if_pos h2]) ?_
          exact Ev.bind (radd_ev a _) ⟨0, fun _ _ => rfl⟩
        · rw [if_neg h2]
          exact ev_is (fun k => by rw [if_neg h2])
      · rw [if_neg (fun h => ht h.2.2)]
        refine Ev.step (f := fun _ => some (0, 2)) (fun k => by rw [decide_eq_true ha, decide_eq_true hl, decide_eq_false ht, if_pos rfl, if_pos rfl, juratref03_Walk.j0, if_pos (by decide)]) (Ev.now _)
    · rw [if_neg (fun h => hl h.2.1)]
      refine Ev.step (f := fun _ => some (0, 2)) (fun k => by rw [decide_eq_true ha, decide_eq_false hl, if_pos rfl, if_neg (by decide), juratref03_Walk.j0, if_pos rfl]) (Ev.now _)
  · rw [if_neg (fun h => ha h.1)]
    refine Ev.step (f := fun _ => some (0, 2)) (fun k => by rw [decide_eq_false ha, if_neg (by decide), juratref03_Walk.j0, if_pos rfl]) (Ev.now _)
end Go.Proofs.Ytaihieglailmcaa.Pure
