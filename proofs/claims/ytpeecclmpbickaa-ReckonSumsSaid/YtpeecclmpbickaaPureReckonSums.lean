/- What is proved: reckon.Add, Sub, Mul and Is tell what the document's tell, for any two 64-bit numbers. Conditions: none beyond the row's own. -/
import Derived.Test.YtpeecclmpbickaaPReckonSumsx2
import Derived.Laws.BitsLemmas
namespace Go.Proofs.Ytpeecclmpbickaa.Pure
open Go.RowKit Go.Proofs.Ytpeecclmpbickaa.PReckonSums Go.Proofs.YtpeecclmpbickaaW.PrintWords Go.Proofs.YtpeecclmpbickaaW.PrintLast Go.Proofs.YtpeecclmpbickaaW.PrintMore
/-! ### numbers -/
theorem jw64 {n : Int} (h0 : -9223372036854775808 ≤ n) (h1 : n < 9223372036854775808) : wrap64 n = n := by unfold wrap64; omega
theorem jwu64 {n : Int} : IntKind.u64.wrap n = n % 18446744073709551616 := by
  simp [IntKind.wrap, IntKind.bits, IntKind.signed]
theorem jwraps_u64 (n : Int) (h₀ : 0 ≤ n) (h₁ : n < 2 ^ 64) : IntKind.u64.wrap n = n := by rw [jwu64]; omega
theorem jwraps_i64 (n : Int) (h₀ : 0 ≤ n) (h₁ : n < 2 ^ 63) : IntKind.i64.wrap n = n := by
  rw [IntKind.wrap_i64]; omega
theorem jand32 {x : Int} (h0 : 0 ≤ x) (h1 : x < 18446744073709551616) : Go.bits .and .u64 x 4294967295 = x % 4294967296 :=
  bits_mask .u64 64 (by decide) jwraps_u64 32 (by decide) x h0 (by omega)
theorem jand1 {x : Int} (h0 : 0 ≤ x) (h1 : x < 9223372036854775808) : Go.bits .and .i64 x 1 = x % 2 :=
  bits_mask .i64 63 (by decide) jwraps_i64 1 (by decide) x h0 (by omega)
theorem jwf64 {a : Int} (h : (Lit.int .i64 a).wf = true) : -9223372036854775808 ≤ a ∧ a < 9223372036854775808 := by
  have h' : IntKind.i64.min ≤ a ∧ a ≤ IntKind.i64.max := by simpa [Lit.wf] using h
  have e1 : IntKind.i64.min = -9223372036854775808 := by decide
  have e2 : IntKind.i64.max = 9223372036854775807 := by decide
  omega
theorem ev_is {α : Type} {g : Nat → Option α} {r : α} (h : ∀ k, g k = some r) : Ev g r := ⟨0, fun k _ => h k⟩
theorem ev_add {α : Type} {g : Nat → Option α} {r : α} (n : Nat) (h : ∀ k, g (k + n) = some r) : Ev g r := ⟨n, fun k hk => by rw [show k = (k - n) + n by omega]; exact h _⟩
/-! ### reckon: what the program computes -/
abbrev In (n : Int) : Prop := 0 ≤ n ∧ n ≤ 4611686018427387903
def addS (a b : Int) : Int × Int := if In a ∧ In b then (if 4611686018427387903 < a + b then (0, 10) else (a + b, 0)) else (0, 2)
def subS (a b : Int) : Int × Int := if In a ∧ In b then (if a < b then (0, 11) else (a - b, 0)) else (0, 2)
def mulS (a b : Int) : Int × Int := if In a ∧ In b then (if 4611686018427387903 < a * b then (0, 10) else (a * b, 0)) else (0, 2)
def walkS (a l t : Int) : Int × Int := if In a ∧ In l ∧ In t then (if (mulS l t).2 = 0 then addS a (mulS l t).1 else (0, (mulS l t).2)) else (0, 2)
def timesS (a b l : Int) : Int × Int := if (subS b a).2 = 0 then (if In l ∧ l ≠ 0 then ((subS b a).1 / l, 0) else (0, 2)) else (0, (subS b a).2)

theorem is_eq (n : Int) : reckon_Is.f n = some (decide (In n)) := by
  unfold reckon_Is.f
  by_cases h : n ≥ 0
  · rw [if_pos h]; congr 1; rw [decide_eq_decide]; omega
  · rw [if_neg h]; congr 1; symm; rw [decide_eq_false_iff_not]; omega
theorem all_go (l : List Int) (hl : l.length ≤ 1000) : ∀ (d k i : Nat), i + d = l.length → d < k → reckon_all.l0 k l l.length i = some ((l.drop i).all fun n => decide (In n)) := by
  intro d
  induction d with
  | zero =>
    intro k i h hk
    obtain ⟨k, rfl⟩ : ∃ m, k = m + 1 := ⟨k - 1, by omega⟩
    simp only [reckon_all.l0]
    rw [if_neg (by omega), List.drop_eq_nil_of_le (by omega)]; rfl
  | succ d ih =>
    intro k i h hk
    obtain ⟨k, rfl⟩ : ∃ m, k = m + 1 := ⟨k - 1, by omega⟩
    simp only [reckon_all.l0]
    rw [if_pos (by omega), if_pos (by omega), if_pos (by omega), is_eq]
    simp only [Option.bind_some]
    have hi : i < l.length := by omega
    have e : rd l (i : Int) = l[i] := by simp [rd, List.getD_eq_getElem?_getD, List.getElem?_eq_getElem hi]
    rw [List.drop_eq_getElem_cons hi, List.all_cons, e]
    by_cases hc : In l[i]
    · rw [decide_eq_true hc, if_pos rfl, jw64 (by omega) (by omega), Bool.true_and]
      have := ih k (i + 1) (by omega) (by omega)
      rw [← this]; congr 1
    · rw [decide_eq_false hc, if_neg (by decide), Bool.false_and]
theorem all_ev (l : List Int) (hl : l.length ≤ 1000) : Ev (fun k => reckon_all.f k l) (l.all fun n => decide (In n)) :=
  ⟨l.length + 1, fun k hk => by have := all_go l hl l.length k 0 (by omega) (by omega); rw [List.drop_zero] at this; exact this⟩
theorem all2 (a b : Int) : Ev (fun k => reckon_all.f k [a, b]) (decide (In a ∧ In b)) := by
  have := all_ev [a, b] (by simp)
  simpa using this
theorem all3 (a b c : Int) : Ev (fun k => reckon_all.f k [a, b, c]) (decide (In a ∧ In b ∧ In c)) := by
  have := all_ev [a, b, c] (by simp)
  simpa using this
theorem add_ev (a b : Int) : Ev (fun k => reckon_Add.f k a b) (addS a b) := by
  refine Ev.bind (all2 a b) ⟨0, fun k _ => ?_⟩
  unfold addS
  by_cases h : In a ∧ In b
  · rw [decide_eq_true h, if_pos rfl, if_pos h]
    rw [jw64 (by omega) (by omega)]
    by_cases h2 : 4611686018427387903 < a + b
    · rw [if_pos (by omega), if_pos h2]
    · rw [if_neg (by omega), if_neg h2, jw64 (by omega) (by omega)]
  · rw [decide_eq_false h, if_neg (by decide), if_neg h]
theorem sub_ev (a b : Int) : Ev (fun k => reckon_Sub.f k a b) (subS a b) := by
  refine Ev.bind (all2 a b) ⟨0, fun k _ => ?_⟩
  unfold subS
  by_cases h : In a ∧ In b
  · rw [decide_eq_true h, if_pos rfl, if_pos h]
    by_cases h2 : a < b
    · rw [if_pos (by omega), if_pos h2]
    · rw [if_neg (by omega), if_neg h2, jw64 (by omega) (by omega)]
  · rw [decide_eq_false h, if_neg (by decide), if_neg h]
theorem mul64_eq (a b : Int) (ha : 0 ≤ a) (hb : 0 ≤ b) (ha' : a < 4611686018427387904) (hb' : b < 4611686018427387904) : bits_Mul64.f a b = some (a * b / 18446744073709551616, a * b % 18446744073709551616) := by
  unfold bits_Mul64.f
  rw [jand32 ha (by omega), jand32 hb (by omega)]
  obtain ⟨a1, hA1⟩ : ∃ x, x = a / 4294967296 := ⟨_, rfl⟩
  obtain ⟨a0, hA0⟩ : ∃ x, x = a % 4294967296 := ⟨_, rfl⟩
  obtain ⟨b1, hB1⟩ : ∃ x, x = b / 4294967296 := ⟨_, rfl⟩
  obtain ⟨b0, hB0⟩ : ∃ x, x = b % 4294967296 := ⟨_, rfl⟩
  have ea : a = a1 * 4294967296 + a0 := by omega
  have eb : b = b1 * 4294967296 + b0 := by omega
  rw [← hA1, ← hA0, ← hB1, ← hB0]
  have bd : ∀ x y X Y : Int, 0 ≤ x → 0 ≤ y → x ≤ X → y ≤ Y → 0 ≤ x * y ∧ x * y ≤ X * Y := fun x y X Y h1 h2 h3 h4 => ⟨Int.mul_nonneg h1 h2, Int.mul_le_mul h3 h4 h2 (by omega)⟩
  have q00 := bd a0 b0 4294967295 4294967295 (by omega) (by omega) (by omega) (by omega)
  have q10 := bd a1 b0 1073741823 4294967295 (by omega) (by omega) (by omega) (by omega)
  have q01 := bd a0 b1 4294967295 1073741823 (by omega) (by omega) (by omega) (by omega)
  have q11 := bd a1 b1 1073741823 1073741823 (by omega) (by omega) (by omega) (by omega)
  have ep : a * b = (a1 * b1) * 18446744073709551616 + (a1 * b0 + a0 * b1) * 4294967296 + a0 * b0 := by
    have e1 : (a1 * 4294967296) * (b1 * 4294967296) = (a1 * b1) * (4294967296 * 4294967296) := by rw [Int.mul_assoc, Int.mul_assoc, Int.mul_left_comm 4294967296 b1]
    have e2 : (a1 * 4294967296) * b0 = (a1 * b0) * 4294967296 := Int.mul_right_comm ..
    have e3 : a0 * (b1 * 4294967296) = (a0 * b1) * 4294967296 := (Int.mul_assoc ..).symm
    rw [ea, eb, Int.add_mul, Int.mul_add, Int.mul_add, e1, e2, e3]
    omega
  clear ha' hb' ha hb ea eb hA1 hA0 hB1 hB0 bd
  rw [ep]
  generalize a * b = m at *
  generalize a0 * b0 = p00 at *
  generalize a1 * b0 = p10 at *
  generalize a0 * b1 = p01 at *
  generalize a1 * b1 = p11 at *
  obtain ⟨t, ht⟩ : ∃ x, x = p10 + p00 / 4294967296 := ⟨_, rfl⟩
  have w00 : IntKind.u64.wrap p00 = p00 := by rw [jwu64]; omega
  have w10 : IntKind.u64.wrap p10 = p10 := by rw [jwu64]; omega
  have w01 : IntKind.u64.wrap p01 = p01 := by rw [jwu64]; omega
  have w11 : IntKind.u64.wrap p11 = p11 := by rw [jwu64]; omega
  have wt : IntKind.u64.wrap (p10 + p00 / 4294967296) = t := by rw [jwu64]; omega
  rw [w00, w10, w01, w11, wt, jand32 (by omega) (by omega)]
  simp only [jwu64]
  congr 1
  refine Prod.ext ?_ ?_
  · simp only
    omega
  · simp only
theorem mul_ev (a b : Int) : Ev (fun k => reckon_Mul.f k a b) (mulS a b) := by
  refine Ev.bind (all2 a b) ⟨0, fun k _ => ?_⟩
  unfold mulS
  by_cases h : In a ∧ In b
  · rw [decide_eq_true h, if_pos rfl, if_pos h]
    have wa : IntKind.u64.wrap a = a := by rw [jwu64]; omega
    have wb : IntKind.u64.wrap b = b := by rw [jwu64]; omega
    have h0 : 0 ≤ a * b := Int.mul_nonneg h.1.1 h.2.1
    rw [wa, wb, mul64_eq a b (by omega) (by omega) (by omega) (by omega)]
    simp only [Option.bind_some]
    by_cases h2 : 4611686018427387903 < a * b
    · rw [if_pos h2]
      by_cases h3 : a * b / 18446744073709551616 > 0
      · rw [if_pos h3]
      · rw [if_neg h3, if_pos (by omega)]
    · rw [if_neg h2, if_neg (by omega), if_neg (by omega), jw64 (by omega) (by omega)]
      congr 1; rw [Prod.mk.injEq]; exact ⟨by omega, rfl⟩
  · rw [decide_eq_false h, if_neg (by decide), if_neg h]
theorem walk_ev (a l t : Int) : Ev (fun k => reckon_Walk.f k a l t) (walkS a l t) := by
  refine Ev.bind (all3 a l t) ?_
  unfold walkS
  by_cases h : In a ∧ In l ∧ In t
  · rw [if_pos h]
    refine Ev.congr (fun k => by rw [decide_eq_true h, if_pos rfl]) ?_
    refine Ev.bind (mul_ev l t) ?_
    by_cases h2 : (mulS l t).2 = 0
    · rw [if_pos h2]
      refine Ev.congr (fun k => by rw [if_pos h2]) ?_
      exact Ev.bind (add_ev a _) ⟨0, fun _ _ => rfl⟩
    · rw [if_neg h2]
      exact ev_is (fun k => by rw [if_neg h2])
  · rw [if_neg h]
    exact ev_is (fun k => by rw [decide_eq_false h, if_neg (by decide)])
theorem times_ev (a b l : Int) : Ev (fun k => reckon_Times.f k a b l) (timesS a b l) := by
  refine Ev.bind (sub_ev b a) ⟨0, fun k _ => ?_⟩
  unfold timesS
  by_cases h : (subS b a).2 = 0
  · rw [if_pos h, if_pos h, is_eq]
    simp only [Option.bind_some]
    have hs : 0 ≤ (subS b a).1 ∧ (subS b a).1 ≤ 4611686018427387903 := by
      revert h; unfold subS; split
      · rename_i h1
        split
        · intro h; cases h
        · intro _; simp only; omega
      · intro h; cases h
    by_cases h2 : In l
    · rw [decide_eq_true h2, if_pos rfl]
      by_cases h3 : l = 0
      · rw [if_pos h3, if_neg (fun h => h.2 h3)]
      · rw [if_neg h3, if_pos ⟨h2, h3⟩, Int.tdiv_eq_ediv_of_nonneg hs.1]
        have : 0 ≤ (subS b a).1 / l := Int.ediv_nonneg hs.1 h2.1
        have : (subS b a).1 / l ≤ (subS b a).1 := Int.ediv_le_self _ hs.1
        rw [jw64 (by omega) (by omega)]
    · rw [decide_eq_false h2, if_neg (by decide), if_neg (fun h => h2 h.1)]
  · rw [if_neg h, if_neg h]
theorem awake03_ev : Ev (fun k => juratlaw03_awake.f k) true := by
  refine Ev.bind (add_ev _ _) ?_
  refine Ev.bind (walk_ev _ _ _) ?_
  refine Ev.bind (times_ev _ _ _) ?_
  exact ev_is (fun _ => by decide)
/-! ### reckon: the document's answer -/
theorem ris_eq (n : Int) : juratref03_Is.f n = some (decide (In n)) := is_eq n
theorem radd_ev (a b : Int) : Ev (fun k => juratref03_Add.f k a b) (addS a b) := by
  unfold addS
  refine ev_add 1 (fun k => ?_)
  unfold juratref03_Add.f
  rw [ris_eq, ris_eq]
  simp only [Option.bind_some]
  by_cases ha : In a
  · by_cases hb : In b
    · rw [decide_eq_true ha, decide_eq_true hb, if_pos rfl, juratref03_Add.j0, if_neg (by decide), if_pos (show In a ∧ In b from ⟨ha, hb⟩)]
      rw [jw64 (by omega) (by omega)]
      by_cases h2 : 4611686018427387903 < a + b
      · rw [if_pos h2, if_pos h2]
      · rw [if_neg h2, if_neg (by omega), if_neg h2]
    · rw [decide_eq_true ha, decide_eq_false hb, if_pos rfl, juratref03_Add.j0, if_pos (by decide), if_neg (show ¬ (In a ∧ In b) from fun h => hb h.2)]
  · rw [decide_eq_false ha, if_neg (by decide), juratref03_Add.j0, if_pos rfl, if_neg (show ¬ (In a ∧ In b) from fun h => ha h.1)]
theorem rsub_ev (a b : Int) : Ev (fun k => juratref03_Sub.f k a b) (subS a b) := by
  unfold subS
  refine ev_add 1 (fun k => ?_)
  unfold juratref03_Sub.f
  rw [ris_eq, ris_eq]
  simp only [Option.bind_some]
  by_cases ha : In a
  · by_cases hb : In b
    · rw [decide_eq_true ha, decide_eq_true hb, if_pos rfl, juratref03_Sub.j0, if_neg (by decide), if_pos (show In a ∧ In b from ⟨ha, hb⟩)]
      by_cases h2 : a < b
      · rw [if_pos h2, if_pos h2]
      · rw [if_neg h2, if_neg h2, jw64 (by omega) (by omega)]
    · rw [decide_eq_true ha, decide_eq_false hb, if_pos rfl, juratref03_Sub.j0, if_pos (by decide), if_neg (show ¬ (In a ∧ In b) from fun h => hb h.2)]
  · rw [decide_eq_false ha, if_neg (by decide), juratref03_Sub.j0, if_pos rfl, if_neg (show ¬ (In a ∧ In b) from fun h => ha h.1)]
theorem half_le (a n : Int) (e : Nat) (ha : 0 ≤ a) (hn : 0 ≤ n) : a * (n / 2 ^ e) ≤ a * n := Int.mul_le_mul_of_nonneg_left (Int.ediv_le_self _ hn) ha
theorem pow_step (n : Int) (e : Nat) : n / 2 ^ (e + 1) = (n / 2 ^ e) / 2 := by
  rw [Int.pow_succ, ← Int.ediv_ediv_of_nonneg (Int.le_of_lt (Int.pow_pos (by decide)))]
theorem rmul_go (a n : Int) (ha : In a) (hn : In n) : ∀ (d k : Nat) (out : Int), d ≤ 62 → d < k → out = a * (n / 2 ^ d) → out ≤ 4611686018427387903 →
    juratref03_Mul.l0 k a n out ((d : Int) - 1) = some (if 4611686018427387903 < a * n then (0, 10) else (a * n, 0)) := by
  intro d
  induction d with
  | zero =>
    intro k out _ hk ho hb
    obtain ⟨k, rfl⟩ : ∃ m, k = m + 1 := ⟨k - 1, by omega⟩
    simp only [juratref03_Mul.l0]
    have e1 : out = a * n := by rw [ho]; simp
    rw [if_neg (by omega), if_neg (by omega), e1]
  | succ d ih =>
    intro k out h62 hk ho hb
    obtain ⟨k, rfl⟩ : ∃ m, k = m + 1 := ⟨k - 1, by omega⟩
    simp only [juratref03_Mul.l0]
    have e0 : (((d + 1 : Nat) : Int) - 1) = (d : Int) := by omega
    have hq0 : 0 ≤ n / 2 ^ d := Int.ediv_nonneg hn.1 (Int.le_of_lt (Int.pow_pos (by decide)))
    have hqn : n / 2 ^ d ≤ n := Int.ediv_le_self _ hn.1
    have hs : shr .i64 n (d : Int) = n / 2 ^ d := by
      unfold shr
      rw [show min (d : Int).toNat IntKind.i64.bits = d by simp [IntKind.bits]; omega]
    have hp := pow_step n d
    have hall := half_le a n d ha.1 hn.1
    have hout0 : 0 ≤ out := by rw [ho]; exact Int.mul_nonneg ha.1 (Int.ediv_nonneg hn.1 (Int.le_of_lt (Int.pow_pos (by decide))))
    rw [e0, if_pos (by omega), hs, jand1 hq0 (by omega)]
    obtain ⟨q, hq⟩ : ∃ q, q = n / 2 ^ d := ⟨_, rfl⟩
    rw [← hq] at hp hall hq0 hqn ⊢
    rw [hp] at ho
    have h2 : a * q = 2 * out + a * (q % 2) := by
      have : q = 2 * (q / 2) + q % 2 := by omega
      rw [ho]
      conv => lhs; rw [this]
      rw [Int.mul_add, ← Int.mul_assoc, Int.mul_comm a 2, Int.mul_assoc]
    by_cases hbig : out > 2305843009213693951
    · have : 0 ≤ a * (q % 2) := Int.mul_nonneg ha.1 (by omega)
      rw [if_pos hbig, if_pos (by omega)]
    · rw [if_neg hbig, if_pos (by omega), jw64 (n := 2 * out) (by omega) (by omega)]
      by_cases hbit : q % 2 = 1
      · rw [if_pos hbit]
        rw [hbit, Int.mul_one] at h2
        rw [jw64 (n := 4611686018427387903 - a) (by omega) (by omega)]
        by_cases hov : 2 * out > 4611686018427387903 - a
        · rw [if_pos hov, if_pos (by omega)]
        · rw [if_neg hov, jw64 (n := 2 * out + a) (by omega) (by omega), jw64 (by omega) (by omega)]
          exact ih k (2 * out + a) (by omega) (by omega) (by rw [← hq]; omega) (by omega)
      · rw [if_neg hbit]
        have hz : q % 2 = 0 := by omega
        rw [hz, Int.mul_zero] at h2
        rw [jw64 (by omega) (by omega)]
        exact ih k (2 * out) (by omega) (by omega) (by rw [← hq]; omega) (by omega)
theorem rmul_ev (a b : Int) : Ev (fun k => juratref03_Mul.f k a b) (mulS a b) := by
  unfold mulS
  refine ev_add 80 (fun k => ?_)
  unfold juratref03_Mul.f
  rw [ris_eq, ris_eq]
  rw [show k + 80 = (k + 79) + 1 from rfl]
  simp only [Option.bind_some]
  by_cases ha : In a
  · by_cases hb : In b
    · rw [decide_eq_true ha, decide_eq_true hb, if_pos rfl, juratref03_Mul.j0, if_neg (by decide), if_pos (show In a ∧ In b from ⟨ha, hb⟩)]
      have hz : b / 2 ^ 62 = 0 := by omega
      exact rmul_go a b ha hb 62 (k + 79) 0 (by omega) (by omega) (by rw [hz, Int.mul_zero]) (by omega)
    · rw [decide_eq_true ha, decide_eq_false hb, if_pos rfl, juratref03_Mul.j0, if_pos (by decide), if_neg (show ¬ (In a ∧ In b) from fun h => hb h.2)]
  · rw [decide_eq_false ha, if_neg (by decide), juratref03_Mul.j0, if_pos rfl, if_neg (show ¬ (In a ∧ In b) from fun h => ha h.1)]
theorem ReckonSums : juratlaw03_ReckonSums.Pure := by
  intro a b _ _
  refine Ev.rounds ?_
  unfold juratlaw03_ReckonSums.f
  refine Ev.bind (add_ev a b) (Ev.bind (radd_ev a b) (Ev.bind (sub_ev a b) (Ev.bind (rsub_ev a b) (Ev.bind (mul_ev a b) (Ev.bind (rmul_ev a b) ?_)))))
  refine Ev.congr (fun k => by rw [is_eq, ris_eq, Option.bind_some, Option.bind_some, if_pos (by simp), if_pos rfl, if_pos rfl, if_pos rfl, if_pos rfl, if_pos rfl, if_pos rfl]) ?_
  exact Ev.bind awake03_ev (Ev.now _)
end Go.Proofs.Ytpeecclmpbickaa.Pure
