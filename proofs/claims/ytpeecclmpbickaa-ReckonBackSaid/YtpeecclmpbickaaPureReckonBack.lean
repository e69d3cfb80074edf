/- What is proved: what reckon adds is taken away again, nothing goes round, and Times and Walk belong together, for any three 64-bit numbers. Conditions: none beyond the row's own. -/
import Derived.Test.YtpeecclmpbickaaPReckonBackx2
import Derived.Laws.BitsLemmas
namespace Go.Proofs.Ytpeecclmpbickaa.Pure
open Go.RowKit Go.Proofs.Ytpeecclmpbickaa.PReckonBack Go.Proofs.YtpeecclmpbickaaW.PrintWords Go.Proofs.YtpeecclmpbickaaW.PrintLast Go.Proofs.YtpeecclmpbickaaW.PrintMore
/-! ### numbers -/
theorem jw64 {n : Int} (h0 : -9223372036854775808 ≤ n) (h1 : n < 9223372036854775808) : wrap64 n = n := by unfold wrap64; omega
theorem jwu64 {n : Int} : IntKind.u64.wrap n = n % 18446744073709551616 := by
  simp [IntKind.wrap, IntKind.bits, IntKind.signed]
theorem jwraps_u64 (n : Int) (h₀ : 0 ≤ n) (h₁ : n < 2 ^ 64) : IntKind.u64.wrap n = n := by rw [jwu64]; omega
theorem jwraps_i64 (n : Int) (h₀ : 0 ≤ n) (h₁ : n < 2 ^ 63) : IntKind.i64.wrap n = n := by
  rw [IntKind.wrap_i64]; omega
theorem jand32 {x : Int} (h0 : 0 ≤ x) (h1 : x < 18446744073709551616) : Go.bits .and .u64 x 4294967295 = x % 4294967296 :=
  bits_mask .u64 64 (by decide) jwraps_u64 32 (by decide) x h0 (by omega)
theorem jand1 {x : Int} (h0 : 0 ≤ x) (h1 : x < 9223372036854775808) : Go.bits .and .i64 x 1 = x % 2 :=
  bits_mask .i64 63 (by decide) jwraps_i64 1 (by decide) x h0 (by omega)
theorem jwf64 {a : Int} (h : (Lit.int .i64 a).wf = true) : -9223372036854775808 ≤ a ∧ a < 9223372036854775808 := by
  have h' : IntKind.i64.min ≤ a ∧ a ≤ IntKind.i64.max := by simpa [Lit.wf] using h
  have e1 : IntKind.i64.min = -9223372036854775808 := by decide
  have e2 : IntKind.i64.max = 9223372036854775807 := by decide
  omega
theorem ev_is {α : Type} {g : Nat → Option α} {r : α} (h : ∀ k, g k = some r) : Ev g r := ⟨0, fun k _ => h k⟩
theorem ev_add {α : Type} {g : Nat → Option α} {r : α} (n : Nat) (h : ∀ k, g (k + n) = some r) : Ev g r := ⟨n, fun k hk => by rw [show k = (k - n) + n by omega]; exact h _⟩
/-! ### reckon: what the program computes -/
abbrev In (n : Int) : Prop := 0 ≤ n ∧ n ≤ 4611686018427387903
def addS (a b : Int) : Int × Int := if In a ∧ In b then (if 4611686018427387903 < a + b then (0, 10) else (a + b, 0)) else (0, 2)
def subS (a b : Int) : Int × Int := if In a ∧ In b then (if a < b then (0, 11) else (a - b, 0)) else (0, 2)
def mulS (a b : Int) : Int × Int := if In a ∧ In b then (if 4611686018427387903 < a * b then (0, 10) else (a * b, 0)) else (0, 2)
def walkS (a l t : Int) : Int × Int := if In a ∧ In l ∧ In t then (if (mulS l t).2 = 0 then addS a (mulS l t).1 else (0, (mulS l t).2)) else (0, 2)
def timesS (a b l : Int) : Int × Int := if (subS b a).2 = 0 then (if In l ∧ l ≠ 0 then ((subS b a).1 / l, 0) else (0, 2)) else (0, (subS b a).2)

theorem is_eq (n : Int) : reckon_Is.f n = some (decide (In n)) := by
  unfold reckon_Is.f
  by_cases h : n ≥ 0
  · rw [if_pos h]; congr 1; rw [decide_eq_decide]; omega
  · rw [if_neg h]; congr 1; symm; rw [decide_eq_false_iff_not]; omega
theorem all_go (l : List Int) (hl : l.length ≤ 1000) : ∀ (d k i : Nat), i + d = l.length → d < k → reckon_all.l0 k l l.length i = some ((l.drop i).all fun n => decide (In n)) := by
  intro d
  induction d with
  | zero =>
    intro k i h hk
    obtain ⟨k, rfl⟩ : ∃ m, k = m + 1 := ⟨k - 1, by omega⟩
    simp only [reckon_all.l0]
    rw [if_neg (by omega), List.drop_eq_nil_of_le (by omega)]; rfl
  | succ d ih =>
    intro k i h hk
    obtain ⟨k, rfl⟩ : ∃ m, k = m + 1 := ⟨k - 1, by omega⟩
    simp only [reckon_all.l0]
    rw [if_pos (by omega), if_pos (by omega), if_pos (by omega), is_eq]
    simp only [Option.bind_some]
    have hi : i < l.length := by omega
    have e : rd l (i : Int) = l[i] := by simp [rd, List.getD_eq_getElem?_getD, List.getElem?_eq_getElem hi]
    rw [List.drop_eq_getElem_cons hi, List.all_cons, e]
    by_cases hc : In l[i]
    · rw [decide_eq_true hc, if_pos rfl, jw64 (by omega) (by omega), Bool.true_and]
      have := ih k (i + 1) (by omega) (by omega)
      rw [← this]; congr 1
    · rw [decide_eq_false hc, if_neg (by decide), Bool.false_and]
theorem all_ev (l : List Int) (hl : l.length ≤ 1000) : Ev (fun k => reckon_all.f k l) (l.all fun n => decide (In n)) :=
  ⟨l.length + 1, fun k hk => by have := all_go l hl l.length k 0 (by omega) (by omega); rw [List.drop_zero] at this; exact this⟩
theorem all2 (a b : Int) : Ev (fun k => reckon_all.f k [a, b]) (decide (In a ∧ In b)) := by
  have := all_ev [a, b] (by simp)
  simpa using this
theorem all3 (a b c : Int) : Ev (fun k => reckon_all.f k [a, b, c]) (decide (In a ∧ In b ∧ In c)) := by
  have := all_ev [a, b, c] (by simp)
  simpa using this
theorem add_ev (a b : Int) : Ev (fun k => reckon_Add.f k a b) (addS a b) := by
  refine Ev.bind (all2 a b) ⟨0, fun k _ => ?_⟩
  unfold addS
  by_cases h : In a ∧ In b
  · rw [decide_eq_true h, if_pos rfl, if_pos h]
    rw [jw64 (by omega) (by omega)]
    by_cases h2 : 4611686018427387903 < a + b
    · rw [if_pos (by omega), if_pos h2]
    · rw [if_neg (by omega), if_neg h2, jw64 (by omega) (by omega)]
  · rw [decide_eq_false h, if_neg (by decide), if_neg h]
theorem sub_ev (a b : Int) : Ev (fun k => reckon_Sub.f k a b) (subS a b) := by
  refine Ev.bind (all2 a b) ⟨0, fun k _ => ?_⟩
  unfold subS
  by_cases h : In a ∧ In b
  · rw [decide_eq_true h, if_pos rfl, if_pos h]
    by_cases h2 : a < b
    · rw [if_pos (by omega), if_pos h2]
    · rw [if_neg (by omega), if_neg h2, jw64 (by omega) (by omega)]
  · rw [decide_eq_false h, if_neg (by decide), if_neg h]
theorem mul64_eq (a b : Int) (ha : 0 ≤ a) (hb : 0 ≤ b) (ha' : a < 4611686018427387904) (hb' : b < 4611686018427387904) : bits_Mul64.f a b = some (a * b / 18446744073709551616, a * b % 18446744073709551616) := by
  unfold bits_Mul64.f
  rw [jand32 ha (by omega), jand32 hb (by omega)]
  obtain ⟨a1, hA1⟩ : ∃ x, x = a / 4294967296 := ⟨_, rfl⟩
  obtain ⟨a0, hA0⟩ : ∃ x, x = a % 4294967296 := ⟨_, rfl⟩
  obtain ⟨b1, hB1⟩ : ∃ x, x = b / 4294967296 := ⟨_, rfl⟩
  obtain ⟨b0, hB0⟩ : ∃ x, x = b % 4294967296 := ⟨_, rfl⟩
  have ea : a = a1 * 4294967296 + a0 := by omega
  have eb : b = b1 * 4294967296 + b0 := by omega
  rw [← hA1, ← hA0, ← hB1, ← hB0]
  have bd : ∀ x y X Y : Int, 0 ≤ x → 0 ≤ y → x ≤ X → y ≤ Y → 0 ≤ x * y ∧ x * y ≤ X * Y := fun x y X Y h1 h2 h3 h4 => ⟨Int.mul_nonneg h1 h2, Int.mul_le_mul h3 h4 h2 (by omega)⟩
  have q00 := bd a0 b0 4294967295 4294967295 (by omega) (by omega) (by omega) (by omega)
  have q10 := bd a1 b0 1073741823 4294967295 (by omega) (by omega) (by omega) (by omega)
  have q01 := bd a0 b1 4294967295 1073741823 (by omega) (by omega) (by omega) (by omega)
  have q11 := bd a1 b1 1073741823 1073741823 (by omega) (by omega) (by omega) (by omega)
  have ep : a * b = (a1 * b1) * 18446744073709551616 + (a1 * b0 + a0 * b1) * 4294967296 + a0 * b0 := by
    have e1 : (a1 * 4294967296) * (b1 * 4294967296) = (a1 * b1) * (4294967296 * 4294967296) := by rw [Int.mul_assoc, Int.mul_assoc, Int.mul_left_comm 4294967296 b1]
    have e2 : (a1 * 4294967296) * b0 = (a1 * b0) * 4294967296 := Int.mul_right_comm ..
    have e3 : a0 * (b1 * 4294967296) = (a0 * b1) * 4294967296 := (Int.mul_assoc ..).symm
    rw [ea, eb, Int.add_mul, Int.mul_add, Int.mul_add, e1, e2, e3]
    omega
  clear ha' hb' ha hb ea eb hA1 hA0 hB1 hB0 bd
  rw [ep]
  generalize a * b = m at *
  generalize a0 * b0 = p00 at *
  generalize a1 * b0 = p10 at *
  generalize a0 * b1 = p01 at *
  generalize a1 * b1 = p11 at *
  obtain ⟨t, ht⟩ : ∃ x, x = p10 + p00 / 4294967296 := ⟨_, rfl⟩
  have w00 : IntKind.u64.wrap p00 = p00 := by rw [jwu64]; omega
  have w10 : IntKind.u64.wrap p10 = p10 := by rw [jwu64]; omega
  have w01 : IntKind.u64.wrap p01 = p01 := by rw [jwu64]; omega
  have w11 : IntKind.u64.wrap p11 = p11 := by rw [jwu64]; omega
  have wt : IntKind.u64.wrap (p10 + p00 / 4294967296) = t := by rw [jwu64]; omega
  rw [w00, w10, w01, w11, wt, jand32 (by omega) (by omega)]
  simp only [jwu64]
  congr 1
  refine Prod.ext ?_ ?_
  · simp only
    omega
  · simp only
theorem mul_ev (a b : Int) : Ev (fun k => reckon_Mul.f k a b) (mulS a b) := by
  refine Ev.bind (all2 a b) ⟨0, fun k _ => ?_⟩
  unfold mulS
  by_cases h : In a ∧ In b
  · rw [decide_eq_true h, if_pos rfl, if_pos h]
    have wa : IntKind.u64.wrap a = a := by rw [jwu64]; omega
    have wb : IntKind.u64.wrap b = b := by rw [jwu64]; omega
    have h0 : 0 ≤ a * b := Int.mul_nonneg h.1.1 h.2.1
    rw [wa, wb, mul64_eq a b (by omega) (by omega) (by omega) (by omega)]
    simp only [Option.bind_some]
    by_cases h2 : 4611686018427387903 < a * b
    · rw [if_pos h2]
      by_cases h3 : a * b / 18446744073709551616 > 0
      · rw [if_pos h3]
      · rw [if_neg h3, if_pos (by omega)]
    · rw [if_neg h2, if_neg (by omega), if_neg (by omega), jw64 (by omega) (by omega)]
      congr 1; rw [Prod.mk.injEq]; exact ⟨by omega, rfl⟩
  · rw [decide_eq_false h, if_neg (by decide), if_neg h]
theorem walk_ev (a l t : Int) : Ev (fun k => reckon_Walk.f k a l t) (walkS a l t) := by
  refine Ev.bind (all3 a l t) ?_
  unfold walkS
  by_cases h : In a ∧ In l ∧ In t
  · rw [if_pos h]
    refine Ev.congr (fun k => by rw [decide_eq_true h, if_pos rfl]) ?_
    refine Ev.bind (mul_ev l t) ?_
    by_cases h2 : (mulS l t).2 = 0
    · rw [if_pos h2]
      refine Ev.congr (fun k => by rw [if_pos h2]) ?_
      exact Ev.bind (add_ev a _) ⟨0, fun _ _ => rfl⟩
    · rw [if_neg h2]
      exact ev_is (fun k => by rw [if_neg h2])
  · rw [if_neg h]
    exact ev_is (fun k => by rw [decide_eq_false h, if_neg (by decide)])
theorem times_ev (a b l : Int) : Ev (fun k => reckon_Times.f k a b l) (timesS a b l) := by
  refine Ev.bind (sub_ev b a) ⟨0, fun k _ => ?_⟩
  unfold timesS
  by_cases h : (subS b a).2 = 0
  · rw [if_pos h, if_pos h, is_eq]
    simp only [Option.bind_some]
    have hs : 0 ≤ (subS b a).1 ∧ (subS b a).1 ≤ 4611686018427387903 := by
      revert h; unfold subS; split
      · rename_i h1
        split
        · intro h; cases h
        · intro _; simp only; omega
      · intro h; cases h
    by_cases h2 : In l
    · rw [decide_eq_true h2, if_pos rfl]
      by_cases h3 : l = 0
      · rw [if_pos h3, if_neg (fun h => h.2 h3)]
      · rw [if_neg h3, if_pos ⟨h2, h3⟩, Int.tdiv_eq_ediv_of_nonneg hs.1]
        have : 0 ≤ (subS b a).1 / l := Int.ediv_nonneg hs.1 h2.1
        have : (subS b a).1 / l ≤ (subS b a).1 := Int.ediv_le_self _ hs.1
        rw [jw64 (by omega) (by omega)]
    · rw [decide_eq_false h2, if_neg (by decide), if_neg (fun h => h2 h.1)]
  · rw [if_neg h, if_neg h]
theorem awake03_ev : Ev (fun k => juratlaw03_awake.f k) true := by
  refine Ev.bind (add_ev _ _) ?_
  refine Ev.bind (walk_ev _ _ _) ?_
  refine Ev.bind (times_ev _ _ _) ?_
  exact ev_is (fun _ => by decide)
theorem back_j0 (a b c : Int) : Ev (fun k => juratlaw03_ReckonBack.j0 k a b c) true := by
  refine Ev.step (fun k => by rw [juratlaw03_ReckonBack.j0]) ?_
  refine Ev.bind (times_ev a b c) ?_
  by_cases ht : (timesS a b c).2 = 0
  · refine Ev.congr (fun k => by rw [if_pos ht]) ?_
    refine Ev.bind (walk_ev _ _ _) (Ev.bind (walk_ev _ _ _) ?_)
    have hs : (subS b a).2 = 0 ∧ In c ∧ c ≠ 0 ∧ (timesS a b c).1 = (subS b a).1 / c := by
      revert ht; unfold timesS; split
      · rename_i h1
        split
        · rename_i h2; intro _; exact ⟨h1, h2.1, h2.2, rfl⟩
        · intro h; cases h
      · intro h; rename_i h1; exact absurd h h1
    have hab : In a ∧ In b ∧ a ≤ b ∧ (subS b a).1 = b - a := by
      have := hs.1
      revert this; unfold subS; split
      · rename_i h1
        split
        · intro h; cases h
        · intro _; exact ⟨h1.2, h1.1, by omega, rfl⟩
      · intro h; cases h
    obtain ⟨n, hn⟩ : ∃ n, n = (timesS a b c).1 := ⟨_, rfl⟩
    have hn' : n = (b - a) / c := by rw [hn, hs.2.2.2, hab.2.2.2]
    obtain ⟨ha, hb, hle, _⟩ := hab
    have hc := hs.2.1
    have hc0 := hs.2.2.1
    have hcp : 0 < c := by omega
    have hn0 : 0 ≤ n := by rw [hn']; exact Int.ediv_nonneg (by omega) hc.1
    have hnb : n ≤ b - a := by rw [hn']; exact Int.ediv_le_self _ (by omega)
    have hcn0 : 0 ≤ c * n := Int.mul_nonneg hc.1 hn0
    have hcn1 : c * n ≤ b - a := by rw [hn']; exact Int.mul_ediv_self_le hc0
    have hcn2 : b - a < c * n + c := by rw [hn']; exact Int.lt_mul_ediv_self_add hcp
    rw [← hn]
    have hm : mulS c n = (c * n, 0) := by
      unfold mulS; rw [if_pos ⟨hc, by omega⟩, if_neg (by omega)]
    have hw : walkS a c n = (a + c * n, 0) := by
      unfold walkS
      rw [if_pos ⟨ha, hc, by omega⟩, hm, if_pos rfl]
      unfold addS
      rw [if_pos (by omega), if_neg (by omega)]
    have hm1 : mulS c 1 = (c, 0) := by
      unfold mulS; rw [if_pos ⟨hc, by omega⟩, Int.mul_one, if_neg (by omega)]
    rw [hw]
    have hw1 : walkS (a + c * n) c 1 = if 4611686018427387903 < a + c * n + c then (0, 10) else (a + c * n + c, 0) := by
      unfold walkS
      rw [if_pos ⟨by omega, hc, by omega⟩, hm1, if_pos rfl]
      unfold addS
      rw [if_pos (by omega)]
    rw [hw1]
    by_cases ho : 4611686018427387903 < a + c * n + c
    · refine Ev.congr (fun k => by rw [if_pos ho, if_pos rfl, if_pos (by simp only; omega), if_pos rfl]) ?_
      exact Ev.bind awake03_ev (Ev.now _)
    · refine Ev.congr (fun k => by rw [if_neg ho, if_pos rfl, if_pos (by simp only; omega), if_neg (by simp only; omega), if_pos rfl, if_pos (by simp only; omega)]) ?_
      exact Ev.bind awake03_ev (Ev.now _)
  · have h0 : (timesS a b c).1 = 0 := by
      revert ht; unfold timesS; split
      · split
        · intro h; exact absurd rfl h
        · intro _; rfl
      · intro _; rfl
    refine Ev.congr (fun k => by rw [if_neg ht, if_pos h0]) ?_
    exact Ev.bind awake03_ev (Ev.now _)
theorem ReckonBack : juratlaw03_ReckonBack.Pure := by
  intro a b c _ _ _
  refine Ev.rounds ?_
  unfold juratlaw03_ReckonBack.f
  refine Ev.bind (add_ev a b) ?_
  by_cases h : (addS a b).2 = 0
  · refine Ev.congr (fun k => by rw [if_pos h]) ?_
    have hs : In a ∧ In b ∧ (addS a b).1 = a + b ∧ a + b ≤ 4611686018427387903 := by
      revert h; unfold addS; split
      · rename_i h1
        split
        · intro h; cases h
        · rename_i h2; intro _; exact ⟨h1.1, h1.2, rfl, by omega⟩
      · intro h; cases h
    obtain ⟨ha, hb, he, hle⟩ := hs
    rw [he]
    refine Ev.bind (sub_ev _ _) ?_
    have hb' : subS (a + b) b = (a, 0) := by
      unfold subS
      rw [if_pos (by omega), if_neg (by omega)]
      congr 1; omega
    rw [hb']
    refine Ev.congr (fun k => by rw [if_pos rfl, if_pos rfl, if_neg (by omega), if_neg (by omega)]) ?_
    exact back_j0 a b c
  · exact Ev.congr (fun k => by rw [if_neg h]) (back_j0 a b c)
end Go.Proofs.Ytpeecclmpbickaa.Pure
