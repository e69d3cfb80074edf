/- Plain lemmas of this session (CBase): numbers, bytes and lists. -/
import Derived.Test.YtaihieglailmcaaWMore
import Derived.Test.YtaihieglailmcaaWLast
import Derived.Laws.BitsLemmas
import Derived.Test.YtaihieglailmcaaOpensC
import Derived.Test.YtaihieglailmcaaPCx2
import Derived.Test.YtaihieglailmcaaPCx2
import Derived.Test.YtaihieglailmcaaPCx3
import Derived.Test.YtaihieglailmcaaPCx6
namespace Go.Proofs.Ytaihieglailmcaa.Pure
open Go.RowKit Go.Proofs.YtaihieglailmcaaW.PrintWords Go.Proofs.YtaihieglailmcaaW.PrintLast Go.Proofs.YtaihieglailmcaaW.PrintMore Go.Proofs.Ytaihieglailmcaa.PC
/-! ### numbers -/
theorem jw64 {n : Int} (h0 : -9223372036854775808 ≤ n) (h1 : n < 9223372036854775808) : wrap64 n = n := by unfold wrap64; omega
theorem jwu64 {n : Int} : IntKind.u64.wrap n = n % 18446744073709551616 := by
  simp [IntKind.wrap, IntKind.bits, IntKind.signed]
theorem jwraps_u64 (n : Int) (h₀ : 0 ≤ n) (h₁ : n < 2 ^ 64) : IntKind.u64.wrap n = n := by rw [jwu64]; omega
theorem jwraps_i64 (n : Int) (h₀ : 0 ≤ n) (h₁ : n < 2 ^ 63) : IntKind.i64.wrap n = n := by
  rw [IntKind.wrap_i64]; omega
theorem jand32 {x : Int} (h0 : 0 ≤ x) (h1 : x < 18446744073709551616) : Go.bits .and .u64 x 4294967295 = x % 4294967296 :=
  bits_mask .u64 64 (by decide) jwraps_u64 32 (by decide) x h0 (by omega)
theorem jand1 {x : Int} (h0 : 0 ≤ x) (h1 : x < 9223372036854775808) : Go.bits .and .i64 x 1 = x % 2 :=
  bits_mask .i64 63 (by decide) jwraps_i64 1 (by decide) x h0 (by omega)
theorem jwf64 {a : Int} (h : (Lit.int .i64 a).wf = true) : -9223372036854775808 ≤ a ∧ a < 9223372036854775808 := by
  have h' : IntKind.i64.min ≤ a ∧ a ≤ IntKind.i64.max := by simpa [Lit.wf] using h
  have e1 : IntKind.i64.min = -9223372036854775808 := by decide
  have e2 : IntKind.i64.max = 9223372036854775807 := by decide
  omega
theorem ev_is {α : Type} {g : Nat → Option α} {r : α} (h : ∀ k, g k = some r) : Ev g r := ⟨0, fun k _ => h k⟩
theorem ev_add {α : Type} {g : Nat → Option α} {r : α} (n : Nat) (h : ∀ k, g (k + n) = some r) : Ev g r := ⟨n, fun k hk => by rw [show k = (k - n) + n by omega]; exact h _⟩
abbrev In (n : Int) : Prop := 0 ≤ n ∧ n ≤ 4611686018427387903
def addS (a b : Int) : Int × Int := if In a ∧ In b then (if 4611686018427387903 < a + b then (0, 10) else (a + b, 0)) else (0, 2)
def mulS (a b : Int) : Int × Int := if In a ∧ In b then (if 4611686018427387903 < a * b then (0, 10) else (a * b, 0)) else (0, 2)
def walkS (a l t : Int) : Int × Int := if In a ∧ In l ∧ In t then (if (mulS l t).2 = 0 then addS a (mulS l t).1 else (0, (mulS l t).2)) else (0, 2)
theorem is_eq (n : Int) : reckon_Is.f n = some (decide (In n)) := by
  unfold reckon_Is.f
  by_cases h : n ≥ 0
  · rw [if_pos h]; congr 1; rw [decide_eq_decide]; omega
  · rw [if_neg h]; congr 1; symm; rw [decide_eq_false_iff_not]; omega
theorem all_go (l : List Int) (hl : l.length ≤ 1000) : ∀ (d k i : Nat), i + d = l.length → d < k → reckon_all.l0 k l l.length i = some ((l.drop i).all fun n => decide (In n)) := by
  intro d
  induction d with
  | zero =>
    intro k i h hk
    obtain ⟨k, rfl⟩ : ∃ m, k = m + 1 := ⟨k - 1, by omega⟩
    simp only [reckon_all.l0]
    rw [if_neg (by omega), List.drop_eq_nil_of_le (by omega)]; rfl
  | succ d ih =>
    intro k i h hk
    obtain ⟨k, rfl⟩ : ∃ m, k = m + 1 := ⟨k - 1, by omega⟩
    simp only [reckon_all.l0]
    rw [if_pos (by omega), if_pos (by omega), if_pos (by omega), is_eq]
    simp only [Option.bind_some]
    have hi : i < l.length := by omega
    have e : rd l (i : Int) = l[i] := by simp [rd, List.getD_eq_getElem?_getD, List.getElem?_eq_getElem hi]
    rw [List.drop_eq_getElem_cons hi, List.all_cons, e]
    by_cases hc : In l[i]
    · rw [decide_eq_true hc, if_pos rfl, jw64 (by omega) (by omega), Bool.true_and]
      have := ih k (i + 1) (by omega) (by omega)
      rw [← this]; congr 1
    · rw [decide_eq_false hc, if_neg (by decide), Bool.false_and]
theorem all_ev (l : List Int) (hl : l.length ≤ 1000) : Ev (fun k => reckon_all.f k l) (l.all fun n => decide (In n)) :=
  ⟨l.length + 1, fun k hk => by have := all_go l hl l.length k 0 (by omega) (by omega); rw [List.drop_zero] at this; exact this⟩
theorem all2 (a b : Int) : Ev (fun k => reckon_all.f k [a, b]) (decide (In a ∧ In b)) := by
  have := all_ev [a, b] (by simp)
  simpa using this
theorem all3 (a b c : Int) : Ev (fun k => reckon_all.f k [a, b, c]) (decide (In a ∧ In b ∧ In c)) := by
  have := all_ev [a, b, c] (by simp)
  simpa using this
theorem add_ev (a b : Int) : Ev (fun k => reckon_Add.f k a b) (addS a b) := by
  refine Ev.bind (all2 a b) ⟨0, fun k _ => ?_⟩
  unfold addS
  by_cases h : In a ∧ In b
  · rw [decide_eq_true h, if_pos rfl, if_pos h]
    rw [jw64 (by omega) (by omega)]
    by_cases h2 : 4611686018427387903 < a + b
    · rw [if_pos (by omega), if_pos h2]
    · rw [if_neg (by omega), if_neg h2, jw64 (by omega) (by omega)]
  · rw [decide_eq_false h, if_neg (by decide), if_neg h]
theorem mul64_eq (a b : Int) (ha : 0 ≤ a) (hb : 0 ≤ b) (ha' : a < 4611686018427387904) (hb' : b < 4611686018427387904) : bits_Mul64.f a b = some (a * b / 18446744073709551616, a * b % 18446744073709551616) := by
  unfold bits_Mul64.f
  rw [jand32 ha (by omega), jand32 hb (by omega)]
  obtain ⟨a1, hA1⟩ : ∃ x, x = a / 4294967296 := ⟨_, rfl⟩
  obtain ⟨a0, hA0⟩ : ∃ x, x = a % 4294967296 := ⟨_, rfl⟩
  obtain ⟨b1, hB1⟩ : ∃ x, x = b / 4294967296 := ⟨_, rfl⟩
  obtain ⟨b0, hB0⟩ : ∃ x, x = b % 4294967296 := ⟨_, rfl⟩
  have ea : a = a1 * 4294967296 + a0 := by omega
  have eb : b = b1 * 4294967296 + b0 := by omega
  rw [← hA1, ← hA0, ← hB1, ← hB0]
  have bd : ∀ x y X Y : Int, 0 ≤ x → 0 ≤ y → x ≤ X → y ≤ Y → 0 ≤ x * y ∧ x * y ≤ X * Y := fun x y X Y h1 h2 h3 h4 => ⟨Int.mul_nonneg h1 h2, Int.mul_le_mul h3 h4 h2 (by omega)⟩
  have q00 := bd a0 b0 4294967295 4294967295 (by omega) (by omega) (by omega) (by omega)
  have q10 := bd a1 b0 1073741823 4294967295 (by omega) (by omega) (by omega) (by omega)
  have q01 := bd a0 b1 4294967295 1073741823 (by omega) (by omega) (by omega) (by omega)
  have q11 := bd a1 b1 1073741823 1073741823 (by omega) (by omega) (by omega) (by omega)
  have ep : a * b = (a1 * b1) * 18446744073709551616 + (a1 * b0 + a0 * b1) * 4294967296 + a0 * b0 := by
    have e1 : (a1 * 4294967296) * (b1 * 4294967296) = (a1 * b1) * (4294967296 * 4294967296) := by rw [Int.mul_assoc, Int.mul_assoc, Int.mul_left_comm 4294967296 b1]
    have e2 : (a1 * 4294967296) * b0 = (a1 * b0) * 4294967296 := Int.mul_right_comm ..
    have e3 : a0 * (b1 * 4294967296) = (a0 * b1) * 4294967296 := (Int.mul_assoc ..).symm
    rw [ea, eb, Int.add_mul, Int.mul_add, Int.mul_add, e1, e2, e3]
    omega
  clear ha' hb' ha hb ea eb hA1 hA0 hB1 hB0 bd
  rw [ep]
  generalize a * b = m at *
  generalize a0 * b0 = p00 at *
  generalize a1 * b0 = p10 at *
  generalize a0 * b1 = p01 at *
  generalize a1 * b1 = p11 at *
  obtain ⟨t, ht⟩ : ∃ x, x = p10 + p00 / 4294967296 := ⟨_, rfl⟩
  have w00 : IntKind.u64.wrap p00 = p00 := by rw [jwu64]; omega
  have w10 : IntKind.u64.wrap p10 = p10 := by rw [jwu64]; omega
  have w01 : IntKind.u64.wrap p01 = p01 := by rw [jwu64]; omega
  have w11 : IntKind.u64.wrap p11 = p11 := by rw [jwu64]; omega
  have wt : IntKind.u64.wrap (p10 + p00 / 4294967296) = t := by rw [jwu64]; omega
  rw [w00, w10, w01, w11, wt, jand32 (by omega) (by omega)]
  simp only [jwu64]
  congr 1
  refine Prod.ext ?_ ?_
  · simp only
    omega
  · simp only
theorem mul_ev (a b : Int) : Ev (fun k => reckon_Mul.f k a b) (mulS a b) := by
  refine Ev.bind (all2 a b) ⟨0, fun k _ => ?_⟩
  unfold mulS
  by_cases h : In a ∧ In b
  · rw [decide_eq_true h, if_pos rfl, if_pos h]
    have wa : IntKind.u64.wrap a = a := by rw [jwu64]; omega
    have wb : IntKind.u64.wrap b = b := by rw [jwu64]; omega
    have h0 : 0 ≤ a * b := Int.mul_nonneg h.1.1 h.2.1
    rw [wa, wb, mul64_eq a b (by omega) (by omega) (by omega) (by omega)]
    simp only [Option.bind_some]
    by_cases h2 : 4611686018427387903 < a * b
    · rw [if_pos h2]
      by_cases h3 : a * b / 18446744073709551616 > 0
      · rw [if_pos h3]
      · rw [if_neg h3, if_pos (by omega)]
    · rw [if_neg h2, if_neg (by omega), if_neg (by omega), jw64 (by omega) (by omega)]
      congr 1; rw [Prod.mk.injEq]; exact ⟨by omega, rfl⟩
  · rw [decide_eq_false h, if_neg (by decide), if_neg h]
theorem walk_ev (a l t : Int) : Ev (fun k => reckon_Walk.f k a l t) (walkS a l t) := by
  refine Ev.bind (all3 a l t) ?_
  unfold walkS
  by_cases h : In a ∧ In l ∧ In t
  · rw [if_pos h]
    refine Ev.congr (fun k => by rw [decide_eq_true h, if_pos rfl]) ?_
    refine Ev.bind (mul_ev l t) ?_
    by_cases h2 : (mulS l t).2 = 0
    · rw [if_pos h2]
      refine Ev.congr (fun k => by rw [if_pos h2]) ?_
      exact Ev.bind (add_ev a _) ⟨0, fun _ _ => rfl⟩
    · rw [if_neg h2]
      exact ev_is (fun k => by rw [if_neg h2])
  · rw [if_neg h]
    exact ev_is (fun k => by rw [decide_eq_false h, if_neg (by decide)])
theorem rd_get (l : List Int) (i : Nat) (h : i < l.length) : rd l (i : Int) = l[i] := by simp [rd, List.getD_eq_getElem?_getD, List.getElem?_eq_getElem h]
theorem same_ev (l m : List Int) (hl : l.length ≤ 1000000000) : Ev (fun k => juratref01_Same.f k l m) (decide (l = m)) := by
  unfold juratref01_Same.f
  by_cases h : l.length = m.length
  · refine Ev.congr (fun k => by rw [if_pos (by omega)]) ?_
    have key : ∀ (d i : Nat), i + d = l.length → Ev (fun k => juratref01_Same.l0 k l m (i : Int)) (decide (l.drop i = m.drop i)) := by
      intro d
      induction d with
      | zero =>
        intro i hi
        rw [List.drop_eq_nil_of_le (by omega), List.drop_eq_nil_of_le (by omega), decide_eq_true rfl]
        exact ev_add 1 (fun k => by rw [juratref01_Same.l0, if_neg (by omega)])
      | succ d ih =>
        intro i hi
        have h1 : i < l.length := by omega
        have h2 : i < m.length := by omega
        rw [List.drop_eq_getElem_cons h1, List.drop_eq_getElem_cons h2]
        refine Ev.step (fun k => by rw [juratref01_Same.l0, if_pos (by omega), if_pos (by omega), if_pos (by omega), rd_get l i h1, rd_get m i h2]) ?_
        by_cases he : l[i] = m[i]
        · refine Ev.congr (fun k => by rw [if_pos he, jw64 (n := (i : Int) + 1) (by omega) (by omega)]) ?_
          have := ih (i + 1) (by omega)
          rw [he]
          simp only [List.cons.injEq, true_and]
          exact this
        · refine ev_is (fun k => by rw [if_neg he]; congr 1; exact (decide_eq_false (fun h => he (by injection h))).symm)
    exact key l.length 0 (by omega)
  · refine ev_is (fun k => by rw [if_neg (by omega)]; congr 1; exact (decide_eq_false (fun e => h (by rw [e]))).symm)
def okR (x : S28) : Prop := (-9223372036854775808 ≤ x.f0 ∧ x.f0 < 9223372036854775808) ∧ (-9223372036854775808 ≤ x.f1 ∧ x.f1 < 9223372036854775808) ∧ (-9223372036854775808 ≤ x.f2 ∧ x.f2 < 9223372036854775808) ∧ x.f3.length ≤ 1000
theorem rdT_get (l : List S28) (i : Nat) (h : i < l.length) : rd_T28 l (i : Int) = l[i] := by simp [rd_T28, List.getD_eq_getElem?_getD, List.getElem?_eq_getElem h]
def cov1 (r : S28) : Int := if r.f0 = 1 ∨ r.f0 = 2 then (if r.f1 < 0 then 0 else r.f1) else if r.f0 = 3 ∨ r.f0 = 4 then 1 else 0
theorem cov1_ev (r : S28) : Ev (fun k => probe_Covers.f k r.f0 r.f1 r.f2 r.f3) (cov1 r) := by
  unfold probe_Covers.f cov1
  by_cases h1 : r.f0 = 1
  · refine Ev.congr (fun k => by rw [if_pos h1]) ?_
    rw [if_pos (Or.inl h1)]
    refine ev_add 1 (fun k => ?_)
    rw [probe_Covers.j0, if_pos (by rw [h1]; rfl)]
    congr 1; unfold mx; split <;> split <;> omega
  · refine Ev.congr (fun k => by rw [if_neg h1]) ?_
    by_cases h2 : r.f0 = 2
    · rw [if_pos (Or.inr h2)]
      refine ev_add 1 (fun k => ?_)
      rw [probe_Covers.j0, if_pos (by rw [h2]; rfl)]
      congr 1; unfold mx; split <;> split <;> omega
    · rw [if_neg (by omega)]
      refine ev_add 1 (fun k => ?_)
      rw [probe_Covers.j0, if_neg (by simpa using h2)]
      by_cases h3 : r.f0 = 3
      · rw [if_pos h3, if_pos (Or.inl h3)]
      · rw [if_neg h3]
        by_cases h4 : r.f0 = 4
        · rw [if_pos h4, if_pos (Or.inr h4)]
        · rw [if_neg h4, if_neg (by omega)]
def eqR (x y : S28) : Bool := decide (x.f0 = y.f0 ∧ x.f1 = y.f1 ∧ x.f2 = y.f2 ∧ x.f3 = y.f3)
theorem eqR_self (x : S28) : eqR x x = true := by unfold eqR; simp
theorem same24_ev (x y : S28) (hl : x.f3.length ≤ 1000000000) : Ev (fun k => juratref24_Same.f k x.f0 x.f1 x.f2 x.f3 y.f0 y.f1 y.f2 y.f3) (eqR x y) := by
  unfold juratref24_Same.f eqR
  by_cases h0 : x.f0 = y.f0
  · by_cases h1 : x.f1 = y.f1
    · by_cases h2 : x.f2 = y.f2
      · refine Ev.congr (fun k => by rw [if_pos h0, if_pos h1, if_pos h2]) ?_
        rw [show decide (x.f0 = y.f0 ∧ x.f1 = y.f1 ∧ x.f2 = y.f2 ∧ x.f3 = y.f3) = decide (x.f3 = y.f3) by rw [decide_eq_decide]; exact ⟨fun h => h.2.2.2, fun h => ⟨h0, h1, h2, h⟩⟩]
        exact Ev.bind (same_ev _ _ hl) (Ev.now _)
      · rw [decide_eq_false (fun h => h2 h.2.2.1)]
        exact Ev.congr (fun k => by rw [if_pos h0, if_pos h1, if_neg h2]) (Ev.now _)
    · rw [decide_eq_false (fun h => h1 h.2.1)]
      exact Ev.congr (fun k => by rw [if_pos h0, if_neg h1]) (Ev.now _)
  · rw [decide_eq_false (fun h => h0 h.1)]
    exact Ev.congr (fun k => by rw [if_neg h0]) (Ev.now _)
def fewB (l : List S28) : Bool := l.all fun x => decide (x.f3.length ≤ 30)
theorem fewB_get {l : List S28} (h : fewB l = true) : ∀ x ∈ l, x.f3.length ≤ 30 := fun x hx => of_decide_eq_true (List.all_eq_true.1 h x hx)
theorem few_go (l : List S28) (hl : l.length ≤ 1000000) : ∀ (d i : Nat), i + d = l.length → Ev (fun k => juratref27_Few.l0 k l (i : Int)) (fewB (l.drop i)) := by
  intro d
  induction d with
  | zero =>
    intro i h
    rw [List.drop_eq_nil_of_le (by omega)]
    exact ev_add 1 (fun k => by rw [juratref27_Few.l0, if_neg (by omega)]; rfl)
  | succ d ih =>
    intro i h
    have h1 : i < l.length := by omega
    rw [List.drop_eq_getElem_cons h1]
    refine Ev.step (fun k => by rw [juratref27_Few.l0, if_pos (by omega), if_pos (by omega), rdT_get l i h1]) ?_
    rw [show fewB (l[i] :: l.drop (i + 1)) = (decide (l[i].f3.length ≤ 30) && fewB (l.drop (i + 1))) from rfl]
    by_cases h2 : (l[i].f3.length : Int) > 30
    · rw [decide_eq_false (by omega), Bool.false_and]
      exact Ev.congr (fun k => by rw [if_pos h2]) (Ev.now _)
    · rw [decide_eq_true (by omega), Bool.true_and]
      refine Ev.congr (fun k => by rw [if_neg h2, jw64 (by omega) (by omega)]) ?_
      exact_mod_cast ih (i + 1) (by omega)
theorem few_no (l : List S28) (n : Int) (h : (l.length : Int) > n) (k : Nat) : juratref27_Few.f k l n = some false := by
  unfold juratref27_Few.f
  rw [if_pos h]
theorem few_ev (l : List S28) (n : Int) (h : ¬ ((l.length : Int) > n)) (hn : n ≤ 1000) : Ev (fun k => juratref27_Few.f k l n) (fewB l) := by
  unfold juratref27_Few.f
  refine Ev.congr (fun k => by rw [if_neg h]) ?_
  have := few_go l (by omega) l.length 0 (by omega)
  rwa [List.drop_zero] at this
theorem good_okR {x : S28} (h : good28 x) (hl : x.f3.length ≤ 30) : okR x := ⟨jwf64 h.1, jwf64 h.2.1, jwf64 h.2.2.1, by omega⟩
theorem rcov1_ev (r : S28) : Ev (fun k => juratref24_Covers.f k r.f0 r.f1 r.f2 r.f3) (cov1 r) := by
  unfold juratref24_Covers.f cov1
  by_cases h1 : r.f0 = 1
  · refine Ev.congr (fun k => by rw [if_pos h1]) ?_
    rw [if_pos (Or.inl h1)]
    refine ev_add 1 (fun k => ?_)
    rw [juratref24_Covers.j0, if_pos rfl]
    by_cases h : r.f1 < 0
    · rw [if_pos h, if_pos h]
    · rw [if_neg h, if_neg h]
  · refine Ev.congr (fun k => by rw [if_neg h1]) ?_
    by_cases h2 : r.f0 = 2
    · rw [if_pos (Or.inr h2)]
      refine ev_add 1 (fun k => ?_)
      rw [juratref24_Covers.j0, if_pos (by rw [h2]; rfl)]
      by_cases h : r.f1 < 0
      · rw [if_pos h, if_pos h]
      · rw [if_neg h, if_neg h]
    · rw [if_neg (by omega)]
      refine ev_add 1 (fun k => ?_)
      rw [juratref24_Covers.j0, if_neg (by simpa using h2)]
      by_cases h3 : r.f0 = 3
      · rw [if_pos h3, if_pos (Or.inl h3)]
      · rw [if_neg h3]
        by_cases h4 : r.f0 = 4
        · rw [if_pos h4, if_pos (Or.inr h4)]
        · rw [if_neg h4, if_neg (by omega)]
end Go.Proofs.Ytaihieglailmcaa.Pure
