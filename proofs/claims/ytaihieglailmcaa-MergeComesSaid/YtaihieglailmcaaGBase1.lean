/- Plain lemmas of this session (GBase1): numbers, bytes and lists. -/
import Derived.Test.YtaihieglailmcaaWMore
import Derived.Test.YtaihieglailmcaaWLast
import Derived.Laws.BitsLemmas
import Derived.Test.YtaihieglailmcaaOpensG
import Derived.Test.YtaihieglailmcaaPGx3
import Derived.Test.YtaihieglailmcaaPGx2
import Derived.Test.YtaihieglailmcaaPGx2
import Derived.Test.YtaihieglailmcaaPGx4
import Derived.Test.YtaihieglailmcaaMergeAll
namespace Go.Proofs.Ytaihieglailmcaa.Pure
open Go.RowKit Go.Proofs.YtaihieglailmcaaW.PrintWords Go.Proofs.YtaihieglailmcaaW.PrintLast Go.Proofs.YtaihieglailmcaaW.PrintMore Go.Proofs.Ytaihieglailmcaa.PG
/-! ### numbers -/
theorem jw64 {n : Int} (h0 : -9223372036854775808 ≤ n) (h1 : n < 9223372036854775808) : wrap64 n = n := by unfold wrap64; omega
theorem jwu64 {n : Int} : IntKind.u64.wrap n = n % 18446744073709551616 := by
  simp [IntKind.wrap, IntKind.bits, IntKind.signed]
theorem jwraps_u64 (n : Int) (h₀ : 0 ≤ n) (h₁ : n < 2 ^ 64) : IntKind.u64.wrap n = n := by rw [jwu64]; omega
theorem jwraps_i64 (n : Int) (h₀ : 0 ≤ n) (h₁ : n < 2 ^ 63) : IntKind.i64.wrap n = n := by
  rw [IntKind.wrap_i64]; omega
theorem jand32 {x : Int} (h0 : 0 ≤ x) (h1 : x < 18446744073709551616) : Go.bits .and .u64 x 4294967295 = x % 4294967296 :=
  bits_mask .u64 64 (by decide) jwraps_u64 32 (by decide) x h0 (by omega)
theorem jand1 {x : Int} (h0 : 0 ≤ x) (h1 : x < 9223372036854775808) : Go.bits .and .i64 x 1 = x % 2 :=
  bits_mask .i64 63 (by decide) jwraps_i64 1 (by decide) x h0 (by omega)
theorem jwf64 {a : Int} (h : (Lit.int .i64 a).wf = true) : -9223372036854775808 ≤ a ∧ a < 9223372036854775808 := by
  have h' : IntKind.i64.min ≤ a ∧ a ≤ IntKind.i64.max := by simpa [Lit.wf] using h
  have e1 : IntKind.i64.min = -9223372036854775808 := by decide
  have e2 : IntKind.i64.max = 9223372036854775807 := by decide
  omega
theorem ev_is {α : Type} {g : Nat → Option α} {r : α} (h : ∀ k, g k = some r) : Ev g r := ⟨0, fun k _ => h k⟩
theorem ev_add {α : Type} {g : Nat → Option α} {r : α} (n : Nat) (h : ∀ k, g (k + n) = some r) : Ev g r := ⟨n, fun k hk => by rw [show k = (k - n) + n by omega]; exact h _⟩
abbrev In (n : Int) : Prop := 0 ≤ n ∧ n ≤ 4611686018427387903
def addS (a b : Int) : Int × Int := if In a ∧ In b then (if 4611686018427387903 < a + b then (0, 10) else (a + b, 0)) else (0, 2)
theorem is_eq (n : Int) : reckon_Is.f n = some (decide (In n)) := by
  unfold reckon_Is.f
  by_cases h : n ≥ 0
  · rw [if_pos h]; congr 1; rw [decide_eq_decide]; omega
  · rw [if_neg h]; congr 1; symm; rw [decide_eq_false_iff_not]; omega
theorem all_go (l : List Int) (hl : l.length ≤ 1000) : ∀ (d k i : Nat), i + d = l.length → d < k → reckon_all.l0 k l l.length i = some ((l.drop i).all fun n => decide (In n)) := by
  intro d
  induction d with
  | zero =>
    intro k i h hk
    obtain ⟨k, rfl⟩ : ∃ m, k = m + 1 := ⟨k - 1, by omega⟩
    simp only [reckon_all.l0]
    rw [if_neg (by omega), List.drop_eq_nil_of_le (by omega)]; rfl
  | succ d ih =>
    intro k i h hk
    obtain ⟨k, rfl⟩ : ∃ m, k = m + 1 := ⟨k - 1, by omega⟩
    simp only [reckon_all.l0]
    rw [if_pos (by omega), if_pos (by omega), if_pos (by omega), is_eq]
    simp only [Option.bind_some]
    have hi : i < l.length := by omega
    have e : rd l (i : Int) = l[i] := by simp [rd, List.getD_eq_getElem?_getD, List.getElem?_eq_getElem hi]
    rw [List.drop_eq_getElem_cons hi, List.all_cons, e]
    by_cases hc : In l[i]
    · rw [decide_eq_true hc, if_pos rfl, jw64 (by omega) (by omega), Bool.true_and]
      have := ih k (i + 1) (by omega) (by omega)
      rw [← this]; congr 1
    · rw [decide_eq_false hc, if_neg (by decide), Bool.false_and]
theorem all_ev (l : List Int) (hl : l.length ≤ 1000) : Ev (fun k => reckon_all.f k l) (l.all fun n => decide (In n)) :=
  ⟨l.length + 1, fun k hk => by have := all_go l hl l.length k 0 (by omega) (by omega); rw [List.drop_zero] at this; exact this⟩
theorem all2 (a b : Int) : Ev (fun k => reckon_all.f k [a, b]) (decide (In a ∧ In b)) := by
  have := all_ev [a, b] (by simp)
  simpa using this
theorem add_ev (a b : Int) : Ev (fun k => reckon_Add.f k a b) (addS a b) := by
  refine Ev.bind (all2 a b) ⟨0, fun k _ => ?_⟩
  unfold addS
  by_cases h : In a ∧ In b
  · rw [decide_eq_true h, if_pos rfl, if_pos h]
    rw [jw64 (by omega) (by omega)]
    by_cases h2 : 4611686018427387903 < a + b
    · rw [if_pos (by omega), if_pos h2]
    · rw [if_neg (by omega), if_neg h2, jw64 (by omega) (by omega)]
  · rw [decide_eq_false h, if_neg (by decide), if_neg h]
theorem rd_get (l : List Int) (i : Nat) (h : i < l.length) : rd l (i : Int) = l[i] := by simp [rd, List.getD_eq_getElem?_getD, List.getElem?_eq_getElem h]
theorem same_ev (l m : List Int) (hl : l.length ≤ 1000000000) : Ev (fun k => juratref01_Same.f k l m) (decide (l = m)) := by
  unfold juratref01_Same.f
  by_cases h : l.length = m.length
  · refine Ev.congr (fun k => by rw [if_pos (by omega)]) ?_
    have key : ∀ (d i : Nat), i + d = l.length → Ev (fun k => juratref01_Same.l0 k l m (i : Int)) (decide (l.drop i = m.drop i)) := by
      intro d
      induction d with
      | zero =>
        intro i hi
        rw [List.drop_eq_nil_of_le (by omega), List.drop_eq_nil_of_le (by omega), decide_eq_true rfl]
        exact ev_add 1 (fun k => by rw [juratref01_Same.l0, if_neg (by omega)])
      | succ d ih =>
        intro i hi
        have h1 : i < l.length := by omega
        have h2 : i < m.length := by omega
        rw [List.drop_eq_getElem_cons h1, List.drop_eq_getElem_cons h2]
        refine Ev.step (fun k => by rw [juratref01_Same.l0, if_pos (by omega), if_pos (by omega), if_pos (by omega), rd_get l i h1, rd_get m i h2]) ?_
        by_cases he : l[i] = m[i]
        · refine Ev.congr (fun k => by rw [if_pos he, jw64 (n := (i : Int) + 1) (by omega) (by omega)]) ?_
          have := ih (i + 1) (by omega)
          rw [he]
          simp only [List.cons.injEq, true_and]
          exact this
        · refine ev_is (fun k => by rw [if_neg he]; congr 1; exact (decide_eq_false (fun h => he (by injection h))).symm)
    exact key l.length 0 (by omega)
  · refine ev_is (fun k => by rw [if_neg (by omega)]; congr 1; exact (decide_eq_false (fun e => h (by rw [e]))).symm)
/-! ### records put together -/
def cmb (a b : S28) : Bool := decide (1 ≤ a.f0 ∧ a.f0 ≤ 3 ∧ a.f0 = b.f0 ∧ a.f1 = b.f1 ∧ a.f3 = [] ∧ b.f3 = [] ∧ 1 ≤ a.f2 ∧ 1 ≤ b.f2 ∧ a.f2 + b.f2 ≤ 4611686018427387903)
def jn2 (a b : S28) : S28 := ⟨a.f0, a.f1, a.f2 + b.f2, []⟩
def twoS (a b : S28) : Int × Int × Int × List Int × Bool := if cmb a b = true then (a.f0, a.f1, a.f2 + b.f2, [], true) else (0, 0, 0, [], false)
def allGo : List S28 → S28 → List S28
  | [], m => [m]
  | r :: rs, m => if cmb m r = true then allGo rs (jn2 m r) else m :: allGo rs r
def allS : List S28 → List S28
  | [] => []
  | r :: rs => allGo rs r
/-- A record whose numbers are machine numbers, with few Ids. -/
def okR (x : S28) : Prop := (-9223372036854775808 ≤ x.f0 ∧ x.f0 < 9223372036854775808) ∧ (-9223372036854775808 ≤ x.f1 ∧ x.f1 < 9223372036854775808) ∧ (-9223372036854775808 ≤ x.f2 ∧ x.f2 < 9223372036854775808) ∧ x.f3.length ≤ 1000
theorem rdT_get (l : List S28) (i : Nat) (h : i < l.length) : rd_T28 l (i : Int) = l[i] := by simp [rd_T28, List.getD_eq_getElem?_getD, List.getElem?_eq_getElem h]
theorem nil_len {l : List Int} (h : ¬ (0 < (l.length : Int))) : l = [] := List.eq_nil_of_length_eq_zero (by omega)
theorem two_false (k : Nat) (a b c : Int) (d : List Int) (a' b' c' : Int) (d' : List Int) : merge_Two.j0 (k + 1) true a b c d a' b' c' d' = some (0, 0, 0, [], false) := by rw [merge_Two.j0, if_pos rfl]
theorem runs27_is (n : Int) : merge_runs.f n = some (decide (1 ≤ n ∧ n ≤ 3)) := by
  unfold merge_runs.f
  by_cases h : n ≥ 1
  · rw [if_pos h]; congr 1; rw [decide_eq_decide]; omega
  · rw [if_neg h]; congr 1; symm; rw [decide_eq_false_iff_not]; omega
theorem two_ev (a b : S28) (ha : okR a) (hb : okR b) : Ev (fun k => merge_Two.f k a.f0 a.f1 a.f2 a.f3 b.f0 b.f1 b.f2 b.f3) (twoS a b) := by
  obtain ⟨_, _, h2, h3⟩ := ha
  obtain ⟨_, _, g2, g3⟩ := hb
  unfold merge_Two.f
  refine Ev.congr (fun k => by rw [runs27_is, Option.bind_some]) ?_
  have neg : cmb a b = false → twoS a b = (0, 0, 0, [], false) := fun h => by unfold twoS; rw [if_neg (by rw [h]; decide)]
  have hw : wrap64 ((a.f3.length : Int) + (b.f3.length : Int)) = (a.f3.length : Int) + (b.f3.length : Int) := jw64 (by omega) (by omega)
  by_cases c1 : 1 ≤ a.f0 ∧ a.f0 ≤ 3
  · refine Ev.congr (fun k => by rw [decide_eq_true c1, if_pos rfl]) ?_
    by_cases c2 : a.f0 = b.f0
    · refine Ev.congr (fun k => by rw [if_pos c2]) ?_
      by_cases c3 : a.f1 = b.f1
      · refine Ev.congr (fun k => by rw [if_pos c3, hw]) ?_
        by_cases c4 : (a.f3.length : Int) + (b.f3.length : Int) > 0
        · rw [neg (by unfold cmb; rw [decide_eq_false_iff_not]; rintro ⟨_, _, _, _, e1, e2, _⟩; rw [e1, e2] at c4; simp at c4)]
          refine Ev.congr (fun k => by rw [if_pos c4]) (ev_add 1 (fun k => two_false ..))
        · refine Ev.congr (fun k => by rw [if_neg c4]) ?_
          have e1 : a.f3 = [] := nil_len (by omega)
          have e2 : b.f3 = [] := nil_len (by omega)
          by_cases c5 : a.f2 < 1
          · rw [neg (by unfold cmb; rw [decide_eq_false_iff_not]; omega)]
            exact Ev.congr (fun k => by rw [if_pos c5]) (ev_add 1 (fun k => two_false ..))
          · refine Ev.congr (fun k => by rw [if_neg c5]) ?_
            by_cases c6 : b.f2 < 1
            · rw [neg (by unfold cmb; rw [decide_eq_false_iff_not]; omega)]
              refine Ev.congr (fun k => by rw [decide_eq_true c6]) (ev_add 1 (fun k => two_false ..))
            · refine Ev.congr (fun k => by rw [decide_eq_false c6]) ?_
              refine Ev.step (fun k => by rw [merge_Two.j0, if_neg (by decide)]) ?_
              refine Ev.bind (add_ev _ _) ?_
              unfold twoS
              by_cases c7 : a.f2 + b.f2 ≤ 4611686018427387903
              · have hc : cmb a b = true := by unfold cmb; rw [decide_eq_true_iff]; exact ⟨c1.1, c1.2, c2, c3, e1, e2, by omega, by omega, c7⟩
                have ha : addS a.f2 b.f2 = (a.f2 + b.f2, 0) := by unfold addS; rw [if_pos (show In a.f2 ∧ In b.f2 by constructor <;> constructor <;> omega), if_neg (by omega)]
                rw [if_pos hc, ha]
                exact ⟨0, fun k _ => by rw [if_pos rfl]⟩
              · have hc : cmb a b = false := by unfold cmb; rw [decide_eq_false_iff_not]; omega
                have ha : (addS a.f2 b.f2).2 ≠ 0 := by
                  unfold addS
                  split
                  · rw [if_pos (by omega)]; decide
                  · decide
                refine Ev.congr (fun k => by rw [if_neg ha]) ?_
                rw [hc]
                exact Ev.now _
      · rw [neg (by unfold cmb; rw [decide_eq_false_iff_not]; rintro ⟨_, _, _, h, _⟩; exact c3 h)]
        exact Ev.congr (fun k => by rw [if_neg c3]) (ev_add 1 (fun k => two_false ..))
    · rw [neg (by unfold cmb; rw [decide_eq_false_iff_not]; rintro ⟨_, _, h, _⟩; exact c2 h)]
      exact Ev.congr (fun k => by rw [if_neg c2]) (ev_add 1 (fun k => two_false ..))
  · rw [neg (by unfold cmb; rw [decide_eq_false_iff_not]; rintro ⟨h1, h2, _⟩; exact c1 ⟨h1, h2⟩)]
    refine Ev.congr (fun k => by rw [decide_eq_false c1, if_neg (by decide)]) (ev_add 1 (fun k => two_false ..))
/-! ### All, as the program puts records together -/
theorem copied_is (a b c : Int) (l : List Int) (h : l.length ≤ 1000) : merge_copied.f a b c l = some (a, b, c, l) := by
  unfold merge_copied.f
  rw [if_pos (by simp only [List.length_nil]; omega), List.nil_append]
theorem okR_jn {a b : S28} (ha : okR a) (hc : cmb a b = true) : okR (jn2 a b) := by
  unfold cmb at hc
  rw [decide_eq_true_iff] at hc
  obtain ⟨h0, h1, h2, h3⟩ := ha
  exact ⟨h0, h1, (by unfold jn2; constructor <;> simp only <;> omega), (by unfold jn2; simp)⟩
theorem all_go_ev : ∀ (l : List S28) (m : S28) (acc : List S28), okR m → (∀ x ∈ l, okR x) → acc.length + l.length ≤ 1000 → Ev (fun k => merge_All.go k l m true acc) (acc ++ allGo l m)
  | [], m, acc, _, _, hl => ⟨0, fun k _ => by
      simp only [merge_All.go, if_true, allGo]
      rw [if_pos (by simp only [List.length_nil] at hl; omega)]⟩
  | r :: rs, m, acc, hm, hx, hl => by
    have hr := hx r (List.mem_cons_self ..)
    have hxs : ∀ x ∈ rs, okR x := fun x h => hx x (List.mem_cons_of_mem _ h)
    rw [List.length_cons] at hl
    simp only [merge_All.go]
    refine Ev.congr (fun k => by rw [merge_Add.f, if_neg (by decide), Option.bind_assoc]) ?_
    refine Ev.bind (two_ev m r hm hr) ?_
    unfold twoS allGo
    by_cases hc : cmb m r = true
    · rw [if_pos hc, if_pos hc]
      have := all_go_ev rs (jn2 m r) acc (okR_jn hm hc) hxs (by omega)
      exact Ev.congr (fun k => by simp only [if_true, Option.bind_some, Bool.false_eq_true, if_false]; rfl) this
    · rw [if_neg hc, if_neg hc]
      have := all_go_ev rs r (acc ++ [m]) hr hxs (by simp only [List.length_append, List.length_singleton]; omega)
      rw [List.append_assoc, List.singleton_append] at this
      refine Ev.congr (fun k => ?_) this
      simp only [Bool.false_eq_true, if_false]
      rw [copied_is _ _ _ _ hr.2.2.2]
      simp only [Option.bind_some, if_true]
      rw [if_pos (by omega)]
theorem all_ev27 (l : List S28) (hx : ∀ x ∈ l, okR x) (hl : l.length ≤ 1000) : Ev (fun k => merge_All.f k l) (allS l) := by
  unfold merge_All.f
  cases l with
  | nil => exact ⟨0, fun k _ => by simp [merge_All.go, allS]⟩
  | cons r rs =>
    have hr := hx r (List.mem_cons_self ..)
    rw [List.length_cons] at hl
    have := all_go_ev rs r [] hr (fun x h => hx x (List.mem_cons_of_mem _ h)) (by simp only [List.length_nil]; omega)
    refine Ev.congr (fun k => ?_) this
    simp only [merge_All.go, merge_Add.f, if_true]
    rw [copied_is _ _ _ _ hr.2.2.2]
    simp only [Option.bind_some, Bool.false_eq_true, if_false]
theorem okR_allGo : ∀ (l : List S28) (m : S28), okR m → (∀ x ∈ l, okR x) → ∀ x ∈ allGo l m, okR x
  | [], m, hm, _, x, hx => by rw [allGo, List.mem_singleton] at hx; rw [hx]; exact hm
  | r :: rs, m, hm, hl, x, hx => by
    rw [allGo] at hx
    by_cases hc : cmb m r = true
    · rw [if_pos hc] at hx
      exact okR_allGo rs _ (okR_jn hm hc) (fun y h => hl y (List.mem_cons_of_mem _ h)) x hx
    · rw [if_neg hc, List.mem_cons] at hx
      rcases hx with rfl | hx
      · exact hm
      · exact okR_allGo rs r (hl r (List.mem_cons_self ..)) (fun y h => hl y (List.mem_cons_of_mem _ h)) x hx
theorem okR_all (l : List S28) (h : ∀ x ∈ l, okR x) : ∀ x ∈ allS l, okR x := by
  cases l with
  | nil => intro x hx; cases hx
  | cons r rs => exact okR_allGo rs r (h r (List.mem_cons_self ..)) (fun y hy => h y (List.mem_cons_of_mem _ hy))
theorem len_allGo : ∀ (l : List S28) (m : S28), (allGo l m).length ≤ l.length + 1
  | [], _ => by simp [allGo]
  | r :: rs, m => by
    rw [allGo]
    by_cases hc : cmb m r = true
    · rw [if_pos hc]; have := len_allGo rs (jn2 m r); simp only [List.length_cons]; omega
    · rw [if_neg hc]; have := len_allGo rs r; simp only [List.length_cons]; omega
theorem len_all (l : List S28) : (allS l).length ≤ l.length := by
  cases l with
  | nil => simp [allS]
  | cons r rs => exact len_allGo rs r
/-! ### nothing is left to be put together -/
/-! ### how many ends -/
def eqR (x y : S28) : Bool := decide (x.f0 = y.f0 ∧ x.f1 = y.f1 ∧ x.f2 = y.f2 ∧ x.f3 = y.f3)
theorem eqR_self (x : S28) : eqR x x = true := by unfold eqR; simp
theorem same24_ev (x y : S28) (hl : x.f3.length ≤ 1000000000) : Ev (fun k => juratref24_Same.f k x.f0 x.f1 x.f2 x.f3 y.f0 y.f1 y.f2 y.f3) (eqR x y) := by
  unfold juratref24_Same.f eqR
  by_cases h0 : x.f0 = y.f0
  · by_cases h1 : x.f1 = y.f1
    · by_cases h2 : x.f2 = y.f2
      · refine Ev.congr (fun k => by rw [if_pos h0, if_pos h1, if_pos h2]) ?_
        rw [show decide (x.f0 = y.f0 ∧ x.f1 = y.f1 ∧ x.f2 = y.f2 ∧ x.f3 = y.f3) = decide (x.f3 = y.f3) by rw [decide_eq_decide]; exact ⟨fun h => h.2.2.2, fun h => ⟨h0, h1, h2, h⟩⟩]
        exact Ev.bind (same_ev _ _ hl) (Ev.now _)
      · rw [decide_eq_false (fun h => h2 h.2.2.1)]
        exact Ev.congr (fun k => by rw [if_pos h0, if_pos h1, if_neg h2]) (Ev.now _)
    · rw [decide_eq_false (fun h => h1 h.2.1)]
      exact Ev.congr (fun k => by rw [if_pos h0, if_neg h1]) (Ev.now _)
  · rw [decide_eq_false (fun h => h0 h.1)]
    exact Ev.congr (fun k => by rw [if_neg h0]) (Ev.now _)
theorem same26_go (l : List S28) (hx : ∀ x ∈ l, okR x) (hl : l.length ≤ 1000) : ∀ (d i : Nat), i + d = l.length → Ev (fun k => juratref26_Same.l0 k l l (i : Int)) true := by
  intro d
  induction d with
  | zero =>
    intro i h
    exact ev_add 1 (fun k => by rw [juratref26_Same.l0, if_neg (by omega)])
  | succ d ih =>
    intro i h
    have h1 : i < l.length := by omega
    refine Ev.step (fun k => by rw [juratref26_Same.l0, if_pos (by omega), if_pos (by omega), if_pos (by omega), rdT_get l i h1]) ?_
    have hs := same24_ev l[i] l[i] (by have := (hx _ (List.getElem_mem h1)).2.2.2; omega)
    rw [eqR_self] at hs
    refine Ev.bind hs ?_
    refine Ev.congr (fun k => by rw [if_pos rfl, jw64 (by omega) (by omega)]) ?_
    exact_mod_cast ih (i + 1) (by omega)
theorem same26_ev (l : List S28) (hx : ∀ x ∈ l, okR x) (hl : l.length ≤ 1000) : Ev (fun k => juratref26_Same.f k l l) true := by
  unfold juratref26_Same.f
  refine Ev.congr (fun k => by rw [if_pos rfl]) ?_
  exact same26_go l hx hl l.length 0 (by omega)
def fewB (l : List S28) : Bool := l.all fun x => decide (x.f3.length ≤ 30)
theorem fewB_get {l : List S28} (h : fewB l = true) : ∀ x ∈ l, x.f3.length ≤ 30 := fun x hx => of_decide_eq_true (List.all_eq_true.1 h x hx)
theorem few_go (l : List S28) (hl : l.length ≤ 1000000) : ∀ (d i : Nat), i + d = l.length → Ev (fun k => juratref27_Few.l0 k l (i : Int)) (fewB (l.drop i)) := by
  intro d
  induction d with
  | zero =>
    intro i h
    rw [List.drop_eq_nil_of_le (by omega)]
    exact ev_add 1 (fun k => by rw [juratref27_Few.l0, if_neg (by omega)]; rfl)
  | succ d ih =>
    intro i h
    have h1 : i < l.length := by omega
    rw [List.drop_eq_getElem_cons h1]
    refine Ev.step (fun k => by rw [juratref27_Few.l0, if_pos (by omega), if_pos (by omega), rdT_get l i h1]) ?_
    rw [show fewB (l[i] :: l.drop (i + 1)) = (decide (l[i].f3.length ≤ 30) && fewB (l.drop (i + 1))) from rfl]
    by_cases h2 : (l[i].f3.length : Int) > 30
    · rw [decide_eq_false (by omega), Bool.false_and]
      exact Ev.congr (fun k => by rw [if_pos h2]) (Ev.now _)
    · rw [decide_eq_true (by omega), Bool.true_and]
      refine Ev.congr (fun k => by rw [if_neg h2, jw64 (by omega) (by omega)]) ?_
      exact_mod_cast ih (i + 1) (by omega)
theorem few_no (l : List S28) (n : Int) (h : (l.length : Int) > n) (k : Nat) : juratref27_Few.f k l n = some false := by
  unfold juratref27_Few.f
  rw [if_pos h]
theorem few_ev (l : List S28) (n : Int) (h : ¬ ((l.length : Int) > n)) (hn : n ≤ 1000) : Ev (fun k => juratref27_Few.f k l n) (fewB l) := by
  unfold juratref27_Few.f
  refine Ev.congr (fun k => by rw [if_neg h]) ?_
  have := few_go l (by omega) l.length 0 (by omega)
  rwa [List.drop_zero] at this
theorem awake27_ev : Ev (fun k => juratlaw27_awake.f k) true := Ev.of (k := 60) juratlaw27_awake.mono (by kernel_rfl)
theorem good_okR {x : S28} (h : good28 x) (hl : x.f3.length ≤ 30) : okR x := ⟨jwf64 h.1, jwf64 h.2.1, jwf64 h.2.2.1, by omega⟩
end Go.Proofs.Ytaihieglailmcaa.Pure
