/- Plain lemmas of this session (GRef): numbers, bytes and lists. -/
import Derived.Test.YtaihieglailmcaaGBase
import Derived.Test.YtaihieglailmcaaPGx5
import Derived.Test.YtaihieglailmcaaPGx8
import Derived.Test.YtaihieglailmcaaPGx10
import Derived.Test.YtaihieglailmcaaPGx7
namespace Go.Proofs.Ytaihieglailmcaa.Pure
open Go.RowKit Go.Proofs.YtaihieglailmcaaW.PrintWords Go.Proofs.YtaihieglailmcaaW.PrintLast Go.Proofs.YtaihieglailmcaaW.PrintMore Go.Proofs.Ytaihieglailmcaa.PG
theorem ris_eq (n : Int) : juratref03_Is.f n = some (decide (In n)) := is_eq n
theorem radd_ev (a b : Int) : Ev (fun k => juratref03_Add.f k a b) (addS a b) := by
  unfold addS
  refine ev_add 1 (fun k => ?_)
  unfold juratref03_Add.f
  rw [ris_eq, ris_eq]
  simp only [Option.bind_some]
  by_cases ha : In a
  · by_cases hb : In b
    · rw [decide_eq_true ha, decide_eq_true hb, if_pos rfl, juratref03_Add.j0, if_neg (by decide), if_pos (show In a ∧ In b from ⟨ha, hb⟩)]
      rw [jw64 (by omega) (by omega)]
      by_cases h2 : 4611686018427387903 < a + b
      · rw [if_pos h2, if_pos h2]
      · rw [if_neg h2, if_neg (by omega), if_neg h2]
    · rw [decide_eq_true ha, decide_eq_false hb, if_pos rfl, juratref03_Add.j0, if_pos (by decide), if_neg (show ¬ (In a ∧ In b) from fun h => hb h.2)]
  · rw [decide_eq_false ha, if_neg (by decide), juratref03_Add.j0, if_pos rfl, if_neg (show ¬ (In a ∧ In b) from fun h => ha h.1)]
theorem half_le (a n : Int) (e : Nat) (ha : 0 ≤ a) (hn : 0 ≤ n) : a * (n / 2 ^ e) ≤ a * n := Int.mul_le_mul_of_nonneg_left (Int.ediv_le_self _ hn) ha
theorem pow_step (n : Int) (e : Nat) : n / 2 ^ (e + 1) = (n / 2 ^ e) / 2 := by
  rw [Int.pow_succ, ← Int.ediv_ediv_of_nonneg (Int.le_of_lt (Int.pow_pos (by decide)))]
theorem rmul_go (a n : Int) (ha : In a) (hn : In n) : ∀ (d k : Nat) (out : Int), d ≤ 62 → d < k → out = a * (n / 2 ^ d) → out ≤ 4611686018427387903 →
    juratref03_Mul.l0 k a n out ((d : Int) - 1) = some (if 4611686018427387903 < a * n then (0, 10) else (a * n, 0)) := by
  intro d
  induction d with
  | zero =>
    intro k out _ hk ho hb
    obtain ⟨k, rfl⟩ : ∃ m, k = m + 1 := ⟨k - 1, by omega⟩
    simp only [juratref03_Mul.l0]
    have e1 : out = a * n := by rw [ho]; simp
    rw [if_neg (by omega), if_neg (by omega), e1]
  | succ d ih =>
    intro k out h62 hk ho hb
    obtain ⟨k, rfl⟩ : ∃ m, k = m + 1 := ⟨k - 1, by omega⟩
    simp only [juratref03_Mul.l0]
    have e0 : (((d + 1 : Nat) : Int) - 1) = (d : Int) := by omega
    have hq0 : 0 ≤ n / 2 ^ d := Int.ediv_nonneg hn.1 (Int.le_of_lt (Int.pow_pos (by decide)))
    have hqn : n / 2 ^ d ≤ n := Int.ediv_le_self _ hn.1
    have hs : shr .i64 n (d : Int) = n / 2 ^ d := by
      unfold shr
      rw [show min (d : Int).toNat IntKind.i64.bits = d by simp [IntKind.bits]; omega]
    have hp := pow_step n d
    have hall := half_le a n d ha.1 hn.1
    have hout0 : 0 ≤ out := by rw [ho]; exact Int.mul_nonneg ha.1 (Int.ediv_nonneg hn.1 (Int.le_of_lt (Int.pow_pos (by decide))))
    rw [e0, if_pos (by omega), hs, jand1 hq0 (by omega)]
    obtain ⟨q, hq⟩ : ∃ q, q = n / 2 ^ d := ⟨_, rfl⟩
    rw [← hq] at hp hall hq0 hqn ⊢
    rw [hp] at ho
    have h2 : a * q = 2 * out + a * (q % 2) := by
      have : q = 2 * (q / 2) + q % 2 := by omega
      rw [ho]
      conv => lhs; rw [this]
      rw [Int.mul_add, ← Int.mul_assoc, Int.mul_comm a 2, Int.mul_assoc]
    by_cases hbig : out > 2305843009213693951
    · have : 0 ≤ a * (q % 2) := Int.mul_nonneg ha.1 (by omega)
      rw [if_pos hbig, if_pos (by omega)]
    · rw [if_neg hbig, if_pos (by omega), jw64 (n := 2 * out) (by omega) (by omega)]
      by_cases hbit : q % 2 = 1
      · rw [if_pos hbit]
        rw [hbit, Int.mul_one] at h2
        rw [jw64 (n := 4611686018427387903 - a) (by omega) (by omega)]
        by_cases hov : 2 * out > 4611686018427387903 - a
        · rw [if_pos hov, if_pos (by omega)]
        · rw [if_neg hov, jw64 (n := 2 * out + a) (by omega) (by omega), jw64 (by omega) (by omega)]
          exact ih k (2 * out + a) (by omega) (by omega) (by rw [← hq]; omega) (by omega)
      · rw [if_neg hbit]
        have hz : q % 2 = 0 := by omega
        rw [hz, Int.mul_zero] at h2
        rw [jw64 (by omega) (by omega)]
        exact ih k (2 * out) (by omega) (by omega) (by rw [← hq]; omega) (by omega)
theorem rmul_ev (a b : Int) : Ev (fun k => juratref03_Mul.f k a b) (mulS a b) := by
  unfold mulS
  refine ev_add 80 (fun k => ?_)
  unfold juratref03_Mul.f
  rw [ris_eq, ris_eq]
  rw [show k + 80 = (k + 79) + 1 from rfl]
  simp only [Option.bind_some]
  by_cases ha : In a
  · by_cases hb : In b
    · rw [decide_eq_true ha, decide_eq_true hb, if_pos rfl, juratref03_Mul.j0, if_neg (by decide), if_pos (show In a ∧ In b from ⟨ha, hb⟩)]
      have hz : b / 2 ^ 62 = 0 := by omega
      exact rmul_go a b ha hb 62 (k + 79) 0 (by omega) (by omega) (by rw [hz, Int.mul_zero]) (by omega)
    · rw [decide_eq_true ha, decide_eq_false hb, if_pos rfl, juratref03_Mul.j0, if_pos (by decide), if_neg (show ¬ (In a ∧ In b) from fun h => hb h.2)]
  · rw [decide_eq_false ha, if_neg (by decide), juratref03_Mul.j0, if_pos rfl, if_neg (show ¬ (In a ∧ In b) from fun h => ha h.1)]
/-! ### the document's answers -/
theorem rtwo_false (k : Nat) (a b c : Int) (d : List Int) (a' b' c' : Int) (d' : List Int) : juratref27_Two.j0 (k + 1) true a b c d a' b' c' d' = some (0, 0, 0, [], false) := by rw [juratref27_Two.j0, if_pos rfl]
theorem rtwo_ev (a b : S28) (ha : okR a) (hb : okR b) : Ev (fun k => juratref27_Two.f k a.f0 a.f1 a.f2 a.f3 b.f0 b.f1 b.f2 b.f3) (twoS a b) := by
  obtain ⟨_, _, h2, h3⟩ := ha
  obtain ⟨_, _, g2, g3⟩ := hb
  unfold juratref27_Two.f
  have neg : cmb a b = false → twoS a b = (0, 0, 0, [], false) := fun h => by unfold twoS; rw [if_neg (by rw [h]; decide)]
  by_cases c1 : a.f0 < 1
  · rw [neg (by unfold cmb; rw [decide_eq_false_iff_not]; omega)]
    exact Ev.congr (fun k => by rw [if_pos c1]) (ev_add 1 (fun k => rtwo_false ..))
  refine Ev.congr (fun k => by rw [if_neg c1]) ?_
  by_cases c2 : a.f0 > 3
  · rw [neg (by unfold cmb; rw [decide_eq_false_iff_not]; omega)]
    exact Ev.congr (fun k => by rw [if_pos c2]) (ev_add 1 (fun k => rtwo_false ..))
  refine Ev.congr (fun k => by rw [if_neg c2]) ?_
  by_cases c3 : b.f0 ≠ a.f0
  · rw [neg (by unfold cmb; rw [decide_eq_false_iff_not]; rintro ⟨_, _, h, _⟩; exact c3 h.symm)]
    exact Ev.congr (fun k => by rw [if_neg c3]) (ev_add 1 (fun k => rtwo_false ..))
  replace c3 : b.f0 = a.f0 := by omega
  refine Ev.congr (fun k => by rw [if_pos c3]) ?_
  by_cases c4 : b.f1 ≠ a.f1
  · rw [neg (by unfold cmb; rw [decide_eq_false_iff_not]; rintro ⟨_, _, _, h, _⟩; exact c4 h.symm)]
    exact Ev.congr (fun k => by rw [if_neg c4]) (ev_add 1 (fun k => rtwo_false ..))
  replace c4 : b.f1 = a.f1 := by omega
  refine Ev.congr (fun k => by rw [if_pos c4]) ?_
  by_cases c5 : (a.f3.length : Int) > 0
  · rw [neg (by unfold cmb; rw [decide_eq_false_iff_not]; rintro ⟨_, _, _, _, h, _⟩; rw [h] at c5; simp at c5)]
    exact Ev.congr (fun k => by rw [if_pos c5]) (ev_add 1 (fun k => rtwo_false ..))
  refine Ev.congr (fun k => by rw [if_neg c5]) ?_
  by_cases c6 : (b.f3.length : Int) > 0
  · rw [neg (by unfold cmb; rw [decide_eq_false_iff_not]; rintro ⟨_, _, _, _, _, h, _⟩; rw [h] at c6; simp at c6)]
    exact Ev.congr (fun k => by rw [decide_eq_true c6]) (ev_add 1 (fun k => rtwo_false ..))
  refine Ev.congr (fun k => by rw [decide_eq_false c6]) ?_
  have e1 : a.f3 = [] := nil_len (by omega)
  have e2 : b.f3 = [] := nil_len (by omega)
  refine Ev.step (fun k => by rw [juratref27_Two.j0, if_neg (by decide)]) ?_
  by_cases c7 : a.f2 < 1
  · rw [neg (by unfold cmb; rw [decide_eq_false_iff_not]; omega)]
    exact Ev.congr (fun k => by rw [if_pos c7]) (Ev.now _)
  refine Ev.congr (fun k => by rw [if_neg c7]) ?_
  by_cases c8 : b.f2 < 1
  · rw [neg (by unfold cmb; rw [decide_eq_false_iff_not]; omega)]
    exact Ev.congr (fun k => by rw [if_pos c8]) (Ev.now _)
  refine Ev.congr (fun k => by rw [if_neg c8]) ?_
  by_cases c9 : a.f2 > 4611686018427387903
  · rw [neg (by unfold cmb; rw [decide_eq_false_iff_not]; omega)]
    exact Ev.congr (fun k => by rw [if_pos c9]) (Ev.now _)
  refine Ev.congr (fun k => by rw [if_neg c9, jw64 (by omega) (by omega)]) ?_
  by_cases c10 : b.f2 > 4611686018427387903 - a.f2
  · rw [neg (by unfold cmb; rw [decide_eq_false_iff_not]; omega)]
    exact Ev.congr (fun k => by rw [if_pos c10]) (Ev.now _)
  have hc : cmb a b = true := by unfold cmb; rw [decide_eq_true_iff]; exact ⟨by omega, by omega, c3.symm, c4.symm, e1, e2, by omega, by omega, by omega⟩
  unfold twoS
  rw [if_pos hc]
  exact Ev.congr (fun k => by rw [if_neg c10, jw64 (by omega) (by omega)]) (Ev.now _)
theorem rd_last (acc : List S28) (m : S28) : rd_T28 (acc ++ [m]) ((acc.length : Nat) : Int) = m := by
  rw [rdT_get _ _ (by simp)]
  simp
theorem S28_eta (x : S28) : (⟨x.f0, x.f1, x.f2, x.f3⟩ : S28) = x := rfl
theorem rall_go (l : List S28) (hx : ∀ x ∈ l, okR x) (hl : l.length ≤ 1000) : ∀ (d i : Nat) (acc : List S28) (m : S28), i + d = l.length → acc.length ≤ i → okR m → Ev (fun k => juratref27_All.l0 k l (acc ++ [m]) (i : Int)) (acc ++ allGo (l.drop i) m) := by
  intro d
  induction d with
  | zero =>
    intro i acc m h ha hm
    rw [List.drop_eq_nil_of_le (by omega)]
    exact ev_add 1 (fun k => by rw [juratref27_All.l0, if_neg (by omega)]; rfl)
  | succ d ih =>
    intro i acc m h ha hm
    have h1 : i < l.length := by omega
    have hlen : ((acc ++ [m]).length : Int) = (acc.length : Int) + 1 := by simp
    have w1 : wrap64 (((acc ++ [m]).length : Int) - 1) = (acc.length : Int) := by rw [hlen, jw64 (by omega) (by omega)]; omega
    rw [List.drop_eq_getElem_cons h1, allGo]
    refine Ev.step (fun k => by rw [juratref27_All.l0, if_pos (by omega), if_pos (by omega), w1, if_pos (by omega), if_pos (by omega), if_pos (by omega), rd_last, rdT_get l i h1]) ?_
    refine Ev.bind (rtwo_ev _ _ hm (hx _ (List.getElem_mem h1))) ?_
    unfold twoS
    by_cases hc : cmb m l[i] = true
    · rw [if_pos hc, if_pos hc]
      have e : (acc ++ [m]).set ((acc.length : Int)).toNat (⟨m.f0, m.f1, m.f2 + l[i].f2, []⟩ : S28) = acc ++ [jn2 m l[i]] := by
        rw [Int.toNat_natCast, List.set_append_right _ _ (by omega)]
        simp [jn2]
      refine Ev.congr (fun k => by simp only [if_true]; rw [e, jw64 (by omega) (by omega)]) ?_
      exact_mod_cast ih (i + 1) acc _ (by omega) (by omega) (okR_jn hm hc)
    · rw [if_neg hc, if_neg hc]
      refine Ev.congr (fun k => by simp only [Bool.false_eq_true, if_false]; rw [if_pos (by rw [List.length_append, List.length_singleton]; omega), S28_eta, jw64 (by omega) (by omega)]) ?_
      have := ih (i + 1) (acc ++ [m]) l[i] (by omega) (by simp; omega) (hx _ (List.getElem_mem h1))
      rw [show acc ++ m :: allGo (l.drop (i + 1)) l[i] = (acc ++ [m]) ++ allGo (l.drop (i + 1)) l[i] by simp]
      exact_mod_cast this
theorem rall_ev (l : List S28) (hx : ∀ x ∈ l, okR x) (hl : l.length ≤ 1000) : Ev (fun k => juratref27_All.f k l) (allS l) := by
  unfold juratref27_All.f
  cases l with
  | nil => exact ev_add 1 (fun k => by rw [juratref27_All.l0, if_neg (by simp)]; rfl)
  | cons r rs =>
    refine Ev.step (fun k => by rw [juratref27_All.l0, if_pos (by simp), if_neg (by simp), if_pos (by omega), if_pos (by simp), show ((0 : Int)) = ((0 : Nat) : Int) from rfl, rdT_get _ 0 (by simp), jw64 (by omega) (by omega)]) ?_
    have := rall_go (r :: rs) hx hl rs.length 1 [] r (by simp; omega) (by simp) (hx r (List.mem_cons_self ..))
    simp only [List.nil_append, List.drop_succ_cons, List.drop_zero] at this
    exact this
theorem rcanon_go (l : List S28) (hx : ∀ x ∈ l, okR x) (hl : l.length ≤ 1000) : ∀ (d i : Nat), i + 1 + d = l.length → Ev (fun k => juratref27_Canon.l0 k l ((i + 1 : Nat) : Int)) (canonS (l.drop i)) := by
  intro d
  induction d with
  | zero =>
    intro i h
    have e : l.drop i = [l[i]] := by rw [List.drop_eq_getElem_cons (by omega), List.drop_eq_nil_of_le (by omega)]
    rw [e]
    exact ev_add 1 (fun k => by rw [juratref27_Canon.l0, if_neg (by omega)]; rfl)
  | succ d ih =>
    intro i h
    have h1 : i < l.length := by omega
    have h2 : i + 1 < l.length := by omega
    have e : l.drop i = l[i] :: l[i + 1] :: l.drop (i + 1 + 1) := by rw [List.drop_eq_getElem_cons h1, List.drop_eq_getElem_cons h2]
    have w1 : wrap64 (((i + 1 : Nat) : Int) - 1) = (i : Int) := by rw [jw64 (by omega) (by omega)]; omega
    have w2 : wrap64 (((i + 1 : Nat) : Int) + 1) = ((i + 1 + 1 : Nat) : Int) := by rw [jw64 (by omega) (by omega)]; omega
    refine Ev.step (fun k => by rw [juratref27_Canon.l0, if_pos (by omega), w1, if_pos (by omega), if_pos (by omega), if_pos (by omega), rdT_get l i h1, rdT_get l (i + 1) h2]) ?_
    refine Ev.bind (rtwo_ev _ _ (hx _ (List.getElem_mem _)) (hx _ (List.getElem_mem _))) ?_
    rw [e, canonS]
    unfold twoS
    by_cases hc : cmb l[i] l[i + 1] = true
    · rw [if_pos hc, hc]
      exact ⟨0, fun k _ => by simp⟩
    · rw [if_neg hc, show cmb l[i] l[i + 1] = false by simpa using hc]
      have := ih (i + 1) (by omega)
      rw [List.drop_eq_getElem_cons h2] at this
      exact Ev.congr (fun k => by simp only [Bool.false_eq_true, if_false]; rw [w2]) (by simpa using this)
theorem rcanon_ev (l : List S28) (hx : ∀ x ∈ l, okR x) (hl : l.length ≤ 1000) : Ev (fun k => juratref27_Canon.f k l) (canonS l) := by
  unfold juratref27_Canon.f
  cases l with
  | nil => exact ev_add 1 (fun k => by rw [juratref27_Canon.l0, if_neg (by simp)]; rfl)
  | cons r rs => exact rcanon_go (r :: rs) hx hl rs.length 0 (by simp; omega)
theorem rcov1_ev (r : S28) : Ev (fun k => juratref24_Covers.f k r.f0 r.f1 r.f2 r.f3) (cov1 r) := by
  unfold juratref24_Covers.f cov1
  by_cases h1 : r.f0 = 1
  · refine Ev.congr (fun k => by rw [if_pos h1]) ?_
    rw [if_pos (Or.inl h1)]
    refine ev_add 1 (fun k => ?_)
    rw [juratref24_Covers.j0, if_pos rfl]
    by_cases h : r.f1 < 0
    · rw [if_pos h, if_pos h]
    · rw [if_neg h, if_neg h]
  · refine Ev.congr (fun k => by rw [if_neg h1]) ?_
    by_cases h2 : r.f0 = 2
    · rw [if_pos (Or.inr h2)]
      refine ev_add 1 (fun k => ?_)
      rw [juratref24_Covers.j0, if_pos (by rw [h2]; rfl)]
      by_cases h : r.f1 < 0
      · rw [if_pos h, if_pos h]
      · rw [if_neg h, if_neg h]
    · rw [if_neg (by omega)]
      refine ev_add 1 (fun k => ?_)
      rw [juratref24_Covers.j0, if_neg (by simpa using h2)]
      by_cases h3 : r.f0 = 3
      · rw [if_pos h3, if_pos (Or.inl h3)]
      · rw [if_neg h3]
        by_cases h4 : r.f0 = 4
        · rw [if_pos h4, if_pos (Or.inr h4)]
        · rw [if_neg h4, if_neg (by omega)]
theorem rcov_ev (r : S28) : Ev (fun k => juratref27_Covers.f k r.f0 r.f1 r.f2 r.f3) (covS r) := by
  unfold juratref27_Covers.f covS
  by_cases h0 : r.f0 ≥ 1
  · refine Ev.congr (fun k => by rw [if_pos h0]) ?_
    refine Ev.step (fun k => by rw [juratref27_Covers.j0]) ?_
    by_cases h : r.f0 ≤ 3
    · rw [if_pos ⟨h0, h⟩]
      refine Ev.congr (fun k => by rw [decide_eq_true h, if_pos rfl]) ?_
      exact Ev.bind (rcov1_ev r) (Ev.bind (rmul_ev _ _) ⟨0, fun k _ => rfl⟩)
    · rw [if_neg (by omega)]
      refine Ev.congr (fun k => by rw [decide_eq_false h, if_neg (by decide)]) ?_
      exact Ev.bind (rcov1_ev r) ⟨0, fun k _ => rfl⟩
  · refine Ev.congr (fun k => by rw [if_neg h0]) ?_
    refine Ev.step (fun k => by rw [juratref27_Covers.j0, if_neg (by decide)]) ?_
    rw [if_neg (by omega)]
    exact Ev.bind (rcov1_ev r) ⟨0, fun k _ => rfl⟩
theorem rfar_go (l : List S28) (hl : l.length ≤ 1000) : ∀ (d i : Nat) (a : Int), i + d = l.length → Ev (fun k => juratref27_Far.l0 k a l (i : Int)) (farS a (l.drop i)) := by
  intro d
  induction d with
  | zero =>
    intro i a h
    rw [List.drop_eq_nil_of_le (by omega)]
    exact ev_add 1 (fun k => by rw [juratref27_Far.l0, if_neg (by omega)]; rfl)
  | succ d ih =>
    intro i a h
    have h1 : i < l.length := by omega
    rw [List.drop_eq_getElem_cons h1, farS]
    refine Ev.step (fun k => by rw [juratref27_Far.l0, if_pos (by omega), if_pos (by omega), rdT_get l i h1]) ?_
    refine Ev.bind (rcov_ev _) ?_
    by_cases h2 : (covS l[i]).2 = 0
    · rw [if_pos h2]
      refine Ev.congr (fun k => by rw [if_pos h2]) ?_
      refine Ev.bind (radd_ev _ _) ?_
      by_cases h3 : (addS a (covS l[i]).1).2 = 0
      · rw [if_pos h3]
        refine Ev.congr (fun k => by rw [if_pos h3, jw64 (by omega) (by omega)]) ?_
        exact_mod_cast ih (i + 1) _ (by omega)
      · rw [if_neg h3]
        exact Ev.congr (fun k => by rw [if_neg h3]) (Ev.now _)
    · rw [if_neg h2]
      exact Ev.congr (fun k => by rw [if_neg h2]) (Ev.now _)
theorem rfar_ev (a : Int) (l : List S28) (hl : l.length ≤ 1000) : Ev (fun k => juratref27_Far.f k a l) (if In a then farS a l else (0, 2)) := by
  unfold juratref27_Far.f
  refine Ev.congr (fun k => by rw [ris_eq, Option.bind_some]) ?_
  by_cases h : In a
  · rw [if_pos h]
    refine Ev.congr (fun k => by rw [decide_eq_true h, if_pos rfl]) ?_
    have := rfar_go l hl l.length 0 a (by omega)
    rwa [List.drop_zero] at this
  · rw [if_neg h]
    exact Ev.congr (fun k => by rw [decide_eq_false h, if_neg (by decide)]) (Ev.now _)
end Go.Proofs.Ytaihieglailmcaa.Pure
