/- The queue's laws over lists alone: merging, rising, alike. -/
import Derived.Test.YtphmeljhfbahoaaWMore
import Derived.Test.YtphmeljhfbahoaaWLast
import Derived.Test.YtphmeljhfbahoaaPQx2
import Derived.Test.YtphmeljhfbahoaaPQx3
import Derived.Test.YtphmeljhfbahoaaPQx4
set_option linter.unusedVariables false
set_option linter.unusedSimpArgs false
namespace Go.Proofs.Ytphmeljhfbahoaa.PQ
open Go.RowKit Go.Proofs.YtphmeljhfbahoaaW.PrintWords Go.Proofs.YtphmeljhfbahoaaW.PrintLast Go.Proofs.YtphmeljhfbahoaaW.PrintMore
theorem jw64 {n : Int} (h0 : -9223372036854775808 ≤ n) (h1 : n < 9223372036854775808) : wrap64 n = n := by unfold wrap64; omega
theorem ev_add {α : Type} {g : Nat → Option α} {r : α} (n : Nat) (h : ∀ k, g (k + n) = some r) : Ev g r := ⟨n, fun k hk => by rw [show k = (k - n) + n by omega]; exact h _⟩
theorem rdT34_get (l : List S34) (i : Nat) (h : i < l.length) : rd_T34 l (i : Int) = l[i] := by simp [rd_T34, List.getD_eq_getElem?_getD, List.getElem?_eq_getElem h]
def aheadP (x y : S34) : Prop := x.f0 < y.f0 ∨ x.f0 = y.f0 ∧ x.f1 < y.f1
def aheadE (x y : S34) : Prop := x.f0 < y.f0 ∨ x.f0 = y.f0 ∧ x.f1 ≤ y.f1
instance (x y : S34) : Decidable (aheadP x y) := by unfold aheadP; infer_instance
instance (x y : S34) : Decidable (aheadE x y) := by unfold aheadE; infer_instance
theorem ahead_f (x y : S34) : queue_ahead.f x.f0 x.f1 y.f0 y.f1 = some (decide (aheadE x y)) := by
  unfold queue_ahead.f aheadE
  by_cases h1 : x.f0 < y.f0
  · simp [h1]
  · by_cases h2 : x.f0 = y.f0 <;> simp [h1, h2]
theorem Ahead_f (x y : S34) : juratref15_Ahead.f x.f0 x.f1 y.f0 y.f1 = some (decide (aheadP x y)) := by
  unfold juratref15_Ahead.f aheadP
  by_cases h1 : x.f0 < y.f0
  · simp [h1]
  · by_cases h2 : x.f0 = y.f0 <;> simp [h1, h2]
theorem behind_f (x y : S34) : juratref33_behind.f x.f0 x.f1 y.f0 y.f1 = some (!decide (aheadE x y)) := by
  unfold juratref33_behind.f aheadE
  by_cases h1 : x.f0 > y.f0
  · have h2 : ¬ x.f0 < y.f0 := by omega
    have h3 : ¬ x.f0 = y.f0 := by omega
    simp [h1, h2, h3]
  · by_cases h2 : x.f0 = y.f0
    · by_cases h3 : x.f1 ≤ y.f1
      · have h4 : ¬ x.f1 > y.f1 := by omega
        simp [h2, h3, h4]
      · have h4 : x.f1 > y.f1 := by omega
        simp [h2, h3, h4]
    · have h3 : x.f0 < y.f0 := by omega
      simp [h1, h2, h3]
/-- Two lists, one by one the one that comes first. -/
def mergeS : List S34 → List S34 → List S34
  | [], b => b
  | x :: a, [] => x :: a
  | x :: a, y :: b => if aheadE x y then x :: mergeS a (y :: b) else y :: mergeS (x :: a) b
termination_by a b => a.length + b.length
theorem merge_nil_l (b : List S34) : mergeS [] b = b := by rw [mergeS]
theorem merge_nil_r (a : List S34) : mergeS a [] = a := by cases a <;> rw [mergeS]
theorem merge_left {x y : S34} {a b : List S34} (h : aheadE x y) : mergeS (x :: a) (y :: b) = x :: mergeS a (y :: b) := by rw [mergeS, if_pos h]
theorem merge_right {x y : S34} {a b : List S34} (h : ¬ aheadE x y) : mergeS (x :: a) (y :: b) = y :: mergeS (x :: a) b := by rw [mergeS, if_neg h]
theorem merge_len : ∀ (n : Nat) (a b : List S34), a.length + b.length = n → (mergeS a b).length = n
  | n, [], b, h => by rw [merge_nil_l]; simpa using h
  | n, x :: a, [], h => by rw [merge_nil_r]; simpa using h
  | 0, x :: a, y :: b, h => by simp at h
  | n + 1, x :: a, y :: b, h => by
    simp only [List.length_cons] at h
    by_cases hx : aheadE x y
    · rw [merge_left hx, List.length_cons, merge_len n a (y :: b) (by simp only [List.length_cons]; omega)]
    · rw [merge_right hx, List.length_cons, merge_len n (x :: a) b (by simp only [List.length_cons]; omega)]
theorem merge_mem : ∀ (n : Nat) (a b : List S34), a.length + b.length = n → ∀ z, z ∈ mergeS a b → z ∈ a ∨ z ∈ b
  | n, [], b, h, z, hz => by rw [merge_nil_l] at hz; exact .inr hz
  | n, x :: a, [], h, z, hz => by rw [merge_nil_r] at hz; exact .inl hz
  | 0, x :: a, y :: b, h, z, hz => by simp at h
  | n + 1, x :: a, y :: b, h, z, hz => by
    simp only [List.length_cons] at h
    by_cases hx : aheadE x y
    · rw [merge_left hx] at hz
      rcases List.mem_cons.1 hz with rfl | hz
      · exact .inl (List.mem_cons_self ..)
      · exact (merge_mem n a (y :: b) (by simp only [List.length_cons]; omega) z hz).imp (List.mem_cons_of_mem _) id
    · rw [merge_right hx] at hz
      rcases List.mem_cons.1 hz with rfl | hz
      · exact .inr (List.mem_cons_self ..)
      · exact (merge_mem n (x :: a) b (by simp only [List.length_cons]; omega) z hz).imp id (List.mem_cons_of_mem _)
def risB : List S34 → Bool
  | x :: y :: l => decide (aheadP x y) && risB (y :: l)
  | _ => true
theorem ahead_trans {x y z : S34} (h1 : aheadP x y) (h2 : aheadP y z) : aheadP x z := by unfold aheadP at *; omega
theorem ris_pw : ∀ l : List S34, risB l = true ↔ l.Pairwise aheadP
  | [] => by simp [risB]
  | [x] => by simp [risB]
  | x :: y :: l => by
    have ih := ris_pw (y :: l)
    rw [risB, Bool.and_eq_true, ih, decide_eq_true_iff, List.pairwise_cons (a := x)]
    constructor
    · rintro ⟨h1, h2⟩
      refine ⟨fun z hz => ?_, h2⟩
      rcases List.mem_cons.1 hz with rfl | hz
      · exact h1
      · exact ahead_trans h1 ((List.pairwise_cons.1 h2).1 z hz)
    · rintro ⟨h1, h2⟩
      exact ⟨h1 y (List.mem_cons_self ..), h2⟩
theorem strict {x y : S34} (h : aheadE x y) (hne : x ≠ y) : aheadP x y := by
  unfold aheadE at h
  unfold aheadP
  rcases h with h | ⟨h1, h2⟩
  · exact .inl h
  · refine .inr ⟨h1, ?_⟩
    have : x.f1 ≠ y.f1 := fun e => hne (by cases x; cases y; simp_all)
    omega
theorem strict' {x y : S34} (h : ¬ aheadE x y) : aheadP y x := by
  unfold aheadE at h
  unfold aheadP
  omega
theorem merge_pw : ∀ (n : Nat) (a b : List S34), a.length + b.length = n → a.Pairwise aheadP → b.Pairwise aheadP → (∀ x ∈ a, ∀ y ∈ b, x ≠ y) → (mergeS a b).Pairwise aheadP
  | n, [], b, h, ha, hb, hn => by rw [merge_nil_l]; exact hb
  | n, x :: a, [], h, ha, hb, hn => by rw [merge_nil_r]; exact ha
  | 0, x :: a, y :: b, h, _, _, _ => by simp at h
  | n + 1, x :: a, y :: b, h, ha, hb, hn => by
    simp only [List.length_cons] at h
    have hxy := hn x (List.mem_cons_self ..) y (List.mem_cons_self ..)
    obtain ⟨a1, a2⟩ := List.pairwise_cons.1 ha
    obtain ⟨b1, b2⟩ := List.pairwise_cons.1 hb
    by_cases hx : aheadE x y
    · rw [merge_left hx, List.pairwise_cons]
      refine ⟨fun z hz => ?_, merge_pw n a (y :: b) (by simp only [List.length_cons]; omega) a2 hb (fun u hu v hv => hn u (List.mem_cons_of_mem _ hu) v hv)⟩
      rcases merge_mem _ a (y :: b) rfl z hz with hz | hz
      · exact a1 z hz
      · rcases List.mem_cons.1 hz with rfl | hz
        · exact strict hx hxy
        · exact ahead_trans (strict hx hxy) (b1 z hz)
    · rw [merge_right hx, List.pairwise_cons]
      refine ⟨fun z hz => ?_, merge_pw n (x :: a) b (by simp only [List.length_cons]; omega) ha b2 (fun u hu v hv => hn u hu v (List.mem_cons_of_mem _ hv))⟩
      rcases merge_mem _ (x :: a) b rfl z hz with hz | hz
      · rcases List.mem_cons.1 hz with rfl | hz
        · exact strict' hx
        · exact ahead_trans (strict' hx) (a1 z hz)
      · exact b1 z hz
theorem merge_rises {a b : List S34} (ha : risB a = true) (hb : risB b = true) (hn : ∀ x ∈ a, ∀ y ∈ b, x ≠ y) : risB (mergeS a b) = true :=
  (ris_pw _).2 (merge_pw _ a b rfl ((ris_pw _).1 ha) ((ris_pw _).1 hb) hn)
/-! ### what the printed functions answer -/
theorem rising_go (l : List S34) (hl : l.length ≤ 1000000) : ∀ (d i : Nat), i + d = l.length → Ev (fun k => juratref15_Rising.l0 k l ((i + 1 : Nat) : Int)) (risB (l.drop i))
  | 0, i, hd => by
    rw [List.drop_eq_nil_of_le (by omega)]
    exact ev_add 1 (fun k => by rw [juratref15_Rising.l0, if_neg (by omega)]; rfl)
  | d + 1, i, hd => by
    by_cases h1 : i + 1 < l.length
    · have ih := rising_go l hl d (i + 1) (by omega)
      obtain ⟨k, hk⟩ := ih
      refine ⟨k + 1, fun q hq => ?_⟩
      obtain ⟨q, rfl⟩ : ∃ q', q = q' + 1 := ⟨q - 1, by omega⟩
      have e1 : wrap64 (((i + 1 : Nat) : Int) - 1) = (i : Int) := by rw [jw64 (by omega) (by omega)]; omega
      have e2 : wrap64 (((i + 1 : Nat) : Int) + 1) = ((i + 1 + 1 : Nat) : Int) := by rw [jw64 (by omega) (by omega)]; omega
      have e3 : l.drop i = l[i] :: l[i + 1] :: l.drop (i + 2) := by rw [List.drop_eq_getElem_cons (by omega), List.drop_eq_getElem_cons h1]
      have e4 : l.drop (i + 1) = l[i + 1] :: l.drop (i + 2) := List.drop_eq_getElem_cons h1
      show juratref15_Rising.l0 (q + 1) l ((i + 1 : Nat) : Int) = some (risB (l.drop i))
      rw [juratref15_Rising.l0, if_pos (by omega), e1, if_pos (by omega), if_pos (by omega), if_pos (by omega), rdT34_get l i (by omega), rdT34_get l (i + 1) h1, e2, Ahead_f, e3, risB, ← e4]
      simp only [Option.bind_some]
      by_cases ha : aheadP l[i] l[i + 1]
      · rw [if_pos (by simp [ha]), decide_eq_true ha, Bool.true_and]
        exact hk q (by omega)
      · rw [if_neg (by simp [ha]), decide_eq_false ha, Bool.false_and]
    · have e3 : l.drop i = [l[i]'(by omega)] := by rw [List.drop_eq_getElem_cons (by omega), List.drop_eq_nil_of_le (by omega)]
      rw [e3]
      exact ev_add 1 (fun k => by rw [juratref15_Rising.l0, if_neg (by omega)]; rfl)
theorem rising_ev (l : List S34) (hl : l.length ≤ 1000000) : Ev (fun k => juratref15_Rising.f k l) (risB l) := by
  have h := rising_go l hl l.length 0 (by omega)
  exact h
theorem same34_go (l : List S34) (hl : l.length ≤ 1000000) : ∀ (d i : Nat), i + d = l.length → Ev (fun k => juratref15_Same.l0 k l l (i : Int)) true
  | 0, i, hd => ev_add 1 (fun k => by rw [juratref15_Same.l0, if_neg (by omega)])
  | d + 1, i, hd => by
    have ih := same34_go l hl d (i + 1) (by omega)
    obtain ⟨k, hk⟩ := ih
    refine ⟨k + 1, fun q hq => ?_⟩
    obtain ⟨q, rfl⟩ : ∃ q', q = q' + 1 := ⟨q - 1, by omega⟩
    have e2 : wrap64 ((i : Int) + 1) = ((i + 1 : Nat) : Int) := by rw [jw64 (by omega) (by omega)]; omega
    show juratref15_Same.l0 (q + 1) l l (i : Int) = some true
    rw [juratref15_Same.l0, if_pos (by omega), if_pos (by omega), if_pos (by omega), if_neg (by simp), e2]
    exact hk q (by omega)
theorem same34_ev (l : List S34) (hl : l.length ≤ 1000000) : Ev (fun k => juratref15_Same.f k l l) true := by
  obtain ⟨k, hk⟩ := same34_go l hl l.length 0 (by omega)
  refine ⟨k, fun q hq => ?_⟩
  show juratref15_Same.f q l l = some true
  unfold juratref15_Same.f
  rw [if_pos rfl]
  exact hk q hq
theorem m_both {q : Nat} {a b out : List S34} {i j : Nat} (h1 : i < a.length) (h2 : j < b.length) (hl : out.length < 8796093022208) (ha : a.length ≤ 1000) (hb : b.length ≤ 1000) : juratref33_Merge.l0 (q + 1 + 1) a b out (i : Int) (j : Int) = if aheadE a[i] b[j] then juratref33_Merge.l0 q a b (out ++ [a[i]]) ((i + 1 : Nat) : Int) (j : Int) else juratref33_Merge.l0 q a b (out ++ [b[j]]) (i : Int) ((j + 1 : Nat) : Int) := by
  have ei : wrap64 ((i : Int) + 1) = ((i + 1 : Nat) : Int) := by rw [jw64 (by omega) (by omega)]; omega
  have ej : wrap64 ((j : Int) + 1) = ((j + 1 : Nat) : Int) := by rw [jw64 (by omega) (by omega)]; omega
  have c1 : (i : Int) < (a.length : Int) := by omega
  have c2 : (j : Int) < (b.length : Int) := by omega
  have c3 : ¬ (j : Int) = (b.length : Int) := by omega
  have c4 : (0 : Int) ≤ (i : Int) := by omega
  have c5 : (0 : Int) ≤ (j : Int) := by omega
  rw [juratref33_Merge.l0, if_pos c1, juratref33_Merge.j1, if_pos rfl, if_pos c1, if_neg c3, if_pos c4, if_pos c5, if_pos c2, rdT34_get a i h1, rdT34_get b j h2, behind_f, ei, ej]
  by_cases hx : aheadE a[i] b[j]
  · rw [if_pos hx, decide_eq_true hx]
    simp only [Option.bind_some, Bool.not_true, Bool.false_eq_true, if_false]
    rw [if_pos hl]
  · rw [if_neg hx, decide_eq_false hx]
    simp only [Option.bind_some, Bool.not_false, if_true]
    rw [if_pos hl]
theorem m_left {q : Nat} {a b out : List S34} {i j : Nat} (h1 : i < a.length) (h2 : j = b.length) (hl : out.length < 8796093022208) (ha : a.length ≤ 1000) : juratref33_Merge.l0 (q + 1 + 1) a b out (i : Int) (j : Int) = juratref33_Merge.l0 q a b (out ++ [a[i]]) ((i + 1 : Nat) : Int) (j : Int) := by
  have ei : wrap64 ((i : Int) + 1) = ((i + 1 : Nat) : Int) := by rw [jw64 (by omega) (by omega)]; omega
  have c1 : (i : Int) < (a.length : Int) := by omega
  have c3 : (j : Int) = (b.length : Int) := by omega
  have c4 : (0 : Int) ≤ (i : Int) := by omega
  rw [juratref33_Merge.l0, if_pos c1, juratref33_Merge.j1, if_pos rfl, if_pos c1, if_pos c3, if_pos c4, if_pos hl, rdT34_get a i h1, ei]
theorem m_right {q : Nat} {a b out : List S34} {i j : Nat} (h1 : ¬ i < a.length) (h2 : j < b.length) (hl : out.length < 8796093022208) (hb : b.length ≤ 1000) : juratref33_Merge.l0 (q + 1 + 1) a b out (i : Int) (j : Int) = juratref33_Merge.l0 q a b (out ++ [b[j]]) (i : Int) ((j + 1 : Nat) : Int) := by
  have ej : wrap64 ((j : Int) + 1) = ((j + 1 : Nat) : Int) := by rw [jw64 (by omega) (by omega)]; omega
  have c1 : ¬ (i : Int) < (a.length : Int) := by omega
  have c2 : (j : Int) < (b.length : Int) := by omega
  have c5 : (0 : Int) ≤ (j : Int) := by omega
  rw [juratref33_Merge.l0, if_neg c1, decide_eq_true c2, juratref33_Merge.j1, if_pos rfl, if_neg c1, if_pos c5, if_pos c2, if_pos hl, rdT34_get b j h2, ej]
theorem m_end {q : Nat} {a b out : List S34} {i j : Nat} (h1 : i = a.length) (h2 : j = b.length) : juratref33_Merge.l0 (q + 1 + 1) a b out (i : Int) (j : Int) = some out := by
  have c1 : ¬ (i : Int) < (a.length : Int) := by omega
  have c2 : ¬ (j : Int) < (b.length : Int) := by omega
  rw [juratref33_Merge.l0, if_neg c1, decide_eq_false c2, juratref33_Merge.j1, if_neg (by simp)]
theorem snoc_len {α : Type} (l : List α) (x : α) : (l ++ [x]).length = l.length + 1 := by simp
theorem rmerge_go (a b : List S34) (ha : a.length ≤ 1000) (hb : b.length ≤ 1000) : ∀ (d i j : Nat) (out : List S34), i ≤ a.length → j ≤ b.length → (a.length - i) + (b.length - j) = d → out.length + d ≤ 2000 → Ev (fun k => juratref33_Merge.l0 k a b out (i : Int) (j : Int)) (out ++ mergeS (a.drop i) (b.drop j))
  | 0, i, j, out, hi, hj, hd, ho => by
    rw [List.drop_eq_nil_of_le (by omega), List.drop_eq_nil_of_le (by omega), merge_nil_l, List.append_nil]
    exact ev_add 2 (fun k => m_end (by omega) (by omega))
  | d + 1, i, j, out, hi, hj, hd, ho => by
    have hl1 : out.length < 8796093022208 := by omega
    by_cases h1 : i < a.length
    · have ea : a.drop i = a[i] :: a.drop (i + 1) := List.drop_eq_getElem_cons h1
      have s1 := snoc_len out a[i]
      by_cases h2 : j < b.length
      · have eb : b.drop j = b[j] :: b.drop (j + 1) := List.drop_eq_getElem_cons h2
        have s2 := snoc_len out b[j]
        by_cases hx : aheadE a[i] b[j]
        · obtain ⟨k, hk⟩ := rmerge_go a b ha hb d (i + 1) j (out ++ [a[i]]) (by omega) hj (by omega) (by omega)
          refine ⟨k + 2, fun q hq => ?_⟩
          obtain ⟨q, rfl⟩ : ∃ q', q = q' + 1 + 1 := ⟨q - 2, by omega⟩
          have h3 := hk q (by omega)
          rw [ea, eb, merge_left hx, ← eb]
          refine (m_both h1 h2 hl1 ha hb).trans ?_
          rw [if_pos hx]
          refine h3.trans ?_
          rw [List.append_assoc, List.singleton_append]
        · obtain ⟨k, hk⟩ := rmerge_go a b ha hb d i (j + 1) (out ++ [b[j]]) hi (by omega) (by omega) (by omega)
          refine ⟨k + 2, fun q hq => ?_⟩
          obtain ⟨q, rfl⟩ : ∃ q', q = q' + 1 + 1 := ⟨q - 2, by omega⟩
          have h3 := hk q (by omega)
          rw [ea, eb, merge_right hx, ← ea]
          refine (m_both h1 h2 hl1 ha hb).trans ?_
          rw [if_neg hx]
          refine h3.trans ?_
          rw [List.append_assoc, List.singleton_append]
      · have eb : b.drop j = [] := List.drop_eq_nil_of_le (by omega)
        obtain ⟨k, hk⟩ := rmerge_go a b ha hb d (i + 1) j (out ++ [a[i]]) (by omega) hj (by omega) (by omega)
        refine ⟨k + 2, fun q hq => ?_⟩
        obtain ⟨q, rfl⟩ : ∃ q', q = q' + 1 + 1 := ⟨q - 2, by omega⟩
        have h3 := hk q (by omega)
        rw [eb, merge_nil_r] at h3
        rw [ea, eb, merge_nil_r]
        refine (m_left h1 (by omega) hl1 ha).trans ?_
        refine h3.trans ?_
        rw [List.append_assoc, List.singleton_append]
    · have ea : a.drop i = [] := List.drop_eq_nil_of_le (by omega)
      have h2 : j < b.length := by omega
      have eb : b.drop j = b[j] :: b.drop (j + 1) := List.drop_eq_getElem_cons h2
      have s2 := snoc_len out b[j]
      obtain ⟨k, hk⟩ := rmerge_go a b ha hb d i (j + 1) (out ++ [b[j]]) hi (by omega) (by omega) (by omega)
      refine ⟨k + 2, fun q hq => ?_⟩
      obtain ⟨q, rfl⟩ : ∃ q', q = q' + 1 + 1 := ⟨q - 2, by omega⟩
      have h3 := hk q (by omega)
      rw [ea, merge_nil_l] at h3
      rw [ea, eb, merge_nil_l]
      refine (m_right h1 h2 hl1 hb).trans ?_
      refine h3.trans ?_
      rw [List.append_assoc, List.singleton_append]
theorem rmerge_ev (a b : List S34) (ha : a.length ≤ 1000) (hb : b.length ≤ 1000) : Ev (fun k => juratref33_Merge.f k a b) (mergeS a b) := by
  obtain ⟨k, hk⟩ := rmerge_go a b ha hb (a.length + b.length) 0 0 [] (Nat.zero_le _) (Nat.zero_le _) (by omega) (by simp; omega)
  refine ⟨k, fun q hq => ?_⟩
  have h := hk q hq
  show juratref33_Merge.l0 q a b [] 0 0 = some (mergeS a b)
  simpa using h
end Go.Proofs.Ytphmeljhfbahoaa.PQ
