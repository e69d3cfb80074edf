/- Plain lemmas of this session (HRec): numbers, bytes and lists. -/
import Derived.Test.YtohaoleeaipfbaaHPuts
import Derived.Lib.Strings
import Derived.Test.YtohaoleeaipfbaaPFx2
import Derived.Test.YtohaoleeaipfbaaPFx3
import Derived.Test.YtohaoleeaipfbaaPFx1
namespace Go.Proofs.Ytohaoleeaipfbaa.Pure
open Go.RowKit Go.Proofs.YtohaoleeaipfbaaW.PrintWords Go.Proofs.YtohaoleeaipfbaaW.PrintLast Go.Proofs.YtohaoleeaipfbaaW.PrintMore Go.Proofs.Ytohaoleeaipfbaa.PF
/-! ### records: what may be written, and its bytes -/
def isR (n : Int) : Bool := decide (0 ≤ n ∧ n ≤ 4611686018427387903)
def rises : Int → List Int → Bool
  | _, [] => true
  | ah, x :: r => decide (ah < x ∧ x < 65535) && rises x r
def chk (a b c : Int) (l : List Int) : Bool :=
  if a = 4 then (decide (b = 0 ∧ c = 0) && rises (-1) l) else (decide (l = []) && (isR b && (isR c && decide (1 ≤ a ∧ a ≤ 6 ∧ (a < 4 → 0 < b ∧ 0 < c)))))
def gaps : Int → List Int → List Int
  | _, [] => []
  | ah, x :: r => vp (x - ah) ++ gaps x r
def rp (a b c : Int) (l : List Int) : List Int := if a = 4 then 4 :: (vp (l.length : Int) ++ gaps 0 l) else a :: (vp b ++ vp c)
def rput (a b c : Int) (l : List Int) : ByteArray × Int := if chk a b c l = true then (strOfNums (rp a b c l), 0) else ((⟨#[]⟩ : ByteArray), 2)
theorem rd_get (l : List Int) (i : Nat) (h : i < l.length) : rd l (i : Int) = l[i] := by simp [rd, List.getD_eq_getElem?_getD, List.getElem?_eq_getElem h]
theorem is_is (n : Int) : reckon_Is.f n = some (isR n) := by
  unfold reckon_Is.f isR
  by_cases h : n ≥ 0
  · rw [if_pos h]; congr 1; simp; omega
  · rw [if_neg h]; congr 1; simp; omega
theorem ris_is (n : Int) : juratref03_Is.f n = some (isR n) := by
  unfold juratref03_Is.f isR
  by_cases h : n ≥ 0
  · rw [if_pos h]; congr 1; simp; omega
  · rw [if_neg h]; congr 1; simp; omega
theorem runs_is (n : Int) : record_runs.f n = some (decide (1 ≤ n ∧ n ≤ 3)) := by
  unfold record_runs.f
  by_cases h : n ≥ 1
  · rw [if_pos h]; congr 1; simp; omega
  · rw [if_neg h]; congr 1; simp; omega
theorem ids_go (l : List Int) (hl : l.length ≤ 1000000) : ∀ (d i : Nat) (ah : Int), i + d = l.length → Ev (fun k => record_ids.l0 k ah l (l.length : Int) (i : Int)) (rises ah (l.drop i)) := by
  intro d
  induction d with
  | zero =>
    intro i ah hi
    rw [List.drop_eq_nil_of_le (by omega)]
    exact ev_add 1 (fun k => by rw [record_ids.l0, if_neg (by omega)]; rfl)
  | succ d ih =>
    intro i ah hi
    have hlt : i < l.length := by omega
    rw [List.drop_eq_getElem_cons hlt]
    simp only [rises]
    refine Ev.step (fun k => by rw [record_ids.l0, if_pos (by omega), if_pos (by omega), if_pos (by omega), rd_get l i hlt]) ?_
    by_cases h1 : l[i] ≤ ah
    · rw [decide_eq_false (show ¬ (ah < l[i] ∧ l[i] < 65535) by omega), Bool.false_and]
      exact ev_is (fun k => by rw [if_pos h1])
    · by_cases h2 : l[i] ≥ 65535
      · rw [decide_eq_false (show ¬ (ah < l[i] ∧ l[i] < 65535) by omega), Bool.false_and]
        exact ev_is (fun k => by rw [if_neg h1, if_pos h2])
      · rw [decide_eq_true (show (ah < l[i] ∧ l[i] < 65535) by omega), Bool.true_and]
        refine Ev.congr (fun k => by rw [if_neg h1, if_neg h2, jw64 (n := (i : Int) + 1) (by omega) (by omega)]) ?_
        exact ih (i + 1) l[i] (by omega)
theorem ids_ev (l : List Int) (hl : l.length ≤ 1000000) : Ev (fun k => record_ids.f k l) (rises (-1) l) := ids_go l hl l.length 0 (-1) (by omega)
theorem chk_ev (a b c : Int) (l : List Int) (hl : l.length ≤ 1000000) : Ev (fun k => record_Check.f k a b c l) (chk a b c l) := by
  unfold record_Check.f chk
  by_cases h4 : a = 4
  · simp only [if_pos h4]
    by_cases hb : b = 0
    · simp only [if_pos hb]
      by_cases hc : c = 0
      · rw [decide_eq_true (show b = 0 ∧ c = 0 from ⟨hb, hc⟩), Bool.true_and]
        refine Ev.congr (fun k => by rw [if_pos hc]) ?_
        exact Ev.bind (ids_ev l hl) (Ev.now _)
      · rw [decide_eq_false (fun h => hc h.2), Bool.false_and]
        exact ev_is (fun k => by rw [if_neg hc])
    · simp only [if_neg hb]
      rw [decide_eq_false (fun h => hb h.1), Bool.false_and]
      exact Ev.now _
  · simp only [if_neg h4]
    have hj : ∀ x : Bool, x = true → Ev (fun k => record_Check.j0 k x a b c l) false := by
      rintro x rfl
      exact ev_add 1 (fun k => by rw [record_Check.j0, if_pos rfl])
    by_cases hn : (l.length : Int) > 0
    · have : l ≠ [] := by intro h; rw [h] at hn; simp at hn
      rw [decide_eq_false this, Bool.false_and]
      exact Ev.congr (fun k => by rw [if_pos hn]) (hj true rfl)
    · have : l = [] := List.eq_nil_of_length_eq_zero (by omega)
      rw [decide_eq_true this, Bool.true_and]
      refine Ev.congr (fun k => by rw [if_neg hn, is_is, Option.bind_some]) ?_
      cases isR b with
      | false => exact Ev.congr (fun k => by rw [if_neg (by decide)]) (hj true rfl)
      | true =>
        refine Ev.congr (fun k => by rw [if_pos rfl, is_is, Option.bind_some]) ?_
        cases isR c with
        | false => exact hj _ rfl
        | true =>
          rw [Bool.true_and, Bool.true_and]
          refine Ev.step (fun k => by rw [record_Check.j0, if_neg (by decide), runs_is, Option.bind_some]) ?_
          by_cases hr : 1 ≤ a ∧ a ≤ 3
          · refine Ev.congr (fun k => by rw [if_pos (decide_eq_true hr)]) ?_
            by_cases hb : b > 0
            · by_cases hc : c > 0
              · rw [decide_eq_true (show 1 ≤ a ∧ a ≤ 6 ∧ (a < 4 → 0 < b ∧ 0 < c) from ⟨hr.1, by omega, fun _ => ⟨hb, hc⟩⟩)]
                exact ev_is (fun k => by rw [if_pos hb, decide_eq_true hc])
              · rw [decide_eq_false (show ¬ (1 ≤ a ∧ a ≤ 6 ∧ (a < 4 → 0 < b ∧ 0 < c)) from fun h => hc (h.2.2 (by omega)).2)]
                exact ev_is (fun k => by rw [if_pos hb, decide_eq_false hc])
            · rw [decide_eq_false (show ¬ (1 ≤ a ∧ a ≤ 6 ∧ (a < 4 → 0 < b ∧ 0 < c)) from fun h => hb (h.2.2 (by omega)).1)]
              exact ev_is (fun k => by rw [if_neg hb])
          · refine Ev.congr (fun k => by rw [if_neg (by simpa using hr)]) ?_
            by_cases h5 : a = 5
            · rw [decide_eq_true (show 1 ≤ a ∧ a ≤ 6 ∧ (a < 4 → 0 < b ∧ 0 < c) from ⟨by omega, by omega, fun h => by omega⟩)]
              exact ev_is (fun k => by rw [if_pos h5])
            · by_cases h6 : a = 6
              · rw [decide_eq_true (show 1 ≤ a ∧ a ≤ 6 ∧ (a < 4 → 0 < b ∧ 0 < c) from ⟨by omega, by omega, fun h => by omega⟩)]
                exact ev_is (fun k => by rw [if_neg h5, h6]; rfl)
              · rw [decide_eq_false (fun h => by omega)]
                exact ev_is (fun k => by rw [if_neg h5]; congr 1; exact beq_eq_false_iff_ne.mpr h6)
theorem rchk_go (a b c : Int) (l : List Int) (hl : l.length ≤ 1000000) : ∀ (d i : Nat) (ah : Int), i + d = l.length → (i = 0 ∧ ah = -1 ∨ ∃ h : i - 1 < l.length, 0 < i ∧ ah = l[i - 1] ∧ 0 ≤ ah) → Ev (fun k => juratref28_Check.l0 k (i : Int) a b c l) (decide (b = 0 ∧ c = 0) && rises ah (l.drop i)) := by
  intro d
  induction d with
  | zero =>
    intro i ah hi _
    rw [List.drop_eq_nil_of_le (by omega)]
    refine Ev.step (fun k => by rw [juratref28_Check.l0, if_neg (by omega)]) ?_
    simp only [rises, Bool.and_true]
    by_cases hb : b = 0
    · by_cases hc : c = 0
      · rw [decide_eq_true ⟨hb, hc⟩]
        exact ev_is (fun k => by rw [if_pos hb, hc]; rfl)
      · rw [decide_eq_false (fun h => hc h.2)]
        exact ev_is (fun k => by rw [if_pos hb]; congr 1; exact beq_eq_false_iff_ne.mpr hc)
    · rw [decide_eq_false (fun h => hb h.1)]
      exact ev_is (fun k => by rw [if_neg hb])
  | succ d ih =>
    intro i ah hi hah
    have hlt : i < l.length := by omega
    rw [List.drop_eq_getElem_cons hlt]
    simp only [rises]
    refine Ev.step (fun k => by rw [juratref28_Check.l0, if_pos (by omega), if_pos (by omega), rd_get l i hlt]) ?_
    by_cases h0 : l[i] < 0
    · rw [decide_eq_false (show ¬ (ah < l[i] ∧ l[i] < 65535) by rcases hah with h | ⟨_, _, _, h⟩ <;> omega), Bool.false_and, Bool.and_false]
      exact ev_is (fun k => by rw [if_pos h0])
    by_cases h1 : l[i] > 65534
    · rw [decide_eq_false (show ¬ (ah < l[i] ∧ l[i] < 65535) by omega), Bool.false_and, Bool.and_false]
      exact ev_is (fun k => by rw [if_neg h0, if_pos h1])
    refine Ev.congr (fun k => by rw [if_neg h0, if_neg h1]) ?_
    have hnext := ih (i + 1) l[i] (by omega) (.inr ⟨by omega, by omega, by simp, by omega⟩)
    have e1 : wrap64 ((i : Int) + 1) = ((i + 1 : Nat) : Int) := by rw [jw64 (by omega) (by omega)]; rfl
    by_cases hi0 : (i : Int) > 0
    · rcases hah with ⟨h, _⟩ | ⟨hx, _, he, _⟩
      · omega
      · have e2 : wrap64 ((i : Int) - 1) = ((i - 1 : Nat) : Int) := by rw [jw64 (by omega) (by omega)]; omega
        refine Ev.congr (fun k => by rw [if_pos hi0, e2, if_pos (by omega), if_pos (by omega), rd_get l (i - 1) hx, ← he]) ?_
        by_cases h2 : l[i] ≤ ah
        · rw [decide_eq_false (show ¬ (ah < l[i] ∧ l[i] < 65535) by omega), Bool.false_and, Bool.and_false]
          exact ev_is (fun k => by rw [if_pos h2])
        · rw [decide_eq_true (show (ah < l[i] ∧ l[i] < 65535) by omega), Bool.true_and]
          exact Ev.congr (fun k => by rw [if_neg h2, e1]) hnext
    · rcases hah with ⟨_, h⟩ | ⟨_, _, _, _⟩
      · rw [decide_eq_true (show (ah < l[i] ∧ l[i] < 65535) by omega), Bool.true_and]
        exact Ev.congr (fun k => by rw [if_neg hi0, e1]) hnext
      · omega
theorem rchk_ev (a b c : Int) (l : List Int) (hl : l.length ≤ 1000000) : Ev (fun k => juratref28_Check.f k a b c l) (chk a b c l) := by
  unfold juratref28_Check.f chk
  by_cases h4 : a = 4
  · simp only [if_pos h4]
    exact rchk_go a b c l hl l.length 0 (-1) (by omega) (.inl ⟨rfl, rfl⟩)
  · simp only [if_neg h4]
    by_cases h1 : a < 1
    · rw [decide_eq_false (fun h => by omega : ¬ (1 ≤ a ∧ a ≤ 6 ∧ (a < 4 → 0 < b ∧ 0 < c))), Bool.and_false, Bool.and_false, Bool.and_false]
      exact ev_is (fun k => by rw [if_pos h1])
    by_cases h6 : a > 6
    · rw [decide_eq_false (fun h => by omega : ¬ (1 ≤ a ∧ a ≤ 6 ∧ (a < 4 → 0 < b ∧ 0 < c))), Bool.and_false, Bool.and_false, Bool.and_false]
      exact ev_is (fun k => by rw [if_neg h1, if_pos h6])
    refine Ev.congr (fun k => by rw [if_neg h1, if_neg h6]) ?_
    by_cases hn : (l.length : Int) > 0
    · have : l ≠ [] := by intro h; rw [h] at hn; simp at hn
      rw [decide_eq_false this, Bool.false_and]
      exact ev_is (fun k => by rw [if_pos hn])
    · have : l = [] := List.eq_nil_of_length_eq_zero (by omega)
      rw [decide_eq_true this, Bool.true_and]
      refine Ev.congr (fun k => by rw [if_neg hn, ris_is, Option.bind_some]) ?_
      cases isR b with
      | false => exact ev_is (fun k => by rw [if_neg (by decide)]; rfl)
      | true =>
        refine Ev.congr (fun k => by rw [if_pos rfl, ris_is, Option.bind_some]) ?_
        cases isR c with
        | false => exact ev_is (fun k => by rw [if_neg (by decide)]; rfl)
        | true =>
          rw [Bool.true_and, Bool.true_and]
          refine Ev.congr (fun k => by rw [if_pos rfl]) ?_
          by_cases h3 : a > 3
          · rw [decide_eq_true (show 1 ≤ a ∧ a ≤ 6 ∧ (a < 4 → 0 < b ∧ 0 < c) from ⟨by omega, by omega, fun h => by omega⟩)]
            exact ev_is (fun k => by rw [if_pos h3])
          · refine Ev.congr (fun k => by rw [if_neg h3]) ?_
            by_cases hb : b > 0
            · by_cases hc : c > 0
              · rw [decide_eq_true (show 1 ≤ a ∧ a ≤ 6 ∧ (a < 4 → 0 < b ∧ 0 < c) from ⟨by omega, by omega, fun _ => ⟨hb, hc⟩⟩)]
                exact ev_is (fun k => by rw [if_pos hb, decide_eq_true hc])
              · rw [decide_eq_false (show ¬ (1 ≤ a ∧ a ≤ 6 ∧ (a < 4 → 0 < b ∧ 0 < c)) from fun h => hc (h.2.2 (by omega)).2)]
                exact ev_is (fun k => by rw [if_pos hb, decide_eq_false hc])
            · rw [decide_eq_false (show ¬ (1 ≤ a ∧ a ≤ 6 ∧ (a < 4 → 0 < b ∧ 0 < c)) from fun h => hb (h.2.2 (by omega)).1)]
              exact ev_is (fun k => by rw [if_neg hb])
theorem isB_gaps : ∀ (l : List Int) (ah : Int), IsB (gaps ah l)
  | [], _ => fun x hx => by cases hx
  | x :: r, ah => isB_append (isB_vp _) (isB_gaps r x)
theorem rises_bound : ∀ (l : List Int) (ah : Int), -1 ≤ ah → rises ah l = true → ∀ x ∈ l, 0 ≤ x ∧ x < 65535
  | [], _, _, _ => fun x hx => by cases hx
  | y :: r, ah, h0, h => by
    simp only [rises, Bool.and_eq_true, decide_eq_true_eq] at h
    intro x hx
    rcases List.mem_cons.1 hx with e | e
    · rw [e]; omega
    · exact rises_bound r y (by omega) h.2 x e
theorem put_rec_go : ∀ (l : List Int) (ah : Int) (acc : List Int), (∀ x ∈ l, 0 ≤ x ∧ x < 65535) → 0 ≤ ah → ah < 65535 → acc.length + 9 * l.length ≤ 100000000 → Ev (fun k => record_Put.go k l ah acc) (strOfNums (acc ++ gaps ah l), 0)
  | [], ah, acc, _, _, _, _ => ev_is (fun k => by simp only [record_Put.go, gaps, List.append_nil])
  | x :: r, ah, acc, hx, h0, h1, hl => by
    have hx0 := hx x (List.mem_cons_self ..)
    have h9 := vp_nine (n := x - ah) (by omega)
    rw [List.length_cons] at hl
    simp only [record_Put.go, gaps]
    rw [jw64 (n := x - ah) (by omega) (by omega)]
    refine Ev.bind (put_ev (n := x - ah) (by omega)) ?_
    rw [strOfNums_size, bytesOf_strOfNums (isB_vp _), ← List.append_assoc]
    refine Ev.congr (fun k => by rw [if_pos (by omega)]) ?_
    exact put_rec_go r x _ (fun y hy => hx y (List.mem_cons_of_mem _ hy)) hx0.1 hx0.2 (by rw [List.length_append]; omega)
theorem vps_two (b c : Int) : vps [b, c] = vp b ++ vp c := by
  unfold vps
  simp only [List.flatMap_cons, List.flatMap_nil, List.append_nil]
theorem rec_put_ev (a b c : Int) (l : List Int) (hl : l.length ≤ 100000) : Ev (fun k => record_Put.f k a b c l) (rput a b c l) := by
  unfold record_Put.f rput
  refine Ev.bind (chk_ev a b c l (by omega)) ?_
  by_cases hc : chk a b c l = true
  · simp only [if_pos hc]
    unfold rp
    unfold chk at hc
    by_cases h4 : a = 4
    · simp only [if_pos h4] at hc ⊢
      simp only [Bool.and_eq_true] at hc
      have hbd := rises_bound l (-1) (by omega) hc.2
      have h9 := vp_nine (n := (l.length : Int)) (by omega)
      refine Ev.bind (put_ev (n := (l.length : Int)) (by omega)) ?_
      rw [strOfNums_size, bytesOf_strOfNums (isB_vp _), h4]
      refine Ev.congr (fun k => by rw [if_pos (by omega)]) ?_
      exact put_rec_go l 0 _ hbd (by omega) (by omega) (by simp; omega)
    · simp only [if_neg h4] at hc ⊢
      simp only [isR, Bool.and_eq_true, decide_eq_true_eq] at hc
      have hb9 := vp_nine (n := b) (by omega)
      have hc9 := vp_nine (n := c) (by omega)
      have hbc : ∀ x ∈ [b, c], x < 9223372036854775808 := by
        intro x hx
        rcases List.mem_cons.1 hx with e | e
        · omega
        · rw [List.mem_singleton] at e; omega
      refine Ev.bind (all_ev2 [b, c] (by simp) hbc) ?_
      rw [vps_two, strOfNums_size, bytesOf_strOfNums (isB_append (isB_vp _) (isB_vp _)), show a % 256 = a by omega]
      exact ev_is (fun k => by rw [if_pos (by rw [List.length_append]; omega)])
  · simp only [if_neg hc]
    exact Ev.now _
theorem rput_rec_go (a b c : Int) (l : List Int) (hl : l.length ≤ 100000) (hx : ∀ x ∈ l, 0 ≤ x ∧ x < 65535) : ∀ (d i : Nat) (ah : Int) (acc : List Int), i + d = l.length → IsB acc → acc.length ≤ 20 + 9 * i → (i = 0 ∧ ah = 0 ∨ ∃ h : i - 1 < l.length, 0 < i ∧ ah = l[i - 1]) →
    Ev (fun k => juratref28_Put.l0 k (strOfNums acc) (i : Int) a b c l) (strOfNums (acc ++ gaps ah (l.drop i)), 0) := by
  intro d
  induction d with
  | zero =>
    intro i ah acc hi _ _ _
    rw [List.drop_eq_nil_of_le (by omega)]
    exact ev_add 1 (fun k => by rw [juratref28_Put.l0, if_neg (by omega)]; simp only [gaps, List.append_nil])
  | succ d ih =>
    intro i ah acc hi hB hal hah
    have hlt : i < l.length := by omega
    have hxi := hx l[i] (List.getElem_mem hlt)
    rw [List.drop_eq_getElem_cons hlt]
    simp only [gaps]
    rw [← List.append_assoc]
    have e1 : wrap64 ((i : Int) + 1) = ((i + 1 : Nat) : Int) := by rw [jw64 (by omega) (by omega)]; rfl
    refine Ev.step (fun k => by rw [juratref28_Put.l0, if_pos (by omega)]) ?_
    rcases hah with ⟨h0, ha⟩ | ⟨hy, hp, ha⟩
    · subst h0
      have h9 := vp_nine (n := l[0]) (by omega)
      have e0 : rd l (0 : Int) = l[0] := rd_get l 0 hlt
      refine Ev.congr (fun k => by rw [if_pos (show ((0 : Nat) : Int) = 0 from rfl), if_pos (by omega), e0]) ?_
      refine Ev.bind (rput_ev (n := l[0]) (by omega)) ?_
      rw [← strOfNums_append hB (isB_vp _), strOfNums_size, strOfNums_size]
      refine Ev.congr (fun k => by rw [if_pos (by omega), e1]) ?_
      rw [ha, Int.sub_zero]
      exact ih 1 l[0] _ (by omega) (isB_append hB (isB_vp _)) (by rw [List.length_append]; omega) (.inr ⟨by omega, by omega, rfl⟩)
    · have hxp := hx l[i - 1] (List.getElem_mem hy)
      have e2 : wrap64 ((i : Int) - 1) = ((i - 1 : Nat) : Int) := by rw [jw64 (by omega) (by omega)]; omega
      have h9 := vp_nine (n := l[i] - ah) (by omega)
      refine Ev.congr (fun k => by rw [if_neg (by omega), if_pos (by omega), e2, if_pos (by omega), if_pos (by omega), rd_get l i hlt, rd_get l (i - 1) hy, ← ha, jw64 (n := l[i] - ah) (by omega) (by omega)]) ?_
      refine Ev.bind (rput_ev (n := l[i] - ah) (by omega)) ?_
      rw [← strOfNums_append hB (isB_vp _), strOfNums_size, strOfNums_size]
      refine Ev.congr (fun k => by rw [if_pos (by omega), e1]) ?_
      exact ih (i + 1) l[i] _ (by omega) (isB_append hB (isB_vp _)) (by rw [List.length_append]; omega) (.inr ⟨by omega, by omega, by simp⟩)
theorem rrec_put_ev (a b c : Int) (l : List Int) (hl : l.length ≤ 100000) : Ev (fun k => juratref28_Put.f k a b c l) (rput a b c l) := by
  unfold juratref28_Put.f rput
  refine Ev.bind (rchk_ev a b c l (by omega)) ?_
  by_cases hc : chk a b c l = true
  · simp only [if_pos hc]
    unfold rp
    unfold chk at hc
    by_cases h4 : a = 4
    · simp only [if_pos h4] at hc ⊢
      simp only [Bool.and_eq_true] at hc
      have hbd := rises_bound l (-1) (by omega) hc.2
      have h9 := vp_nine (n := (l.length : Int)) (by omega)
      have hB4 : IsB [(4 : Int)] := by intro x hx; rw [List.mem_singleton] at hx; omega
      refine Ev.congr (fun k => by rw [Option.bind_some, show a % 256 = 4 by omega]) ?_
      refine Ev.bind (rput_ev (n := (l.length : Int)) (by omega)) ?_
      rw [← strOfNums_append hB4 (isB_vp _), strOfNums_size, strOfNums_size]
      refine Ev.congr (fun k => by rw [if_pos (by simp; omega)]) ?_
      exact rput_rec_go a b c l hl hbd l.length 0 0 _ (by omega) (isB_append hB4 (isB_vp _)) (by simp; omega) (.inl ⟨rfl, rfl⟩)
    · simp only [if_neg h4] at hc ⊢
      simp only [isR, Bool.and_eq_true, decide_eq_true_eq] at hc
      have hb9 := vp_nine (n := b) (by omega)
      have hc9 := vp_nine (n := c) (by omega)
      have hBa : IsB [a] := by intro x hx; rw [List.mem_singleton] at hx; omega
      refine Ev.congr (fun k => by rw [Option.bind_some, show a % 256 = a by omega]) ?_
      refine Ev.bind (rput_ev (n := b) (by omega)) ?_
      rw [← strOfNums_append hBa (isB_vp _), strOfNums_size, strOfNums_size]
      refine Ev.congr (fun k => by rw [if_pos (by simp; omega)]) ?_
      refine Ev.bind (rput_ev (n := c) (by omega)) ?_
      rw [← strOfNums_append (isB_append hBa (isB_vp _)) (isB_vp _), strOfNums_size, strOfNums_size]
      exact ev_is (fun k => by rw [if_pos (by simp; omega)]; simp)
  · simp only [if_neg hc]
    exact Ev.now _
theorem awake28_ev : Ev (fun k => juratlaw28_awake.f k) true := by
  unfold juratlaw28_awake.f
  refine Ev.bind (rec_put_ev 1 300 2 [] (by decide)) (Ev.bind (rec_put_ev 4 0 0 [3, 7] (by decide)) ?_)
  have v300 : vp 300 = [172, 2] := by rw [show (300 : Int) = ((300 : Nat) : Int) from rfl, vp_nat, vput_big (by decide), vput_small (by decide)]; rfl
  have v2 : vp 2 = [2] := by rw [show (2 : Int) = ((2 : Nat) : Int) from rfl, vp_nat, vput_small (by decide)]
  have v3 : vp 3 = [3] := by rw [show (3 : Int) = ((3 : Nat) : Int) from rfl, vp_nat, vput_small (by decide)]
  have v4 : vp 4 = [4] := by rw [show (4 : Int) = ((4 : Nat) : Int) from rfl, vp_nat, vput_small (by decide)]
  have e1 : rput 1 300 2 [] = ((⟨#[1, 172, 2, 2]⟩ : ByteArray), 0) := by
    unfold rput
    rw [if_pos (by decide)]
    unfold rp
    rw [if_neg (by decide), v300, v2]; rfl
  have e2 : rput 4 0 0 [3, 7] = ((⟨#[4, 2, 3, 4]⟩ : ByteArray), 0) := by
    unfold rput
    rw [if_pos (by decide)]
    unfold rp
    rw [if_pos rfl]
    simp only [gaps]
    rw [show (3 : Int) - 0 = 3 from rfl, show (7 : Int) - 3 = 4 from rfl, v3, v4, show (([3, 7] : List Int).length : Int) = 2 from rfl, v2]; rfl
  rw [e1, e2]
  refine ev_is (fun k => ?_)
  rw [if_pos (by rw [Lib.toList_data]), if_pos rfl, if_pos (by rw [Lib.toList_data])]
  rfl
end Go.Proofs.Ytohaoleeaipfbaa.Pure
