/- What is proved: what a pen tells of any records, one by one, is as the document says; what is refused changes nothing (of at most 20 records, of at most 30 Ids each; of at most 300 bytes; of others only the chapter's example is asked). Conditions: none beyond the row's own. -/
import Derived.ChangeArms
import Derived.DataReads
import Derived.Test.YtejcopppchaneaaRows
import Derived.ProofKit
import Derived.OpenShut
import Derived.ShutString
import Derived.ChangeOld
import Derived.SizedLaws
import Derived.Carry
import Derived.Test.YtejcopppchaneaaSPA3
section
namespace Go.Proofs.Ytejcopppchaneaa.Pure
open Go.RowKit Go.Proofs.YtejcopppchaneaaW.PrintWords Go.Proofs.YtejcopppchaneaaW.PrintLast Go.Proofs.YtejcopppchaneaaW.PrintMore Go.Proofs.Ytejcopppchaneaa.PF
theorem rput_go : ∀ (n : Nat), n < 9223372036854775808 → Ev (fun k => juratref02_Put.f k (n : Int)) (strOfNums (vput n)) := by
  intro n
  induction n using Nat.strongRecOn with
  | _ n ih =>
    intro hn
    by_cases h : n < 128
    · refine ev_add 1 (fun k => ?_)
      rw [juratref02_Put.f, if_neg (by omega), if_pos (by omega), vput_small h, show (n : Int) % 256 = (n : Int) by omega]
    · have h9 := vput_nine (n := n / 128) (by omega)
      have hB : IsB [((n % 128 + 128 : Nat) : Int)] := by intro x hx; rw [List.mem_singleton] at hx; omega
      refine Ev.step (fun k => by rw [juratref02_Put.f, if_neg (by omega), if_neg (by omega), Option.bind_some, Int.tmod_eq_emod_of_nonneg (by omega), Int.tdiv_eq_ediv_of_nonneg (by omega), jw64 (n := (n : Int) / 128) (by omega) (by omega), jw64 (n := (n : Int) % 128 + 128) (by omega) (by omega), show (n : Int) / 128 = ((n / 128 : Nat) : Int) from rfl, show ((n : Int) % 128 + 128) % 256 = ((n % 128 + 128 : Nat) : Int) by omega]) ?_
      refine Ev.bind (ih (n / 128) (by omega) (by omega)) ?_
      have hsz : (strOfNums [((n % 128 + 128 : Nat) : Int)]).size + (strOfNums (vput (n / 128))).size ≤ 9223372036854775807 := by
        rw [strOfNums_size, strOfNums_size]; simp; omega
      exact ev_is (fun k => by rw [if_pos hsz, ← strOfNums_append hB (isB_vput _), List.singleton_append, ← vput_big h])
theorem rput_ev {n : Int} (h : n < 9223372036854775808) : Ev (fun k => juratref02_Put.f k n) (strOfNums (vp n)) := by
  unfold vp
  by_cases h0 : n < 0
  · rw [if_pos h0]
    exact ev_add 1 (fun k => by rw [juratref02_Put.f, if_pos h0]; rfl)
  · rw [if_neg h0]
    obtain ⟨m, rfl⟩ := Int.eq_ofNat_of_zero_le (by omega : 0 ≤ n)
    rw [Int.toNat_natCast]
    exact rput_go m (by omega)
def rises : Int → List Int → Bool
  | _, [] => true
  | ah, x :: r => decide (ah < x ∧ x < 65535) && rises x r
def chk (a b c : Int) (l : List Int) : Bool :=
  if a = 4 then (decide (b = 0 ∧ c = 0) && rises (-1) l) else (decide (l = []) && (isR b && (isR c && decide (1 ≤ a ∧ a ≤ 6 ∧ (a < 4 → 0 < b ∧ 0 < c)))))
def gaps : Int → List Int → List Int
  | _, [] => []
  | ah, x :: r => vp (x - ah) ++ gaps x r
def rp (a b c : Int) (l : List Int) : List Int := if a = 4 then 4 :: (vp (l.length : Int) ++ gaps 0 l) else a :: (vp b ++ vp c)
def rput (a b c : Int) (l : List Int) : ByteArray × Int := if chk a b c l = true then (strOfNums (rp a b c l), 0) else ((⟨#[]⟩ : ByteArray), 2)
theorem rchk_go (a b c : Int) (l : List Int) (hl : l.length ≤ 1000000) : ∀ (d i : Nat) (ah : Int), i + d = l.length → (i = 0 ∧ ah = -1 ∨ ∃ h : i - 1 < l.length, 0 < i ∧ ah = l[i - 1] ∧ 0 ≤ ah) → Ev (fun k => juratref28_Check.l0 k (i : Int) a b c l) (decide (b = 0 ∧ c = 0) && rises ah (l.drop i)) := by
  intro d
  induction d with
  | zero =>
    intro i ah hi _
    rw [List.drop_eq_nil_of_le (by omega)]
    refine Ev.step (fun k => by rw [juratref28_Check.l0, if_neg (by omega)]) ?_
    simp only [rises, Bool.and_true]
    by_cases hb : b = 0
    · by_cases hc : c = 0
      · rw [decide_eq_true ⟨hb, hc⟩]
        exact ev_is (fun k => by rw [if_pos hb, hc]; rfl)
      · rw [decide_eq_false (fun h => hc h.2)]
        exact ev_is (fun k => by rw [if_pos hb]; congr 1; exact beq_eq_false_iff_ne.mpr hc)
    · rw [decide_eq_false (fun h => hb h.1)]
      exact ev_is (fun k => by rw [if_neg hb])
  | succ d ih =>
    intro i ah hi hah
    have hlt : i < l.length := by omega
    rw [List.drop_eq_getElem_cons hlt]
    simp only [rises]
    refine Ev.step (fun k => by rw [juratref28_Check.l0, if_pos (by omega), if_pos (by omega), rd_get l i hlt]) ?_
    by_cases h0 : l[i] < 0
    · rw [decide_eq_false (show ¬ (ah < l[i] ∧ l[i] < 65535) by rcases hah with h | ⟨_, _, _, h⟩ <;> omega), Bool.false_and, Bool.and_false]
      exact ev_is (fun k => by rw [if_pos h0])
    by_cases h1 : l[i] > 65534
    · rw [decide_eq_false (show ¬ (ah < l[i] ∧ l[i] < 65535) by omega), Bool.false_and, Bool.and_false]
      exact ev_is (fun k => by rw [if_neg h0, if_pos h1])
    refine Ev.congr (fun k => by rw [if_neg h0, if_neg h1]) ?_
    have hnext := ih (i + 1) l[i] (by omega) (.inr ⟨by omega, by omega, by simp, by omega⟩)
    have e1 : wrap64 ((i : Int) + 1) = ((i + 1 : Nat) : Int) := by rw [jw64 (by omega) (by omega)]; rfl
    by_cases hi0 : (i : Int) > 0
    · rcases hah with ⟨h, _⟩ | ⟨hx, _, he, _⟩
      · omega
      · have e2 : wrap64 ((i : Int) - 1) = ((i - 1 : Nat) : Int) := by rw [jw64 (by omega) (by omega)]; omega
        refine Ev.congr (fun k => by rw [if_pos hi0, e2, if_pos (by omega), if_pos (by omega), rd_get l (i - 1) hx, ← he]) ?_
        by_cases h2 : l[i] ≤ ah
        · rw [decide_eq_false (show ¬ (ah < l[i] ∧ l[i] < 65535) by omega), Bool.false_and, Bool.and_false]
          exact ev_is (fun k => by rw [if_pos h2])
        · rw [decide_eq_true (show (ah < l[i] ∧ l[i] < 65535) by omega), Bool.true_and]
          exact Ev.congr (fun k => by rw [if_neg h2, e1]) hnext
    · rcases hah with ⟨_, h⟩ | ⟨_, _, _, _⟩
      · rw [decide_eq_true (show (ah < l[i] ∧ l[i] < 65535) by omega), Bool.true_and]
        exact Ev.congr (fun k => by rw [if_neg hi0, e1]) hnext
      · omega
theorem rchk_ev (a b c : Int) (l : List Int) (hl : l.length ≤ 1000000) : Ev (fun k => juratref28_Check.f k a b c l) (chk a b c l) := by
  unfold juratref28_Check.f chk
  by_cases h4 : a = 4
  · simp only [if_pos h4]
    exact rchk_go a b c l hl l.length 0 (-1) (by omega) (.inl ⟨rfl, rfl⟩)
  · simp only [if_neg h4]
    by_cases h1 : a < 1
    · rw [decide_eq_false (fun h => by omega : ¬ (1 ≤ a ∧ a ≤ 6 ∧ (a < 4 → 0 < b ∧ 0 < c))), Bool.and_false, Bool.and_false, Bool.and_false]
      exact ev_is (fun k => by rw [if_pos h1])
    by_cases h6 : a > 6
    · rw [decide_eq_false (fun h => by omega : ¬ (1 ≤ a ∧ a ≤ 6 ∧ (a < 4 → 0 < b ∧ 0 < c))), Bool.and_false, Bool.and_false, Bool.and_false]
      exact ev_is (fun k => by rw [if_neg h1, if_pos h6])
    refine Ev.congr (fun k => by rw [if_neg h1, if_neg h6]) ?_
    by_cases hn : (l.length : Int) > 0
    · have : l ≠ [] := by intro h; rw [h] at hn; simp at hn
      rw [decide_eq_false this, Bool.false_and]
      exact ev_is (fun k => by rw [if_pos hn])
    · have : l = [] := List.eq_nil_of_length_eq_zero (by omega)
      rw [decide_eq_true this, Bool.true_and]
      refine Ev.congr (fun k => by rw [if_neg hn, ris_is, Option.bind_some]) ?_
      cases isR b with
      | false => exact ev_is (fun k => by rw [if_neg (by decide)]; rfl)
      | true =>
        refine Ev.congr (fun k => by rw [if_pos rfl, ris_is, Option.bind_some]) ?_
        cases isR c with
        | false => exact ev_is (fun k => by rw [if_neg (by decide)]; rfl)
        | true =>
          rw [Bool.true_and, Bool.true_and]
          refine Ev.congr (fun k => by rw [if_pos rfl]) ?_
          by_cases h3 : a > 3
          · rw [decide_eq_true (show 1 ≤ a ∧ a ≤ 6 ∧ (a < 4 → 0 < b ∧ 0 < c) from ⟨by omega, by omega, fun h => by omega⟩)]
            exact ev_is (fun k => by rw [if_pos h3])
          · refine Ev.congr (fun k => by rw [if_neg h3]) ?_
            by_cases hb : b > 0
            · by_cases hc : c > 0
              · rw [decide_eq_true (show 1 ≤ a ∧ a ≤ 6 ∧ (a < 4 → 0 < b ∧ 0 < c) from ⟨by omega, by omega, fun _ => ⟨hb, hc⟩⟩)]
                exact ev_is (fun k => by rw [if_pos hb, decide_eq_true hc])
              · rw [decide_eq_false (show ¬ (1 ≤ a ∧ a ≤ 6 ∧ (a < 4 → 0 < b ∧ 0 < c)) from fun h => hc (h.2.2 (by omega)).2)]
                exact ev_is (fun k => by rw [if_pos hb, decide_eq_false hc])
            · rw [decide_eq_false (show ¬ (1 ≤ a ∧ a ≤ 6 ∧ (a < 4 → 0 < b ∧ 0 < c)) from fun h => hb (h.2.2 (by omega)).1)]
              exact ev_is (fun k => by rw [if_neg hb])
theorem isB_gaps : ∀ (l : List Int) (ah : Int), IsB (gaps ah l)
  | [], _ => fun x hx => by cases hx
  | x :: r, ah => isB_append (isB_vp _) (isB_gaps r x)
theorem rises_bound : ∀ (l : List Int) (ah : Int), -1 ≤ ah → rises ah l = true → ∀ x ∈ l, 0 ≤ x ∧ x < 65535
  | [], _, _, _ => fun x hx => by cases hx
  | y :: r, ah, h0, h => by
    simp only [rises, Bool.and_eq_true, decide_eq_true_eq] at h
    intro x hx
    rcases List.mem_cons.1 hx with e | e
    · rw [e]; omega
    · exact rises_bound r y (by omega) h.2 x e
theorem rput_rec_go (a b c : Int) (l : List Int) (hl : l.length ≤ 100000) (hx : ∀ x ∈ l, 0 ≤ x ∧ x < 65535) : ∀ (d i : Nat) (ah : Int) (acc : List Int), i + d = l.length → IsB acc → acc.length ≤ 20 + 9 * i → (i = 0 ∧ ah = 0 ∨ ∃ h : i - 1 < l.length, 0 < i ∧ ah = l[i - 1]) →
    Ev (fun k => juratref28_Put.l0 k (strOfNums acc) (i : Int) a b c l) (strOfNums (acc ++ gaps ah (l.drop i)), 0) := by
  intro d
  induction d with
  | zero =>
    intro i ah acc hi _ _ _
    rw [List.drop_eq_nil_of_le (by omega)]
    exact ev_add 1 (fun k => by rw [juratref28_Put.l0, if_neg (by omega)]; simp only [gaps, List.append_nil])
  | succ d ih =>
    intro i ah acc hi hB hal hah
    have hlt : i < l.length := by omega
    have hxi := hx l[i] (List.getElem_mem hlt)
    rw [List.drop_eq_getElem_cons hlt]
    simp only [gaps]
    rw [← List.append_assoc]
    have e1 : wrap64 ((i : Int) + 1) = ((i + 1 : Nat) : Int) := by rw [jw64 (by omega) (by omega)]; rfl
    refine Ev.step (fun k => by rw [juratref28_Put.l0, if_pos (by omega)]) ?_
    rcases hah with ⟨h0, ha⟩ | ⟨hy, hp, ha⟩
    · subst h0
      have h9 := vp_nine (n := l[0]) (by omega)
      have e0 : rd l (0 : Int) = l[0] := rd_get l 0 hlt
      refine Ev.congr (fun k => by rw [if_pos (show ((0 : Nat) : Int) = 0 from rfl), if_pos (by omega), e0]) ?_
      refine Ev.bind (rput_ev (n := l[0]) (by omega)) ?_
      rw [← strOfNums_append hB (isB_vp _), strOfNums_size, strOfNums_size]
      refine Ev.congr (fun k => by rw [if_pos (by omega), e1]) ?_
      rw [ha, Int.sub_zero]
      exact ih 1 l[0] _ (by omega) (isB_append hB (isB_vp _)) (by rw [List.length_append]; omega) (.inr ⟨by omega, by omega, rfl⟩)
    · have hxp := hx l[i - 1] (List.getElem_mem hy)
      have e2 : wrap64 ((i : Int) - 1) = ((i - 1 : Nat) : Int) := by rw [jw64 (by omega) (by omega)]; omega
      have h9 := vp_nine (n := l[i] - ah) (by omega)
      refine Ev.congr (fun k => by rw [if_neg (by omega), if_pos (by omega), e2, if_pos (by omega), if_pos (by omega), rd_get l i hlt, rd_get l (i - 1) hy, ← ha, jw64 (n := l[i] - ah) (by omega) (by omega)]) ?_
      refine Ev.bind (rput_ev (n := l[i] - ah) (by omega)) ?_
      rw [← strOfNums_append hB (isB_vp _), strOfNums_size, strOfNums_size]
      refine Ev.congr (fun k => by rw [if_pos (by omega), e1]) ?_
      exact ih (i + 1) l[i] _ (by omega) (isB_append hB (isB_vp _)) (by rw [List.length_append]; omega) (.inr ⟨by omega, by omega, by simp⟩)
theorem rrec_put_ev (a b c : Int) (l : List Int) (hl : l.length ≤ 100000) : Ev (fun k => juratref28_Put.f k a b c l) (rput a b c l) := by
  unfold juratref28_Put.f rput
  refine Ev.bind (rchk_ev a b c l (by omega)) ?_
  by_cases hc : chk a b c l = true
  · simp only [if_pos hc]
    unfold rp
    unfold chk at hc
    by_cases h4 : a = 4
    · simp only [if_pos h4] at hc ⊢
      simp only [Bool.and_eq_true] at hc
      have hbd := rises_bound l (-1) (by omega) hc.2
      have h9 := vp_nine (n := (l.length : Int)) (by omega)
      have hB4 : IsB [(4 : Int)] := by intro x hx; rw [List.mem_singleton] at hx; omega
      refine Ev.congr (fun k => by rw [Option.bind_some, show a % 256 = 4 by omega]) ?_
      refine Ev.bind (rput_ev (n := (l.length : Int)) (by omega)) ?_
      rw [← strOfNums_append hB4 (isB_vp _), strOfNums_size, strOfNums_size]
      refine Ev.congr (fun k => by rw [if_pos (by simp; omega)]) ?_
      exact rput_rec_go a b c l hl hbd l.length 0 0 _ (by omega) (isB_append hB4 (isB_vp _)) (by simp; omega) (.inl ⟨rfl, rfl⟩)
    · simp only [if_neg h4] at hc ⊢
      simp only [isR, Bool.and_eq_true, decide_eq_true_eq] at hc
      have hb9 := vp_nine (n := b) (by omega)
      have hc9 := vp_nine (n := c) (by omega)
      have hBa : IsB [a] := by intro x hx; rw [List.mem_singleton] at hx; omega
      refine Ev.congr (fun k => by rw [Option.bind_some, show a % 256 = a by omega]) ?_
      refine Ev.bind (rput_ev (n := b) (by omega)) ?_
      rw [← strOfNums_append hBa (isB_vp _), strOfNums_size, strOfNums_size]
      refine Ev.congr (fun k => by rw [if_pos (by simp; omega)]) ?_
      refine Ev.bind (rput_ev (n := c) (by omega)) ?_
      rw [← strOfNums_append (isB_append hBa (isB_vp _)) (isB_vp _), strOfNums_size, strOfNums_size]
      exact ev_is (fun k => by rw [if_pos (by simp; omega)]; simp)
  · simp only [if_neg hc]
    exact Ev.now _
theorem gaps_len : ∀ (l : List Int) (ah : Int), 0 ≤ ah → (∀ x ∈ l, 0 ≤ x ∧ x < 65535) → (gaps ah l).length ≤ 9 * l.length
  | [], _, _, _ => by simp [gaps]
  | x :: r, ah, h0, h => by
    have hx := h x (List.mem_cons_self ..)
    have := gaps_len r x hx.1 (fun y hy => h y (List.mem_cons_of_mem _ hy))
    have h9 := vp_nine (n := x - ah) (by omega)
    simp only [gaps, List.length_append, List.length_cons]
    omega
theorem isB_rp {a b c : Int} {l : List Int} (ha : 0 ≤ a ∧ a ≤ 255) : IsB (rp a b c l) := by
  unfold rp
  split
  · intro x hx
    rcases List.mem_cons.1 hx with h | h
    · omega
    · exact isB_append (isB_vp _) (isB_gaps l 0) x h
  · intro x hx
    rcases List.mem_cons.1 hx with h | h
    · omega
    · exact isB_append (isB_vp _) (isB_vp _) x h
def allGo : List S30 → S30 → List S30
  | [], m => [m]
  | r :: rs, m => if cmb m r = true then allGo rs (jn2 m r) else m :: allGo rs r
def mgS : List S30 → List S30
  | [] => []
  | r :: rs => allGo rs r
theorem okR_jn {a b : S30} (ha : okR a) (hc : cmb a b = true) : okR (jn2 a b) := by
  unfold cmb at hc
  rw [decide_eq_true_iff] at hc
  obtain ⟨h0, h1, h2, h3⟩ := ha
  exact ⟨h0, h1, (by unfold jn2; constructor <;> simp only <;> omega), (by unfold jn2; simp)⟩
theorem okR_allGo : ∀ (l : List S30) (m : S30), okR m → (∀ x ∈ l, okR x) → ∀ x ∈ allGo l m, okR x
  | [], m, hm, _, x, hx => by rw [allGo, List.mem_singleton] at hx; rw [hx]; exact hm
  | r :: rs, m, hm, hl, x, hx => by
    rw [allGo] at hx
    by_cases hc : cmb m r = true
    · rw [if_pos hc] at hx
      exact okR_allGo rs _ (okR_jn hm hc) (fun y h => hl y (List.mem_cons_of_mem _ h)) x hx
    · rw [if_neg hc, List.mem_cons] at hx
      rcases hx with rfl | hx
      · exact hm
      · exact okR_allGo rs r (hl r (List.mem_cons_self ..)) (fun y h => hl y (List.mem_cons_of_mem _ h)) x hx
theorem okR_all (l : List S30) (h : ∀ x ∈ l, okR x) : ∀ x ∈ mgS l, okR x := by
  cases l with
  | nil => intro x hx; cases hx
  | cons r rs => exact okR_allGo rs r (h r (List.mem_cons_self ..)) (fun y hy => h y (List.mem_cons_of_mem _ hy))
theorem len_allGo : ∀ (l : List S30) (m : S30), (allGo l m).length ≤ l.length + 1
  | [], _ => by simp [allGo]
  | r :: rs, m => by
    rw [allGo]
    by_cases hc : cmb m r = true
    · rw [if_pos hc]; have := len_allGo rs (jn2 m r); simp only [List.length_cons]; omega
    · rw [if_neg hc]; have := len_allGo rs r; simp only [List.length_cons]; omega
theorem len_all (l : List S30) : (mgS l).length ≤ l.length := by
  cases l with
  | nil => simp [mgS]
  | cons r rs => exact len_allGo rs r
theorem rd_last (acc : List S30) (m : S30) : rd_T30 (acc ++ [m]) ((acc.length : Nat) : Int) = m := by
  rw [rdT_get _ _ (by simp)]
  simp
theorem S30_eta (x : S30) : (⟨x.f0, x.f1, x.f2, x.f3⟩ : S30) = x := rfl
theorem rall_go (l : List S30) (hx : ∀ x ∈ l, okR x) (hl : l.length ≤ 1000) : ∀ (d i : Nat) (acc : List S30) (m : S30), i + d = l.length → acc.length ≤ i → okR m → Ev (fun k => juratref27_All.l0 k l (acc ++ [m]) (i : Int)) (acc ++ allGo (l.drop i) m) := by
  intro d
  induction d with
  | zero =>
    intro i acc m h ha hm
    rw [List.drop_eq_nil_of_le (by omega)]
    exact ev_add 1 (fun k => by rw [juratref27_All.l0, if_neg (by omega)]; rfl)
  | succ d ih =>
    intro i acc m h ha hm
    have h1 : i < l.length := by omega
    have hlen : ((acc ++ [m]).length : Int) = (acc.length : Int) + 1 := by simp
    have w1 : wrap64 (((acc ++ [m]).length : Int) - 1) = (acc.length : Int) := by rw [hlen, jw64 (by omega) (by omega)]; omega
    rw [List.drop_eq_getElem_cons h1, allGo]
    refine Ev.step (fun k => by rw [juratref27_All.l0, if_pos (by omega), if_pos (by omega), w1, if_pos (by omega), if_pos (by omega), if_pos (by omega), rd_last, rdT_get l i h1]) ?_
    refine Ev.bind (rtwo_ev _ _ hm (hx _ (List.getElem_mem h1))) ?_
    unfold twoS
    by_cases hc : cmb m l[i] = true
    · rw [if_pos hc, if_pos hc]
      have e : (acc ++ [m]).set ((acc.length : Int)).toNat (⟨m.f0, m.f1, m.f2 + l[i].f2, []⟩ : S30) = acc ++ [jn2 m l[i]] := by
        rw [Int.toNat_natCast, List.set_append_right _ _ (by omega)]
        simp [jn2]
      refine Ev.congr (fun k => by simp only [if_true]; rw [e, jw64 (by omega) (by omega)]) ?_
      exact_mod_cast ih (i + 1) acc _ (by omega) (by omega) (okR_jn hm hc)
    · rw [if_neg hc, if_neg hc]
      refine Ev.congr (fun k => by simp only [Bool.false_eq_true, if_false]; rw [if_pos (by rw [List.length_append, List.length_singleton]; omega), S30_eta, jw64 (by omega) (by omega)]) ?_
      have := ih (i + 1) (acc ++ [m]) l[i] (by omega) (by simp; omega) (hx _ (List.getElem_mem h1))
      rw [show acc ++ m :: allGo (l.drop (i + 1)) l[i] = (acc ++ [m]) ++ allGo (l.drop (i + 1)) l[i] by simp]
      exact_mod_cast this
theorem rall_ev (l : List S30) (hx : ∀ x ∈ l, okR x) (hl : l.length ≤ 1000) : Ev (fun k => juratref27_All.f k l) (mgS l) := by
  unfold juratref27_All.f
  cases l with
  | nil => exact ev_add 1 (fun k => by rw [juratref27_All.l0, if_neg (by simp)]; rfl)
  | cons r rs =>
    refine Ev.step (fun k => by rw [juratref27_All.l0, if_pos (by simp), if_neg (by simp), if_pos (by omega), if_pos (by simp), show ((0 : Int)) = ((0 : Nat) : Int) from rfl, rdT_get _ 0 (by simp), jw64 (by omega) (by omega)]) ?_
    have := rall_go (r :: rs) hx hl rs.length 1 [] r (by simp; omega) (by simp) (hx r (List.mem_cons_self ..))
    simp only [List.nil_append, List.drop_succ_cons, List.drop_zero] at this
    exact this
theorem chk_kind {a b c : Int} {l : List Int} (h : chk a b c l = true) : 1 ≤ a ∧ a ≤ 6 := by
  unfold chk at h
  by_cases h4 : a = 4
  · omega
  · simp only [if_neg h4, isR, Bool.and_eq_true, decide_eq_true_eq] at h
    omega
def wB (x : S30) : List Int := if chk x.f0 x.f1 x.f2 x.f3 = true then rp x.f0 x.f1 x.f2 x.f3 else []
def toldL : List S30 → List Int
  | [] => []
  | x :: r => (if 0 < r.length ∨ x.f0 = 6 then wB x else []) ++ toldL r
theorem isB_wB (x : S30) : IsB (wB x) := by
  unfold wB
  by_cases h : chk x.f0 x.f1 x.f2 x.f3 = true
  · rw [if_pos h]
    have := chk_kind h
    exact isB_rp ⟨by omega, by omega⟩
  · rw [if_neg h]; intro y hy; cases hy
theorem wB_len (x : S30) (hl : x.f3.length ≤ 100000) : (wB x).length ≤ 900100 := by
  unfold wB
  by_cases hc : chk x.f0 x.f1 x.f2 x.f3 = true
  · rw [if_pos hc]
    unfold chk at hc
    unfold rp
    by_cases h4 : x.f0 = 4
    · simp only [if_pos h4, Bool.and_eq_true] at hc ⊢
      have h1 := gaps_len x.f3 0 (by omega) (rises_bound x.f3 (-1) (by omega) hc.2)
      have h9 := vp_nine (n := (x.f3.length : Int)) (by omega)
      rw [List.length_cons, List.length_append]; omega
    · simp only [if_neg h4, isR, Bool.and_eq_true, decide_eq_true_eq] at hc ⊢
      have h9 := vp_nine (n := x.f1) (by omega)
      have h9' := vp_nine (n := x.f2) (by omega)
      rw [List.length_cons, List.length_append]; omega
  · rw [if_neg hc]; simp
theorem rput_fst (x : S30) : (rput x.f0 x.f1 x.f2 x.f3).1 = strOfNums (wB x) := by
  unfold rput wB
  by_cases h : chk x.f0 x.f1 x.f2 x.f3 = true
  · rw [if_pos h, if_pos h]
  · rw [if_neg h, if_neg h]; rfl
theorem told_len : ∀ (m : List S30), (∀ x ∈ m, okR x) → (toldL m).length ≤ 900100 * m.length
  | [], _ => by simp [toldL]
  | x :: r, h => by
    have h1 := told_len r (fun y hy => h y (List.mem_cons_of_mem _ hy))
    have h2 := wB_len x (h x (List.mem_cons_self ..)).2.2.2
    simp only [toldL, List.length_append, List.length_cons]
    by_cases hc : 0 < r.length ∨ x.f0 = 6
    · rw [if_pos hc]; omega
    · rw [if_neg hc, List.length_nil]; omega
theorem isB_told : ∀ (m : List S30), IsB (toldL m)
  | [] => fun y hy => by cases hy
  | x :: r => by
    simp only [toldL]
    by_cases hc : 0 < r.length ∨ x.f0 = 6
    · rw [if_pos hc]; exact isB_append (isB_wB x) (isB_told r)
    · rw [if_neg hc, List.nil_append]; exact isB_told r
theorem told_go (m : List S30) (hx : ∀ x ∈ m, okR x) (hl : m.length ≤ 1000) : ∀ (d i : Nat) (acc : List Int), i + d = m.length → IsB acc → acc.length ≤ 900100 * i → Ev (fun k => juratref30_Told.l0 k m (strOfNums acc) (i : Int)) (strOfNums (acc ++ toldL (m.drop i))) := by
  intro d
  induction d with
  | zero =>
    intro i acc hi _ _
    rw [List.drop_eq_nil_of_le (by omega)]
    exact ev_add 1 (fun k => by rw [juratref30_Told.l0, if_neg (by omega)]; simp only [toldL, List.append_nil])
  | succ d ih =>
    intro i acc hi hB hal
    have h1 : i < m.length := by omega
    have w1 : wrap64 ((m.length : Int) - 1) = (m.length : Int) - 1 := jw64 (by omega) (by omega)
    have w2 : wrap64 ((i : Int) + 1) = ((i + 1 : Nat) : Int) := by rw [jw64 (by omega) (by omega)]; rfl
    have hxi := hx _ (List.getElem_mem h1)
    have hwl := wB_len m[i] hxi.2.2.2
    rw [List.drop_eq_getElem_cons h1]
    simp only [toldL]
    have hld : (m.drop (i + 1)).length = d := by rw [List.length_drop]; omega
    rw [hld, ← List.append_assoc]
    have hput := rrec_put_ev m[i].f0 m[i].f1 m[i].f2 m[i].f3 hxi.2.2.2
    have fin : Ev (fun k => juratref30_Told.l0 k m (strOfNums (acc ++ wB m[i])) (wrap64 ((i : Int) + 1))) (strOfNums ((acc ++ wB m[i]) ++ toldL (m.drop (i + 1)))) :=
      Ev.congr (fun k => by rw [w2]) (ih (i + 1) (acc ++ wB m[i]) (by omega) (isB_append hB (isB_wB _)) (by rw [List.length_append]; omega))
    by_cases hlast : 0 < d
    · rw [if_pos (Or.inl hlast)]
      refine Ev.step (fun k => by rw [juratref30_Told.l0, if_pos (by omega), w1, if_pos (by omega), if_pos (by omega), rdT_get m i h1]) ?_
      refine Ev.bind hput ?_
      rw [rput_fst, ← strOfNums_append hB (isB_wB _), strOfNums_size, strOfNums_size]
      exact Ev.congr (fun k => by rw [if_pos (by omega)]) fin
    · by_cases h6 : m[i].f0 = 6
      · rw [if_pos (Or.inr h6)]
        refine Ev.step (fun k => by rw [juratref30_Told.l0, if_pos (by omega), w1, if_neg (by omega), if_pos (by omega), rdT_get m i h1, if_pos h6]) ?_
        refine Ev.bind hput ?_
        rw [rput_fst, ← strOfNums_append hB (isB_wB _), strOfNums_size, strOfNums_size]
        exact Ev.congr (fun k => by rw [if_pos (by omega)]) fin
      · rw [if_neg (by omega), List.append_nil]
        refine Ev.step (fun k => by rw [juratref30_Told.l0, if_pos (by omega), w1, if_neg (by omega), if_pos (by omega), rdT_get m i h1, if_neg h6, w2]) ?_
        exact ih (i + 1) acc (by omega) hB (by omega)
theorem told_ev (l : List S30) (hx : ∀ x ∈ l, okR x) (hl : l.length ≤ 1000) : Ev (fun k => juratref30_Told.f k l) (strOfNums (toldL (mgS l))) := by
  unfold juratref30_Told.f
  refine Ev.bind (rall_ev l hx hl) ?_
  have h := told_go (mgS l) (okR_all l hx) (by have := len_all l; omega) (mgS l).length 0 [] (by omega) (fun y hy => by cases hy) (by simp)
  rw [List.drop_zero, List.nil_append] at h
  exact h
def mayE (p : Int) (r : S30) : Int := if p = 6 then 12 else if chk r.f0 r.f1 r.f2 r.f3 = true then (if r.f0 = 5 ∧ (p = 0 ∨ p = 5) then 9 else 0) else 2
theorem may_j0 (l : List S30) (hl : l.length ≤ 1000000) (r : S30) (hr : r.f3.length ≤ 100000) (p : Int) (hp : (l.length = 0 ∧ p = 0) ∨ ∃ h : l.length - 1 < l.length, p = (l[l.length - 1]).f0 ∧ p ≠ 0) : Ev (fun k => juratref30_May.j0 k l (p == 6) r.f0 r.f1 r.f2 r.f3) (mayE p r) := by
  unfold mayE
  by_cases h6 : p = 6
  · rw [if_pos h6]
    exact ev_add 1 (fun k => by rw [juratref30_May.j0, if_pos (beq_iff_eq.mpr h6)])
  · rw [if_neg h6]
    refine Ev.step (fun k => by rw [juratref30_May.j0, if_neg (by simpa using h6)]) ?_
    refine Ev.bind (rchk_ev _ _ _ _ (by omega)) ?_
    by_cases hc : chk r.f0 r.f1 r.f2 r.f3 = true
    · simp only [if_pos hc]
      by_cases h5 : r.f0 = 5
      · refine Ev.congr (fun k => by rw [if_pos h5]) ?_
        rcases hp with ⟨h0, hp⟩ | ⟨h, hp, h0⟩
        · rw [show (if r.f0 = 5 ∧ (p = 0 ∨ p = 5) then (9 : Int) else 0) = 9 from if_pos ⟨h5, Or.inl hp⟩]
          exact Ev.congr (fun k => by rw [if_pos (by omega)]) (Ev.now _)
        · have w1 : wrap64 ((l.length : Int) - 1) = ((l.length - 1 : Nat) : Int) := by rw [jw64 (by omega) (by omega)]; omega
          refine Ev.congr (fun k => by rw [if_neg (by omega), w1, if_pos (by omega), if_pos (by omega), rdT_get l _ h, ← hp]) ?_
          by_cases hq : p = 5
          · rw [show (if r.f0 = 5 ∧ (p = 0 ∨ p = 5) then (9 : Int) else 0) = 9 from if_pos ⟨h5, Or.inr hq⟩]
            exact Ev.congr (fun k => by rw [if_pos hq]) (Ev.now _)
          · rw [show (if r.f0 = 5 ∧ (p = 0 ∨ p = 5) then (9 : Int) else 0) = 0 from if_neg (by omega)]
            exact Ev.congr (fun k => by rw [if_neg hq]) (Ev.now _)
      · rw [show (if r.f0 = 5 ∧ (p = 0 ∨ p = 5) then (9 : Int) else 0) = 0 from if_neg (fun h => h5 h.1)]
        exact Ev.congr (fun k => by rw [if_neg h5]) (Ev.now _)
    · simp only [if_neg hc]
      exact Ev.now _
theorem may_ev (l : List S30) (hl : l.length ≤ 1000000) (r : S30) (hr : r.f3.length ≤ 100000) (p : Int) (hp : (l.length = 0 ∧ p = 0) ∨ ∃ h : l.length - 1 < l.length, p = (l[l.length - 1]).f0 ∧ p ≠ 0) : Ev (fun k => juratref30_May.f k l r.f0 r.f1 r.f2 r.f3) (mayE p r) := by
  unfold juratref30_May.f
  have hj := may_j0 l hl r hr p hp
  rcases hp with ⟨h0, hp⟩ | ⟨h, hp, h0⟩
  · refine Ev.congr (fun k => by rw [if_neg (by omega), show false = (p == 6) by rw [hp]; rfl]) hj
  · have w1 : wrap64 ((l.length : Int) - 1) = ((l.length - 1 : Nat) : Int) := by rw [jw64 (by omega) (by omega)]; omega
    exact Ev.congr (fun k => by rw [if_pos (by omega), w1, if_pos (by omega), if_pos (by omega), rdT_get l _ h, ← hp]) hj
def goW : Int → List S30 → Int
  | p, [] => if p = 6 then 0 else 19
  | p, r :: rs => if mayE p r = 0 then goW r.f0 rs else mayE p r
theorem mayE_chk {p : Int} {r : S30} (h : mayE p r = 0) : p ≠ 6 ∧ chk r.f0 r.f1 r.f2 r.f3 = true ∧ ¬ (r.f0 = 5 ∧ (p = 0 ∨ p = 5)) := by
  unfold mayE at h
  by_cases h6 : p = 6
  · rw [if_pos h6] at h; exact absurd h (by decide)
  · rw [if_neg h6] at h
    by_cases hc : chk r.f0 r.f1 r.f2 r.f3 = true
    · rw [if_pos hc] at h
      by_cases h5 : r.f0 = 5 ∧ (p = 0 ∨ p = 5)
      · rw [if_pos h5] at h; exact absurd h (by decide)
      · exact ⟨h6, hc, h5⟩
    · rw [if_neg hc] at h; exact absurd h (by decide)
def finW (hd : ByteArray) (l : List S30) (g : Int) : ByteArray × Int := if g = 0 then (hd ++ strOfNums (toldL (mgS l)), 0) else ((⟨#[]⟩ : ByteArray), g)
theorem finW_no (hd : ByteArray) (l : List S30) {g : Int} (h : g ≠ 0) : finW hd l g = ((⟨#[]⟩ : ByteArray), g) := if_neg h
def wholeS (hd : ByteArray) (l : List S30) : ByteArray × Int := finW hd l (goW 0 l)
end Go.Proofs.Ytejcopppchaneaa.Pure
end
section
namespace Go.Proofs.Ytejcopppchaneaa.Pure
open Go.RowKit Go.Proofs.YtejcopppchaneaaW.PrintWords Go.Proofs.YtejcopppchaneaaW.PrintLast Go.Proofs.YtejcopppchaneaaW.PrintMore Go.Proofs.Ytejcopppchaneaa.PF
structure PS where
  m : S30
  has : Bool
  last : Int
  ended : Bool
def nul30 : S30 := ⟨0, 0, 0, []⟩
def penZ : PS := ⟨nul30, false, 0, false⟩
def mergeP (s : PS) (r : S30) : List Int × S30 := if s.has = true then (if cmb s.m r = true then ([], jn2 s.m r) else (wB s.m, r)) else ([], r)
def addP (s : PS) (r : S30) : List Int × PS := if r.f0 = 6 then ((mergeP s r).1 ++ wB (mergeP s r).2, ⟨nul30, false, 6, true⟩) else ((mergeP s r).1, ⟨(mergeP s r).2, true, r.f0, s.ended⟩)
def mayP (s : PS) (r : S30) : Int := if s.ended = true then 12 else if chk r.f0 r.f1 r.f2 r.f3 = true then (if r.f0 = 5 ∧ (s.last = 0 ∨ s.last = 5) then 9 else 0) else 2
structure PRel (s : PS) (l : List S30) : Prop where
  ended : s.ended = (s.last == 6)
  none_ : l = [] → s.last = 0 ∧ s.has = false ∧ s.m = nul30
  last_ : l ≠ [] → ∃ h : l.length - 1 < l.length, s.last = (l[l.length - 1]).f0 ∧ s.last ≠ 0
  over : s.last = 6 → s.has = false ∧ s.m = nul30
  held : l ≠ [] → s.last ≠ 6 → s.has = true ∧ s.m.f0 = s.last ∧ ∃ D, mgS l = D ++ [s.m]
  ok : okR s.m
theorem okR_nul : okR nul30 := ⟨⟨by decide, by decide⟩, ⟨by decide, by decide⟩, ⟨by decide, by decide⟩, by decide⟩
theorem prel_zero : PRel penZ [] := ⟨rfl, fun _ => ⟨rfl, rfl, rfl⟩, fun h => absurd rfl h, fun _ => ⟨rfl, rfl⟩, fun h => absurd rfl h, okR_nul⟩
theorem mayP_is {s : PS} {l : List S30} (h : PRel s l) (r : S30) : mayP s r = mayE s.last r := by
  unfold mayP mayE
  by_cases h6 : s.last = 6
  · rw [if_pos (by rw [h.ended, h6]; rfl), if_pos h6]
  · rw [if_neg (by rw [h.ended]; simpa using h6), if_neg h6]
theorem allGo_ne : ∀ (l : List S30) (m : S30), allGo l m ≠ []
  | [], m => by simp [allGo]
  | x :: l, m => by
    rw [allGo]
    by_cases hc : cmb m x = true
    · rw [if_pos hc]; exact allGo_ne l _
    · rw [if_neg hc]; simp
theorem allGo_snoc (r : S30) : ∀ (l : List S30) (m0 : S30) (D : List S30) (m : S30), allGo l m0 = D ++ [m] → allGo (l ++ [r]) m0 = if cmb m r = true then D ++ [jn2 m r] else D ++ [m, r]
  | [], m0, D, m, h => by
    have hD : D = [] ∧ m0 = m := by
      cases D with
      | nil => exact ⟨rfl, by simpa [allGo] using h⟩
      | cons d D => exfalso; have := congrArg List.length h; simp [allGo] at this
    obtain ⟨rfl, rfl⟩ := hD
    rw [List.nil_append, allGo]
    by_cases hc : cmb m0 r = true
    · rw [if_pos hc, if_pos hc]; rfl
    · rw [if_neg hc, if_neg hc]; rfl
  | x :: l, m0, D, m, h => by
    rw [allGo] at h
    rw [List.cons_append, allGo]
    by_cases hc : cmb m0 x = true
    · rw [if_pos hc] at h ⊢
      exact allGo_snoc r l _ D m h
    · rw [if_neg hc] at h ⊢
      cases D with
      | nil =>
        exfalso
        exact allGo_ne l x (by simpa using congrArg List.tail h)
      | cons d D =>
        rw [List.cons_append] at h
        injection h with e1 e2
        subst e1
        rw [allGo_snoc r l x D m e2]
        by_cases hd : cmb m r = true
        · rw [if_pos hd, if_pos hd]; rfl
        · rw [if_neg hd, if_neg hd]; rfl
theorem mg_snoc {l : List S30} (hl : l ≠ []) (r : S30) {D : List S30} {m : S30} (h : mgS l = D ++ [m]) : mgS (l ++ [r]) = if cmb m r = true then D ++ [jn2 m r] else D ++ [m, r] := by
  cases l with
  | nil => exact absurd rfl hl
  | cons x l => exact allGo_snoc r l x D m h
theorem toldL_snoc : ∀ (D : List S30) (m : S30), toldL (D ++ [m]) = D.flatMap wB ++ (if m.f0 = 6 then wB m else [])
  | [], m => by simp [toldL]
  | x :: D, m => by
    rw [List.cons_append, toldL, toldL_snoc D m, if_pos (Or.inl (by simp)), List.flatMap_cons, List.append_assoc]
theorem cmb_six {a r : S30} (h : r.f0 = 6) : cmb a r = false := by
  unfold cmb
  rw [decide_eq_false_iff_not]
  rintro ⟨_, h2, h3, _⟩
  omega
theorem snoc_last (l : List S30) (r : S30) : ∃ h : (l ++ [r]).length - 1 < (l ++ [r]).length, r.f0 = ((l ++ [r])[(l ++ [r]).length - 1]).f0 := by
  refine ⟨by simp, ?_⟩
  simp
theorem snoc_ne (l : List S30) (r : S30) : l ++ [r] ≠ [] := by simp
theorem prel_step {s : PS} {l : List S30} (h : PRel s l) (r : S30) (hr : okR r) (hm : mayP s r = 0) : PRel (addP s r).2 (l ++ [r]) ∧ toldL (mgS (l ++ [r])) = toldL (mgS l) ++ (addP s r).1 := by
  rw [mayP_is h r] at hm
  obtain ⟨h6, hc, _⟩ := mayE_chk hm
  have hk := chk_kind hc
  obtain ⟨hsl, hsl2⟩ := snoc_last l r
  have hend : s.ended = false := by rw [h.ended]; simpa using h6
  by_cases hl : l = []
  · subst hl
    obtain ⟨n1, n2, n3⟩ := h.none_ rfl
    have hmp : mergeP s r = ([], r) := by unfold mergeP; rw [if_neg (by rw [n2]; decide)]
    unfold addP
    rw [hmp]
    have hmg : mgS ([] ++ [r]) = [r] := rfl
    have ht : toldL (mgS ([] ++ [r])) = (if r.f0 = 6 then wB r else []) := by rw [hmg]; simp [toldL]
    by_cases h6r : r.f0 = 6
    · rw [if_pos h6r, ht, if_pos h6r]
      refine ⟨⟨rfl, fun hh => absurd hh (snoc_ne _ _), fun _ => ⟨hsl, by simp only; rw [← h6r]; exact hsl2, by simp⟩, fun _ => ⟨rfl, rfl⟩, fun _ hh => absurd rfl hh, okR_nul⟩, by rfl⟩
    · rw [if_neg h6r, ht, if_neg h6r]
      refine ⟨⟨?_, fun hh => absurd hh (snoc_ne _ _), fun _ => ⟨hsl, hsl2, by simp only; omega⟩, fun hh => absurd hh h6r, fun _ _ => ⟨rfl, rfl, [], rfl⟩, hr⟩, rfl⟩
      simp only
      rw [hend]
      exact (beq_eq_false_iff_ne.mpr h6r).symm
  · obtain ⟨n1, n2, D, n3⟩ := h.held hl h6
    have hs6 : s.m.f0 ≠ 6 := by rw [n2]; exact h6
    have hold : toldL (mgS l) = D.flatMap wB := by rw [n3, toldL_snoc, if_neg hs6, List.append_nil]
    have hsn := mg_snoc hl r n3
    by_cases h6r : r.f0 = 6
    · have hcm := cmb_six (a := s.m) h6r
      have hmp : mergeP s r = (wB s.m, r) := by unfold mergeP; rw [if_pos n1, if_neg (by rw [hcm]; decide)]
      unfold addP
      rw [hmp, if_pos h6r, hsn, if_neg (by rw [hcm]; decide), hold]
      refine ⟨⟨rfl, fun hh => absurd hh (snoc_ne _ _), fun _ => ⟨hsl, by simp only; rw [← h6r]; exact hsl2, by simp⟩, fun _ => ⟨rfl, rfl⟩, fun _ hh => absurd rfl hh, okR_nul⟩, ?_⟩
      rw [show D ++ [s.m, r] = (D ++ [s.m]) ++ [r] by simp, toldL_snoc, if_pos h6r, List.flatMap_append, List.append_assoc]
      simp
    · by_cases hcm : cmb s.m r = true
      · have hmp : mergeP s r = ([], jn2 s.m r) := by unfold mergeP; rw [if_pos n1, if_pos hcm]
        have hkind : s.m.f0 = r.f0 := by
          unfold cmb at hcm
          rw [decide_eq_true_iff] at hcm
          exact hcm.2.2.1
        unfold addP
        rw [hmp, if_neg h6r, hsn, if_pos hcm, hold]
        refine ⟨⟨?_, fun hh => absurd hh (snoc_ne _ _), fun _ => ⟨hsl, hsl2, by simp only; omega⟩, fun hh => absurd hh h6r, fun _ _ => ⟨rfl, hkind, D, ?_⟩, okR_jn h.ok hcm⟩, ?_⟩
        · simp only
          rw [hend]
          exact (beq_eq_false_iff_ne.mpr h6r).symm
        · rw [hsn, if_pos hcm]
        · rw [toldL_snoc, if_neg (show ¬ (jn2 s.m r).f0 = 6 from hs6)]
      · have hmp : mergeP s r = (wB s.m, r) := by unfold mergeP; rw [if_pos n1, if_neg hcm]
        unfold addP
        rw [hmp, if_neg h6r, hsn, if_neg hcm, hold]
        refine ⟨⟨?_, fun hh => absurd hh (snoc_ne _ _), fun _ => ⟨hsl, hsl2, by simp only; omega⟩, fun hh => absurd hh h6r, fun _ _ => ⟨rfl, rfl, D ++ [s.m], ?_⟩, hr⟩, ?_⟩
        · simp only
          rw [hend]
          exact (beq_eq_false_iff_ne.mpr h6r).symm
        · rw [hsn, if_neg hcm]; simp
        · rw [show D ++ [s.m, r] = (D ++ [s.m]) ++ [r] by simp, toldL_snoc, if_neg h6r, List.flatMap_append]
          simp
theorem mergeP_ok {s : PS} (hs : okR s.m) {r : S30} (hr : okR r) : okR (mergeP s r).2 := by
  unfold mergeP
  by_cases h : s.has = true
  · rw [if_pos h]
    by_cases hc : cmb s.m r = true
    · rw [if_pos hc]; exact okR_jn hs hc
    · rw [if_neg hc]; exact hr
  · rw [if_neg h]; exact hr
end Go.Proofs.Ytejcopppchaneaa.Pure
end
section
namespace Go.Proofs.Ytejcopppchaneaa.Pure
open Go.RowKit Go.Proofs.YtejcopppchaneaaW.PrintWords Go.Proofs.YtejcopppchaneaaW.PrintLast Go.Proofs.YtejcopppchaneaaW.PrintMore Go.Proofs.Ytejcopppchaneaa.PF
theorem put_go : ∀ (n : Nat) (acc : List Int), n < 9223372036854775808 → acc.length + (vput n).length ≤ 1000 → Ev (fun k => varint_Put.l0 k (n : Int) acc) (strOfNums (acc ++ vput n)) := by
  intro n
  induction n using Nat.strongRecOn with
  | _ n ih =>
    intro acc hn hl
    have hv := vput_pos n
    by_cases h : n < 128
    · refine ev_add 1 (fun k => ?_)
      simp only [varint_Put.l0]
      rw [if_neg (by omega), if_pos (by omega), vput_small h]
      congr 4; omega
    · refine Ev.step (fun k => by rw [varint_Put.l0, if_pos (by omega), if_pos (by omega), jand127 (by omega) (by omega), jor128 (by omega) (by omega)]) ?_
      have := ih (n / 128) (by omega) (acc ++ [((n % 128 + 128 : Nat) : Int)]) (by omega) (by
        rw [vput_big h, List.length_cons] at hl
        rw [List.length_append, List.length_singleton]; omega)
      rw [List.append_assoc, List.singleton_append, ← vput_big h] at this
      refine Ev.congr (fun k => ?_) this
      rw [show ((n : Int) / 128) = ((n / 128 : Nat) : Int) by omega, show ((n : Int) % 128 + 128) % 256 = ((n % 128 + 128 : Nat) : Int) by omega]
theorem put_ev {n : Int} (h : n < 9223372036854775808) : Ev (fun k => varint_Put.f k n) (strOfNums (vp n)) := by
  unfold varint_Put.f vp
  by_cases h0 : n < 0
  · rw [if_pos h0]
    exact ev_is (fun k => by rw [if_pos h0]; rfl)
  · rw [if_neg h0]
    refine Ev.congr (fun k => by rw [if_neg h0]) ?_
    obtain ⟨m, rfl⟩ := Int.eq_ofNat_of_zero_le (by omega : 0 ≤ n)
    have := put_go m [] (by omega) (by have := vput_nine (n := m) (by omega); simp; omega)
    rw [Int.toNat_natCast]
    exact this
end Go.Proofs.Ytejcopppchaneaa.Pure
end
section
namespace Go.Proofs.Ytejcopppchaneaa.Pure
open Go.RowKit Go.Proofs.YtejcopppchaneaaW.PrintWords Go.Proofs.YtejcopppchaneaaW.PrintLast Go.Proofs.YtejcopppchaneaaW.PrintMore Go.Proofs.Ytejcopppchaneaa.PF
def vps (l : List Int) : List Int := l.flatMap vp
theorem vps_len : ∀ (l : List Int), (∀ x ∈ l, x < 9223372036854775808) → (vps l).length ≤ 9 * l.length
  | [], _ => by simp [vps]
  | c :: l, h => by
    have h1 := vps_len l (fun x hx => h x (List.mem_cons_of_mem _ hx))
    have h2 := vp_nine (h c (List.mem_cons_self ..))
    have h3 : vps (c :: l) = vp c ++ vps l := rfl
    rw [h3, List.length_append, List.length_cons]; omega
theorem vps_snoc (l : List Int) (i : Nat) (h : i < l.length) : vps (l.take (i + 1)) = vps (l.take i) ++ vp l[i] := by
  unfold vps
  rw [List.take_succ_eq_append_getElem h, List.flatMap_append]
  simp only [List.flatMap_cons, List.flatMap_nil, List.append_nil]
theorem vall_go (l : List Int) (hl : l.length ≤ 1000) (hx : ∀ x ∈ l, x < 9223372036854775808) : ∀ (d i : Nat), i + d = l.length → Ev (fun k => varint_All.l0 k (vps (l.take i)) l (l.length : Int) (i : Int)) (strOfNums (vps l)) := by
  intro d
  induction d with
  | zero =>
    intro i hi
    refine ev_add 1 (fun k => ?_)
    rw [varint_All.l0, if_neg (by omega), List.take_of_length_le (by omega)]
  | succ d ih =>
    intro i hi
    have hlt : i < l.length := by omega
    have e : rd l (i : Int) = l[i] := by simp [rd, List.getD_eq_getElem?_getD, List.getElem?_eq_getElem hlt]
    have hm := hx l[i] (List.getElem_mem hlt)
    refine Ev.step (fun k => by rw [varint_All.l0, if_pos (by omega), if_pos (by omega), if_pos (by omega), e]) ?_
    refine Ev.bind (put_ev hm) ?_
    have h9 := vp_nine hm
    have hln := vps_len (l.take i) (fun x h => hx x (List.mem_of_mem_take h))
    rw [List.length_take] at hln
    refine Ev.congr (fun k => by rw [if_pos (by rw [strOfNums_size]; omega), bytesOf_strOfNums (isB_vp _), ← vps_snoc l i hlt, jw64 (n := (i : Int) + 1) (by omega) (by omega), show (i : Int) + 1 = ((i + 1 : Nat) : Int) from rfl]) ?_
    exact ih (i + 1) (by omega)
theorem all_ev2 (l : List Int) (hl : l.length ≤ 1000) (hx : ∀ x ∈ l, x < 9223372036854775808) : Ev (fun k => varint_All.f k l) (strOfNums (vps l)) := vall_go l hl hx l.length 0 (by omega)
theorem ids_go (l : List Int) (hl : l.length ≤ 1000000) : ∀ (d i : Nat) (ah : Int), i + d = l.length → Ev (fun k => record_ids.l0 k ah l (l.length : Int) (i : Int)) (rises ah (l.drop i)) := by
  intro d
  induction d with
  | zero =>
    intro i ah hi
    rw [List.drop_eq_nil_of_le (by omega)]
    exact ev_add 1 (fun k => by rw [record_ids.l0, if_neg (by omega)]; rfl)
  | succ d ih =>
    intro i ah hi
    have hlt : i < l.length := by omega
    rw [List.drop_eq_getElem_cons hlt]
    simp only [rises]
    refine Ev.step (fun k => by rw [record_ids.l0, if_pos (by omega), if_pos (by omega), if_pos (by omega), rd_get l i hlt]) ?_
    by_cases h1 : l[i] ≤ ah
    · rw [decide_eq_false (show ¬ (ah < l[i] ∧ l[i] < 65535) by omega), Bool.false_and]
      exact ev_is (fun k => by rw [if_pos h1])
    · by_cases h2 : l[i] ≥ 65535
      · rw [decide_eq_false (show ¬ (ah < l[i] ∧ l[i] < 65535) by omega), Bool.false_and]
        exact ev_is (fun k => by rw [if_neg h1, if_pos h2])
      · rw [decide_eq_true (show (ah < l[i] ∧ l[i] < 65535) by omega), Bool.true_and]
        refine Ev.congr (fun k => by rw [if_neg h1, if_neg h2, jw64 (n := (i : Int) + 1) (by omega) (by omega)]) ?_
        exact ih (i + 1) l[i] (by omega)
theorem ids_ev (l : List Int) (hl : l.length ≤ 1000000) : Ev (fun k => record_ids.f k l) (rises (-1) l) := ids_go l hl l.length 0 (-1) (by omega)
theorem chk_ev (a b c : Int) (l : List Int) (hl : l.length ≤ 1000000) : Ev (fun k => record_Check.f k a b c l) (chk a b c l) := by
  unfold record_Check.f chk
  by_cases h4 : a = 4
  · simp only [if_pos h4]
    by_cases hb : b = 0
    · simp only [if_pos hb]
      by_cases hc : c = 0
      · rw [decide_eq_true (show b = 0 ∧ c = 0 from ⟨hb, hc⟩), Bool.true_and]
        refine Ev.congr (fun k => by rw [if_pos hc]) ?_
        exact Ev.bind (ids_ev l hl) (Ev.now _)
      · rw [decide_eq_false (fun h => hc h.2), Bool.false_and]
        exact ev_is (fun k => by rw [if_neg hc])
    · simp only [if_neg hb]
      rw [decide_eq_false (fun h => hb h.1), Bool.false_and]
      exact Ev.now _
  · simp only [if_neg h4]
    have hj : ∀ x : Bool, x = true → Ev (fun k => record_Check.j0 k x a b c l) false := by
      rintro x rfl
      exact ev_add 1 (fun k => by rw [record_Check.j0, if_pos rfl])
    by_cases hn : (l.length : Int) > 0
    · have : l ≠ [] := by intro h; rw [h] at hn; simp at hn
      rw [decide_eq_false this, Bool.false_and]
      exact Ev.congr (fun k => by rw [if_pos hn]) (hj true rfl)
    · have : l = [] := List.eq_nil_of_length_eq_zero (by omega)
      rw [decide_eq_true this, Bool.true_and]
      refine Ev.congr (fun k => by rw [if_neg hn, is_is, Option.bind_some]) ?_
      cases isR b with
      | false => exact Ev.congr (fun k => by rw [if_neg (by decide)]) (hj true rfl)
      | true =>
        refine Ev.congr (fun k => by rw [if_pos rfl, is_is, Option.bind_some]) ?_
        cases isR c with
        | false => exact hj _ rfl
        | true =>
          rw [Bool.true_and, Bool.true_and]
          refine Ev.step (fun k => by rw [record_Check.j0, if_neg (by decide), runs_is, Option.bind_some]) ?_
          by_cases hr : 1 ≤ a ∧ a ≤ 3
          · refine Ev.congr (fun k => by rw [if_pos (decide_eq_true hr)]) ?_
            by_cases hb : b > 0
            · by_cases hc : c > 0
              · rw [decide_eq_true (show 1 ≤ a ∧ a ≤ 6 ∧ (a < 4 → 0 < b ∧ 0 < c) from ⟨hr.1, by omega, fun _ => ⟨hb, hc⟩⟩)]
                exact ev_is (fun k => by rw [if_pos hb, decide_eq_true hc])
              · rw [decide_eq_false (show ¬ (1 ≤ a ∧ a ≤ 6 ∧ (a < 4 → 0 < b ∧ 0 < c)) from fun h => hc (h.2.2 (by omega)).2)]
                exact ev_is (fun k => by rw [if_pos hb, decide_eq_false hc])
            · rw [decide_eq_false (show ¬ (1 ≤ a ∧ a ≤ 6 ∧ (a < 4 → 0 < b ∧ 0 < c)) from fun h => hb (h.2.2 (by omega)).1)]
              exact ev_is (fun k => by rw [if_neg hb])
          · refine Ev.congr (fun k => by rw [if_neg (by simpa using hr)]) ?_
            by_cases h5 : a = 5
            · rw [decide_eq_true (show 1 ≤ a ∧ a ≤ 6 ∧ (a < 4 → 0 < b ∧ 0 < c) from ⟨by omega, by omega, fun h => by omega⟩)]
              exact ev_is (fun k => by rw [if_pos h5])
            · by_cases h6 : a = 6
              · rw [decide_eq_true (show 1 ≤ a ∧ a ≤ 6 ∧ (a < 4 → 0 < b ∧ 0 < c) from ⟨by omega, by omega, fun h => by omega⟩)]
                exact ev_is (fun k => by rw [if_neg h5, h6]; rfl)
              · rw [decide_eq_false (fun h => by omega)]
                exact ev_is (fun k => by rw [if_neg h5]; congr 1; exact beq_eq_false_iff_ne.mpr h6)
theorem put_rec_go : ∀ (l : List Int) (ah : Int) (acc : List Int), (∀ x ∈ l, 0 ≤ x ∧ x < 65535) → 0 ≤ ah → ah < 65535 → acc.length + 9 * l.length ≤ 100000000 → Ev (fun k => record_Put.go k l ah acc) (strOfNums (acc ++ gaps ah l), 0)
  | [], ah, acc, _, _, _, _ => ev_is (fun k => by simp only [record_Put.go, gaps, List.append_nil])
  | x :: r, ah, acc, hx, h0, h1, hl => by
    have hx0 := hx x (List.mem_cons_self ..)
    have h9 := vp_nine (n := x - ah) (by omega)
    rw [List.length_cons] at hl
    simp only [record_Put.go, gaps]
    rw [jw64 (n := x - ah) (by omega) (by omega)]
    refine Ev.bind (put_ev (n := x - ah) (by omega)) ?_
    rw [strOfNums_size, bytesOf_strOfNums (isB_vp _), ← List.append_assoc]
    refine Ev.congr (fun k => by rw [if_pos (by omega)]) ?_
    exact put_rec_go r x _ (fun y hy => hx y (List.mem_cons_of_mem _ hy)) hx0.1 hx0.2 (by rw [List.length_append]; omega)
theorem vps_two (b c : Int) : vps [b, c] = vp b ++ vp c := by
  unfold vps
  simp only [List.flatMap_cons, List.flatMap_nil, List.append_nil]
theorem rec_put_ev (a b c : Int) (l : List Int) (hl : l.length ≤ 100000) : Ev (fun k => record_Put.f k a b c l) (rput a b c l) := by
  unfold record_Put.f rput
  refine Ev.bind (chk_ev a b c l (by omega)) ?_
  by_cases hc : chk a b c l = true
  · simp only [if_pos hc]
    unfold rp
    unfold chk at hc
    by_cases h4 : a = 4
    · simp only [if_pos h4] at hc ⊢
      simp only [Bool.and_eq_true] at hc
      have hbd := rises_bound l (-1) (by omega) hc.2
      have h9 := vp_nine (n := (l.length : Int)) (by omega)
      refine Ev.bind (put_ev (n := (l.length : Int)) (by omega)) ?_
      rw [strOfNums_size, bytesOf_strOfNums (isB_vp _), h4]
      refine Ev.congr (fun k => by rw [if_pos (by omega)]) ?_
      exact put_rec_go l 0 _ hbd (by omega) (by omega) (by simp; omega)
    · simp only [if_neg h4] at hc ⊢
      simp only [isR, Bool.and_eq_true, decide_eq_true_eq] at hc
      have hb9 := vp_nine (n := b) (by omega)
      have hc9 := vp_nine (n := c) (by omega)
      have hbc : ∀ x ∈ [b, c], x < 9223372036854775808 := by
        intro x hx
        rcases List.mem_cons.1 hx with e | e
        · omega
        · rw [List.mem_singleton] at e; omega
      refine Ev.bind (all_ev2 [b, c] (by simp) hbc) ?_
      rw [vps_two, strOfNums_size, bytesOf_strOfNums (isB_append (isB_vp _) (isB_vp _)), show a % 256 = a by omega]
      exact ev_is (fun k => by rw [if_pos (by rw [List.length_append]; omega)])
  · simp only [if_neg hc]
    exact Ev.now _
theorem copied_is (a b c : Int) (l : List Int) (h : l.length ≤ 100000) : merge_copied.f a b c l = some (a, b, c, l) := by
  unfold merge_copied.f
  rw [if_pos (by simp only [List.length_nil]; omega), List.nil_append]
end Go.Proofs.Ytejcopppchaneaa.Pure
end
section
namespace Go.Proofs.Ytejcopppchaneaa.Pure
open Go.RowKit Go.Proofs.YtejcopppchaneaaW.PrintWords Go.Proofs.YtejcopppchaneaaW.PrintLast Go.Proofs.YtejcopppchaneaaW.PrintMore Go.Proofs.Ytejcopppchaneaa.PF
def fewB (l : List S30) : Bool := l.all fun x => decide (x.f3.length ≤ 30)
theorem fewB_get {l : List S30} (h : fewB l = true) : ∀ x ∈ l, x.f3.length ≤ 30 := fun x hx => of_decide_eq_true (List.all_eq_true.1 h x hx)
theorem few_go (l : List S30) (hl : l.length ≤ 1000000) : ∀ (d i : Nat), i + d = l.length → Ev (fun k => juratref27_Few.l0 k l (i : Int)) (fewB (l.drop i)) := by
  intro d
  induction d with
  | zero =>
    intro i h
    rw [List.drop_eq_nil_of_le (by omega)]
    exact ev_add 1 (fun k => by rw [juratref27_Few.l0, if_neg (by omega)]; rfl)
  | succ d ih =>
    intro i h
    have h1 : i < l.length := by omega
    rw [List.drop_eq_getElem_cons h1]
    refine Ev.step (fun k => by rw [juratref27_Few.l0, if_pos (by omega), if_pos (by omega), rdT_get l i h1]) ?_
    rw [show fewB (l[i] :: l.drop (i + 1)) = (decide (l[i].f3.length ≤ 30) && fewB (l.drop (i + 1))) from rfl]
    by_cases h2 : (l[i].f3.length : Int) > 30
    · rw [decide_eq_false (by omega), Bool.false_and]
      exact Ev.congr (fun k => by rw [if_pos h2]) (Ev.now _)
    · rw [decide_eq_true (by omega), Bool.true_and]
      refine Ev.congr (fun k => by rw [if_neg h2, jw64 (by omega) (by omega)]) ?_
      exact_mod_cast ih (i + 1) (by omega)
theorem few_no (l : List S30) (n : Int) (h : (l.length : Int) > n) (k : Nat) : juratref27_Few.f k l n = some false := by
  unfold juratref27_Few.f
  rw [if_pos h]
theorem few_ev (l : List S30) (n : Int) (h : ¬ ((l.length : Int) > n)) (hn : n ≤ 1000) : Ev (fun k => juratref27_Few.f k l n) (fewB l) := by
  unfold juratref27_Few.f
  refine Ev.congr (fun k => by rw [if_neg h]) ?_
  have := few_go l (by omega) l.length 0 (by omega)
  rwa [List.drop_zero] at this
def fp (kind : Int) (b : ByteArray) : ByteArray × Int :=
  if kind < 1 ∨ 127 < kind then ((⟨#[]⟩ : ByteArray), 2) else if 67108864 < b.size then ((⟨#[]⟩ : ByteArray), 5) else (strOfNums [kind] ++ strOfNums (vp b.size) ++ b, 0)
theorem fput_ev (kind : Int) (b : ByteArray) (hb : b.size ≤ 140737488351232) : Ev (fun k => frame_Put.f k kind b) (fp kind b) := by
  unfold fp frame_Put.f
  have hj : ∀ x : Bool, x = true → Ev (fun k => frame_Put.j0 k x kind b) ((⟨#[]⟩ : ByteArray), 2) := by
    rintro x rfl
    exact ev_add 1 (fun k => by rw [frame_Put.j0, if_pos rfl])
  by_cases h1 : kind < 1
  · rw [if_pos (.inl h1)]
    exact Ev.congr (fun k => by rw [if_pos h1]) (hj true rfl)
  · refine Ev.congr (fun k => by rw [if_neg h1]) ?_
    by_cases h2 : 127 < kind
    · rw [if_pos (.inr h2)]
      exact hj _ (by simp; omega)
    · rw [if_neg (by omega)]
      have hd : decide (kind > 127) = false := by simp; omega
      rw [hd]
      refine Ev.step (fun k => by rw [frame_Put.j0, if_neg (by decide)]) ?_
      by_cases h3 : 67108864 < b.size
      · rw [if_pos h3]
        exact ev_is (fun k => by rw [if_pos (by omega)])
      · rw [if_neg h3]
        refine Ev.congr (fun k => by rw [if_neg (by omega), Option.bind_some, show kind % 256 = kind by omega]) ?_
        refine Ev.bind (put_ev (by omega)) ?_
        have h9 := vp_nine (n := (b.size : Int)) (by omega)
        have e1 : (strOfNums [kind]).size + (strOfNums (vp b.size)).size ≤ 9223372036854775807 := by rw [strOfNums_size, strOfNums_size]; simp; omega
        have e2 : (strOfNums [kind] ++ strOfNums (vp b.size)).size + b.size ≤ 9223372036854775807 := by rw [ByteArray.size_append, strOfNums_size, strOfNums_size]; simp; omega
        exact ev_is (fun k => by rw [if_pos e1, if_pos e2])
theorem rfput_ev (kind : Int) (b : ByteArray) (hb : b.size ≤ 140737488351232) : Ev (fun k => juratref04_Put.f k kind b) (fp kind b) := by
  unfold fp juratref04_Put.f
  have hj : ∀ x : Bool, x = true → Ev (fun k => juratref04_Put.j0 k x kind b) ((⟨#[]⟩ : ByteArray), 2) := by
    rintro x rfl
    exact ev_add 1 (fun k => by rw [juratref04_Put.j0, if_pos rfl])
  by_cases h1 : kind < 1
  · rw [if_pos (.inl h1)]
    exact Ev.congr (fun k => by rw [if_pos h1]) (hj true rfl)
  · refine Ev.congr (fun k => by rw [if_neg h1]) ?_
    by_cases h2 : 127 < kind
    · rw [if_pos (.inr h2)]
      exact hj _ (by simp; omega)
    · rw [if_neg (by omega)]
      have hd : decide (kind > 127) = false := by simp; omega
      rw [hd]
      refine Ev.step (fun k => by rw [juratref04_Put.j0, if_neg (by decide)]) ?_
      by_cases h3 : 67108864 < b.size
      · rw [if_pos h3]
        exact ev_is (fun k => by rw [if_pos (by omega)])
      · rw [if_neg h3]
        refine Ev.congr (fun k => by rw [if_neg (by omega), Option.bind_some, show kind % 256 = kind by omega]) ?_
        refine Ev.bind (rput_ev (by omega)) ?_
        have h9 := vp_nine (n := (b.size : Int)) (by omega)
        have e1 : (strOfNums [kind]).size + (strOfNums (vp b.size)).size ≤ 9223372036854775807 := by rw [strOfNums_size, strOfNums_size]; simp; omega
        have e2 : (strOfNums [kind] ++ strOfNums (vp b.size)).size + b.size ≤ 9223372036854775807 := by rw [ByteArray.size_append, strOfNums_size, strOfNums_size]; simp; omega
        exact ev_is (fun k => by rw [if_pos e1, if_pos e2])
def okF (x : Int × ByteArray) : Prop := 1 ≤ x.1 ∧ x.1 ≤ 127 ∧ x.2.size ≤ 67108864
theorem fp_ok {x : Int × ByteArray} (h : okF x) : fp x.1 x.2 = (strOfNums [x.1] ++ strOfNums (vp x.2.size) ++ x.2, 0) := by
  unfold okF at h
  unfold fp
  rw [if_neg (by omega), if_neg (by omega)]
theorem fp_zero {x : Int × ByteArray} (h : (fp x.1 x.2).2 = 0) : okF x := by
  revert h
  unfold fp okF
  split
  · intro h; simp at h
  · split
    · intro h; simp at h
    · intro _; omega
theorem fp_no {x : Int × ByteArray} (h : (fp x.1 x.2).2 ≠ 0) : (fp x.1 x.2).1 = (⟨#[]⟩ : ByteArray) := by
  revert h
  unfold fp
  split
  · intro _; rfl
  · split
    · intro _; rfl
    · intro h; exact absurd rfl h
theorem fp_bytes {x : Int × ByteArray} (h : okF x) : bytesOf (fp x.1 x.2).1 = x.1 :: (vput x.2.size ++ bytesOf x.2) := by
  have hB : IsB [x.1] := by intro y hy; rw [List.mem_singleton] at hy; unfold okF at h; omega
  rw [fp_ok h]
  simp only
  rw [bytesOf_append, bytesOf_append, bytesOf_strOfNums hB, bytesOf_strOfNums (isB_vp _), vp_nat]
  rfl
theorem fp_size (x : Int × ByteArray) : (fp x.1 x.2).1.size ≤ x.2.size + 10 ∨ 1000000 < x.2.size := by
  by_cases h : (fp x.1 x.2).2 = 0
  · have h1 := fp_zero h
    by_cases h2 : 1000000 < x.2.size
    · exact .inr h2
    · refine .inl ?_
      have h3 : (bytesOf (fp x.1 x.2).1).length = (x.1 :: (vput x.2.size ++ bytesOf x.2)).length := by rw [fp_bytes h1]
      rw [bytesOf_length] at h3
      have := vput_nine (n := x.2.size) (by omega)
      simp [bytesOf_length] at h3
      omega
  · refine .inl ?_
    rw [fp_no h]; exact Nat.zero_le _
def mk : ByteArray := ⟨#[99, 101, 114, 116, 1]⟩
def hp (file : ByteArray) : ByteArray × Int := if (fp 1 file).2 = 0 then (mk ++ (fp 1 file).1, 0) else ((⟨#[]⟩ : ByteArray), (fp 1 file).2)
theorem hput_ev (file : ByteArray) (h : file.size ≤ 3000) : Ev (fun k => head_Put.f k file) (hp file) := by
  unfold head_Put.f hp
  refine Ev.bind (fput_ev 1 file (by omega)) ?_
  have := fp_size (1, file)
  simp only at this
  by_cases h0 : (fp 1 file).2 = 0
  · rw [if_pos h0]
    exact ev_is (fun k => by rw [if_pos h0, if_pos (by omega)]; rfl)
  · rw [if_neg h0]
    exact ev_is (fun k => by rw [if_neg h0])
theorem rhput_ev (file : ByteArray) (h : file.size ≤ 3000) : Ev (fun k => juratref29_Put.f k file) (hp file) := by
  unfold juratref29_Put.f hp
  refine Ev.bind (rfput_ev 1 file (by omega)) ?_
  have := fp_size (1, file)
  simp only at this
  by_cases h0 : (fp 1 file).2 = 0
  · rw [if_pos h0]
    exact ev_is (fun k => by rw [if_pos h0, if_pos (by omega)]; rfl)
  · rw [if_neg h0]
    exact ev_is (fun k => by rw [if_neg h0])
theorem hp_ok {file : ByteArray} (h : file.size ≤ 3000) : hp file = (mk ++ (fp 1 file).1, 0) := by
  unfold hp
  rw [if_pos (by rw [fp_ok (x := (1, file)) (by unfold okF; simp only; omega)])]
end Go.Proofs.Ytejcopppchaneaa.Pure
end
section
set_option linter.unusedVariables false
set_option linter.unusedSimpArgs false
namespace Go.Proofs.Ytejcopppchaneaa.PF
open Go.RowKit Go.Proofs.YtejcopppchaneaaW.PrintWords Go.Proofs.YtejcopppchaneaaW.PrintLast Go.Proofs.YtejcopppchaneaaW.PrintMore Go.Proofs.Ytejcopppchaneaa.Pure
def PIs (W : World) (base g : Nat) (s : PS) : Prop := PAt W base g s.m s.has s.last s.ended
set_option maxHeartbeats 16000000 in
set_option maxRecDepth 100000 in
theorem pen_New.calls_ (file : ByteArray) (hz : file.size ≤ 3000) (w : World) :
    Calls Try.prog 25 #[.string file] w fun e w' => ∃ g, e = .returned (.tuple #[.pointer (some ⟨g, 0, none⟩), .string (mk ++ (fp 1 file).1), .int .i64 0]) ∧ w.heap.size ≤ g ∧ PIs w' w.heap.size g penZ ∧ Below w.heap.size w w' := by
  have hu := Try.underlying73
  have h := hput_ev file hz
  rw [hp_ok hz] at h
  obtain ⟨k, hk⟩ := h.rounds
  have HK := Aside0.mk hk
  have HB := Aside0.mk (Below.refl w.heap.size w)
  clear hk h hz
  go_enter Try.func25, Try.ntmps25
  go_upto_region 4 with (first | (go_at_call 40; (refine (head_Put.calls k file (mk ++ (fp 1 file).1) 0 _ HK.out).mono ?_); rintro e w1 ⟨rfl, hb⟩; have BN := Aside0.mk (below_step (by repeat (first | (with_reducible first | exact HB.out | apply below_drew) | exact HB.out)) hb); clear hb HB; have HB := BN; clear BN) | fail)
  go_wp2
  go_ret3
  exact ⟨_, rfl, HB.out.size, ⟨HB.out.size, .slice none 0 0, blk_new _ _, Kd.R_nil _ _ _ _ _⟩, below_alloc HB.out _⟩
set_option maxHeartbeats 16000000 in
set_option maxRecDepth 100000 in
theorem pen_may.calls_ (base g : Nat) (s : PS) (r : S30) (A : Option Addr) (c : Nat) (w : World) (hP : PIs w base g s) (hr : Kd.C (Kd.int .i64) w A r.f3.length r.f3) (hc : r.f3.length ≤ c) (hl : r.f3.length ≤ 100000) (e0 : Int) (he : mayP s r = e0) :
    Calls Try.prog 42 #[.pointer (some ⟨g, 0, none⟩), .agg #[.int .i64 r.f0, .int .i64 r.f1, .int .i64 r.f2, .slice A r.f3.length c]] w fun e w' => e = .returned (.int .i64 e0) ∧ Below w.heap.size w w' := by
  have hu := Try.underlying30
  obtain ⟨m, has, last, ended⟩ := s
  obtain ⟨hg, v, hbk, hR⟩ := hP
  simp only at hbk
  have BG := Aside0.mk hbk
  have HC := Aside0.mk hr
  have HCC := Aside0.mk hc
  obtain ⟨k, hk⟩ := (chk_ev r.f0 r.f1 r.f2 r.f3 (by omega)).rounds
  have HK := Aside0.mk hk
  clear hbk hR hr hc hk hg
  obtain ⟨⟨j4, j5, j6⟩, y5, y6⟩ := cell7 BG.out
  cases ended with
  | true =>
    have he' : e0 = 12 := by rw [← he]; rfl
    subst he'
    clear he
    go_enter Try.func42, Try.ntmps42
    go_wp2_with (first | ((with_reducible refine gate_dst (N := 3) rfl ?_); refine box_event ?hg (N := 3) ?hd (cs := #[.int .i64 r.f0, .int .i64 r.f1, .int .i64 r.f2, .slice A r.f3.length c]) (t := 30) ?hr ?_; (case hd => rfl); (case hg => rfl); (case hr => first | (go_simp; done) | (go_simp; rfl)); intro gr hgr w1 hbox hb1; clear hgr; have HB1 := Aside0.mk hb1; have BG1 := Aside0.mk (blk_below BG.out hb1); have BR1 := Aside0.mk hbox; clear hbox hb1 j4 j5 j6 y5 y6; obtain ⟨⟨j4, j5, j6⟩, y5, y6⟩ := cell7 BG1.out; obtain ⟨⟨k0, k1, k2, k3⟩, z0, z1, z2, z3⟩ := cell4m BR1.out) | fail)
    go_ret
    exact ⟨rfl, HB1.out⟩
  | false =>
    go_enter Try.func42, Try.ntmps42
    cases hch : chk r.f0 r.f1 r.f2 r.f3 with
    | false =>
      have he' : e0 = 2 := by rw [← he]; unfold mayP; rw [if_neg (by simp), if_neg (by rw [hch]; decide)]
      subst he'
      rw [hch] at HK
      clear he hch
      go_wp2_with (first | ((with_reducible refine gate_dst (N := 3) rfl ?_); refine box_event ?hg (N := 3) ?hd (cs := #[.int .i64 r.f0, .int .i64 r.f1, .int .i64 r.f2, .slice A r.f3.length c]) (t := 30) ?hr ?_; (case hd => rfl); (case hg => rfl); (case hr => first | (go_simp; done) | (go_simp; rfl)); intro gr hgr w1 hbox hb1; clear hgr; have HB1 := Aside0.mk hb1; have BG1 := Aside0.mk (blk_below BG.out hb1); have BR1 := Aside0.mk hbox; clear hbox hb1 j4 j5 j6 y5 y6; obtain ⟨⟨j4, j5, j6⟩, y5, y6⟩ := cell7 BG1.out; obtain ⟨⟨k0, k1, k2, k3⟩, z0, z1, z2, z3⟩ := cell4m BR1.out) | (go_at_call 57; (refine (record_Check.calls k r.f0 r.f1 r.f2 A c r.f3 false _ (Kd.C_below HC.out HB1.out) HCC.out HK.out).mono ?_); rintro e w2 ⟨rfl, hb2⟩; have HB2 := Aside0.mk (below_step HB1.out hb2); clear hb2) | fail)
      go_ret
      exact ⟨rfl, HB2.out⟩
    | true =>
      rw [hch] at HK
      have he2 : e0 = if r.f0 = 5 ∧ (last = 0 ∨ last = 5) then 9 else 0 := by rw [← he]; unfold mayP; rw [if_neg (by simp), if_pos hch]
      clear he hch
      go_upto_region 7 with (first | ((with_reducible refine gate_dst (N := 3) rfl ?_); refine box_event ?hg (N := 3) ?hd (cs := #[.int .i64 r.f0, .int .i64 r.f1, .int .i64 r.f2, .slice A r.f3.length c]) (t := 30) ?hr ?_; (case hd => rfl); (case hg => rfl); (case hr => first | (go_simp; done) | (go_simp; rfl)); intro gr hgr w1 hbox hb1; clear hgr; have HB1 := Aside0.mk hb1; have BG1 := Aside0.mk (blk_below BG.out hb1); have BR1 := Aside0.mk hbox; clear hbox hb1 j4 j5 j6 y5 y6; obtain ⟨⟨j4, j5, j6⟩, y5, y6⟩ := cell7 BG1.out; obtain ⟨⟨k0, k1, k2, k3⟩, z0, z1, z2, z3⟩ := cell4m BR1.out) | (go_at_call 57; (refine (record_Check.calls k r.f0 r.f1 r.f2 A c r.f3 true _ (Kd.C_below HC.out HB1.out) HCC.out HK.out).mono ?_); rintro e w2 ⟨rfl, hb2⟩; have HB2 := Aside0.mk (below_step HB1.out hb2); have BG2 := Aside0.mk (blk_below BG1.out hb2); have BR2 := Aside0.mk (blk_below BR1.out hb2); clear hb2 k0 k1 k2 k3 j4 j5 j6 y5 y6; obtain ⟨⟨j4, j5, j6⟩, y5, y6⟩ := cell7 BG2.out; obtain ⟨⟨k0, k1, k2, k3⟩, z0, z1, z2, z3⟩ := cell4m BR2.out) | fail)
      by_cases h5 : r.f0 = 5
      · have d5 : (r.f0 == 5) = true := beq_iff_eq.mpr h5
        by_cases l5 : last = 5
        · have e5 : (last == 5) = true := beq_iff_eq.mpr l5
          rw [if_pos ⟨h5, Or.inr l5⟩] at he2
          subst he2
          clear h5 l5
          go_wp2
          go_ret
          exact ⟨rfl, HB2.out⟩
        · have e5 : (last == 5) = false := beq_eq_false_iff_ne.mpr l5
          by_cases l0 : last = 0
          · have e00 : (last == 0) = true := beq_iff_eq.mpr l0
            rw [if_pos ⟨h5, Or.inl l0⟩] at he2
            subst he2
            clear h5 l5 l0
            go_wp2
            go_ret
            exact ⟨rfl, HB2.out⟩
          · have e00 : (last == 0) = false := beq_eq_false_iff_ne.mpr l0
            rw [if_neg (fun h => h.2.elim l0 l5)] at he2
            subst he2
            clear h5 l5 l0
            go_wp2
            go_ret
            exact ⟨rfl, HB2.out⟩
      · have d5 : (r.f0 == 5) = false := beq_eq_false_iff_ne.mpr h5
        rw [if_neg (fun h => h5 h.1)] at he2
        subst he2
        clear h5
        go_wp2
        go_ret
        exact ⟨rfl, HB2.out⟩
set_option maxHeartbeats 16000000 in
set_option maxRecDepth 100000 in
theorem pen_Ended.calls_ (base g : Nat) (s : PS) (w : World) (hP : PIs w base g s) :
    Calls Try.prog 30 #[.pointer (some ⟨g, 0, none⟩)] w fun e w' => e = .returned (.bool s.ended) ∧ Below w.heap.size w w' := by
  obtain ⟨hg, v, hbk, hR⟩ := hP
  have BG := Aside0.mk hbk
  clear hbk hR hg
  obtain ⟨⟨j4, j5, j6⟩, y5, y6⟩ := cell7 BG.out
  go_enter Try.func30, Try.ntmps30
  go_wp2
  go_ret
  exact ⟨rfl, by repeat (first | exact Below.refl _ _ | apply below_drew)⟩
set_option maxHeartbeats 16000000 in
set_option maxRecDepth 100000 in
theorem pen_Ended.nil_ (w : World) :
    Calls Try.prog 30 #[.pointer none] w fun e w' => e = .returned (.bool false) ∧ Below w.heap.size w w' := by
  go_enter Try.func30, Try.ntmps30
  go_wp2
  go_ret
  exact ⟨rfl, by repeat (first | exact Below.refl _ _ | apply below_drew)⟩
end Go.Proofs.Ytejcopppchaneaa.PF
end
section
set_option linter.unusedVariables false
set_option linter.unusedSimpArgs false
namespace Go.Proofs.Ytejcopppchaneaa.PF
open Go.RowKit Go.Proofs.YtejcopppchaneaaW.PrintWords Go.Proofs.YtejcopppchaneaaW.PrintLast Go.Proofs.YtejcopppchaneaaW.PrintMore Go.Proofs.Ytejcopppchaneaa.Pure
theorem strCells_B {l : List Int} (h : IsB l) : Lib.strCells (strOfNums l) = nums .u8 l := by rw [strCells_nums, bytesOf_strOfNums h]
theorem madd_ev (s : PS) (r : S30) (hs : okR s.m) (hr : okR r) (q : List Int × S30) (hq : mergeP s r = q) :
    ∃ (o : S30) (ok : Bool), Ev (fun k => merge_Add.f k s.m s.has r) (o, ok, q.2, true) ∧ okR o ∧ (ok = false → q.1 = []) ∧ (ok = true → q.1 = wB o) := by
  subst hq
  unfold mergeP merge_Add.f
  have hcp := copied_is r.f0 r.f1 r.f2 r.f3 hr.2.2.2
  by_cases h : s.has = true
  · rw [if_pos h]
    have ht := two_ev s.m r hs hr
    by_cases hc : cmb s.m r = true
    · rw [if_pos hc]
      refine ⟨z30, false, ?_, okR_nul, fun _ => rfl, (fun h => by cases h)⟩
      refine Ev.congr (fun k => by rw [if_neg (by rw [h]; decide)]) ?_
      refine Ev.bind ht ?_
      unfold twoS
      rw [if_pos hc]
      exact ⟨0, fun k _ => by simp only [if_true]; rfl⟩
    · rw [if_neg hc]
      refine ⟨s.m, true, ?_, hs, (fun h => by cases h), fun _ => rfl⟩
      refine Ev.congr (fun k => by rw [if_neg (by rw [h]; decide)]) ?_
      refine Ev.bind ht ?_
      unfold twoS
      rw [if_neg hc]
      exact ⟨0, fun k _ => by simp only [Bool.false_eq_true, if_false]; rw [hcp]; rfl⟩
  · rw [if_neg h]
    refine ⟨z30, false, ?_, okR_nul, fun _ => rfl, (fun h => by cases h)⟩
    have h' : s.has = false := by simpa using h
    exact ⟨0, fun k _ => by simp only [h', if_true]; rw [hcp]; rfl⟩
theorem hold4p {w w' : World} {g gi : Nat} {v0 v1 v2 v3 : Value} (hk : KeepBut w w' g none) (hne : gi ≠ g) (h : w.cell? ⟨gi, 0, none⟩ = some v0 ∧ w.cell? ⟨gi, 1, none⟩ = some v1 ∧ w.cell? ⟨gi, 2, none⟩ = some v2 ∧ w.cell? ⟨gi, 3, none⟩ = some v3) : w'.cell? ⟨gi, 0, none⟩ = some v0 ∧ w'.cell? ⟨gi, 1, none⟩ = some v1 ∧ w'.cell? ⟨gi, 2, none⟩ = some v2 ∧ w'.cell? ⟨gi, 3, none⟩ = some v3 :=
  ⟨keep_cell hk h.1 hne, keep_cell hk h.2.1 hne, keep_cell hk h.2.2.1 hne, keep_cell hk h.2.2.2 hne⟩
theorem PAt.set4 {w : World} {base g b : Nat} {m : S30} {has : Bool} {x : Int} {y : Bool} {a0 a1 a2 a3 a' b' c' d' : Value} {t : TypeId} (h : PAt w base g m has x y) (hg : w.heap[b]? = some (.cells #[a0, a1, a2, a3] t (0, 0))) (ht : t ≠ 73) (ht3 : t ≠ 3) : PAt ((((w.setCell ⟨b, 0, none⟩ a').setCell ⟨b, 1, none⟩ b').setCell ⟨b, 2, none⟩ c').setCell ⟨b, 3, none⟩ d') base g m has x y :=
  h.keep hg ht ht3 (((((KeepBut.refl w b none).set_ 0 a').set_ 1 b').set_ 2 c').set_ 3 d') (fun k hk => by cases hk)
theorem bel4g {B g : Nat} {w W : World} {a' b' c' d' : Value} (h : Below B w W) (hg : B ≤ g) : Below B w ((((W.setCell ⟨g, 0, none⟩ a').setCell ⟨g, 1, none⟩ b').setCell ⟨g, 2, none⟩ c').setCell ⟨g, 3, none⟩ d') :=
  (((h.setCell (p := ⟨g, 0, none⟩) hg a').setCell (p := ⟨g, 1, none⟩) hg b').setCell (p := ⟨g, 2, none⟩) hg c').setCell (p := ⟨g, 3, none⟩) hg d'
set_option maxHeartbeats 16000000 in
set_option maxRecDepth 100000 in
theorem pen_write.calls_ (base B g gb : Nat) (s : PS) (r : S30) (A : Option Addr) (c : Nat) (w : World) (hP : PIs w base g s) (hb : base ≤ w.heap.size) (hgb : B ≤ gb) (hBB : base ≤ B) (hB : w.heap[gb]? = some (.cells #[.pointer none, .slice none 0 0] 81 (0, 0))) (hr : Kd.C (Kd.int .i64) w A r.f3.length r.f3) (hc : r.f3.length ≤ c) (hok : okR r) (hs : okR s.m) (q : List Int × S30) (hq : mergeP s r = q) :
    Calls Try.prog 43 #[.pointer (some ⟨g, 0, none⟩), .pointer (some ⟨gb, 0, none⟩), .agg #[.int .i64 r.f0, .int .i64 r.f1, .int .i64 r.f2, .slice A r.f3.length c]] w fun e w' => e = .returned (.tuple #[]) ∧ PAt w' base g q.2 true s.last s.ended ∧ Lib.IsBuilder 81 5 B gb (nums .u8 q.1) w' ∧ Kept w w' (fun k => k = g ∨ k = gb) ∧ Below base w w' := by
  have hu := Try.underlying30
  obtain ⟨o, ok, hev, hoo, ho1, ho2⟩ := madd_ev s r hs hok q hq
  obtain ⟨k, hk⟩ := hev.rounds
  obtain ⟨k2, hk2⟩ := (rec_put_ev o.f0 o.f1 o.f2 o.f3 hoo.2.2.2).rounds
  have hput := rput_fst o
  generalize rput o.f0 o.f1 o.f2 o.f3 = rr at hk2 hput
  obtain ⟨rr1, rr2⟩ := rr
  simp only at hput
  subst hput
  have HA := Aside0.mk hk
  have HA2 := Aside0.mk hk2
  have HP := Aside0.mk (show PAt w base g s.m s.has s.last s.ended from hP)
  have HBS := Aside0.mk hb
  have HGB := Aside0.mk hgb
  have HBBB := Aside0.mk hBB
  have HBD := Aside0.mk hB
  have HC := Aside0.mk hr
  have HCC := Aside0.mk hc
  have HO1 := Aside0.mk ho1
  have HO2 := Aside0.mk ho2
  have HOO := Aside0.mk hoo
  have HN : Aside0 (gb ≠ g) := ⟨by
    rintro rfl
    obtain ⟨cs, h⟩ := PAt.blk (show PAt w base gb s.m s.has s.last s.ended from hP)
    rw [h] at hB
    injection hB with hB
    injection hB with _ h2
    exact absurd h2 (by decide)⟩
  clear hev hk hk2 hP hb hgb hBB hB hr hc hok hs hq ho1 ho2 hoo
  go_enter Try.func43, Try.ntmps43
  go_upto_region 1 with (first | ((with_reducible refine gate_dst (N := 5) rfl ?_); refine box_event ?hg (N := 5) ?hd (cs := #[.int .i64 r.f0, .int .i64 r.f1, .int .i64 r.f2, .slice A r.f3.length c]) (t := 30) ?hr ?_; (case hd => rfl); (case hg => rfl); (case hr => first | (go_simp; done) | (go_simp; rfl)); intro gi hgi w1 hbox hb1; have GI := Aside0.mk (show w.heap.size ≤ gi by omega); clear hgi; have BI := Aside0.mk hbox; have HB1 := Aside0.mk hb1; clear hbox hb1) | fail)
  have HP1 := Aside0.mk (HP.out.below HB1.out)
  have HBS1 := Aside0.mk (Nat.le_trans HBS.out HB1.out.size)
  have HC1 := Aside0.mk (Kd.C_below HC.out HB1.out)
  have HD1 := Aside0.mk (blk_below HBD.out HB1.out)
  have hni : gi ≠ g := by have h1 := GI.out; have h2 := HP.out.lt; omega
  have hg1 : w1.heap.size ≠ g := by have h2 := HP1.out.lt; omega
  obtain ⟨⟨i0, i1, i2, i3⟩, u0, u1, u2, u3⟩ := cell4m BI.out
  simp only [Act.put, List.setIfInBounds_toArray, List.set_cons_succ, List.set_cons_zero]
  go_cut [6, 7] (fun v6 v7 wx => ∃ (g6 : Nat) (A3 : Option Addr) (c3 : Nat), v6 = .pointer (some ⟨g6, 0, none⟩) ∧ v7 = .bool ok ∧ Aside0 (w1.heap.size ≤ g6) ∧ Aside0 (PAt wx base g q.2 true s.last s.ended) ∧ Aside0 (KeepBut w1 wx g none) ∧ Aside0 (Below base w1 wx) ∧ Aside0 (wx.heap[g6]? = some (.cells #[.int .i64 o.f0, .int .i64 o.f1, .int .i64 o.f2, .slice A3 o.f3.length c3] 30 (0, 0))) ∧ Aside0 (Kd.R (Kd.int .i64) 3 wx base (fun _ => True) (.slice A3 o.f3.length c3) o.f3))
  case first =>
    go_region_held3 (fun w' => w'.cell? ⟨gi, 0, none⟩ = some (.int .i64 r.f0) ∧ w'.cell? ⟨gi, 1, none⟩ = some (.int .i64 r.f1) ∧ w'.cell? ⟨gi, 2, none⟩ = some (.int .i64 r.f2) ∧ w'.cell? ⟨gi, 3, none⟩ = some (.slice A r.f3.length c)) ((refine hold4p ?_ hni ⟨i0, i1, i2, i3⟩; repeat (first | (with_reducible exact KeepBut.refl _ _ _) | (exact KeepBut.trans (by repeat (first | (with_reducible exact KeepBut.refl _ _ _) | apply keep_alloc | apply keep_drew)) hK3 (.inl rfl)) | apply keep_alloc | apply keep_drew | (refine keep_far ?_ (by first | (simp; done) | (have := hK3.1; simp at this ⊢; omega)) _)))) (first | ((go_at_call 58; refine (merge_Add.calls k base g s.last s.ended s.m r s.has A c o ok q.2 true _ (by (with_reducible repeat (first | apply PAt.alloc | apply PAt.drew)); exact HP1.out) (by first | exact HBS1.out | (have := HBS1.out; simp; omega)) (by (with_reducible repeat (first | apply Kd.C_alloc | apply Kd.C_drew)); exact HC1.out) HCC.out HA.out).mono ?_; rintro e w3 ⟨v, rfl, hR3, hP3, hK3, hb3⟩; obtain ⟨A3, cp3, rfl⟩ := Kd.R_slice hR3; (try (have hq_ : KeepBut (w1.alloc (Obj.cells #[.int .i64 0, .int .i64 0, .int .i64 0, .slice none 0 0] 30)).drew w3 g none := (by with_reducible exact hK3); have BQ := Aside0.mk (hq_.blk (blk_drew (blk_new w1 (Obj.cells #[.int .i64 0, .int .i64 0, .int .i64 0, .slice none 0 0] 30))) hg1 (by simp)); obtain ⟨⟨q0, q1, q2, q3⟩, x0, x1, x2, x3⟩ := cell4m BQ.out; have HQK := Aside0.mk (KeepBut.trans (keep_drew (keep_alloc (KeepBut.refl w1 g none) (Obj.cells #[.int .i64 0, .int .i64 0, .int .i64 0, .slice none 0 0] 30))) hq_ (.inl rfl)); clear hq_)))))
    · go_wp2_with fail
      go_meet
      exact ⟨w3.heap.size, A3, cp3, rfl, rfl, ⟨hK3.1⟩, ⟨hP3.alloc _⟩, ⟨keep_alloc (KeepBut.trans (keep_drew (KeepBut.refl w1 g none)) hK3 (.inl rfl)) _⟩, ⟨((below_drew (Below.refl base w1)).trans hb3).alloc (Nat.le_trans HBS1.out hK3.1) _⟩, ⟨blk_new _ _⟩, ⟨Kd.R_alloc hR3 _⟩⟩
    · go_wp2_with fail
      go_meet
      exact ⟨w1.heap.size, A3, cp3, rfl, rfl, ⟨Nat.le_refl _⟩, ⟨hP3.set4 BQ.out (by decide) (by decide)⟩, ⟨keep4_farm HQK.out (Nat.le_refl _)⟩, ⟨bel4g ((below_drew ((Below.refl base w1).alloc HBS1.out _)).trans hb3) HBS1.out⟩, ⟨blk4_putm BQ.out⟩, ⟨row4_putm (by decide) BQ.out hR3⟩⟩
  case rest =>
    obtain ⟨g6, A3, c3, rfl, rfl, HG6, HPx, HKx, HBx, B6, HRx⟩ := hcut
    have HDx := Aside0.mk (HKx.out.blk HD1.out HN.out (by simp))
    have HKw := Aside0.mk ((Kept.of_below HB1.out (fun k => k = g ∨ k = gb)).of_keep HKx.out (.inl (.inl rfl)))
    have HBw := Aside0.mk ((HB1.out.mono HBS.out).trans HBx.out)
    have HSx := Aside0.mk (Nat.le_trans HBS1.out HKx.out.1)
    clear i0 i1 i2 i3 u0 u1 u2 u3 HKx HBx HP1 HBS1 HC1 HD1 hni hg1 BI HA HC HCC HP
    obtain ⟨⟨l0, l1, l2, l3⟩, x0, x1, x2, x3⟩ := cell4m B6.out
    cases ok with
    | false =>
      have hq1 := HO1.out rfl
      go_wp2
      go_end0
      (try rw [hq1])
      exact ⟨rfl, HPx.out, bld_fresh HGB.out HDx.out, HKw.out, HBw.out⟩
    | true =>
      have hq1 := HO2.out rfl
      have HQ1 := Aside0.mk hq1
      clear hq1
      have HRR := Aside0.mk (Kd.R_reads' HRx.out)
      go_upto_region 4 with (first | (go_at_call 45; (refine (record_Put.calls k2 o.f0 o.f1 o.f2 A3 c3 o.f3 (strOfNums (wB o)) rr2 _ HRR.out.2.2 HRR.out.2.1 HA2.out).mono ?_); rintro e w4 ⟨rfl, hb4⟩; have HB4 := Aside0.mk hb4; clear hb4) | fail)
      have HP4 := Aside0.mk (HPx.out.below HB4.out)
      have HD4 := Aside0.mk (blk_below HDx.out HB4.out)
      have HK4 := Aside0.mk (HKw.out.below HB4.out)
      have HBW4 := Aside0.mk (HBw.out.trans (HB4.out.mono HSx.out))
      have HLW := Aside0.mk (wB_len o HOO.out.2.2.2)
      go_wp2_with (first | (go_at_call 46; (refine (bld_first B gb (strOfNums (wB o)) _ HD4.out HGB.out (by rw [strOfNums_size]; have := HLW.out; omega)).mono ?_); rintro e w5 ⟨rfl, hb5, hbl5, hk5⟩; have HB5 := Aside0.mk hb5; have HBL5 := Aside0.mk (HBW4.out.trans (hbl5.mono HBBB.out)); have HK5 := Aside0.mk (HK4.out.of_keep hk5 (.inl (.inr rfl))); have HP5 := Aside0.mk (HP4.out.keep HD4.out (by decide) (by decide) hk5 (fun k hk => by cases hk)); clear hb5 hbl5 hk5) | fail)
      go_end0
      rw [HQ1.out, ← strCells_B (isB_wB o)]
      exact ⟨rfl, HP5.out, HB5.out, HK5.out, HBL5.out⟩
end Go.Proofs.Ytejcopppchaneaa.PF
end
section
set_option linter.unusedVariables false
set_option linter.unusedSimpArgs false
namespace Go.Proofs.Ytejcopppchaneaa.PF
open Go.RowKit Go.Proofs.YtejcopppchaneaaW.PrintWords Go.Proofs.YtejcopppchaneaaW.PrintLast Go.Proofs.YtejcopppchaneaaW.PrintMore Go.Proofs.Ytejcopppchaneaa.Pure
theorem isB_merge (s : PS) (r : S30) : IsB (mergeP s r).1 := by
  unfold mergeP
  by_cases h : s.has = true
  · rw [if_pos h]
    by_cases hc : cmb s.m r = true
    · rw [if_pos hc]; intro x hx; cases hx
    · rw [if_neg hc]; exact isB_wB _
  · rw [if_neg h]; intro x hx; cases hx
theorem len_merge (s : PS) (r : S30) (hs : okR s.m) : (mergeP s r).1.length ≤ 900100 := by
  unfold mergeP
  by_cases h : s.has = true
  · rw [if_pos h]
    by_cases hc : cmb s.m r = true
    · rw [if_pos hc]; simp
    · rw [if_neg hc]; exact wB_len _ hs.2.2.2
  · rw [if_neg h]; simp
theorem PAt.last {w : World} {base g : Nat} {m : S30} {has : Bool} {x : Int} {y : Bool} (h : PAt w base g m has x y) (x' : Int) : PAt (w.setCell ⟨g, 5, none⟩ (.int .i64 x')) base g m has x' y := by
  obtain ⟨h1, v, h2, h3⟩ := h
  exact ⟨h1, v, blk_put (cs := #[.int .i64 m.f0, .int .i64 m.f1, .int .i64 m.f2, v, .bool has, .int .i64 x, .bool y]) h2 5 _ rfl, Kd.R_set h3 h2 (fun q hq => by rw [List.mem_singleton.1 hq]; decide) 5 _⟩
theorem PAt.end_ {w : World} {base g : Nat} {m : S30} {has : Bool} {x : Int} {y : Bool} (h : PAt w base g m has x y) (y' : Bool) : PAt (w.setCell ⟨g, 6, none⟩ (.bool y')) base g m has x y' := by
  obtain ⟨h1, v, h2, h3⟩ := h
  exact ⟨h1, v, blk_put (cs := #[.int .i64 m.f0, .int .i64 m.f1, .int .i64 m.f2, v, .bool has, .int .i64 x, .bool y]) h2 6 _ rfl, Kd.R_set h3 h2 (fun q hq => by rw [List.mem_singleton.1 hq]; decide) 6 _⟩
theorem PAt.cells {w : World} {base g : Nat} {m : S30} {has : Bool} {x : Int} {y : Bool} (h : PAt w base g m has x y) : (w.cell? ⟨g, 4, none⟩ = some (.bool has) ∧ w.cell? ⟨g, 5, none⟩ = some (.int .i64 x) ∧ w.cell? ⟨g, 6, none⟩ = some (.bool y)) ∧ w.frozen? ⟨g, 5, none⟩ = false ∧ w.frozen? ⟨g, 6, none⟩ = false := by
  obtain ⟨h1, v, h2, h3⟩ := h
  exact cell7 h2
theorem keep_of_kept {w w' : World} {g : Nat} (h : Kept w w' (fun k => k = g)) : KeepBut w w' g none := ⟨h.1, fun i hi hg _ => h.2 i hi hg⟩
theorem kept_set {w w' : World} {g : Nat} (h : Kept w w' (fun k => k = g)) (j : Nat) (v : Value) : Kept w (w'.setCell ⟨g, j, none⟩ v) (fun k => k = g) := h.setCell (p := ⟨g, j, none⟩) (.inl rfl) v
theorem kept_add {w w1 w2 : World} {g gb : Nat} (h : Kept w w1 (fun k => k = g)) (k : Kept w1 w2 (fun k => k = g ∨ k = gb)) (hgb : w.heap.size ≤ gb) : Kept w w2 (fun k => k = g) := h.then_ k (fun k hk => hk.imp id (fun e => by rw [e]; exact hgb))
theorem bytes_str (l : List Int) (h : IsB l) : nums .u8 l = Lib.byteCells (l.map fun n => UInt8.ofNat n.toNat) := nums_cells l (fun x hx => by have := h x hx; omega)
set_option maxHeartbeats 16000000 in
set_option maxRecDepth 100000 in
theorem pen_Add.no_ (base g : Nat) (s : PS) (r : S30) (A : Option Addr) (c : Nat) (w : World) (hP : PIs w base g s) (hr : Kd.C (Kd.int .i64) w A r.f3.length r.f3) (hc : r.f3.length ≤ c) (hok : okR r) (e0 : Int) (hm : mayP s r = e0) (he : e0 ≠ 0) :
    Calls Try.prog 27 #[.pointer (some ⟨g, 0, none⟩), .agg #[.int .i64 r.f0, .int .i64 r.f1, .int .i64 r.f2, .slice A r.f3.length c]] w fun e w' => e = .returned (.tuple #[.string ⟨#[]⟩, .int .i64 e0]) ∧ Below w.heap.size w w' := by
  have hu := Try.underlying30
  have HP := Aside0.mk (show PAt w base g s.m s.has s.last s.ended from hP)
  have HC := Aside0.mk hr
  have HCC := Aside0.mk hc
  have HOK := Aside0.mk hok
  have HM := Aside0.mk hm
  have d0 : (e0 != 0) = true := bne_iff_ne.mpr he
  clear hP hr hc hok hm he
  go_enter Try.func27, Try.ntmps27
  go_wp2_with (first | ((with_reducible refine gate_dst (N := 3) rfl ?_); refine box_event ?hg (N := 3) ?hd (cs := #[.int .i64 r.f0, .int .i64 r.f1, .int .i64 r.f2, .slice A r.f3.length c]) (t := 30) ?hr ?_; (case hd => rfl); (case hg => rfl); (case hr => first | (go_simp; done) | (go_simp; rfl)); intro gi hgi w1 hbox hb1; have GI := Aside0.mk (show w.heap.size ≤ gi by omega); clear hgi; have BI := Aside0.mk hbox; have HB1 := Aside0.mk hb1; clear hbox hb1; obtain ⟨⟨i0, i1, i2, i3⟩, u0, u1, u2, u3⟩ := cell4m BI.out) | (go_at_call 42; (refine (pen_may.calls_ base g s r A c _ (HP.out.below HB1.out) (Kd.C_below HC.out HB1.out) HCC.out HOK.out.2.2.2 e0 HM.out).mono ?_); rintro e w2 ⟨rfl, hb2⟩; have HB2 := Aside0.mk (below_step HB1.out hb2); have BI2 := Aside0.mk (blk_below BI.out hb2); clear hb2 i0 i1 i2 i3 u0 u1 u2 u3; obtain ⟨⟨i0, i1, i2, i3⟩, u0, u1, u2, u3⟩ := cell4m BI2.out) | fail)
  go_ret2
  exact ⟨rfl, HB2.out⟩
set_option maxHeartbeats 16000000 in
set_option maxRecDepth 100000 in
theorem pen_Add.ok_ (base g : Nat) (s : PS) (r : S30) (A : Option Addr) (c : Nat) (w : World) (hP : PIs w base g s) (hb : base ≤ w.heap.size) (hrf : Kd.F (Kd.int .i64) w (fun k => k ≠ g) A r.f3.length r.f3) (hc : r.f3.length ≤ c) (hok : okR r) (hs : okR s.m) (hm : mayP s r = 0) (p : List Int × PS) (hp : addP s r = p) :
    Calls Try.prog 27 #[.pointer (some ⟨g, 0, none⟩), .agg #[.int .i64 r.f0, .int .i64 r.f1, .int .i64 r.f2, .slice A r.f3.length c]] w fun e w' => e = .returned (.tuple #[.string (strOfNums p.1), .int .i64 0]) ∧ PIs w' base g p.2 ∧ KeepBut w w' g none ∧ Below base w w' := by
  have hr := Kd.F_now hrf
  have HRF := Aside0.mk hrf
  have hu := Try.underlying30
  have HP := Aside0.mk (show PAt w base g s.m s.has s.last s.ended from hP)
  have HC := Aside0.mk hr
  have HCC := Aside0.mk hc
  have HOK := Aside0.mk hok
  have HM := Aside0.mk hm
  have HBS := Aside0.mk hb
  have HSM := Aside0.mk hs
  have HISB := Aside0.mk (isB_merge s r)
  have HLEN := Aside0.mk (len_merge s r hs)
  have HMOK := Aside0.mk (mergeP_ok hs hok)
  unfold addP at hp
  obtain ⟨q, hq⟩ : ∃ q, mergeP s r = q := ⟨_, rfl⟩
  rw [hq] at hp HISB HLEN HMOK
  have HQ : Aside0 (mergeP ⟨s.m, s.has, r.f0, s.ended⟩ r = q) := ⟨hq⟩
  have HPP := Aside0.mk hp
  clear hP hr hrf hc hok hm hb hs hq hp
  go_enter Try.func27, Try.ntmps27
  go_upto_region 4 with (first | ((with_reducible refine gate_dst (N := 3) rfl ?_); refine box_event ?hg (N := 3) ?hd (cs := #[.int .i64 r.f0, .int .i64 r.f1, .int .i64 r.f2, .slice A r.f3.length c]) (t := 30) ?hr ?_; (case hd => rfl); (case hg => rfl); (case hr => first | (go_simp; done) | (go_simp; rfl)); intro gi hgi w1 hbox hb1; have GI := Aside0.mk (show w.heap.size ≤ gi by omega); clear hgi; have BI := Aside0.mk hbox; have HB1 := Aside0.mk hb1; clear hbox hb1; obtain ⟨⟨i0, i1, i2, i3⟩, u0, u1, u2, u3⟩ := cell4m BI.out) | (go_at_call 42; (refine (pen_may.calls_ base g s r A c _ (HP.out.below HB1.out) (Kd.C_below HC.out HB1.out) HCC.out HOK.out.2.2.2 0 HM.out).mono ?_); rintro e w2 ⟨rfl, hb2⟩; have HB2 := Aside0.mk (below_step HB1.out hb2); have BI2 := Aside0.mk (blk_below BI.out hb2); clear hb2 i0 i1 i2 i3 u0 u1 u2 u3; obtain ⟨⟨i0, i1, i2, i3⟩, u0, u1, u2, u3⟩ := cell4m BI2.out) | fail)
  have HP2 := Aside0.mk (HP.out.below HB2.out)
  have NIG : Aside0 (gi ≠ g) := ⟨by have h1 := GI.out; have h2 := HP.out.lt; omega⟩
  obtain ⟨⟨j4, j5, j6⟩, y5, y6⟩ := HP2.out.cells
  go_upto_region 5 with fail
  have HP3 := Aside0.mk (HP2.out.last r.f0)
  have HK3 := Aside0.mk (kept_set (Kept.of_below HB2.out (fun k => k = g)) 5 (.int .i64 r.f0))
  have HW3 := Aside0.mk ((HB2.out.mono HBS.out).setCell (p := ⟨g, 5, none⟩) HP.out.1 (.int .i64 r.f0))
  have BI3 := Aside0.mk (blk_far (p := ⟨g, 5, none⟩) BI2.out NIG.out (.int .i64 r.f0))
  have HRK := Aside0.mk (HK3.out)
  clear HP2 j4 j5 j6 y5 y6 i0 i1 i2 i3 u0 u1 u2 u3 BI2 BI HB1
  generalize w2.setCell ⟨g, 5, none⟩ (.int .i64 r.f0) = w3 at HP3 HK3 HW3 BI3 HRK ⊢
  have HS3 := Aside0.mk (Nat.le_trans HBS.out HK3.out.1)
  have HS3w := Aside0.mk HK3.out.1
  have LIB := Aside0.mk (blk_lt BI3.out)
  clear HRK
  obtain ⟨⟨i0, i1, i2, i3⟩, u0, u1, u2, u3⟩ := cell4m BI3.out
  go_upto_region 6 with (first | ((with_reducible refine gate_dst (N := 7) rfl ?_); refine box_event ?hg (N := 7) ?hd (cs := #[.pointer none, .slice none 0 0]) (t := 81) ?hr ?_; (case hd => rfl); (case hg => rfl); (case hr => first | (go_simp; done) | (go_simp; rfl)); intro gb hgb w4 hbox hb4; have GB := Aside0.mk (show w3.heap.size ≤ gb by omega); clear hgb; have BB := Aside0.mk hbox; have HP4 := Aside0.mk (HP3.out.below hb4); have HK4 := Aside0.mk (HK3.out.below hb4); have HW4 := Aside0.mk (HW3.out.trans (hb4.mono HS3.out)); have BI4 := Aside0.mk (blk_below BI3.out hb4); have HS4 := Aside0.mk (Nat.le_trans HS3.out hb4.size); clear hbox hb4 i0 i1 i2 i3 u0 u1 u2 u3; obtain ⟨⟨i0, i1, i2, i3⟩, u0, u1, u2, u3⟩ := cell4m BI4.out) | fail)
  have HRB : Aside0 (Kd.C (Kd.int .i64) w4 A r.f3.length r.f3) := ⟨Kd.F_now (Kd.F_kept HRF.out HK4.out (fun _ hk h => hk h))⟩
  go_upto_region 7 with (first | (go_at_call 43; (refine (pen_write.calls_ base w.heap.size g gb ⟨s.m, s.has, r.f0, s.ended⟩ r A c _ HP4.out HS4.out (Nat.le_trans HS3w.out GB.out) HBS.out BB.out HRB.out HCC.out HOK.out HSM.out q HQ.out).mono ?_); rintro e w5 ⟨rfl, hp5, hbd5, hk5, hb5⟩; have HP5 := Aside0.mk hp5; have HD5 := Aside0.mk hbd5; have HK5 := Aside0.mk (kept_add HK4.out hk5 (Nat.le_trans HS3w.out GB.out)); have HW5 := Aside0.mk (HW4.out.trans hb5); have BI5 := Aside0.mk (blk_kept BI4.out hk5 (fun h => h.elim NIG.out (fun h => by have h1 := GB.out; have h2 := LIB.out; omega))); have HS5 := Aside0.mk (Nat.le_trans HS4.out hk5.1); clear hp5 hbd5 hk5 hb5 i0 i1 i2 i3 u0 u1 u2 u3; obtain ⟨⟨i0, i1, i2, i3⟩, u0, u1, u2, u3⟩ := cell4m BI5.out) | fail)
  have HP5' : Aside0 (PAt w5 base g q.2 true r.f0 s.ended) := HP5
  have HGBw : Aside0 (w.heap.size ≤ gb) := ⟨Nat.le_trans HS3w.out GB.out⟩
  have HPP2 := HPP
  clear HPP
  by_cases h6 : r.f0 = 6
  · have d6 : (r.f0 == 6) = true := beq_iff_eq.mpr h6
    have hpp := HPP2.out
    rw [if_pos h6] at hpp
    have HPX := Aside0.mk hpp
    rw [h6] at HP5'
    clear hpp h6 HPP2 HP5
    obtain ⟨k2, hk2⟩ := (rec_put_ev q.2.f0 q.2.f1 q.2.f2 q.2.f3 HMOK.out.2.2.2).rounds
    have hput := rput_fst q.2
    generalize rput q.2.f0 q.2.f1 q.2.f2 q.2.f3 = rr at hk2 hput
    obtain ⟨rr1, rr2⟩ := rr
    simp only at hput
    subst hput
    have HA2 := Aside0.mk hk2
    clear hk2
    obtain ⟨⟨j4, j5, j6⟩, y5, y6⟩ := HP5'.out.cells
    go_upto_region 9 with fail
    have HP6 := Aside0.mk (HP5'.out.end_ true)
    have HK6 := Aside0.mk (kept_set HK5.out 6 (.bool true))
    have HW6 := Aside0.mk (HW5.out.setCell (p := ⟨g, 6, none⟩) HP5'.out.1 (.bool true))
    have HD6 := Aside0.mk (bld_keep HD5.out HP5'.out.blk.choose_spec (by decide) (by decide) ((KeepBut.refl w5 g none).set_ 6 (.bool true)))
    have HS6 := Aside0.mk (Nat.le_trans HBS.out HK6.out.1)
    clear HP5' HK5 HW5 HD5 HS5 BI5 j4 j5 j6 y5 y6 i0 i1 i2 i3 u0 u1 u2 u3
    generalize w5.setCell ⟨g, 6, none⟩ (.bool true) = w6 at HP6 HK6 HW6 HD6 HS6 ⊢
    go_upto_region 10 with (first | (go_at_call 44; (refine (merge_Flush.calls base g 6 true q.2 true q.2 true z30 false _ HP6.out HS6.out rfl).mono ?_); rintro e w7 ⟨v7, rfl, hR7, hP7, hK7, hb7⟩; obtain ⟨A7, c7, rfl⟩ := Kd.R_slice hR7; have R7 := Aside0.mk hR7; have HP7 := Aside0.mk hP7; have HK7 := Aside0.mk (HK6.out.of_keep hK7 (.inl rfl)); have HW7 := Aside0.mk (HW6.out.trans hb7); have HD7 := Aside0.mk (bld_keep HD6.out HP6.out.blk.choose_spec (by decide) (by decide) hK7); clear hR7 hP7 hK7 hb7) | fail)
    have R8 := Aside0.mk (Kd.R_alloc R7.out (.cells #[.int .i64 q.2.f0, .int .i64 q.2.f1, .int .i64 q.2.f2, .slice A7 q.2.f3.length c7] 30))
    have HP8 := Aside0.mk (HP7.out.alloc (.cells #[.int .i64 q.2.f0, .int .i64 q.2.f1, .int .i64 q.2.f2, .slice A7 q.2.f3.length c7] 30))
    have HK8 := Aside0.mk (HK7.out.alloc (.cells #[.int .i64 q.2.f0, .int .i64 q.2.f1, .int .i64 q.2.f2, .slice A7 q.2.f3.length c7] 30))
    have HW8 := Aside0.mk (HW7.out.alloc (Nat.le_trans HBS.out HK7.out.1) (.cells #[.int .i64 q.2.f0, .int .i64 q.2.f1, .int .i64 q.2.f2, .slice A7 q.2.f3.length c7] 30))
    have HD8 := Aside0.mk (bld_below HD7.out (below_alloc (Below.refl _ _) (.cells #[.int .i64 q.2.f0, .int .i64 q.2.f1, .int .i64 q.2.f2, .slice A7 q.2.f3.length c7] 30)))
    have B8 := Aside0.mk (blk_new w7 (.cells #[.int .i64 q.2.f0, .int .i64 q.2.f1, .int .i64 q.2.f2, .slice A7 q.2.f3.length c7] 30))
    clear R7 HP7 HK7 HW7 HD7 HP6 HK6 HW6 HD6
    generalize w7.alloc (.cells #[.int .i64 q.2.f0, .int .i64 q.2.f1, .int .i64 q.2.f2, .slice A7 q.2.f3.length c7] 30) = w8 at R8 HP8 HK8 HW8 HD8 B8 ⊢
    generalize w7.heap.size = g8 at B8 ⊢
    have HS8 := Aside0.mk (Nat.le_trans HBS.out HK8.out.1)
    have HRR := Aside0.mk (Kd.R_reads' R8.out)
    obtain ⟨⟨l0, l1, l2, l3⟩, x0, x1, x2, x3⟩ := cell4m B8.out
    go_upto_region 12 with (first | (go_at_call 45; (refine (record_Put.calls k2 q.2.f0 q.2.f1 q.2.f2 A7 c7 q.2.f3 (strOfNums (wB q.2)) rr2 _ HRR.out.2.2 HRR.out.2.1 HA2.out).mono ?_); rintro e w9 ⟨rfl, hb9⟩; have HP9 := Aside0.mk (HP8.out.below hb9); have HK9 := Aside0.mk (HK8.out.below hb9); have HW9 := Aside0.mk (HW8.out.trans (hb9.mono HS8.out)); have HD9 := Aside0.mk (bld_below HD8.out hb9); have HS9 := Aside0.mk (Nat.le_trans HS8.out hb9.size); clear hb9 l0 l1 l2 l3 x0 x1 x2 x3) | fail)
    have HLW := Aside0.mk (wB_len q.2 HMOK.out.2.2.2)
    go_upto_region 13 with (first | (go_at_call 46; (refine (bld_more w.heap.size gb (nums .u8 q.1) (strOfNums (wB q.2)) _ HD9.out (by rw [strOfNums_size]; have h1 := HLW.out; have h2 := HLEN.out; simp only [nums, List.length_map]; omega) HK9.out.1).mono ?_); rintro e w10 ⟨rfl, hd10, hb10, row, hk10, hr10⟩; have HD10 := Aside0.mk hd10; have HW10 := Aside0.mk (HW9.out.trans (hb10.mono HBS.out)); have HP10 := Aside0.mk (HP9.out.keep (bld_blk HD9.out).choose_spec (by decide) (by decide) hk10 hr10); have HK10 := Aside0.mk (kept_low HK9.out hb10); clear hd10 hb10 hk10 hr10) | fail)
    obtain ⟨L, hL⟩ : ∃ L, L = q.1 ++ wB q.2 := ⟨_, rfl⟩
    have HLX := Aside0.mk hL
    have HDX : Aside0 (Lib.IsBuilder 81 5 w.heap.size gb (Lib.byteCells (L.map fun n => UInt8.ofNat n.toNat)) w10) := ⟨by
      rw [hL, ← bytes_str _ (isB_append HISB.out (isB_wB q.2)), nums_append, ← strCells_B (isB_wB q.2)]
      exact HD10.out⟩
    clear hL
    go_wp2_with (first | (go_at_call 47; (refine (bld_string w.heap.size gb _ w10 HDX.out HK10.out.1).mono ?_); rintro e w11 ⟨rfl, hb11, ho11⟩; have HB11 := Aside0.mk hb11; have HO11 := Aside0.mk ho11; clear hb11 ho11) | fail)
    go_ret2
    rw [← HPX.out]
    have hL := HLX.out
    subst hL
    exact ⟨rfl, HP10.out.others (bld_blk HDX.out).choose_spec HO11.out, keep_of_kept (kept_low HK10.out HB11.out), HW10.out.trans (HB11.out.mono HBS.out)⟩
  · have d6 : (r.f0 == 6) = false := beq_eq_false_iff_ne.mpr h6
    have hpp := HPP2.out
    rw [if_neg h6] at hpp
    have HPX := Aside0.mk hpp
    clear hpp h6 HPP2
    have HDX : Aside0 (Lib.IsBuilder 81 5 w.heap.size gb (Lib.byteCells (q.1.map fun n => UInt8.ofNat n.toNat)) w5) := ⟨by
      rw [← bytes_str _ HISB.out]
      exact HD5.out⟩
    go_wp2_with (first | (go_at_call 47; (refine (bld_string w.heap.size gb _ w5 HDX.out HK5.out.1).mono ?_); rintro e w11 ⟨rfl, hb11, ho11⟩; have HB11 := Aside0.mk hb11; have HO11 := Aside0.mk ho11; clear hb11 ho11) | fail)
    go_ret2
    rw [← HPX.out]
    exact ⟨rfl, HP5'.out.others (bld_blk HDX.out).choose_spec HO11.out, keep_of_kept (kept_low HK5.out HB11.out), HW5.out.trans (HB11.out.mono HBS.out)⟩
end Go.Proofs.Ytejcopppchaneaa.PF
end
section
set_option linter.unusedVariables false
set_option linter.unusedSimpArgs false
namespace Go.Proofs.Ytejcopppchaneaa.PF
open Go.RowKit Go.Proofs.YtejcopppchaneaaW.PrintWords Go.Proofs.YtejcopppchaneaaW.PrintLast Go.Proofs.YtejcopppchaneaaW.PrintMore Go.Proofs.Ytejcopppchaneaa.Pure
set_option maxHeartbeats 16000000 in
set_option maxRecDepth 100000 in
theorem pen_may.nil_ (r : S30) (A : Option Addr) (c : Nat) (w : World) :
    Calls Try.prog 42 #[.pointer none, .agg #[.int .i64 r.f0, .int .i64 r.f1, .int .i64 r.f2, .slice A r.f3.length c]] w fun e w' => e = .returned (.int .i64 1) ∧ Below w.heap.size w w' := by
  have hu := Try.underlying30
  go_enter Try.func42, Try.ntmps42
  go_wp2_with (first | ((with_reducible refine gate_dst (N := 3) rfl ?_); refine box_event ?hg (N := 3) ?hd (cs := #[.int .i64 r.f0, .int .i64 r.f1, .int .i64 r.f2, .slice A r.f3.length c]) (t := 30) ?hr ?_; (case hd => rfl); (case hg => rfl); (case hr => first | (go_simp; done) | (go_simp; rfl)); intro gi hgi w1 hbox hb1; clear hgi; have BI := Aside0.mk hbox; have HB1 := Aside0.mk hb1; clear hbox hb1; obtain ⟨⟨i0, i1, i2, i3⟩, u0, u1, u2, u3⟩ := cell4m BI.out) | fail)
  go_ret
  exact ⟨rfl, HB1.out⟩
set_option maxHeartbeats 16000000 in
set_option maxRecDepth 100000 in
theorem pen_Add.nil_ (r : S30) (A : Option Addr) (c : Nat) (w : World) :
    Calls Try.prog 27 #[.pointer none, .agg #[.int .i64 r.f0, .int .i64 r.f1, .int .i64 r.f2, .slice A r.f3.length c]] w fun e w' => e = .returned (.tuple #[.string ⟨#[]⟩, .int .i64 1]) ∧ Below w.heap.size w w' := by
  have hu := Try.underlying30
  go_enter Try.func27, Try.ntmps27
  go_wp2_with (first | ((with_reducible refine gate_dst (N := 3) rfl ?_); refine box_event ?hg (N := 3) ?hd (cs := #[.int .i64 r.f0, .int .i64 r.f1, .int .i64 r.f2, .slice A r.f3.length c]) (t := 30) ?hr ?_; (case hd => rfl); (case hg => rfl); (case hr => first | (go_simp; done) | (go_simp; rfl)); intro gi hgi w1 hbox hb1; clear hgi; have BI := Aside0.mk hbox; have HB1 := Aside0.mk hb1; clear hbox hb1; obtain ⟨⟨i0, i1, i2, i3⟩, u0, u1, u2, u3⟩ := cell4m BI.out) | (go_at_call 42; (refine (pen_may.nil_ r A c _).mono ?_); rintro e w2 ⟨rfl, hb2⟩; have HB2 := Aside0.mk (below_step HB1.out hb2); clear hb2) | fail)
  go_ret2
  exact ⟨rfl, HB2.out⟩
theorem isB_add (s : PS) (r : S30) : IsB (addP s r).1 := by
  unfold addP
  by_cases h : r.f0 = 6
  · rw [if_pos h]; exact isB_append (isB_merge s r) (isB_wB _)
  · rw [if_neg h]; exact isB_merge s r
theorem len_add (s : PS) (r : S30) (hs : okR s.m) (hr : okR r) : (addP s r).1.length ≤ 1800200 := by
  unfold addP
  by_cases h : r.f0 = 6
  · rw [if_pos h, List.length_append]
    have h1 := len_merge s r hs
    have h2 := wB_len (mergeP s r).2 (mergeP_ok hs hr).2.2.2
    omega
  · rw [if_neg h]
    have h1 := len_merge s r hs
    simp only
    omega
theorem last_add (s : PS) (r : S30) : (addP s r).2.last = r.f0 := by
  unfold addP
  by_cases h : r.f0 = 6
  · rw [if_pos h, h]
  · rw [if_neg h]
theorem take_snoc (l : List S30) (i : Nat) (h : i < l.length) : l.take (i + 1) = l.take i ++ [l[i]] := by rw [List.take_add_one, List.getElem?_eq_getElem h]; rfl
theorem row_F {w0 w : World} {A : Option Addr} {n g : Nat} {xs : List Int} (h : Kd.C (Kd.int .i64) w0 A n xs) (hb : Below w0.heap.size w0 w) (hg : w0.heap.size ≤ g) : Kd.F (Kd.int .i64) w (fun k => k ≠ g) A n xs :=
  Kd.F_mono (Kd.F_step (Kd.C_F (Kd.heap_int .i64) h) (fun k hk _ => hb.block k hk)) (fun k hk => by omega)
theorem wholeS_ok' (hd : ByteArray) (l : List S30) (hg : goW 0 l = 0) : wholeS hd l = (hd ++ strOfNums (toldL (mgS l)), 0) := by
  unfold wholeS finW
  rw [if_pos hg]
theorem ms_zero : toldL (mgS ([] : List S30)) = [] := rfl
set_option maxHeartbeats 16000000 in
set_option maxRecDepth 100000 in
theorem pen_Whole.calls_ (file : ByteArray) (hz : file.size ≤ 3000) (l : List S30) (A : Option Addr) (c : Nat) (w : World) (hA : Kd.C k30 w A l.length l) (hc : l.length ≤ c) (hok : ∀ x ∈ l, okR x) (hl : l.length ≤ 1000) (p : ByteArray × Int) (hp : wholeS (mk ++ (fp 1 file).1) l = p) :
    Calls Try.prog 32 #[.string file, .slice A l.length c] w fun e w' => e = .returned (.tuple #[.string p.1, .int .i64 p.2]) ∧ Below w.heap.size w w' := by
  have hu := Try.underlying30
  have hhd : (mk ++ (fp 1 file).1).size ≤ 4000 := by
    have h1 := fp_size (1, file)
    simp only at h1
    have h2 : mk.size = 5 := rfl
    rw [ByteArray.size_append]
    omega
  have HHD := Aside0.mk hhd
  have HZ := Aside0.mk hz
  have HA := Aside0.mk hA
  have HCC := Aside0.mk hc
  have HOK := Aside0.mk hok
  have HL := Aside0.mk hl
  have HPP := Aside0.mk hp
  clear hhd hz hA hc hok hl hp
  go_enter Try.func32, Try.ntmps32
  go_upto_region 4 with (first | (go_at_call 25; (refine (pen_New.calls_ file HZ.out _).mono ?_); rintro e1 w1 ⟨g, rfl, hg, hp1, hb1⟩; have HG := Aside0.mk hg; have HP1 := Aside0.mk hp1; have HB1 := Aside0.mk hb1; clear hg hp1 hb1) | fail)
  go_upto_region 5 with (first | ((with_reducible refine gate_dst (N := 9) rfl ?_); refine box_event ?hg (N := 9) ?hd (cs := #[.pointer none, .slice none 0 0]) (t := 81) ?hr ?_; (case hd => rfl); (case hg => rfl); (case hr => first | (go_simp; done) | (go_simp; rfl)); intro gb hgb w2 hbox hb2; have GB := Aside0.mk (show w.heap.size ≤ gb by have := HB1.out.size; omega); clear hgb; have BB := Aside0.mk hbox; have HP2 := Aside0.mk (HP1.out.below hb2); have HB2 := Aside0.mk (below_step HB1.out hb2); clear hbox hb2) | fail)
  go_wp2_with (first | (go_at_call 46; (refine (bld_first w.heap.size gb (mk ++ (fp 1 file).1) _ BB.out GB.out (by have := HHD.out; omega)).mono ?_); rintro e3 w3 ⟨rfl, hd3, hb3, hk3⟩; rw [strCells_nums] at hd3; have HD3 := Aside0.mk hd3; have HB3 := Aside0.mk (HB2.out.trans hb3); have HP3 := Aside0.mk (HP2.out.keep BB.out (by decide) (by decide) hk3 (fun k hk => by cases hk)); clear hd3 hb3 hk3) | fail)
  have HG0 : Aside0 (goW 0 l = goW penZ.last (l.drop 0)) := ⟨rfl⟩
  have HD3' : Aside0 (Lib.IsBuilder 81 5 w.heap.size gb (nums .u8 (bytesOf (mk ++ (fp 1 file).1) ++ toldL (mgS (l.take 0)))) w3) := ⟨by rw [List.take_zero, ms_zero, List.append_nil]; exact HD3.out⟩
  go_loopg [27] (l.length + 1) (fun kq v27 wr => ∃ (i : Nat) (s : PS), v27 = .int .i64 (i : Int) ∧ Aside0 (i ≤ l.length ∧ l.length < kq + i) ∧ Aside0 (PRel s (l.take i)) ∧ Aside0 (goW 0 l = goW s.last (l.drop i)) ∧ Aside0 (PAt wr w.heap.size g s.m s.has s.last s.ended) ∧ Aside0 (Lib.IsBuilder 81 5 w.heap.size gb (nums .u8 (bytesOf (mk ++ (fp 1 file).1) ++ toldL (mgS (l.take i)))) wr) ∧ Aside0 (Below w.heap.size w wr))
  case atStart => exact ⟨0, penZ, rfl, ⟨by omega, by omega⟩, ⟨by rw [List.take_zero]; exact prel_zero⟩, HG0, HP3, HD3', HB3⟩
  case round =>
    clear HG0 HP3 HD3 HD3' HB3 HP1 HB1 HP2 HB2 BB
    obtain ⟨i, s, rfl, HK, HPR, HGW, HP, HD, HB⟩ := hrel
    cases gk with
    | zero => exact absurd HK.out (by omega)
    | succ k1 =>
      by_cases hi : i < l.length
      · have c0 : decide ((i : Int) < (l.length : Int)) = true := decide_eq_true (by omega)
        have c1n : decide (i < l.length) = true := decide_eq_true hi
        have hiT := eq_true hi
        have HIL := Aside0.mk hi
        have p1 := eq_true (show (0 : Int) ≤ (i : Int) by omega)
        have q1 := eq_true (show (i : Int) < (l.length : Int) by omega)
        obtain ⟨ad, A3, c3, eA, hx0, hx1, hx2, hx3, hl3, hi3⟩ := at_T30 HA.out (i : Int) (by omega) (by omega)
        rw [rdT_get l i hi] at hx0 hx1 hx2 hx3 hl3 hi3
        subst eA
        simp only [Int.toNat_natCast] at hx0 hx1 hx2 hx3
        replace hx0 := pw_cell_below HB.out hx0
        replace hx1 := pw_cell_below HB.out hx1
        replace hx2 := pw_cell_below HB.out hx2
        replace hx3 := pw_cell_below HB.out hx3
        have HOI := Aside0.mk (HOK.out l[i] (List.getElem_mem hi))
        have HL4 := Aside0.mk hl3
        have HI3 := Aside0.mk hi3
        have HTS := Aside0.mk (take_snoc l i hi)
        have HDC := Aside0.mk (List.drop_eq_getElem_cons hi)
        clear hl3 hi3
        go_upto_region 9 with fail
        have HP4 := Aside0.mk (HP.out.alloc (.cells #[.int .i64 l[i].f0, .int .i64 l[i].f1, .int .i64 l[i].f2, .slice A3 l[i].f3.length c3] 30))
        have HB4 := Aside0.mk (below_alloc HB.out (.cells #[.int .i64 l[i].f0, .int .i64 l[i].f1, .int .i64 l[i].f2, .slice A3 l[i].f3.length c3] 30))
        have HD4 := Aside0.mk (bld_below HD.out (below_alloc (Below.refl _ _) (.cells #[.int .i64 l[i].f0, .int .i64 l[i].f1, .int .i64 l[i].f2, .slice A3 l[i].f3.length c3] 30)))
        have B4 := Aside0.mk (blk_new wr (.cells #[.int .i64 l[i].f0, .int .i64 l[i].f1, .int .i64 l[i].f2, .slice A3 l[i].f3.length c3] 30))
        clear HP HB HD hx0 hx1 hx2 hx3
        generalize wr.alloc (.cells #[.int .i64 l[i].f0, .int .i64 l[i].f1, .int .i64 l[i].f2, .slice A3 l[i].f3.length c3] 30) = w4 at HP4 HB4 HD4 B4 ⊢
        generalize wr.heap.size = g4 at B4 ⊢
        obtain ⟨⟨k0, k1', k2, k3⟩, z0, z1, z2, z3⟩ := cell4m B4.out
        have HF4 := Aside0.mk (row_F HI3.out HB4.out HG.out)
        have HC4 := Aside0.mk (Kd.F_now HF4.out)
        obtain ⟨e0, he0⟩ : ∃ e0, mayP s l[i] = e0 := ⟨_, rfl⟩
        have HME := Aside0.mk (mayP_is HPR.out l[i])
        by_cases hz : e0 = 0
        · subst hz
          have HM := Aside0.mk he0
          obtain ⟨p2, hp2⟩ : ∃ p2, addP s l[i] = p2 := ⟨_, rfl⟩
          have HAP := Aside0.mk hp2
          have hst := prel_step HPR.out l[i] HOI.out he0
          rw [hp2] at hst
          have HST := Aside0.mk hst
          have hib := isB_add s l[i]
          rw [hp2] at hib
          have HIB := Aside0.mk hib
          have HLY : Aside0 (p2.1.length ≤ 1800200) := ⟨by rw [← hp2]; exact len_add s l[i] HPR.out.ok HOI.out⟩
          have HLA : Aside0 (p2.2.last = l[i].f0) := ⟨by rw [← hp2]; exact last_add s l[i]⟩
          have HLX : Aside0 ((bytesOf (mk ++ (fp 1 file).1) ++ toldL (mgS (l.take i))).length ≤ 1000000000) := ⟨by
            rw [List.length_append, bytesOf_length]
            have h1 := HHD.out
            have h2 := told_len (mgS (l.take i)) (okR_all _ (fun x hx => HOK.out x (List.mem_of_mem_take hx)))
            have h3 := len_all (l.take i)
            have h4 : (l.take i).length ≤ 1000 := by rw [List.length_take]; have := HL.out; omega
            omega⟩
          clear he0 hst hib hp2
          go_upto_region 12 with (first | (go_at_call 27; (refine (pen_Add.ok_ w.heap.size g s l[i] A3 c3 _ HP4.out HB4.out.size HF4.out HL4.out HOI.out HPR.out.ok HM.out p2 HAP.out).mono ?_); rintro e5 w5 ⟨rfl, hp5, hk5, hb5⟩; have HP5 := Aside0.mk hp5; have HB5 := Aside0.mk (HB4.out.trans hb5); have HD5 := Aside0.mk (bld_keep HD4.out (PAt.blk HP4.out).choose_spec (by decide) (by decide) hk5); clear hp5 hk5 hb5) | fail)
          go_wp2_with (first | (go_at_call 46; (refine (bld_more w.heap.size gb (nums .u8 (bytesOf (mk ++ (fp 1 file).1) ++ toldL (mgS (l.take i)))) (strOfNums p2.1) _ HD5.out (by rw [strOfNums_size]; have h1 := HLX.out; have h2 := HLY.out; simp only [nums, List.length_map]; omega) HB5.out.size).mono ?_); rintro e6 w6 ⟨rfl, hd6, hb6, row, hk6, hr6⟩; have HD6 := Aside0.mk hd6; have HB6 := Aside0.mk (HB5.out.trans hb6); have HP6 := Aside0.mk (PAt.keep HP5.out (bld_blk HD5.out).choose_spec (by decide) (by decide) hk6 hr6); clear hd6 hb6 hk6 hr6) | fail)
          go_roundg k1
          case measure => have := HK.out; omega
          case rel =>
            refine ⟨i + 1, p2.2, by rw [jw64 (by have := HL.out; have := HIL.out; omega) (by have := HL.out; have := HIL.out; omega)]; rfl, ⟨by have := HK.out; have := HIL.out; omega, by have := HK.out; omega⟩, ⟨by rw [HTS.out]; exact HST.out.1⟩, ⟨?_⟩, HP6, ⟨?_⟩, HB6⟩
            · rw [HGW.out, HDC.out, HLA.out]
              show (if mayE s.last l[i] = 0 then _ else _) = _
              rw [if_pos (by rw [← HME.out]; exact HM.out)]
            · rw [HTS.out, HST.out.2, ← List.append_assoc, nums_append, ← strCells_B HIB.out]
              exact HD6.out
        · have HE := Aside0.mk hz
          have HM := Aside0.mk he0
          have e1 : (e0 != 0) = true := bne_iff_ne.mpr hz
          clear hz he0
          go_wp2_with (first | (go_at_call 27; (refine (pen_Add.no_ w.heap.size g s l[i] A3 c3 _ HP4.out HC4.out HL4.out HOI.out e0 HM.out HE.out).mono ?_); rintro e5 w5 ⟨rfl, hb5⟩; have HB5 := Aside0.mk (below_step HB4.out hb5); clear hb5) | fail)
          go_ret2
          refine ⟨?_, HB5.out⟩
          have h1 : goW 0 l = e0 := by
            rw [HGW.out, HDC.out]
            show (if mayE s.last l[i] = 0 then _ else mayE s.last l[i]) = _
            rw [← HME.out, HM.out, if_neg HE.out]
          rw [← HPP.out]
          unfold wholeS
          rw [h1, finW_no _ _ HE.out]
          rfl
      · have c0 : decide ((i : Int) < (l.length : Int)) = false := decide_eq_false (by omega)
        have c1n : decide (i < l.length) = false := decide_eq_false hi
        have hiF := eq_false hi
        have hil : i = l.length := by have := HK.out; omega
        have HPR2 : Aside0 (PRel s l) := ⟨by have h := HPR.out; rw [List.take_of_length_le (by omega)] at h; exact h⟩
        have HD2 : Aside0 (Lib.IsBuilder 81 5 w.heap.size gb (nums .u8 (bytesOf (mk ++ (fp 1 file).1) ++ toldL (mgS l))) wr) := ⟨by have h := HD.out; rw [List.take_of_length_le (show l.length ≤ i by omega)] at h; exact h⟩
        have hgw : goW 0 l = if s.last = 6 then 0 else 19 := by rw [HGW.out, List.drop_eq_nil_of_le (by omega)]; rfl
        have HGX := Aside0.mk hgw
        clear hgw hil hi HPR HD HGW
        by_cases h6 : s.last = 6
        · have HE6 : Aside0 (s.ended = true) := ⟨by rw [HPR2.out.ended, h6]; rfl⟩
          have hg0 := HGX.out
          rw [if_pos h6] at hg0
          have HG0 := Aside0.mk hg0
          clear hg0 h6
          go_upto_region 16 with (first | (go_at_call 30; (refine (pen_Ended.calls_ w.heap.size g s _ HP.out).mono ?_); rintro e7 w7 ⟨rfl, hb7⟩; rw [HE6.out]; have HB7 := Aside0.mk (below_step HB.out hb7); have HD7 := Aside0.mk (bld_below HD2.out hb7); clear hb7) | fail)
          obtain ⟨L, hL⟩ : ∃ L, L = bytesOf (mk ++ (fp 1 file).1) ++ toldL (mgS l) := ⟨_, rfl⟩
          have HLX := Aside0.mk hL
          have HDX : Aside0 (Lib.IsBuilder 81 5 w.heap.size gb (Lib.byteCells (L.map fun n => UInt8.ofNat n.toNat)) w7) := ⟨by
            rw [hL, ← bytes_str _ (isB_append (isB_bytesOf _) (isB_told _))]
            exact HD7.out⟩
          clear hL
          go_wp2_with (first | (go_at_call 47; (refine (bld_string w.heap.size gb _ w7 HDX.out HB7.out.size).mono ?_); rintro e8 w8 ⟨rfl, hb8, ho8⟩; have HB8 := Aside0.mk (HB7.out.trans hb8); clear hb8 ho8) | fail)
          go_ret2
          refine ⟨?_, HB8.out⟩
          rw [← HPP.out, wholeS_ok' _ _ HG0.out]
          have hL := HLX.out
          have h9 : strOfNums L = (mk ++ (fp 1 file).1) ++ strOfNums (toldL (mgS l)) := by rw [hL, strOfNums_append (isB_bytesOf _) (isB_told _), strOfNums_bytesOf]
          show Ending.returned (.tuple #[.string (strOfNums L), .int .i64 0]) = _
          rw [h9]
        · have HE6 : Aside0 (s.ended = false) := ⟨by rw [HPR2.out.ended]; exact beq_eq_false_iff_ne.mpr h6⟩
          have hg0 := HGX.out
          rw [if_neg h6] at hg0
          have HG0 := Aside0.mk hg0
          clear hg0 h6
          go_wp2_with (first | (go_at_call 30; (refine (pen_Ended.calls_ w.heap.size g s _ HP.out).mono ?_); rintro e7 w7 ⟨rfl, hb7⟩; rw [HE6.out]; have HB7 := Aside0.mk (below_step HB.out hb7); clear hb7) | fail)
          go_ret2
          refine ⟨?_, HB7.out⟩
          rw [← HPP.out]
          unfold wholeS
          rw [HG0.out, finW_no _ _ (by decide)]
          rfl
end Go.Proofs.Ytejcopppchaneaa.PF
end
section
set_option linter.unusedVariables false
set_option linter.unusedSimpArgs false
namespace Go.Proofs.Ytejcopppchaneaa.PF
open Go.RowKit Go.Proofs.YtejcopppchaneaaW.PrintWords Go.Proofs.YtejcopppchaneaaW.PrintLast Go.Proofs.YtejcopppchaneaaW.PrintMore Go.Proofs.Ytejcopppchaneaa.Pure
def exL : List S30 := [⟨1, 2, 1, []⟩, ⟨1, 2, 1, []⟩, ⟨6, 4, 0, []⟩]
theorem vp_small {n : Int} (h0 : 0 ≤ n) (h : n < 128) : vp n = [n] := by
  have e : n = ((n.toNat : Nat) : Int) := by omega
  rw [e, vp_nat, vput_small (by omega)]
theorem pen_ex : wholeS (mk ++ (fp 1 (⟨#[]⟩ : ByteArray)).1) exL = ((⟨#[99, 101, 114, 116, 1, 1, 0, 1, 2, 2, 6, 4, 0]⟩ : ByteArray), 0) := by
  have e0 : (fp 1 (⟨#[]⟩ : ByteArray)) = ((⟨#[1, 0]⟩ : ByteArray), 0) := by
    rw [fp_ok (x := (1, (⟨#[]⟩ : ByteArray))) ⟨by decide, by decide, by decide⟩, show ((⟨#[]⟩ : ByteArray).size : Int) = 0 from rfl, vp_small (by decide) (by decide)]; rfl
  have e1 : mgS exL = [⟨1, 2, 2, []⟩, ⟨6, 4, 0, []⟩] := by rfl
  have e2 : wB ⟨1, 2, 2, []⟩ = [1, 2, 2] := by
    unfold wB
    rw [if_pos (by decide)]
    unfold rp
    rw [if_neg (by decide), vp_small (by decide) (by decide)]; rfl
  have e3 : wB ⟨6, 4, 0, []⟩ = [6, 4, 0] := by
    unfold wB
    rw [if_pos (by decide)]
    unfold rp
    rw [if_neg (by decide), vp_small (by decide) (by decide), vp_small (by decide) (by decide)]; rfl
  rw [wholeS_ok' _ _ (by decide), e0, e1]
  simp only [toldL]
  rw [e2, e3]
  rfl
theorem exL_ok : ∀ x ∈ exL, okR x := by
  intro x hx
  have h : x = ⟨1, 2, 1, []⟩ ∨ x = ⟨6, 4, 0, []⟩ := by
    simp only [exL, List.mem_cons, List.not_mem_nil, or_false] at hx
    rcases hx with h | h | h
    · exact .inl h
    · exact .inl h
    · exact .inr h
  rcases h with rfl | rfl
  · exact ⟨⟨by decide, by decide⟩, ⟨by decide, by decide⟩, ⟨by decide, by decide⟩, by decide⟩
  · exact ⟨⟨by decide, by decide⟩, ⟨by decide, by decide⟩, ⟨by decide, by decide⟩, by decide⟩
set_option maxHeartbeats 16000000 in
set_option maxRecDepth 100000 in
theorem juratlaw30_awake.calls_ (w : World) : Calls Try.prog 24 #[] w fun e w' => e = .returned (.bool true) ∧ Below w.heap.size w w' := by
  have hu30 := Try.underlying30
  have HB0 := Aside0.mk (Below.refl w.heap.size w)
  go_enter Try.func24, Try.ntmps24
  go_wp2_with (first | (go_at_call 31; (refine (juratlaw30_skip.calls 1 1 2 1 [] w1 rfl).mono ?_); rintro e2 w2 ⟨v2, rfl, hR2, hb2⟩; obtain ⟨A2, c2, rfl⟩ := Kd.R_slice hR2; have HB2 := Aside0.mk (below_step HB1.out hb2); have HR2 := Aside0.mk (Kd.R_lower hR2 HB1.out.size); have HR1b := Aside0.mk (Kd.R_below HR1.out hb2); clear hR2 hb2) | (go_at_call 31; (refine (juratlaw30_skip.calls 1 1 2 1 [] _ rfl).mono ?_); rintro e1 w1 ⟨v1, rfl, hR1, hb1⟩; obtain ⟨A1, c1, rfl⟩ := Kd.R_slice hR1; have HB1 := Aside0.mk (below_step HB0.out hb1); have HR1 := Aside0.mk (Kd.R_lower hR1 HB0.out.size); clear hR1 hb1) | ((with_reducible refine gate_dst (N := 7) rfl ?_); refine Kd.R_lit k30 w.heap.size 30 ?hg (N := 7) ?hd (xs := exL) (inner := [.int .i64 1, .int .i64 2, .int .i64 1, .slice A1 0 c1, .int .i64 1, .int .i64 2, .int .i64 1, .slice A2 0 c2, .int .i64 6, .int .i64 4, .int .i64 0, .slice none 0 0]) (ok := fun _ => True) (okp := fun _ => True) ?hr ?hp (fun _ hk => hk) trivial HB2.out HB2.out.size (by simp [exL]) ?_; (case hd => rfl); (case hg => rfl); (case hr => first | (go_simp; done) | (go_simp; rfl)); (case hp => exact (Reps.c4 (k30_mkM _ _ _ ⟨1, 2, 1, []⟩ HR1b.out) (Reps.c4 (k30_mkM _ _ _ ⟨1, 2, 1, []⟩ HR2.out) (Reps.c4 (k30_mkM _ _ _ ⟨6, 4, 0, []⟩ (Kd.R_nil _ _ _ _ _)) (Reps.none _ _))))); intro u5 w5 ho5 hb5 hg_ hnew_; clear hg_ hnew_; obtain ⟨A5, c5, rfl⟩ := Kd.R_slice ho5; have R5 := Aside0.mk ho5; have B5 := Aside0.mk hb5; clear ho5 hb5) | (go_at_call 32; (refine (pen_Whole.calls_ (⟨#[]⟩ : ByteArray) (by decide) exL A5 c5 _ (Kd.R_reads' R5.out).2.2 (Kd.R_reads' R5.out).2.1 exL_ok (by decide) _ pen_ex).mono ?_); rintro e6 w6 ⟨rfl, hb6⟩; have B6 := Aside0.mk (below_step B5.out hb6); clear hb6) | fail)
  go_ret
  exact ⟨rfl, B6.out⟩
end Go.Proofs.Ytejcopppchaneaa.PF
end
section
namespace Go.Proofs.YtejcopppchaneaaW.PrintWords
open Go.RowKit
def Opens {α : Type} (P : Program) (t : TypeId) (K : Kd α) (G : α → Prop) : Prop :=
  ∀ {H : Type} (enc : TypeId × Value → H) (w : World) (fuel : Nat) (cs : List Value) (x : DataW H × List MemPlace), DataW.trod enc P w 0 (fun _ => true) true fuel t cs = some x → ∃ a, K.K w a cs ∧ G a
theorem opens_int {P : Program} {t : TypeId} {k : IntKind} (ht : P.underlying t = some (.int k)) : Opens P t (Kd.int k) (fun n => (Lit.int k n).wf = true) := by
  intro H enc w fuel cs x h
  obtain ⟨n, rfl, _, hw⟩ := DataW.trod_int ht h
  exact ⟨n, rfl, hw⟩
theorem exists_list {α : Type} {Q : Nat → α → Prop} : ∀ (n : Nat), (∀ i, i < n → ∃ a, Q i a) → ∃ xs : List α, xs.length = n ∧ ∀ j p, xs[j]? = some p → Q j p
  | 0, _ => ⟨[], rfl, fun j p h => by simp at h⟩
  | n + 1, h => by
    obtain ⟨xs, hl, hq⟩ := exists_list n (fun i hi => h i (by omega))
    obtain ⟨a, ha⟩ := h n (by omega)
    refine ⟨xs ++ [a], by simp [hl], fun j p hj => ?_⟩
    rcases Nat.lt_or_ge j xs.length with h1 | h1
    · rw [List.getElem?_append_left h1] at hj
      exact hq j p hj
    · rw [List.getElem?_append_right h1] at hj
      have h2 : j = xs.length := by
        have := (List.getElem?_eq_some_iff.1 hj).1
        simp at this
        omega
      subst h2
      simp at hj
      subst hj
      rw [hl]; exact ha
theorem opens_slice {α : Type} {P : Program} {t e : TypeId} {K : Kd α} {G : α → Prop} (ht : P.underlying t = some (.slice e)) (hc : P.cellsOf e = K.sz) (he : Opens P e K G) :
    Opens P t (Kd.slice e K) (fun xs => xs.length ≤ maxLen ∧ ∀ x ∈ xs, G x) := by
  intro H enc w fuel cs x h
  rcases DataW.trod_slice ht h with ⟨rfl, _⟩ | ⟨a, len, cap, elems, rest, n, _, rfl, _, _, hl, hm, hlen, hel, _, _⟩
  · exact ⟨[], ⟨none, 0, rfl, Nat.le_refl _, ⟨rfl, by simp, fun h => by simp at h⟩⟩, ⟨by simp, fun x hx => by cases hx⟩⟩
  · obtain ⟨xs, hxl, hxs⟩ := exists_list (Q := fun i b => ∃ c, c.length = K.sz ∧ (K.K w b c ∧ G b) ∧ ∀ j u, c[j]? = some u → w.cell? (a.add (i * K.sz + j)) = some u) len (fun i hi => by
      have h1 := hel i hi
      have h2 : elems[i]? = some (elems[i]'(by omega)) := List.getElem?_eq_getElem (by omega)
      rw [h2] at h1
      obtain ⟨c, hcc, htr⟩ := Option.bind_eq_some_iff.1 h1
      obtain ⟨b, hK, hG⟩ := he enc w n c _ htr
      obtain ⟨_, hcl, hat⟩ := World.cells?_some hcc
      refine ⟨b, c, by rw [hcl, hc], ⟨hK, hG⟩, fun j u hu => ?_⟩
      have hj : j < P.cellsOf e := by
        have := (List.getElem?_eq_some_iff.1 hu).1
        omega
      have h3 := hat j hj
      rw [hu, hc] at h3
      have h4 : (a.add (i * K.sz)).add j = a.add (i * K.sz + j) := by
        unfold Addr.add
        by_cases h5 : i * K.sz = 0 <;> by_cases h6 : j = 0 <;> simp [h5, h6, Nat.add_assoc]
      rwa [h4] at h3)
    subst hxl
    refine ⟨xs, ⟨some a, cap, rfl, hl, ⟨rfl, by unfold maxLen at hm; omega, fun _ => ⟨a, rfl, fun j p hj => ?_⟩⟩⟩, ⟨by omega, fun p hp => ?_⟩⟩
    · obtain ⟨c, h1, h2, h3⟩ := hxs j p hj
      exact ⟨c, h1, h2.1, h3⟩
    · obtain ⟨j, hj, rfl⟩ := List.mem_iff_getElem.1 hp
      obtain ⟨c, h1, h2, h3⟩ := hxs j _ (List.getElem?_eq_getElem hj)
      exact h2.2
theorem drop_split (cs : List Value) (a b : Nat) : cs.drop a = (cs.drop a).take b ++ cs.drop (a + b) := by
  rw [← List.drop_drop, List.take_append_drop]
theorem drop_last {cs : List Value} {a b : Nat} (h : cs.length = a + b) : cs.drop a = (cs.drop a).take b := by
  rw [List.take_of_length_le (by rw [List.length_drop]; omega)]
end Go.Proofs.YtejcopppchaneaaW.PrintWords
end
section
namespace Go.Proofs.Ytejcopppchaneaa.PF
open Go.RowKit Go.Proofs.YtejcopppchaneaaW.PrintWords Go.Proofs.YtejcopppchaneaaW.PrintLast Go.Proofs.YtejcopppchaneaaW.PrintMore
theorem opens_28 : Opens Try.prog 28 (Kd.slice 3 (Kd.int .i64)) (fun xs : List Int => xs.length ≤ maxLen ∧ ∀ x ∈ xs, (fun n : Int => (Lit.int .i64 n).wf = true) x) := opens_slice Try.underlying28 (by kernel_rfl) (opens_int (P := Try.prog) Try.underlying3)
def good30 (x : S30) : Prop := (fun n : Int => (Lit.int .i64 n).wf = true) x.f0 ∧ (fun n : Int => (Lit.int .i64 n).wf = true) x.f1 ∧ (fun n : Int => (Lit.int .i64 n).wf = true) x.f2 ∧ (fun xs : List Int => xs.length ≤ maxLen ∧ ∀ x ∈ xs, (fun n : Int => (Lit.int .i64 n).wf = true) x) x.f3
theorem opens_30 : Opens Try.prog 30 k30 good30 := by
  intro H enc w fuel cs x h
  obtain ⟨xs, n, _, _, hlen, hxl, hf⟩ := DataW.trod_struct Try.underlying30 h
  have hN : Try.prog.cellsOf 30 = 4 := by kernel_rfl
  rw [hN] at hlen
  have c0 : Try.prog.cellsOf 3 = 1 := by kernel_rfl
  have h0 : DataW.trod enc Try.prog w 0 (fun _ => true) true n 3 ((cs.drop 0).take (Try.prog.cellsOf 3)) = xs[0]? := hf 0 _ rfl
  rw [c0] at h0
  obtain ⟨a0, K0, G0⟩ := (opens_int (P := Try.prog) Try.underlying3) enc w n _ _ (h0.trans (List.getElem?_eq_getElem (by rw [hxl]; decide)))
  have c1 : Try.prog.cellsOf 3 = 1 := by kernel_rfl
  have h1 : DataW.trod enc Try.prog w 0 (fun _ => true) true n 3 ((cs.drop 1).take (Try.prog.cellsOf 3)) = xs[1]? := hf 1 _ rfl
  rw [c1] at h1
  obtain ⟨a1, K1, G1⟩ := (opens_int (P := Try.prog) Try.underlying3) enc w n _ _ (h1.trans (List.getElem?_eq_getElem (by rw [hxl]; decide)))
  have c2 : Try.prog.cellsOf 3 = 1 := by kernel_rfl
  have h2 : DataW.trod enc Try.prog w 0 (fun _ => true) true n 3 ((cs.drop 2).take (Try.prog.cellsOf 3)) = xs[2]? := hf 2 _ rfl
  rw [c2] at h2
  obtain ⟨a2, K2, G2⟩ := (opens_int (P := Try.prog) Try.underlying3) enc w n _ _ (h2.trans (List.getElem?_eq_getElem (by rw [hxl]; decide)))
  have c3 : Try.prog.cellsOf 28 = 1 := by kernel_rfl
  have h3 : DataW.trod enc Try.prog w 0 (fun _ => true) true n 28 ((cs.drop 3).take (Try.prog.cellsOf 28)) = xs[3]? := hf 3 _ rfl
  rw [c3] at h3
  obtain ⟨a3, K3, G3⟩ := opens_28 enc w n _ _ (h3.trans (List.getElem?_eq_getElem (by rw [hxl]; decide)))
  have e3 : cs.drop 3 = (cs.drop 3).take 1 := drop_last (by rw [hlen])
  rw [← e3] at K3
  exact ⟨⟨a0, a1, a2, a3⟩, (show (k30).K w _ (cs.drop 0) from ⟨_, _, drop_split cs 0 1, K0, ⟨_, _, drop_split cs 1 1, K1, ⟨_, _, drop_split cs 2 1, K2, K3⟩⟩⟩), ⟨G0, G1, G2, G3⟩⟩
theorem opens_22 : Opens Try.prog 22 (Kd.slice 30 k30) (fun xs : List S30 => xs.length ≤ maxLen ∧ ∀ x ∈ xs, good30 x) := opens_slice Try.underlying22 (by kernel_rfl) opens_30
end Go.Proofs.Ytejcopppchaneaa.PF
end
section
set_option linter.unusedVariables false
set_option linter.unusedSimpArgs false
namespace Go.Proofs.Ytejcopppchaneaa.PF
open Go.RowKit Go.Proofs.YtejcopppchaneaaW.PrintWords Go.Proofs.YtejcopppchaneaaW.PrintLast Go.Proofs.YtejcopppchaneaaW.PrintMore Go.Proofs.Ytejcopppchaneaa.Pure
theorem okR_good' {x : S30} (h : good30 x) (hl : x.f3.length ≤ 100000) : okR x := ⟨jwf64 h.1, jwf64 h.2.1, jwf64 h.2.2.1, hl⟩
theorem few30 (l : List S30) : ∃ b k, juratref27_Few.f k l 20 = some b ∧ (b = true → l.length ≤ 20 ∧ ∀ x ∈ l, x.f3.length ≤ 30) := by
  by_cases h : (l.length : Int) > 20
  · exact ⟨false, 0, few_no l 20 h 0, fun h => by cases h⟩
  · obtain ⟨k, hk⟩ := (few_ev l 20 h (by decide)).rounds
    exact ⟨fewB l, k, hk, fun hb => ⟨by omega, fewB_get hb⟩⟩
theorem put29 (file : ByteArray) (hz : file.size ≤ 3000) : ∃ k, juratref29_Put.f k file = some (mk ++ (fp 1 file).1, 0) := by
  have h1 := rhput_ev file hz
  rw [hp_ok hz] at h1
  exact h1.rounds
theorem may30 {s : PS} {l : List S30} (h : PRel s l) (hl : l.length ≤ 1000) (r : S30) (hr : r.f3.length ≤ 100000) (e0 : Int) (he : mayP s r = e0) : ∃ k, juratref30_May.f k l r.f0 r.f1 r.f2 r.f3 = some e0 := by
  rw [mayP_is h r] at he
  have h1 := may_ev l (by omega) r hr s.last (by
    by_cases hn : l = []
    · exact .inl ⟨by rw [hn]; rfl, (h.none_ hn).1⟩
    · exact .inr (h.last_ hn))
  rw [he] at h1
  exact h1.rounds
theorem told30 (l : List S30) (hx : ∀ x ∈ l, okR x) (hl : l.length ≤ 1000) (t : ByteArray) (ht : strOfNums (toldL (mgS l)) = t) : ∃ k, juratref30_Told.f k l = some t := by
  have h := (told_ev l hx hl).rounds
  rw [ht] at h
  exact h
theorem pen_last {s : PS} {l : List S30} (h : PRel s l) (hl : l ≠ []) (hn : l.length ≤ 1000) : ((rd_T30 l (wrap64 ((l.length : Int) - 1))).f0 == 6) = s.ended ∧ 0 ≤ wrap64 ((l.length : Int) - 1) ∧ wrap64 ((l.length : Int) - 1) < (l.length : Int) ∧ (l.length : Int) > 0 := by
  obtain ⟨h1, h2, h3⟩ := h.last_ hl
  have e : wrap64 ((l.length : Int) - 1) = ((l.length - 1 : Nat) : Int) := by rw [jw64 (by omega) (by omega)]; omega
  refine ⟨?_, by rw [e]; omega, by rw [e]; omega, by omega⟩
  rw [e, rdT_get l _ h1, ← h2, h.ended]
theorem row_lo {w0 w : World} {A : Option Addr} {n : Nat} {xs : List Int} (h : Kd.C (Kd.int .i64) w0 A n xs) (hb : Below w0.heap.size w0 w) : Kd.F (Kd.int .i64) w (fun k => k < w0.heap.size) A n xs :=
  Kd.F_step (Kd.C_F (Kd.heap_int .i64) h) (fun k hk _ => hb.block k hk)
theorem PAt.grown {w w' : World} {base g base' : Nat} {m : S30} {has : Bool} {x : Int} {y : Bool} {ok : Nat → Prop} {v : Value} {xs : List S30} (h : PAt w base g m has x y) (ho : Kd.N k30 30 w base' ok v xs) (hg : w.grownBy w' v.ownBlock) : PAt w' base g m has x y := by
  obtain ⟨h1, u, h2, h3⟩ := h
  refine ⟨h1, u, (hg.block g (blk_lt h2) (Kd.N_ne ho h2 (by decide))).trans h2, ?_⟩
  refine Kd.R_mono (Kd.R_step (Kd.R_bound h3) (fun k hk hlt => ?_)) (fun _ _ => trivial)
  obtain ⟨_, _, _, q, hq, cs, hc⟩ := hk
  rw [List.mem_singleton.1 hq] at hc
  exact hg.block k hlt (Kd.N_ne ho hc (by decide))
set_option maxHeartbeats 32000000 in
set_option maxRecDepth 100000 in
theorem pa_off1 (file : ByteArray) (l : List S30) (A : Option Addr) (c : Nat) (w : World) (hA : Kd.C k30 w A l.length l) (hc : l.length ≤ c) (kf : Nat) (hf : juratref27_Few.f kf l 20 = some false) :
    Calls Try.prog 6 #[.string file, .slice A l.length c] w fun e w' => e = .returned (.bool true) ∧ Below w.heap.size w w' := by
  have HA := Aside0.mk hA
  have HC := Aside0.mk hc
  have KF := Aside0.mk hf
  clear hA hc hf
  go_enter Try.func6, Try.ntmps6
  go_wp2_with (first | (go_at_call 23; (refine (juratref27_Few.calls kf A c l 20 false _ HA.out HC.out KF.out).mono ?_); rintro e1 w1 ⟨rfl, hdr⟩; obtain ⟨mr, rfl⟩ := hdr; have HB := Aside0.mk (pw_below_drewN (Below.refl w.heap.size w) mr)) | (go_at_call 24; (refine (juratlaw30_awake.calls_ _).mono ?_); rintro e9 w9 ⟨rfl, hb⟩; have BN := Aside0.mk (below_step (by repeat (first | (with_reducible first | exact HB.out | apply below_drew | apply pw_below_drewN | apply below_drew1) | exact HB.out)) hb); clear hb HB; have HB := BN; clear BN) | fail)
  go_ret
  exact ⟨rfl, HB.out⟩
set_option maxHeartbeats 32000000 in
set_option maxRecDepth 100000 in
theorem pa_off2 (file : ByteArray) (l : List S30) (A : Option Addr) (c : Nat) (w : World) (hA : Kd.C k30 w A l.length l) (hc : l.length ≤ c) (kf : Nat) (hf : juratref27_Few.f kf l 20 = some true) (hs : 300 < file.size) :
    Calls Try.prog 6 #[.string file, .slice A l.length c] w fun e w' => e = .returned (.bool true) ∧ Below w.heap.size w w' := by
  have HA := Aside0.mk hA
  have HC := Aside0.mk hc
  have KF := Aside0.mk hf
  have d0 : decide ((file.size : Int) > 300) = true := decide_eq_true (by omega)
  have d1 : decide (300 < file.size) = true := decide_eq_true (by omega)
  clear hA hc hf hs
  go_enter Try.func6, Try.ntmps6
  go_wp2_with (first | (go_at_call 23; (refine (juratref27_Few.calls kf A c l 20 true _ HA.out HC.out KF.out).mono ?_); rintro e1 w1 ⟨rfl, hdr⟩; obtain ⟨mr, rfl⟩ := hdr; have HB := Aside0.mk (pw_below_drewN (Below.refl w.heap.size w) mr)) | (go_at_call 24; (refine (juratlaw30_awake.calls_ _).mono ?_); rintro e9 w9 ⟨rfl, hb⟩; have BN := Aside0.mk (below_step (by repeat (first | (with_reducible first | exact HB.out | apply below_drew | apply pw_below_drewN | apply below_drew1) | exact HB.out)) hb); clear hb HB; have HB := BN; clear BN) | fail)
  go_ret
  exact ⟨rfl, HB.out⟩
theorem PAt.lower {w : World} {b b' g : Nat} {s : PS} (h : PIs w b g s) (hb : b' ≤ b) : PAt w b' g s.m s.has s.last s.ended := by
  obtain ⟨h1, v, h2, h3⟩ := h
  exact ⟨Nat.le_trans hb h1, v, h2, Kd.R_lower h3 hb⟩
set_option maxHeartbeats 32000000 in
set_option maxRecDepth 100000 in
theorem pa_main (file : ByteArray) (l : List S30) (A : Option Addr) (c : Nat) (w : World) (hA : Kd.C k30 w A l.length l) (hc : l.length ≤ c) (kf : Nat) (hf : juratref27_Few.f kf l 20 = some true) (hs : file.size ≤ 300) (hl : l.length ≤ 20) (hok : ∀ x ∈ l, okR x) :
    Calls Try.prog 6 #[.string file, .slice A l.length c] w fun e w' => e = .returned (.bool true) ∧ Below w.heap.size w w' := by
  have hu30 := Try.underlying30
  obtain ⟨kp, hkp⟩ := put29 file (by omega)
  have KP := Aside0.mk hkp
  have HA := Aside0.mk hA
  have HC := Aside0.mk hc
  have KF := Aside0.mk hf
  have HOK := Aside0.mk hok
  have HL : Aside0 (l.length ≤ 20) := ⟨hl⟩
  have HZ : Aside0 (file.size ≤ 3000) := ⟨by omega⟩
  have d0 : decide ((file.size : Int) > 300) = false := decide_eq_false (by omega)
  have d1 : decide (300 < file.size) = false := decide_eq_false (by omega)
  clear hA hc hf hs hl hok hkp
  go_enter Try.func6, Try.ntmps6
  go_upto_region 4 with (first | (go_at_call 23; (refine (juratref27_Few.calls kf A c l 20 true _ HA.out HC.out KF.out).mono ?_); rintro e1 w1 ⟨rfl, hdr⟩; obtain ⟨mr, rfl⟩ := hdr; have HB := Aside0.mk (pw_below_drewN (Below.refl w.heap.size w) mr)) | (go_at_call 25; (refine (pen_New.calls_ file HZ.out _).mono ?_); rintro e2 w2 ⟨g, rfl, hg, hp2, hb2⟩; have HG := Aside0.mk (Nat.le_trans HB.out.size hg); have HP := Aside0.mk (PAt.lower hp2 HB.out.size); have BN := Aside0.mk (below_step HB.out hb2); clear hg hp2 hb2 HB; have HB := BN; clear BN) | fail)
  go_upto_region 7 with (first | (go_at_call 26; (refine (juratref29_Put.calls kp file (mk ++ (fp 1 file).1) 0 _ KP.out).mono ?_); rintro e3 w3 ⟨rfl, hb3⟩; have PN := Aside0.mk (HP.out.below hb3); have BN := Aside0.mk (below_step HB.out hb3); clear hb3 HB HP; have HB := BN; have HP := PN; clear BN PN) | fail)
  go_wp2
  go_loopg [10, 11, 12] (l.length + 1) (fun kq v10 v11 v12 wr => ∃ (i : Nat) (s : PS) (came : List S30) (Ac : Option Addr) (cc : Nat) (X : ByteArray), v12 = .int .i64 (i : Int) ∧ v10 = .slice Ac came.length cc ∧ v11 = .string X ∧ Aside0 (i ≤ l.length ∧ l.length < kq + i) ∧ Aside0 (PRel s came) ∧ Aside0 (came.length ≤ i) ∧ Aside0 (∀ x ∈ came, okR x) ∧ Aside0 (strOfNums (toldL (mgS came)) = X) ∧ Aside0 (PAt wr w.heap.size g s.m s.has s.last s.ended) ∧ Aside0 (Kd.N k30 30 wr w.heap.size (fun k => k ≠ g) (.slice Ac came.length cc) came) ∧ Aside0 (Below w.heap.size w wr))
  case atStart => exact ⟨0, penZ, [], none, 0, ⟨#[]⟩, rfl, rfl, rfl, ⟨by omega, by omega⟩, ⟨prel_zero⟩, ⟨by simp⟩, ⟨fun x hx => by cases hx⟩, ⟨rfl⟩, HP, ⟨Kd.N_nil _ _ _ _ _⟩, HB⟩
  case round =>
    clear HP HB
    obtain ⟨i, s, came, Ac, cc, X, rfl, rfl, rfl, HK, HPR, HCL, HCO, HX, HP, HN, HB⟩ := hrel
    cases gk with
    | zero => exact absurd HK.out (by omega)
    | succ k1 =>
      by_cases hi : i < l.length
      · have c0 : decide ((i : Int) < (l.length : Int)) = true := decide_eq_true (by omega)
        have c1n : decide (i < l.length) = true := decide_eq_true hi
        have hiT := eq_true hi
        have HIL := Aside0.mk hi
        have p1 := eq_true (show (0 : Int) ≤ (i : Int) by omega)
        have q1 := eq_true (show (i : Int) < (l.length : Int) by omega)
        obtain ⟨ad, A3, c3, eA, hx0, hx1, hx2, hx3, hl3, hi3⟩ := at_T30 HA.out (i : Int) (by omega) (by omega)
        rw [rdT_get l i hi] at hx0 hx1 hx2 hx3 hl3 hi3
        subst eA
        simp only [Int.toNat_natCast] at hx0 hx1 hx2 hx3
        have HX0 := Aside0.mk hx0
        have HX1 := Aside0.mk hx1
        have HX2 := Aside0.mk hx2
        have HX3 := Aside0.mk hx3
        have HOI := Aside0.mk (HOK.out l[i] (List.getElem_mem hi))
        have HL4 := Aside0.mk hl3
        have HI3 := Aside0.mk hi3
        have HLEN : Aside0 ((came.length + 1) * 48 ≤ 140737488355328) := ⟨by have h1 := HCL.out; have h2 := HL.out; omega⟩
        have HCL2 : Aside0 (came.length ≤ 20) := ⟨by have h1 := HCL.out; have h2 := HL.out; omega⟩
        have HXS : Aside0 (X.size ≤ 1000000000) := ⟨by
          rw [← HX.out, strOfNums_size]
          have h2 := told_len (mgS came) (okR_all _ HCO.out)
          have h3 := len_all came
          have h4 := HCL2.out
          omega⟩
        clear hl3 hi3 hx0 hx1 hx2 hx3
        have hx0 := pw_cell_below HB.out HX0.out
        have hx1 := pw_cell_below HB.out HX1.out
        have hx2 := pw_cell_below HB.out HX2.out
        have hx3 := pw_cell_below HB.out HX3.out
        obtain ⟨e0, he0⟩ : ∃ e0, mayP s l[i] = e0 := ⟨_, rfl⟩
        obtain ⟨km, hkm⟩ := may30 HPR.out (by have := HCL2.out; omega) l[i] HOI.out.2.2.2 e0 he0
        have KM := Aside0.mk hkm
        clear hkm
        by_cases hz : e0 = 0
        · subst hz
          have HM := Aside0.mk he0
          obtain ⟨p2, hp2⟩ : ∃ p2, addP s l[i] = p2 := ⟨_, rfl⟩
          have HAP := Aside0.mk hp2
          have hst := prel_step HPR.out l[i] HOI.out he0
          have hib := isB_add s l[i]
          have hly := len_add s l[i] HPR.out.ok HOI.out
          rw [hp2] at hst hib hly
          obtain ⟨C, hC⟩ : ∃ C, came ++ [l[i]] = C := ⟨_, rfl⟩
          have HCE := Aside0.mk hC
          have hcl : C.length = came.length + 1 := by rw [← hC, List.length_append, List.length_singleton]
          have hco : ∀ x ∈ C, okR x := by
            intro x hx
            rw [← hC] at hx
            rcases List.mem_append.1 hx with hx | hx
            · exact HCO.out x hx
            · rw [List.mem_singleton.1 hx]; exact HOI.out
          have hcn : C ≠ [] := by rw [← hC]; exact snoc_ne _ _
          rw [hC] at hst
          have htx : strOfNums (toldL (mgS C)) = X ++ strOfNums p2.1 := by rw [hst.2, strOfNums_append (isB_told _) hib, HX.out]
          obtain ⟨kt, hkt⟩ := told30 C hco (by have := HCL2.out; omega) _ htx
          have PL := Aside0.mk (pen_last hst.1 hcn (by have := HCL2.out; omega))
          have KT := Aside0.mk hkt
          have HTX := Aside0.mk htx
          have HCO2 := Aside0.mk hco
          have HST := Aside0.mk hst.1
          have HCLC : Aside0 (C.length ≤ i + 1) := ⟨by have := HCL.out; omega⟩
          have hzz := eq_false (show ¬ 9223372036854775807 < X.size + (strOfNums p2.1).size by rw [strOfNums_size]; have := HXS.out; omega)
          have g1 := PL.out.1
          have g2 := eq_true PL.out.2.1
          have g3 := eq_true PL.out.2.2.1
          have g4 : decide ((C.length : Int) > 0) = true := decide_eq_true PL.out.2.2.2
          have g5 : decide (0 < C.length) = true := decide_eq_true (by omega)
          clear he0 hp2 hst hib hly hC hcl hco hcn htx hkt HCO
          go_upto_region 13 with (first | (go_at_call 27; (refine (pen_Add.ok_ w.heap.size g s l[i] A3 c3 _ HP.out HB.out.size (row_F HI3.out HB.out HG.out) HL4.out HOI.out HPR.out.ok HM.out p2 HAP.out).mono ?_); rintro e5 w5 ⟨rfl, hp5, hk5, hb5⟩; have PN := Aside0.mk (show PAt w5 w.heap.size g p2.2.m p2.2.has p2.2.last p2.2.ended from hp5); have NN := Aside0.mk (Kd.N_keep HN.out hk5 (fun _ h => h)); have BN := Aside0.mk (HB.out.trans hb5); clear hp5 hk5 hb5 HP HN HB hx0 hx1 hx2 hx3; have HP := PN; have HN := NN; have HB := BN; clear PN NN BN; have hx0 := pw_cell_below HB.out HX0.out; have hx1 := pw_cell_below HB.out HX1.out; have hx2 := pw_cell_below HB.out HX2.out; have hx3 := pw_cell_below HB.out HX3.out) | fail)
          go_upto_region 15 with (first | (go_at_call 28; (refine (juratref30_May.calls km Ac cc came l[i].f0 l[i].f1 l[i].f2 A3 c3 l[i].f3 0 _ (Kd.N_reads' HN.out).2.2 (Kd.N_reads' HN.out).2.1 (Kd.C_below HI3.out HB.out) HL4.out KM.out).mono ?_); rintro e6 w6 ⟨rfl, hb⟩; clear hx0 hx1 hx2 hx3; have PN := Aside0.mk (HP.out.below hb); have NN := Aside0.mk (Kd.N_below HN.out hb); have BN := Aside0.mk (below_step HB.out hb); clear hb HP HN HB; have HP := PN; have HN := NN; have HB := BN; clear PN NN BN; have hx0 := pw_cell_below HB.out HX0.out; have hx1 := pw_cell_below HB.out HX1.out; have hx2 := pw_cell_below HB.out HX2.out; have hx3 := pw_cell_below HB.out HX3.out) | fail)
          go_upto_region 17 with (first | (at_builtin; refine Kd.N_append k30 (w0 := w) w.heap.size rfl (.tmp 83) (.tmp 88) 22 30 (.agg #[(.int .i64 0), (.int .i64 0), (.int .i64 0), (.slice none 0 0)]) 48 rfl Try.underlying22 info30 rfl (by decide) (by omega) (.slice Ac came.length cc) came l[i] [.int .i64 l[i].f0, .int .i64 l[i].f1, .int .i64 l[i].f2, .slice A3 l[i].f3.length c3] (fun k => k ≠ g) (fun k => k < w.heap.size) rfl ?aX ?aP ?aH ?aF HN.out HB.out HB.out.size ?aL ?_; (case aX => first | (go_simp; done) | (go_simp; rfl)); (case aP => exact k30_mkF _ _ l[i] HL4.out (row_lo HI3.out HB.out)); (case aH => exact fun k hk => ⟨by have h1 := HG.out; omega, fun he => by have h1 := Kd.N_base HN.out k he.symm; omega⟩); (case aF => exact fun k hk => by have h1 := HP.out.lt; omega); (case aL => have := HLEN.out; omega); intro v7 w7 hN7 hb7 hg7 hat7; rw [HCE.out] at hN7; obtain ⟨A7, c7, rfl⟩ := Kd.N_slice hN7; have PN := Aside0.mk (HP.out.grown HN.out hg7); clear hat7 hg7 HP HN HB hx0 hx1 hx2 hx3; have HP := PN; have HN := Aside0.mk hN7; have HB := Aside0.mk hb7; clear PN hN7 hb7) | fail)
          go_upto_region 18 with fail
          go_wp2_with (first | (go_at_call 29; (refine (juratref30_Told.calls kt A7 c7 C (X ++ strOfNums p2.1) _ (Kd.N_reads' HN.out).2.2 (Kd.N_reads' HN.out).2.1 KT.out).mono ?_); rintro e8 w8 ⟨rfl, hb⟩; (try clear hy0 hy1 hy2 hy3); have PN := Aside0.mk (HP.out.below hb); have NN := Aside0.mk (Kd.N_below HN.out hb); have BN := Aside0.mk (below_step HB.out hb); clear hb HP HN HB; have HP := PN; have HN := NN; have HB := BN; clear PN NN BN; skip) | (go_at_call 30; (refine (pen_Ended.calls_ w.heap.size g p2.2 _ HP.out).mono ?_); rintro e10 w10 ⟨rfl, hb⟩; have PN := Aside0.mk (HP.out.below hb); have NN := Aside0.mk (Kd.N_below HN.out hb); have BN := Aside0.mk (below_step HB.out hb); clear hb HP HN HB; have HP := PN; have HN := NN; have HB := BN; clear PN NN BN; obtain ⟨ae, A11, c11, eA, hy0, hy1, hy2, hy3, hyl, hyi⟩ := at_T30 (Kd.N_reads' HN.out).2.2 (wrap64 ((C.length : Int) - 1)) PL.out.2.1 PL.out.2.2.1; (try cases eA); clear hyl hyi hy1 hy2 hy3) | fail)
          go_roundg k1
          case measure => have := HK.out; omega
          case rel => exact ⟨i + 1, p2.2, C, _, _, X ++ strOfNums p2.1, by rw [jw64 (by have := HL.out; have := HIL.out; omega) (by have := HL.out; have := HIL.out; omega)]; rfl, rfl, rfl, ⟨by have := HK.out; have := HIL.out; omega, by have := HK.out; omega⟩, HST, HCLC, HCO2, HTX, HP, HN, HB⟩
        · have HE := Aside0.mk hz
          have HM := Aside0.mk he0
          have e1 : (e0 != 0) = true := bne_iff_ne.mpr hz
          have e2 : (e0 == 0) = false := beq_eq_false_iff_ne.mpr hz
          have htx : strOfNums (toldL (mgS came)) = X ++ (⟨#[]⟩ : ByteArray) := by rw [HX.out]; exact (ByteArray.append_empty (b := X)).symm
          obtain ⟨kt, hkt⟩ := told30 came HCO.out (by have := HCL2.out; omega) _ htx
          have KT := Aside0.mk hkt
          have HTX := Aside0.mk htx
          have HCLC : Aside0 (came.length ≤ i + 1) := ⟨by have := HCL.out; omega⟩
          have hzz := eq_false (show ¬ 9223372036854775807 < X.size + 0 by have := HXS.out; omega)
          have hzz2 := eq_false (show ¬ 9223372036854775807 < X.size by have := HXS.out; omega)
          clear hz he0 hkt htx
          go_upto_region 13 with (first | (go_at_call 27; (refine (pen_Add.no_ w.heap.size g s l[i] A3 c3 _ HP.out (Kd.C_below HI3.out HB.out) HL4.out HOI.out e0 HM.out HE.out).mono ?_); rintro e5 w5 ⟨rfl, hb⟩; clear hx0 hx1 hx2 hx3; have PN := Aside0.mk (HP.out.below hb); have NN := Aside0.mk (Kd.N_below HN.out hb); have BN := Aside0.mk (below_step HB.out hb); clear hb HP HN HB; have HP := PN; have HN := NN; have HB := BN; clear PN NN BN; have hx0 := pw_cell_below HB.out HX0.out; have hx1 := pw_cell_below HB.out HX1.out; have hx2 := pw_cell_below HB.out HX2.out; have hx3 := pw_cell_below HB.out HX3.out) | fail)
          go_upto_region 15 with (first | (go_at_call 28; (refine (juratref30_May.calls km Ac cc came l[i].f0 l[i].f1 l[i].f2 A3 c3 l[i].f3 e0 _ (Kd.N_reads' HN.out).2.2 (Kd.N_reads' HN.out).2.1 (Kd.C_below HI3.out HB.out) HL4.out KM.out).mono ?_); rintro e6 w6 ⟨rfl, hb⟩; clear hx0 hx1 hx2 hx3; have PN := Aside0.mk (HP.out.below hb); have NN := Aside0.mk (Kd.N_below HN.out hb); have BN := Aside0.mk (below_step HB.out hb); clear hb HP HN HB; have HP := PN; have HN := NN; have HB := BN; clear PN NN BN; have hx0 := pw_cell_below HB.out HX0.out; have hx1 := pw_cell_below HB.out HX1.out; have hx2 := pw_cell_below HB.out HX2.out; have hx3 := pw_cell_below HB.out HX3.out) | fail)
          by_cases hcn : came = []
          · have HE0 : Aside0 (s.ended = false) := ⟨by rw [HPR.out.ended, (HPR.out.none_ hcn).1]; rfl⟩
            have g4 : decide ((came.length : Int) > 0) = false := decide_eq_false (by rw [hcn]; simp)
            have g5 : decide (0 < came.length) = false := decide_eq_false (by rw [hcn]; simp)
            have he := HE0.out
            clear hcn
            go_upto_region 17 with fail
            go_upto_region 18 with fail
            go_wp2_with (first | (go_at_call 29; (refine (juratref30_Told.calls kt Ac cc came (X ++ (⟨#[]⟩ : ByteArray)) _ (Kd.N_reads' HN.out).2.2 (Kd.N_reads' HN.out).2.1 KT.out).mono ?_); rintro e8 w8 ⟨rfl, hb⟩; (try clear hy0 hy1 hy2 hy3); have PN := Aside0.mk (HP.out.below hb); have NN := Aside0.mk (Kd.N_below HN.out hb); have BN := Aside0.mk (below_step HB.out hb); clear hb HP HN HB; have HP := PN; have HN := NN; have HB := BN; clear PN NN BN; skip) | (go_at_call 30; (refine (pen_Ended.calls_ w.heap.size g s _ HP.out).mono ?_); rintro e10 w10 ⟨rfl, hb⟩; have PN := Aside0.mk (HP.out.below hb); have NN := Aside0.mk (Kd.N_below HN.out hb); have BN := Aside0.mk (below_step HB.out hb); clear hb HP HN HB; have HP := PN; have HN := NN; have HB := BN; clear PN NN BN; skip) | fail)
            go_roundg k1
            case measure => have := HK.out; omega
            case rel => exact ⟨i + 1, s, came, _, _, X ++ (⟨#[]⟩ : ByteArray), by rw [jw64 (by have := HL.out; have := HIL.out; omega) (by have := HL.out; have := HIL.out; omega)]; rfl, rfl, rfl, ⟨by have := HK.out; have := HIL.out; omega, by have := HK.out; omega⟩, HPR, HCLC, HCO, HTX, HP, HN, HB⟩
          · have PL := Aside0.mk (pen_last HPR.out hcn (by have := HCL2.out; omega))
            have g1 := PL.out.1
            have g2 := eq_true PL.out.2.1
            have g3 := eq_true PL.out.2.2.1
            have g4 : decide ((came.length : Int) > 0) = true := decide_eq_true PL.out.2.2.2
            have g5 : decide (0 < came.length) = true := decide_eq_true (by have := PL.out.2.2.2; omega)
            clear hcn
            go_upto_region 17 with fail
            go_upto_region 18 with fail
            go_wp2_with (first | (go_at_call 29; (refine (juratref30_Told.calls kt Ac cc came (X ++ (⟨#[]⟩ : ByteArray)) _ (Kd.N_reads' HN.out).2.2 (Kd.N_reads' HN.out).2.1 KT.out).mono ?_); rintro e8 w8 ⟨rfl, hb⟩; (try clear hy0 hy1 hy2 hy3); have PN := Aside0.mk (HP.out.below hb); have NN := Aside0.mk (Kd.N_below HN.out hb); have BN := Aside0.mk (below_step HB.out hb); clear hb HP HN HB; have HP := PN; have HN := NN; have HB := BN; clear PN NN BN; skip) | (go_at_call 30; (refine (pen_Ended.calls_ w.heap.size g s _ HP.out).mono ?_); rintro e10 w10 ⟨rfl, hb⟩; have PN := Aside0.mk (HP.out.below hb); have NN := Aside0.mk (Kd.N_below HN.out hb); have BN := Aside0.mk (below_step HB.out hb); clear hb HP HN HB; have HP := PN; have HN := NN; have HB := BN; clear PN NN BN; obtain ⟨ae, A11, c11, eA, hy0, hy1, hy2, hy3, hyl, hyi⟩ := at_T30 (Kd.N_reads' HN.out).2.2 (wrap64 ((came.length : Int) - 1)) PL.out.2.1 PL.out.2.2.1; (try cases eA); clear hyl hyi hy1 hy2 hy3) | fail)
            go_roundg k1
            case measure => have := HK.out; omega
            case rel => exact ⟨i + 1, s, came, _, _, X ++ (⟨#[]⟩ : ByteArray), by rw [jw64 (by have := HL.out; have := HIL.out; omega) (by have := HL.out; have := HIL.out; omega)]; rfl, rfl, rfl, ⟨by have := HK.out; have := HIL.out; omega, by have := HK.out; omega⟩, HPR, HCLC, HCO, HTX, HP, HN, HB⟩
      · have c0 : decide ((i : Int) < (l.length : Int)) = false := decide_eq_false (by omega)
        have c1n : decide (i < l.length) = false := decide_eq_false hi
        have hiF := eq_false hi
        clear hi HP HN HPR HCL HCO HX HK
        go_wp2_with (first
          | (go_at_call 31; (refine (juratlaw30_skip.calls 1 1 2 1 [] _ rfl).mono ?_); rintro e1 w1 ⟨v1, rfl, hR1, hb⟩; obtain ⟨A1, c1, rfl⟩ := Kd.R_slice hR1; have BN := Aside0.mk (below_step (by repeat (first | (with_reducible first | exact HB.out | apply below_drew | apply pw_below_drewN | apply below_drew1) | exact HB.out)) hb); clear hb hR1 HB; have HB := BN; clear BN)
          | (go_at_call 27; (refine (pen_Add.nil_ ⟨1, 2, 1, []⟩ A1 c1 _).mono ?_); rintro e2 w2 ⟨rfl, hb⟩; have BN := Aside0.mk (below_step (by repeat (first | (with_reducible first | exact HB.out | apply below_drew | apply pw_below_drewN | apply below_drew1) | exact HB.out)) hb); clear hb HB; have HB := BN; clear BN)
          | (go_at_call 30; (refine (pen_Ended.nil_ _).mono ?_); rintro e3 w3 ⟨rfl, hb⟩; have BN := Aside0.mk (below_step (by repeat (first | (with_reducible first | exact HB.out | apply below_drew | apply pw_below_drewN | apply below_drew1) | exact HB.out)) hb); clear hb HB; have HB := BN; clear BN)
          | (go_at_call 24; (refine (juratlaw30_awake.calls_ _).mono ?_); rintro e9 w9 ⟨rfl, hb⟩; have BN := Aside0.mk (below_step (by repeat (first | (with_reducible first | exact HB.out | apply below_drew | apply pw_below_drewN | apply below_drew1) | exact HB.out)) hb); clear hb HB; have HB := BN; clear BN)
          | fail)
        go_ret
        exact ⟨rfl, HB.out⟩
theorem juratlaw30_PenAdds.holds (file : ByteArray) (l : List S30) (A : Option Addr) (c : Nat) (w : World) (hA : Kd.C k30 w A l.length l) (hc : l.length ≤ c) (_g0 : file.size ≤ 140737488351232) (g1 : l.length ≤ maxLen ∧ ∀ x ∈ l, good30 x) :
    Calls Try.prog 6 #[.string file, .slice A l.length c] w fun e w' => e = .returned (.bool true) ∧ Below w.heap.size w w' := by
  obtain ⟨b, kf, hf, hq⟩ := few30 l
  cases b with
  | false => exact pa_off1 file l A c w hA hc kf hf
  | true =>
    obtain ⟨h1, h2⟩ := hq rfl
    by_cases hs : file.size ≤ 300
    · exact pa_main file l A c w hA hc kf hf hs h1 (fun x hx => okR_good' (g1.2 x hx) (by have := h2 x hx; omega))
    · exact pa_off2 file l A c w hA hc kf hf (by omega)
end Go.Proofs.Ytejcopppchaneaa.PF
end
section
namespace Go.Proofs.Ytejcopppchaneaa.penAdds
open Go.ChangeShapes Go.WideShapes Go.ChangeAt Go.RowKit
open Go.ChangeMaps (open_string shut_string)
open Go.Proofs.YtejcopppchaneaaW.PrintWords
set_option linter.unusedVariables false
theorem own : ownKnob Try.prog.godebug = none := by kernel_rfl
theorem laidOut : laidOutB Try.prog = true := by kernel_rfl
set_option maxRecDepth 100000 in
theorem lifted (os : Os) (started : os.Started) (H : Type) (enc : TypeId × Value → H) :
    ReturnsInHanded {} Try.checked os 6 .any (Rows.penAddsSpec.pre6 enc Try.prog Try.f6 Rows.penAddsRow.domain false) (Rows.penAddsSpec.post enc Try.prog Try.f6 false true false false) := by
  refine returnsInHanded_of_change_sized (C := Try.checked) own started (by kernel_rfl) Try.func6
    (ChangeSpec.witness6 (enc := enc) (C := Try.checked) false ⟨#[], #[.string ByteArray.empty, .slice none 0 0], []⟩ 8 (by kernel_rfl) (by kernel_rfl) (by kernel_rfl) (by kernel_rfl)) ?_
  intro W base args ds gs before hval0 hW hcnd hsz0 _
  have hsz : (DataW.weightsEach Try.prog (Try.f6.params.toList ++ Rows.penAddsSpec.plain.varTypes Try.prog) (ds ++ gs)).all (· ≤ reachBytes) = true := hsz0
  have hval : ∀ (j : Nat) t v, Try.f6.params[j]? = some t → args[j]? = some v → Value.okWide Try.prog W .any base t v := hval0
  have hW' := hW
  obtain ⟨p, q, hA0, hV, rfl, hfz, hnd⟩ := hW
  have hA : DataW.TrodAll enc Try.prog W 0 (fun _ => true) true Try.f6.params.toList args.toList ds p := hA0
  rw [Try.params6] at hA hval hsz
  obtain ⟨v0, vs0, d0, ds0, p0, q0, hargs, rfl, rfl, h0, r0⟩ := trodAll_cons hA
  obtain ⟨v1, vs1, d1, ds1, p1, q1, rfl, rfl, rfl, h1, r1⟩ := trodAll_cons r0
  obtain ⟨rfl, rfl, rfl⟩ := trodAll_nil r1
  obtain rfl : args = #[v0, v1] := by cases args; simp_all
  obtain ⟨rfl, rfl⟩ := trodVars_none hV
  obtain ⟨a0, rfl, rfl, rfl, y0⟩ := open_string Try.underlying9 (hval 0 9 v0 rfl rfl) h0
  have w0 : a0.size ≤ 140737488351232 := by
    have z := sized_string hsz (j := 0) (t := 9) rfl rfl
    rw [Array.length_toList] at z
    exact z
  obtain ⟨A1, len1, cap1, rfl⟩ := okWide_slice Try.underlying22 (hval 1 22 v1 rfl rfl)
  have k1 := h1
  have lt1 : ∀ x ∈ p1, x.block < W.heap.size := by obtain ⟨m, hm⟩ := k1; exact DataW.trod_lt m _ _ _ hm
  obtain ⟨fu1, hf1⟩ := h1
  obtain ⟨l1, ⟨B1, cc1, he1, hc1, hr1⟩, g1⟩ := PF.opens_22 enc W fu1 _ _ hf1
  have he1' : Value.slice A1 len1 cap1 = .slice B1 l1.length cc1 := by simpa [Value.cells] using he1
  injection he1' with ea eb ec
  subst ea eb ec
  clear hA0 hval0 hsz0 hsz
  refine (PF.juratlaw30_PenAdds.holds a0 l1 _ _ W hr1 hc1 w0 g1).mono fun e W' ⟨he, bel⟩ => ?_
  subst he
  exact ⟨_, rfl, _, _, _, [], _, [], hW', trodAll_mk1 (shut_bool Try.underlying4 _), (trodAll_cons_mk (shut_string Try.underlying9 y0) (trodAll_cons_mk (Below.trod laidOut (by kernel_rfl) (of_decide_eq_true (by kernel_rfl)) k1 bel lt1) trodAll_mk0)), rfl, bel.frame _, fun h => by cases h⟩
theorem over : Rows.penAddsRow.holds Try.pinned (OpenSpec.ofChange Rows.penAddsSpec) :=
  OpenClaim.holds_of_wide 6 Try.f6 rfl rfl rfl rfl rfl rfl rfl ⟨rfl, rfl, rfl, rfl, rfl⟩ rfl rfl rfl rfl rfl (by kernel_rfl) Try.func6 (by kernel_rfl)
    (of_decide_eq_true (by kernel_rfl)) (by unfold Func.isWrapper; first | (rw [if_pos (by decide +kernel)]; kernel_rfl) | (rw [if_neg (by decide +kernel)]; exact ⟨rfl, rfl⟩))
    (fun os started H enc _ => lifted os started H enc)
theorem proved : Rows.PenAddsSaid := over
#print axioms proved
end Go.Proofs.Ytejcopppchaneaa.penAdds
namespace Go.Proofs.Ytejcopppchaneaa
theorem penAdds_holds : Rows.PenAddsSaid := penAdds.proved
end Go.Proofs.Ytejcopppchaneaa
end
