/- Plain lemmas of this session (HRBack): numbers, bytes and lists. -/
import Derived.Test.YtohaoleeaipfbaaHRTake
namespace Go.Proofs.Ytohaoleeaipfbaa.Pure
open Go.RowKit Go.Proofs.YtohaoleeaipfbaaW.PrintWords Go.Proofs.YtohaoleeaipfbaaW.PrintLast Go.Proofs.YtohaoleeaipfbaaW.PrintMore Go.Proofs.Ytohaoleeaipfbaa.PF
theorem vt_cut : ∀ (r n j : Nat), n < 128 ^ r → r ≤ 9 → 1 ≤ r → (r < 9 → 0 < n) → j < (vput n).length → vt r ((vput n).take j) = (0, 0, 4) := by
  intro r
  induction r with
  | zero => intro n j _ _ h; omega
  | succ r ih =>
    intro n j hn hr _ hz hj
    cases j with
    | zero => rfl
    | succ j =>
      by_cases h : n < 128
      · rw [vput_small h] at hj; simp at hj
      · rw [vput_big h, List.length_cons] at hj
        rw [vput_big h, List.take_succ_cons]
        rw [Nat.pow_succ] at hn
        have hr1 : 1 ≤ r := by
          rcases Nat.eq_zero_or_pos r with h0 | h0
          · subst h0; simp at hn; omega
          · exact h0
        simp only [vt]
        rw [ih (n / 128) j (by rw [Nat.div_lt_iff_lt_mul (by decide)]; exact hn) (by omega) hr1 (by omega) (by omega), if_neg (by omega), if_neg (by decide)]
/-! ### records: what was put is taken as it was -/
theorem vp_toNat {n : Int} (h : 0 ≤ n) : vp n = vput n.toNat := by unfold vp; rw [if_neg (by omega)]
theorem vt_vp {n : Int} (h : 0 ≤ n) (h1 : n < 9223372036854775808) (S : List Int) : vt 9 (vp n ++ S) = (n, ((vp n).length : Int), 0) := by
  rw [vp_toNat h, vt_vput (by omega)]
  rw [show ((n.toNat : Nat) : Int) = n by omega]
theorem vt_vp_cut {n : Int} (h : 0 ≤ n) (h1 : n < 9223372036854775808) {j : Nat} (hj : j < (vp n).length) : vt 9 ((vp n).take j) = (0, 0, 4) := by
  rw [vp_toNat h] at hj ⊢
  exact vt_cut 9 n.toNat j (by omega) (by omega) (by omega) (by omega) hj
def lo (b : Bool) (ah : Int) : Int := if b = true then -1 else ah
theorem idsL_gaps (S : List Int) : ∀ (l : List Int) (ah : Int) (b : Bool), (b = true → ah = 0) → 0 ≤ ah → ah ≤ 65534 → rises (lo b ah) l = true → idsL l.length ah b (gaps ah l ++ S) = (l, ((gaps ah l).length : Int), 0)
  | [], ah, b, _, _, _, _ => rfl
  | x :: r, ah, b, hb, h0, h1, h => by
    simp only [rises, Bool.and_eq_true, decide_eq_true_eq] at h
    have hx : ah ≤ x ∧ (b = false → ah < x) := by
      cases b with
      | true => have := hb rfl; simp [lo] at h; exact ⟨by omega, fun h => by cases h⟩
      | false => simp [lo] at h; exact ⟨by omega, fun _ => by omega⟩
    have ih := idsL_gaps S r x false (fun h => by cases h) (by omega) (by omega) (by simpa [lo] using h.2)
    have eg : gaps ah (x :: r) = vp (x - ah) ++ gaps x r := rfl
    rw [List.length_cons, eg, List.append_assoc]
    simp only [idsL]
    rw [vt_vp (n := x - ah) (by omega) (by omega)]
    simp only [Int.toNat_natCast]
    rw [if_pos trivial, if_neg (show ¬ (x - ah = 0 ∧ b = false) from fun h => by have := hx.2 h.2; omega), if_neg (by omega), List.drop_left' rfl, show ah + (x - ah) = x by omega, ih]
    simp
theorem idsL_cut : ∀ (l : List Int) (ah : Int) (b : Bool) (i : Nat), (b = true → ah = 0) → 0 ≤ ah → ah ≤ 65534 → rises (lo b ah) l = true → i < (gaps ah l).length → idsL l.length ah b ((gaps ah l).take i) = ([], 0, 4)
  | [], ah, b, i, _, _, _, _, hi => by simp [gaps] at hi
  | x :: r, ah, b, i, hb, h0, h1, h, hi => by
    simp only [rises, Bool.and_eq_true, decide_eq_true_eq] at h
    have hx : ah ≤ x ∧ (b = false → ah < x) := by
      cases b with
      | true => have := hb rfl; simp [lo] at h; exact ⟨by omega, fun h => by cases h⟩
      | false => simp [lo] at h; exact ⟨by omega, fun _ => by omega⟩
    have eg : gaps ah (x :: r) = vp (x - ah) ++ gaps x r := rfl
    rw [eg, List.length_append] at hi
    rw [List.length_cons, eg]
    by_cases hc : i < (vp (x - ah)).length
    · rw [List.take_append_of_le_length (by omega)]
      simp only [idsL]
      rw [vt_vp_cut (n := x - ah) (by omega) (by omega) hc]
      rfl
    · have ih := idsL_cut r x false (i - (vp (x - ah)).length) (fun h => by cases h) (by omega) (by omega) (by simpa [lo] using h.2) (by omega)
      rw [List.take_append, show (vp (x - ah)).take i = vp (x - ah) from List.take_of_length_le (by omega)]
      simp only [idsL]
      rw [vt_vp (n := x - ah) (by omega) (by omega)]
      simp only [Int.toNat_natCast]
      rw [if_pos trivial, if_neg (show ¬ (x - ah = 0 ∧ b = false) from fun h => by have := hx.2 h.2; omega), if_neg (by omega), List.drop_left' rfl, show ah + (x - ah) = x by omega, ih]
      rfl
theorem gaps_len : ∀ (l : List Int) (ah : Int), 0 ≤ ah → (∀ x ∈ l, 0 ≤ x ∧ x < 65535) → (gaps ah l).length ≤ 9 * l.length
  | [], _, _, _ => by simp [gaps]
  | x :: r, ah, h0, h => by
    have hx := h x (List.mem_cons_self ..)
    have := gaps_len r x hx.1 (fun y hy => h y (List.mem_cons_of_mem _ hy))
    have h9 := vp_nine (n := x - ah) (by omega)
    simp only [gaps, List.length_append, List.length_cons]
    omega
theorem isB_rp {a b c : Int} {l : List Int} (ha : 0 ≤ a ∧ a ≤ 255) : IsB (rp a b c l) := by
  unfold rp
  split
  · intro x hx
    rcases List.mem_cons.1 hx with h | h
    · omega
    · exact isB_append (isB_vp _) (isB_gaps l 0) x h
  · intro x hx
    rcases List.mem_cons.1 hx with h | h
    · omega
    · exact isB_append (isB_vp _) (isB_vp _) x h
theorem rp_len {a b c : Int} {l : List Int} (hc : chk a b c l = true) (hl : l.length ≤ 100) : (rp a b c l).length ≤ 1000 := by
  unfold chk at hc
  unfold rp
  by_cases h4 : a = 4
  · simp only [if_pos h4, Bool.and_eq_true] at hc ⊢
    have h1 := gaps_len l 0 (by omega) (rises_bound l (-1) (by omega) hc.2)
    have h9 := vp_nine (n := (l.length : Int)) (by omega)
    rw [List.length_cons, List.length_append]; omega
  · simp only [if_neg h4, isR, Bool.and_eq_true, decide_eq_true_eq] at hc ⊢
    have h9 := vp_nine (n := b) (by omega)
    have h9' := vp_nine (n := c) (by omega)
    rw [List.length_cons, List.length_append]; omega
theorem rt_cons {s : ByteArray} {c : Int} {r : List Int} (h : bytesOf s = c :: r) (hc : 1 ≤ c ∧ c ≤ 6) : rt s = if c = 4 then rtI r else rtN c r := by
  have hs : s.size = r.length + 1 := by rw [← bytesOf_length, h]; rfl
  have h0 : bt s 0 = c := by
    have := drop_cons s 0 (by omega)
    rw [List.drop_zero, h] at this
    injection this with h1 _
    exact h1.symm
  unfold rt
  rw [if_neg (by omega), h0, if_neg (by omega), h]
  rfl
theorem rt_back {a b c : Int} {l : List Int} (hl : l.length ≤ 100) (hc : chk a b c l = true) {s : ByteArray} {S : List Int} (h : bytesOf s = rp a b c l ++ S) : rt s = (a, b, c, l, ((rp a b c l).length : Int), 0) := by
  unfold rp at h ⊢
  unfold chk at hc
  by_cases h4 : a = 4
  · simp only [if_pos h4, Bool.and_eq_true, decide_eq_true_eq] at hc h ⊢
    rw [List.cons_append, List.append_assoc] at h
    rw [rt_cons h (by omega), if_pos rfl]
    unfold rtI
    rw [vt_vp (n := (l.length : Int)) (by omega) (by omega)]
    simp only [Int.toNat_natCast]
    rw [if_pos trivial, if_neg (by omega), List.drop_left' rfl, idsL_gaps S l 0 true (fun _ => rfl) (by omega) (by omega) hc.2]
    rw [if_pos rfl, h4, hc.1.1, hc.1.2]
    refine Prod.ext rfl (Prod.ext rfl (Prod.ext rfl (Prod.ext rfl (Prod.ext ?_ rfl))))
    simp only [List.length_cons, List.length_append]
    omega
  · simp only [if_neg h4, isR, Bool.and_eq_true, decide_eq_true_eq] at hc h ⊢
    rw [List.cons_append, List.append_assoc] at h
    rw [rt_cons h (by omega), if_neg h4]
    unfold rtN
    have g1 : goodN a b = true := by unfold goodN isR; rw [decide_eq_true (show 0 ≤ b ∧ b ≤ 4611686018427387903 by omega), Bool.true_and]; exact decide_eq_true (fun h => (hc.2.2.2.2.2 h).1)
    have g2 : goodN a c = true := by unfold goodN isR; rw [decide_eq_true (show 0 ≤ c ∧ c ≤ 4611686018427387903 by omega), Bool.true_and]; exact decide_eq_true (fun h => (hc.2.2.2.2.2 h).2)
    rw [vt_vp (n := b) (by omega) (by omega)]
    simp only [Int.toNat_natCast]
    rw [if_pos trivial, if_pos g1, List.drop_left' rfl, vt_vp (n := c) (by omega) (by omega)]
    simp only
    rw [if_pos trivial, if_pos g2, hc.1]
    refine Prod.ext rfl (Prod.ext rfl (Prod.ext rfl (Prod.ext rfl (Prod.ext ?_ rfl))))
    simp only [List.length_cons, List.length_append]
    omega
theorem rt_cut {a b c : Int} {l : List Int} (hl : l.length ≤ 100) (hc : chk a b c l = true) {s : ByteArray} {i : Nat} (hi : i < (rp a b c l).length) (h : bytesOf s = (rp a b c l).take i) : rt s = er 4 := by
  cases i with
  | zero =>
    rw [List.take_zero] at h
    have : s.size = 0 := by rw [← bytesOf_length, h]; rfl
    unfold rt
    rw [if_pos this]
  | succ i =>
    unfold rp at h hi
    unfold chk at hc
    by_cases h4 : a = 4
    · simp only [if_pos h4, Bool.and_eq_true, decide_eq_true_eq] at hc h hi
      rw [List.take_succ_cons] at h
      rw [List.length_cons, List.length_append] at hi
      rw [rt_cons h (by omega), if_pos rfl]
      unfold rtI
      by_cases hv : i < (vp (l.length : Int)).length
      · rw [List.take_append_of_le_length (by omega), vt_vp_cut (n := (l.length : Int)) (by omega) (by omega) hv]
        rfl
      · rw [List.take_append, show (vp (l.length : Int)).take i = vp (l.length : Int) from List.take_of_length_le (by omega), vt_vp (n := (l.length : Int)) (by omega) (by omega)]
        simp only [Int.toNat_natCast]
        rw [if_pos trivial, if_neg (by omega), List.drop_left' rfl, idsL_cut l 0 true _ (fun _ => rfl) (by omega) (by omega) hc.2 (by omega)]
        rfl
    · simp only [if_neg h4, isR, Bool.and_eq_true, decide_eq_true_eq] at hc h hi
      rw [List.take_succ_cons] at h
      rw [List.length_cons, List.length_append] at hi
      rw [rt_cons h (by omega), if_neg h4]
      unfold rtN
      have g1 : goodN a b = true := by unfold goodN isR; rw [decide_eq_true (show 0 ≤ b ∧ b ≤ 4611686018427387903 by omega), Bool.true_and]; exact decide_eq_true (fun h => (hc.2.2.2.2.2 h).1)
      by_cases hv : i < (vp b).length
      · rw [List.take_append_of_le_length (by omega), vt_vp_cut (n := b) (by omega) (by omega) hv]
        rfl
      · rw [List.take_append, show (vp b).take i = vp b from List.take_of_length_le (by omega), vt_vp (n := b) (by omega) (by omega)]
        simp only [Int.toNat_natCast]
        rw [if_pos trivial, if_pos g1, List.drop_left' rfl, vt_vp_cut (n := c) (by omega) (by omega) (by omega)]
        rfl
/-- What is taken may be written, and is written so. -/
theorem vt_vp_back (l : List Int) (hB : IsB l) (h : (vt 9 l).2.2 = 0) : vp (vt 9 l).1 = l.take (vt 9 l).2.1.toNat := by
  have h1 := vt_ok 9 l hB h
  rw [vp_toNat h1.1]
  exact vt_back 9 l (by omega) hB h
theorem idsL_ok : ∀ (m : Nat) (ah : Int) (b : Bool) (l : List Int), IsB l → (b = true → ah = 0) → 0 ≤ ah → ah ≤ 65534 → (idsL m ah b l).2.2 = 0 →
    (idsL m ah b l).1.length = m ∧ rises (lo b ah) (idsL m ah b l).1 = true ∧ gaps ah (idsL m ah b l).1 = l.take (idsL m ah b l).2.1.toNat ∧ 0 ≤ (idsL m ah b l).2.1 ∧ (idsL m ah b l).2.1 ≤ l.length := by
  intro m
  induction m with
  | zero => intro ah b l _ _ _ _ _; simp [idsL, rises, gaps]
  | succ m ih =>
    intro ah b l hB hb h0 h1
    simp only [idsL]
    by_cases he : (vt 9 l).2.2 = 0
    · have hv := vt_ok 9 l hB he
      have hbk := vt_vp_back l hB he
      rw [if_pos he]
      generalize vt 9 l = v at hv hbk ⊢
      obtain ⟨d, j, e⟩ := v
      simp only at hv hbk ⊢
      by_cases h9 : d = 0 ∧ b = false
      · rw [if_pos h9]; intro h; exact absurd h (by decide)
      · rw [if_neg h9]
        by_cases h11 : 65534 - ah < d
        · rw [if_pos h11]; intro h; exact absurd h (by decide)
        · rw [if_neg h11]
          have ih := ih (ah + d) false (l.drop j.toNat) (isB_drop hB _) (fun h => by cases h) (by omega) (by omega)
          generalize idsL m (ah + d) false (l.drop j.toNat) = Q at ih ⊢
          by_cases hq : Q.2.2 = 0
          · rw [if_pos hq]
            intro _
            obtain ⟨i1, i2, i3, i4, i5⟩ := ih hq
            rw [List.length_drop] at i5
            refine ⟨by rw [List.length_cons, i1], ?_, ?_, by simp only; omega, by simp only; omega⟩
            · simp only [rises, Bool.and_eq_true, decide_eq_true_eq]
              refine ⟨⟨?_, by omega⟩, by simpa [lo] using i2⟩
              cases b with
              | true => simp [lo]; omega
              | false =>
                simp only [lo]
                have : d ≠ 0 := fun h => h9 ⟨h, rfl⟩
                rw [if_neg (by decide)]
                omega
            · simp only [gaps]
              rw [show ah + d - ah = d by omega, hbk, i3, show (j + Q.2.1).toNat = j.toNat + Q.2.1.toNat by omega, List.take_add]
          · rw [if_neg hq]; intro h; exact absurd h hq
    · rw [if_neg he]; intro h; exact absurd h he
theorem rt_err (s : ByteArray) (h : (rt s).2.2.2.2.2 ≠ 0) : (rt s).2.2.2.2.1 = 0 := by
  revert h
  unfold rt rtI rtN
  repeat' split
  all_goals (first | (intro _; rfl) | (intro h; exact absurd rfl h))
theorem rt_forth (s : ByteArray) (h : (rt s).2.2.2.2.2 = 0) : chk (rt s).1 (rt s).2.1 (rt s).2.2.1 (rt s).2.2.2.1 = true ∧ rp (rt s).1 (rt s).2.1 (rt s).2.2.1 (rt s).2.2.2.1 = (bytesOf s).take (rt s).2.2.2.2.1.toNat ∧ 1 ≤ (rt s).2.2.2.2.1 ∧ (rt s).2.2.2.2.1 ≤ s.size := by
  by_cases h0 : s.size = 0
  · revert h; unfold rt; rw [if_pos h0]; intro h; exact absurd h (by decide)
  by_cases hc : bt s 0 < 1 ∨ 6 < bt s 0
  · revert h; unfold rt; rw [if_neg h0, if_pos hc]; intro h; exact absurd h (by decide)
  have hd := drop_cons s 0 (by omega)
  rw [List.drop_zero] at hd
  have hB := isB_drop (isB_bytesOf s) 1
  have hlen : ((bytesOf s).drop 1).length = s.size - 1 := by rw [List.length_drop, bytesOf_length]
  have hcons : bytesOf s = bt s 0 :: (bytesOf s).drop 1 := hd
  have hrt := rt_cons hcons (by omega)
  revert h
  rw [hrt]
  generalize (bytesOf s).drop 1 = L at hB hlen hcons
  generalize bt s 0 = c at hc hcons
  rw [hcons]
  by_cases h4 : c = 4
  · rw [if_pos h4]
    unfold rtI
    by_cases he : (vt 9 L).2.2 = 0
    · have hv := vt_ok 9 L hB he
      have hbk := vt_vp_back L hB he
      rw [if_pos he]
      generalize vt 9 L = v at hv hbk ⊢
      obtain ⟨d, j, e⟩ := v
      simp only at hv hbk ⊢
      by_cases h6 : 65535 < d
      · rw [if_pos h6]; intro h; exact absurd h (by decide)
      · rw [if_neg h6]
        have hi := idsL_ok d.toNat 0 true (L.drop j.toNat) (isB_drop hB _) (fun _ => rfl) (by omega) (by omega)
        generalize idsL d.toNat 0 true (L.drop j.toNat) = Q at hi ⊢
        by_cases hq : Q.2.2 = 0
        · rw [if_pos hq]
          intro _
          obtain ⟨i1, i2, i3, i4, i5⟩ := hi hq
          rw [List.length_drop] at i5
          refine ⟨?_, ?_, by simp only; omega, by simp only; omega⟩
          · unfold chk
            simp only [if_true]
            exact i2
          · unfold rp
            simp only [if_true]
            rw [i1, show ((d.toNat : Nat) : Int) = d by omega, hbk, i3, show (1 + j + Q.2.1).toNat = (j.toNat + Q.2.1.toNat) + 1 by omega, List.take_succ_cons, List.take_add, h4]
        · rw [if_neg hq]; intro h; exact absurd h hq
    · rw [if_neg he]; intro h; exact absurd h he
  · rw [if_neg h4]
    unfold rtN
    by_cases he : (vt 9 L).2.2 = 0
    · have hv := vt_ok 9 L hB he
      have hbk := vt_vp_back L hB he
      rw [if_pos he]
      generalize vt 9 L = v at hv hbk ⊢
      obtain ⟨d, j, e⟩ := v
      simp only at hv hbk ⊢
      by_cases hg : goodN c d = true
      · rw [if_pos hg]
        have hv2 := vt_ok 9 (L.drop j.toNat) (isB_drop hB _)
        have hbk2 := vt_vp_back (L.drop j.toNat) (isB_drop hB _)
        generalize vt 9 (L.drop j.toNat) = u at hv2 hbk2 ⊢
        obtain ⟨d2, j2, e2⟩ := u
        simp only at hv2 hbk2 ⊢
        by_cases he2 : e2 = 0
        · have hv2 := hv2 he2
          have hbk2 := hbk2 he2
          rw [List.length_drop] at hv2
          rw [if_pos he2]
          by_cases hg2 : goodN c d2 = true
          · rw [if_pos hg2]
            intro _
            unfold goodN isR at hg hg2
            simp only [Bool.and_eq_true, decide_eq_true_eq] at hg hg2
            refine ⟨?_, ?_, by simp only; omega, by simp only; omega⟩
            · unfold chk
              simp only [if_neg h4, isR, Bool.and_eq_true, decide_eq_true_eq]
              exact ⟨trivial, hg.1, hg2.1, by omega, by omega, fun h => ⟨hg.2 h, hg2.2 h⟩⟩
            · unfold rp
              simp only [if_neg h4]
              rw [hbk, hbk2, show (1 + j + j2).toNat = (j.toNat + j2.toNat) + 1 by omega, List.take_succ_cons, List.take_add]
          · rw [if_neg hg2]; intro h; exact absurd h (by decide)
        · rw [if_neg he2]; intro h; exact absurd h he2
      · rw [if_neg hg]; intro h; exact absurd h (by decide)
    · rw [if_neg he]; intro h; exact absurd h he
end Go.Proofs.Ytohaoleeaipfbaa.Pure
