/- Plain lemmas of this session (FBack): numbers, bytes and lists. -/
import Derived.Test.YtpeecclmpbickaaFJoin
import Derived.Test.YtpeecclmpbickaaFVarref
namespace Go.Proofs.Ytpeecclmpbickaa.Pure
open Go.RowKit Go.Proofs.YtpeecclmpbickaaW.PrintWords Go.Proofs.YtpeecclmpbickaaW.PrintLast Go.Proofs.YtpeecclmpbickaaW.PrintMore Go.Proofs.Ytpeecclmpbickaa.PF
/-! ### frames: what was joined is split as it was; no other bytes lead there; what is cut off -/
theorem bt_zero {s : ByteArray} {c : Int} {l : List Int} (h : bytesOf s = c :: l) : bt s 0 = c ∧ s.size = l.length + 1 ∧ bytesOf (s.extract 1 s.size) = l := by
  have hs : s.size = l.length + 1 := by rw [← bytesOf_length, h]; rfl
  refine ⟨?_, hs, ?_⟩
  · have := bt_getD s 0
    rw [h] at this
    exact this
  · rw [bytesOf_extract, ← bytesOf_length s, List.take_length, h]; rfl
theorem ft_fp {x : Int × ByteArray} (hx : okF x) {s : ByteArray} {R : List Int} (h : bytesOf s = bytesOf (fp x.1 x.2).1 ++ R) : ft s = (x.1, x.2, ((fp x.1 x.2).1.size : Int), 0) := by
  have hx' := hx
  unfold okF at hx'
  have hfs : (fp x.1 x.2).1.size = 1 + (vput x.2.size).length + x.2.size := by
    have h3 : (bytesOf (fp x.1 x.2).1).length = (x.1 :: (vput x.2.size ++ bytesOf x.2)).length := by rw [fp_bytes hx]
    rw [bytesOf_length] at h3
    simp [bytesOf_length] at h3
    omega
  rw [fp_bytes hx, List.cons_append, List.append_assoc] at h
  obtain ⟨h0, h1, h2⟩ := bt_zero h
  have hv : vt 9 (bytesOf (s.extract 1 s.size)) = ((x.2.size : Int), ((vput x.2.size).length : Int), 0) := by rw [h2]; exact vt_vput (by omega) _
  rw [List.length_append, List.length_append, bytesOf_length] at h1
  unfold ft
  rw [if_neg (by omega), h0, if_neg (by omega), hv, if_pos rfl]
  simp only
  rw [if_neg (by omega), if_neg (by omega)]
  refine Prod.ext rfl (Prod.ext ?_ (Prod.ext ?_ rfl))
  · refine bytesOf_inj ?_
    simp only
    rw [bytesOf_extract, h]
    rw [show (1 + ((vput x.2.size).length : Int)).toNat = (vput x.2.size).length + 1 by omega, show (1 + ((vput x.2.size).length : Int) + (x.2.size : Int)).toNat = ((vput x.2.size).length + x.2.size) + 1 by omega, List.take_succ_cons, List.drop_succ_cons]
    rw [List.take_length_add_append, List.drop_left' rfl, ← bytesOf_length x.2, List.take_left' rfl]
  · simp only; omega
theorem spl_join : ∀ (m : List (Int × ByteArray)) (d : Nat) (s : ByteArray) (acc : List (Int × ByteArray)) (i : Nat), (∀ x ∈ m, okF x) → (bytesOf s).drop i = flatF m → i ≤ s.size → s.size - i < d → spl d s acc i = (acc ++ m, 0, 0)
  | [], d, s, acc, i, _, h, hi, hd => by
    obtain ⟨d, rfl⟩ : ∃ e, d = e + 1 := ⟨d - 1, by omega⟩
    have : ((bytesOf s).drop i).length = 0 := by rw [h]; rfl
    rw [List.length_drop, bytesOf_length] at this
    simp only [spl]
    rw [if_neg (by omega), List.append_nil]
  | x :: r, d, s, acc, i, hok, h, hi, hd => by
    obtain ⟨d, rfl⟩ : ∃ e, d = e + 1 := ⟨d - 1, by omega⟩
    have hx := hok x (List.mem_cons_self ..)
    have hfl : flatF (x :: r) = bytesOf (fp x.1 x.2).1 ++ flatF r := rfl
    rw [hfl] at h
    have hlen : ((bytesOf s).drop i).length = (bytesOf (fp x.1 x.2).1 ++ flatF r).length := by rw [h]
    rw [List.length_drop, bytesOf_length, List.length_append, bytesOf_length] at hlen
    have hpos : 0 < (fp x.1 x.2).1.size := by
      rw [← bytesOf_length, fp_bytes hx]; simp
    have he : bytesOf (s.extract i s.size) = bytesOf (fp x.1 x.2).1 ++ flatF r := by
      rw [bytesOf_extract, ← bytesOf_length s, List.take_length]; exact h
    have hft := ft_fp hx he
    simp only [spl]
    rw [if_pos (by omega), hft, if_pos rfl]
    simp only [Int.toNat_natCast]
    have := spl_join r d s (acc ++ [(x.1, x.2)]) (i + (fp x.1 x.2).1.size) (fun y hy => hok y (List.mem_cons_of_mem _ hy)) (by rw [← List.drop_drop, h]; exact List.drop_left' (bytesOf_length _)) (by omega) (by omega)
    rw [this, List.append_assoc]; rfl
/-- What is split is the frames' bytes. -/
theorem ft_back {s : ByteArray} (h : (ft s).2.2.2 = 0) : okF ((ft s).1, (ft s).2.1) ∧ bytesOf (fp (ft s).1 (ft s).2.1).1 = (bytesOf s).take (ft s).2.2.1.toNat := by
  have hsz := ft_size s h
  have hb := isB_bytesOf (s.extract 1 s.size)
  revert h hsz
  unfold ft
  split
  · intro h; simp at h
  · split
    · intro h; simp at h
    · split
      · rename_i h0 h1 h2
        have hv := vt_ok 9 _ hb h2
        have hbk := vt_back 9 _ (by omega) hb h2
        rw [bytesOf_length, size_extract' _ _ _ (Nat.le_refl _)] at hv
        split
        · intro h; simp at h
        · split
          · intro h; simp at h
          · rename_i h3 h4
            intro _ _
            obtain ⟨n, hn⟩ := Int.eq_ofNat_of_zero_le hv.1
            obtain ⟨j, hj⟩ := Int.eq_ofNat_of_zero_le (show 0 ≤ (vt 9 (bytesOf (s.extract 1 s.size))).2.1 by omega)
            rw [hn] at h3
            rw [hn, hj] at hv h4 hbk
            rw [hn, hj]
            simp only [Int.toNat_natCast] at hbk ⊢
            have e1 : (1 + (j : Int)).toNat = j + 1 := by omega
            have e2 : (1 + (j : Int) + (n : Int)).toNat = (j + n) + 1 := by omega
            rw [e1, e2]
            have hbs : (s.extract (j + 1) (j + n + 1)).size = n := by rw [size_extract' _ _ _ (by omega)]; omega
            have hok : okF (bt s 0, s.extract (j + 1) (j + n + 1)) := by
              unfold okF; simp only; rw [hbs]; omega
            refine ⟨hok, ?_⟩
            rw [fp_bytes hok]
            simp only
            rw [hbs, hbk, bytesOf_extract, bytesOf_extract, ← bytesOf_length s, List.take_length]
            have hd := drop_cons s 0 (by omega)
            rw [List.drop_zero] at hd
            have hd' : bytesOf s = bt s 0 :: (bytesOf s).drop 1 := hd
            generalize hg : (bytesOf s).drop 1 = g at hd' ⊢
            rw [hd', List.take_succ_cons, List.drop_succ_cons]
            congr 1
            have ht := List.take_append_drop j (List.take (j + n) g)
            rwa [List.take_take, Nat.min_eq_left (by omega)] at ht
      · rename_i h2
        intro h; exact absurd h h2
theorem spl_back : ∀ (d : Nat) (s : ByteArray) (acc : List (Int × ByteArray)) (i : Nat), (∀ x ∈ acc, okF x) → flatF acc = (bytesOf s).take i → i ≤ s.size → s.size - i < d → (spl d s acc i).2.2 = 0 → (∀ x ∈ (spl d s acc i).1, okF x) ∧ flatF (spl d s acc i).1 = bytesOf s := by
  intro d
  induction d with
  | zero => intro s acc i _ _ _ h; omega
  | succ d ih =>
    intro s acc i hok hfl hi hd
    simp only [spl]
    split
    · rename_i hlt
      split
      · rename_i h0
        have hf := ft_size _ h0
        have hb := ft_back h0
        have hsz : (s.extract i s.size).size = s.size - i := size_extract' _ _ _ (Nat.le_refl _)
        rw [hsz] at hf
        intro h
        refine ih s _ _ ?_ ?_ (by omega) (by omega) h
        · intro x hx
          rcases List.mem_append.1 hx with hx | hx
          · exact hok x hx
          · rw [List.mem_singleton] at hx; rw [hx]; exact hb.1
        · have e : flatF (acc ++ [((ft (s.extract i s.size)).1, (ft (s.extract i s.size)).2.1)]) = flatF acc ++ bytesOf (fp (ft (s.extract i s.size)).1 (ft (s.extract i s.size)).2.1).1 := by
            unfold flatF
            rw [List.flatMap_append]
            simp only [List.flatMap_cons, List.flatMap_nil, List.append_nil]
          rw [e, hfl, hb.2, bytesOf_extract, ← bytesOf_length s, List.take_length, ← List.take_add]
      · rename_i h0
        intro h; exact absurd h h0
    · rename_i hlt
      intro _
      refine ⟨hok, ?_⟩
      rw [hfl, List.take_of_length_le (by rw [bytesOf_length]; omega)]
/-- A number that is cut off is short. -/
theorem vt_cut : ∀ (r n j : Nat), n < 128 ^ r → r ≤ 9 → 1 ≤ r → (r < 9 → 0 < n) → j < (vput n).length → vt r ((vput n).take j) = (0, 0, 4) := by
  intro r
  induction r with
  | zero => intro n j _ _ h; omega
  | succ r ih =>
    intro n j hn hr _ hz hj
    cases j with
    | zero => rfl
    | succ j =>
      by_cases h : n < 128
      · rw [vput_small h] at hj; simp at hj
      · rw [vput_big h, List.length_cons] at hj
        rw [vput_big h, List.take_succ_cons]
        rw [Nat.pow_succ] at hn
        have hr1 : 1 ≤ r := by
          rcases Nat.eq_zero_or_pos r with h0 | h0
          · subst h0; simp at hn; omega
          · exact h0
        simp only [vt]
        rw [ih (n / 128) j (by rw [Nat.div_lt_iff_lt_mul (by decide)]; exact hn) (by omega) hr1 (by omega) (by omega), if_neg (by omega), if_neg (by decide)]
theorem ft_cut {x : Int × ByteArray} (hx : okF x) {s : ByteArray} {c : Nat} (h : bytesOf s = (bytesOf (fp x.1 x.2).1).take c) (h0 : 0 < c) (hc : c < (fp x.1 x.2).1.size) : ft s = (0, (⟨#[]⟩ : ByteArray), 0, 4) := by
  have hx' := hx
  unfold okF at hx'
  have hfs : (fp x.1 x.2).1.size = 1 + (vput x.2.size).length + x.2.size := by
    have h3 : (bytesOf (fp x.1 x.2).1).length = (x.1 :: (vput x.2.size ++ bytesOf x.2)).length := by rw [fp_bytes hx]
    rw [bytesOf_length] at h3
    simp [bytesOf_length] at h3
    omega
  obtain ⟨c, rfl⟩ : ∃ e, c = e + 1 := ⟨c - 1, by omega⟩
  rw [fp_bytes hx, List.take_succ_cons] at h
  obtain ⟨b0, b1, b2⟩ := bt_zero h
  rw [List.length_take, List.length_append, bytesOf_length] at b1
  unfold ft
  rw [if_neg (by omega), b0, if_neg (by omega), b2]
  by_cases hv : c < (vput x.2.size).length
  · rw [List.take_append_of_le_length (by omega), vt_cut 9 _ c (by omega) (by omega) (by omega) (by omega) hv, if_neg (by decide)]
  · have e : (vput x.2.size ++ bytesOf x.2).take c = vput x.2.size ++ (bytesOf x.2).take (c - (vput x.2.size).length) := by
      rw [List.take_append]
      rw [List.take_of_length_le (by omega)]
    rw [e, vt_vput (by omega), if_pos rfl]
    simp only
    rw [if_neg (by omega), if_pos (by omega)]
theorem spl_cut : ∀ (m : List (Int × ByteArray)) (d : Nat) (s : ByteArray) (acc : List (Int × ByteArray)) (i c : Nat), (∀ x ∈ m, okF x) → (bytesOf s).drop i = (flatF m).take c → i ≤ s.size → s.size - i < d → (spl d s acc i).2.2 = 0 ∨ ((spl d s acc i).2.2 = 4 ∧ (spl d s acc i).2.1 ≤ s.size)
  | [], d, s, acc, i, c, _, h, hi, hd => by
    obtain ⟨d, rfl⟩ : ∃ e, d = e + 1 := ⟨d - 1, by omega⟩
    have : ((bytesOf s).drop i).length = 0 := by rw [h]; simp [flatF]
    rw [List.length_drop, bytesOf_length] at this
    simp only [spl]
    rw [if_neg (by omega)]
    exact .inl rfl
  | x :: r, d, s, acc, i, c, hok, h, hi, hd => by
    obtain ⟨d, rfl⟩ : ∃ e, d = e + 1 := ⟨d - 1, by omega⟩
    have hx := hok x (List.mem_cons_self ..)
    have hfl : flatF (x :: r) = bytesOf (fp x.1 x.2).1 ++ flatF r := rfl
    rw [hfl] at h
    have hlen : ((bytesOf s).drop i).length = ((bytesOf (fp x.1 x.2).1 ++ flatF r).take c).length := by rw [h]
    rw [List.length_drop, bytesOf_length, List.length_take, List.length_append, bytesOf_length] at hlen
    have hpos : 0 < (fp x.1 x.2).1.size := by
      rw [← bytesOf_length, fp_bytes hx]; simp
    have he : bytesOf (s.extract i s.size) = (bytesOf (fp x.1 x.2).1 ++ flatF r).take c := by
      rw [bytesOf_extract, ← bytesOf_length s, List.take_length]; exact h
    simp only [spl]
    by_cases hlt : i < s.size
    · rw [if_pos hlt]
      by_cases hc : c < (fp x.1 x.2).1.size
      · rw [List.take_append_of_le_length (by rw [bytesOf_length]; omega)] at he
        have hft := ft_cut hx he (by omega) hc
        rw [hft, if_neg (by decide)]
        exact .inr ⟨rfl, by simp only; omega⟩
      · have e : (bytesOf (fp x.1 x.2).1 ++ flatF r).take c = bytesOf (fp x.1 x.2).1 ++ (flatF r).take (c - (fp x.1 x.2).1.size) := by
          rw [List.take_append, List.take_of_length_le (by rw [bytesOf_length]; omega), bytesOf_length]
        rw [e] at he h
        have hft := ft_fp hx he
        rw [hft, if_pos rfl]
        simp only [Int.toNat_natCast]
        exact spl_cut r d s _ (i + (fp x.1 x.2).1.size) (c - (fp x.1 x.2).1.size) (fun y hy => hok y (List.mem_cons_of_mem _ hy)) (by rw [← List.drop_drop, h]; exact List.drop_left' (bytesOf_length _)) (by omega) (by omega)
    · rw [if_neg hlt]
      exact .inl rfl
end Go.Proofs.Ytpeecclmpbickaa.Pure
