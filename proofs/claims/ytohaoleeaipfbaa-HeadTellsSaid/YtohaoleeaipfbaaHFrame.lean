/- Plain lemmas of this session (HFrame): numbers, bytes and lists. -/
import Derived.Test.YtohaoleeaipfbaaHVarref
import Derived.Test.YtohaoleeaipfbaaHRput
import Derived.Lib.Bytes
import Derived.Lib.Strings
import Derived.Test.YtohaoleeaipfbaaPFx9
import Derived.Test.YtohaoleeaipfbaaPFx11
import Derived.Test.YtohaoleeaipfbaaPFx11
import Derived.Test.YtohaoleeaipfbaaPFx12
namespace Go.Proofs.Ytohaoleeaipfbaa.Pure
open Go.RowKit Go.Proofs.YtohaoleeaipfbaaW.PrintWords Go.Proofs.YtohaoleeaipfbaaW.PrintLast Go.Proofs.YtohaoleeaipfbaaW.PrintMore Go.Proofs.Ytohaoleeaipfbaa.PF
/-! ### frames: the plain law -/
theorem toList_nil (s : ByteArray) : (s.toList = ([] : List UInt8)) ↔ s.size = 0 := by
  rw [Lib.toList_data]
  constructor
  · intro h
    have : s.data.toList.length = 0 := by rw [h]; rfl
    rwa [data_length] at this
  · intro h
    exact List.eq_nil_of_length_eq_zero (by rw [data_length]; exact h)
theorem size_extract' (s : ByteArray) (i j : Nat) (h : j ≤ s.size) : (s.extract i j).size = j - i := by rw [ByteArray.size_extract]; omega
theorem extract_extract' (s : ByteArray) (i n : Nat) : (s.extract i s.size).extract 0 n = s.extract i (i + n) := by
  refine bytesOf_inj ?_
  rw [bytesOf_extract, bytesOf_extract, bytesOf_extract, List.drop_zero, ← bytesOf_length s, List.take_length, List.drop_take]
  congr 1; omega
/-- A frame's bytes. -/
def fp (kind : Int) (b : ByteArray) : ByteArray × Int :=
  if kind < 1 ∨ 127 < kind then ((⟨#[]⟩ : ByteArray), 2) else if 67108864 < b.size then ((⟨#[]⟩ : ByteArray), 5) else (strOfNums [kind] ++ strOfNums (vp b.size) ++ b, 0)
/-- The frame with which bytes begin. -/
def ft (s : ByteArray) : Int × ByteArray × Int × Int :=
  if s.size = 0 then (0, (⟨#[]⟩ : ByteArray), 0, 4) else if bt s 0 < 1 ∨ 127 < bt s 0 then (0, (⟨#[]⟩ : ByteArray), 0, 3) else
    if (vt 9 (bytesOf (s.extract 1 s.size))).2.2 = 0 then
      (if 67108864 < (vt 9 (bytesOf (s.extract 1 s.size))).1 then (0, (⟨#[]⟩ : ByteArray), 0, 5) else
        if (s.size : Int) - 1 - (vt 9 (bytesOf (s.extract 1 s.size))).2.1 < (vt 9 (bytesOf (s.extract 1 s.size))).1 then (0, (⟨#[]⟩ : ByteArray), 0, 4) else
          (bt s 0, s.extract (1 + (vt 9 (bytesOf (s.extract 1 s.size))).2.1).toNat (1 + (vt 9 (bytesOf (s.extract 1 s.size))).2.1 + (vt 9 (bytesOf (s.extract 1 s.size))).1).toNat, 1 + (vt 9 (bytesOf (s.extract 1 s.size))).2.1 + (vt 9 (bytesOf (s.extract 1 s.size))).1, 0))
    else (0, (⟨#[]⟩ : ByteArray), 0, (vt 9 (bytesOf (s.extract 1 s.size))).2.2)
/-- What is taken: how long it is. -/
theorem ft_size (s : ByteArray) (h : (ft s).2.2.2 = 0) : 2 ≤ (ft s).2.2.1 ∧ (ft s).2.2.1 ≤ s.size := by
  revert h
  have hb := isB_bytesOf (s.extract 1 s.size)
  unfold ft
  split
  · intro h; simp at h
  · split
    · intro h; simp at h
    · split
      · rename_i h0 h1 h2
        have := vt_ok 9 _ hb h2
        rw [bytesOf_length] at this
        split
        · intro h; simp at h
        · split
          · intro h; simp at h
          · intro _
            simp only
            omega
      · rename_i h2
        intro h; exact absurd h h2
/-! ### frames: what the program computes -/
theorem fput_ev (kind : Int) (b : ByteArray) (hb : b.size ≤ 140737488351232) : Ev (fun k => frame_Put.f k kind b) (fp kind b) := by
  unfold fp frame_Put.f
  have hj : ∀ x : Bool, x = true → Ev (fun k => frame_Put.j0 k x kind b) ((⟨#[]⟩ : ByteArray), 2) := by
    rintro x rfl
    exact ev_add 1 (fun k => by rw [frame_Put.j0, if_pos rfl])
  by_cases h1 : kind < 1
  · rw [if_pos (.inl h1)]
    exact Ev.congr (fun k => by rw [if_pos h1]) (hj true rfl)
  · refine Ev.congr (fun k => by rw [if_neg h1]) ?_
    by_cases h2 : 127 < kind
    · rw [if_pos (.inr h2)]
      exact hj _ (by simp; omega)
    · rw [if_neg (by omega)]
      have hd : decide (kind > 127) = false := by simp; omega
      rw [hd]
      refine Ev.step (fun k => by rw [frame_Put.j0, if_neg (by decide)]) ?_
      by_cases h3 : 67108864 < b.size
      · rw [if_pos h3]
        exact ev_is (fun k => by rw [if_pos (by omega)])
      · rw [if_neg h3]
        refine Ev.congr (fun k => by rw [if_neg (by omega), Option.bind_some, show kind % 256 = kind by omega]) ?_
        refine Ev.bind (put_ev (by omega)) ?_
        have h9 := vp_nine (n := (b.size : Int)) (by omega)
        have e1 : (strOfNums [kind]).size + (strOfNums (vp b.size)).size ≤ 9223372036854775807 := by rw [strOfNums_size, strOfNums_size]; simp; omega
        have e2 : (strOfNums [kind] ++ strOfNums (vp b.size)).size + b.size ≤ 9223372036854775807 := by rw [ByteArray.size_append, strOfNums_size, strOfNums_size]; simp; omega
        exact ev_is (fun k => by rw [if_pos e1, if_pos e2])
theorem ftake_ev (s : ByteArray) (hs : s.size ≤ 140737488351232) : Ev (fun k => frame_Take.f k s) (ft s) := by
  unfold ft frame_Take.f
  by_cases h0 : s.size = 0
  · rw [if_pos h0]
    exact ev_is (fun k => by rw [if_pos ((toList_nil s).2 h0)])
  · rw [if_neg h0]
    refine Ev.congr (fun k => by rw [if_neg (fun h => h0 ((toList_nil s).1 h)), if_pos (by omega)]) ?_
    by_cases h1 : bt s 0 < 1
    · rw [if_pos (.inl h1)]
      exact ev_is (fun k => by rw [if_pos h1])
    · refine Ev.congr (fun k => by rw [if_neg h1]) ?_
      by_cases h2 : bt s 0 > 127
      · rw [if_pos (.inr h2)]
        exact ev_is (fun k => by rw [if_pos h2])
      · rw [if_neg (by omega)]
        refine Ev.congr (fun k => by rw [if_neg h2, if_pos (by omega)]) ?_
        refine Ev.bind (take_ev _) (ev_is (fun k => ?_))
        have hb := isB_bytesOf (s.extract 1 s.size)
        by_cases h3 : (vt 9 (bytesOf (s.extract 1 s.size))).2.2 = 0
        · rw [if_pos h3, if_pos h3]
          have hv := vt_ok 9 _ hb h3
          rw [bytesOf_length, size_extract' _ _ _ (Nat.le_refl _)] at hv
          obtain ⟨n, hn⟩ : ∃ n, n = (vt 9 (bytesOf (s.extract 1 s.size))).1 := ⟨_, rfl⟩
          obtain ⟨j, hj⟩ : ∃ j, j = (vt 9 (bytesOf (s.extract 1 s.size))).2.1 := ⟨_, rfl⟩
          rw [← hn, ← hj] at hv ⊢
          by_cases h4 : 67108864 < n
          · rw [if_pos (show n > 67108864 from h4), if_pos h4]
          · rw [if_neg (show ¬ n > 67108864 from h4), if_neg h4]
            have hw : wrap64 (1 + j) = 1 + j := jw64 (by omega) (by omega)
            have hsz : (s.extract (1 + j).toNat s.size).size = s.size - (1 + j).toNat := size_extract' _ _ _ (Nat.le_refl _)
            rw [hw, if_pos (show 0 ≤ 1 + j by omega), if_pos (show 1 + j ≤ (s.size : Int) by omega), hsz]
            by_cases h5 : (s.size : Int) - 1 - j < n
            · rw [if_pos (show n > ((s.size - (1 + j).toNat : Nat) : Int) by omega), if_pos h5]
            · have hbt := bt_range s 0
              rw [if_neg (show ¬ n > ((s.size - (1 + j).toNat : Nat) : Int) by omega), if_pos (show 0 ≤ n by omega), if_pos (show n ≤ ((s.size - (1 + j).toNat : Nat) : Int) by omega), if_neg h5, jw64 (n := bt s 0) (by omega) (by omega), jw64 (n := 1 + j + n) (by omega) (by omega), extract_extract', show (1 + j).toNat + n.toNat = (1 + j + n).toNat by omega]
        · rw [if_neg h3, if_neg h3]
/-! ### frames: the document's reference -/
theorem rftake_ev (s : ByteArray) (hs : s.size ≤ 140737488351232) : Ev (fun k => juratref04_Take.f k s) (ft s) := by
  unfold ft juratref04_Take.f
  have hj : ∀ x : Bool, x = true → Ev (fun k => juratref04_Take.j0 k s x) (0, (⟨#[]⟩ : ByteArray), 0, 3) := by
    rintro x rfl
    exact ev_add 1 (fun k => by rw [juratref04_Take.j0, if_pos rfl])
  by_cases h0 : s.size = 0
  · rw [if_pos h0]
    exact ev_is (fun k => by rw [if_pos (by omega)])
  · rw [if_neg h0]
    refine Ev.congr (fun k => by rw [if_neg (by omega), if_pos (by omega)]) ?_
    have hbt := bt_range s 0
    by_cases h1 : bt s 0 = 0
    · rw [if_pos (by omega)]
      exact Ev.congr (fun k => by rw [if_pos h1]) (hj _ rfl)
    · refine Ev.congr (fun k => by rw [if_neg h1]) ?_
      by_cases h2 : bt s 0 > 127
      · rw [if_pos (by omega)]
        exact hj _ (by simp; omega)
      · rw [if_neg (by omega)]
        have hd : decide (bt s 0 > 127) = false := by simp; omega
        rw [hd]
        refine Ev.step (fun k => by rw [juratref04_Take.j0, if_neg (by decide), if_pos (by omega)]) ?_
        refine Ev.bind (rtake_ev _ (by rw [size_extract' _ _ _ (Nat.le_refl _)]; omega)) (ev_is (fun k => ?_))
        have hb := isB_bytesOf (s.extract 1 s.size)
        by_cases h3 : (vt 9 (bytesOf (s.extract 1 s.size))).2.2 = 0
        · rw [if_pos h3, if_pos h3]
          have hv := vt_ok 9 _ hb h3
          rw [bytesOf_length, size_extract' _ _ _ (Nat.le_refl _)] at hv
          obtain ⟨n, hn⟩ : ∃ n, n = (vt 9 (bytesOf (s.extract 1 s.size))).1 := ⟨_, rfl⟩
          obtain ⟨j, hj⟩ : ∃ j, j = (vt 9 (bytesOf (s.extract 1 s.size))).2.1 := ⟨_, rfl⟩
          rw [← hn, ← hj] at hv ⊢
          by_cases h4 : 67108864 < n
          · rw [if_pos (show n > 67108864 from h4), if_pos h4]
          · rw [if_neg (show ¬ n > 67108864 from h4), if_neg h4]
            have hw : wrap64 (1 + j) = 1 + j := jw64 (by omega) (by omega)
            have hw2 : wrap64 ((s.size : Int) - 1) = (s.size : Int) - 1 := jw64 (by omega) (by omega)
            have hw3 : wrap64 ((s.size : Int) - 1 - j) = (s.size : Int) - 1 - j := jw64 (by omega) (by omega)
            have hw4 : wrap64 (1 + j + n) = 1 + j + n := jw64 (by omega) (by omega)
            rw [hw2, hw3, hw, hw4]
            by_cases h5 : (s.size : Int) - 1 - j < n
            · rw [if_pos h5, if_pos h5]
            · rw [if_neg h5, if_neg h5, if_pos (show 0 < (s.size : Int) by omega), if_pos (show 0 ≤ 1 + j by omega), if_pos (show 1 + j ≤ 1 + j + n by omega), if_pos (show 1 + j + n ≤ (s.size : Int) by omega), jw64 (n := bt s 0) (by omega) (by omega)]
        · rw [if_neg h3, if_neg h3]
theorem rfput_ev (kind : Int) (b : ByteArray) (hb : b.size ≤ 140737488351232) : Ev (fun k => juratref04_Put.f k kind b) (fp kind b) := by
  unfold fp juratref04_Put.f
  have hj : ∀ x : Bool, x = true → Ev (fun k => juratref04_Put.j0 k x kind b) ((⟨#[]⟩ : ByteArray), 2) := by
    rintro x rfl
    exact ev_add 1 (fun k => by rw [juratref04_Put.j0, if_pos rfl])
  by_cases h1 : kind < 1
  · rw [if_pos (.inl h1)]
    exact Ev.congr (fun k => by rw [if_pos h1]) (hj true rfl)
  · refine Ev.congr (fun k => by rw [if_neg h1]) ?_
    by_cases h2 : 127 < kind
    · rw [if_pos (.inr h2)]
      exact hj _ (by simp; omega)
    · rw [if_neg (by omega)]
      have hd : decide (kind > 127) = false := by simp; omega
      rw [hd]
      refine Ev.step (fun k => by rw [juratref04_Put.j0, if_neg (by decide)]) ?_
      by_cases h3 : 67108864 < b.size
      · rw [if_pos h3]
        exact ev_is (fun k => by rw [if_pos (by omega)])
      · rw [if_neg h3]
        refine Ev.congr (fun k => by rw [if_neg (by omega), Option.bind_some, show kind % 256 = kind by omega]) ?_
        refine Ev.bind (rput_ev (by omega)) ?_
        have h9 := vp_nine (n := (b.size : Int)) (by omega)
        have e1 : (strOfNums [kind]).size + (strOfNums (vp b.size)).size ≤ 9223372036854775807 := by rw [strOfNums_size, strOfNums_size]; simp; omega
        have e2 : (strOfNums [kind] ++ strOfNums (vp b.size)).size + b.size ≤ 9223372036854775807 := by rw [ByteArray.size_append, strOfNums_size, strOfNums_size]; simp; omega
        exact ev_is (fun k => by rw [if_pos e1, if_pos e2])
/-! ### frames put together -/
def okF (x : Int × ByteArray) : Prop := 1 ≤ x.1 ∧ x.1 ≤ 127 ∧ x.2.size ≤ 67108864
theorem fp_ok {x : Int × ByteArray} (h : okF x) : fp x.1 x.2 = (strOfNums [x.1] ++ strOfNums (vp x.2.size) ++ x.2, 0) := by
  unfold okF at h
  unfold fp
  rw [if_neg (by omega), if_neg (by omega)]
theorem fp_zero {x : Int × ByteArray} (h : (fp x.1 x.2).2 = 0) : okF x := by
  revert h
  unfold fp okF
  split
  · intro h; simp at h
  · split
    · intro h; simp at h
    · intro _; omega
theorem fp_no {x : Int × ByteArray} (h : (fp x.1 x.2).2 ≠ 0) : (fp x.1 x.2).1 = (⟨#[]⟩ : ByteArray) := by
  revert h
  unfold fp
  split
  · intro _; rfl
  · split
    · intro _; rfl
    · intro h; exact absurd rfl h
theorem fp_bytes {x : Int × ByteArray} (h : okF x) : bytesOf (fp x.1 x.2).1 = x.1 :: (vput x.2.size ++ bytesOf x.2) := by
  have hB : IsB [x.1] := by intro y hy; rw [List.mem_singleton] at hy; unfold okF at h; omega
  rw [fp_ok h]
  simp only
  rw [bytesOf_append, bytesOf_append, bytesOf_strOfNums hB, bytesOf_strOfNums (isB_vp _), vp_nat]
  rfl
theorem fp_size (x : Int × ByteArray) : (fp x.1 x.2).1.size ≤ x.2.size + 10 ∨ 1000000 < x.2.size := by
  by_cases h : (fp x.1 x.2).2 = 0
  · have h1 := fp_zero h
    by_cases h2 : 1000000 < x.2.size
    · exact .inr h2
    · refine .inl ?_
      have h3 : (bytesOf (fp x.1 x.2).1).length = (x.1 :: (vput x.2.size ++ bytesOf x.2)).length := by rw [fp_bytes h1]
      rw [bytesOf_length] at h3
      have := vput_nine (n := x.2.size) (by omega)
      simp [bytesOf_length] at h3
      omega
  · refine .inl ?_
    rw [fp_no h]; exact Nat.zero_le _
/-! ### frames: what was joined is split as it was; no other bytes lead there; what is cut off -/
theorem bt_zero {s : ByteArray} {c : Int} {l : List Int} (h : bytesOf s = c :: l) : bt s 0 = c ∧ s.size = l.length + 1 ∧ bytesOf (s.extract 1 s.size) = l := by
  have hs : s.size = l.length + 1 := by rw [← bytesOf_length, h]; rfl
  refine ⟨?_, hs, ?_⟩
  · have := bt_getD s 0
    rw [h] at this
    exact this
  · rw [bytesOf_extract, ← bytesOf_length s, List.take_length, h]; rfl
theorem ft_fp {x : Int × ByteArray} (hx : okF x) {s : ByteArray} {R : List Int} (h : bytesOf s = bytesOf (fp x.1 x.2).1 ++ R) : ft s = (x.1, x.2, ((fp x.1 x.2).1.size : Int), 0) := by
  have hx' := hx
  unfold okF at hx'
  have hfs : (fp x.1 x.2).1.size = 1 + (vput x.2.size).length + x.2.size := by
    have h3 : (bytesOf (fp x.1 x.2).1).length = (x.1 :: (vput x.2.size ++ bytesOf x.2)).length := by rw [fp_bytes hx]
    rw [bytesOf_length] at h3
    simp [bytesOf_length] at h3
    omega
  rw [fp_bytes hx, List.cons_append, List.append_assoc] at h
  obtain ⟨h0, h1, h2⟩ := bt_zero h
  have hv : vt 9 (bytesOf (s.extract 1 s.size)) = ((x.2.size : Int), ((vput x.2.size).length : Int), 0) := by rw [h2]; exact vt_vput (by omega) _
  rw [List.length_append, List.length_append, bytesOf_length] at h1
  unfold ft
  rw [if_neg (by omega), h0, if_neg (by omega), hv, if_pos rfl]
  simp only
  rw [if_neg (by omega), if_neg (by omega)]
  refine Prod.ext rfl (Prod.ext ?_ (Prod.ext ?_ rfl))
  · refine bytesOf_inj ?_
    simp only
    rw [bytesOf_extract, h]
    rw [show (1 + ((vput x.2.size).length : Int)).toNat = (vput x.2.size).length + 1 by omega, show (1 + ((vput x.2.size).length : Int) + (x.2.size : Int)).toNat = ((vput x.2.size).length + x.2.size) + 1 by omega, List.take_succ_cons, List.drop_succ_cons]
    rw [List.take_length_add_append, List.drop_left' rfl, ← bytesOf_length x.2, List.take_left' rfl]
  · simp only; omega
end Go.Proofs.Ytohaoleeaipfbaa.Pure
