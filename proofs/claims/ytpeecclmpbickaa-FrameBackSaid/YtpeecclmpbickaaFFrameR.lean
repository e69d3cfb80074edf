/- Plain lemmas of this session (FFrameR): numbers, bytes and lists. -/
import Derived.Test.YtpeecclmpbickaaFFrame
import Derived.Test.YtpeecclmpbickaaFVarref
import Derived.Test.YtpeecclmpbickaaPFx4
namespace Go.Proofs.Ytpeecclmpbickaa.Pure
open Go.RowKit Go.Proofs.YtpeecclmpbickaaW.PrintWords Go.Proofs.YtpeecclmpbickaaW.PrintLast Go.Proofs.YtpeecclmpbickaaW.PrintMore Go.Proofs.Ytpeecclmpbickaa.PF
/-! ### frames: the document's reference -/
theorem rftake_ev (s : ByteArray) (hs : s.size ≤ 140737488351232) : Ev (fun k => juratref04_Take.f k s) (ft s) := by
  unfold ft juratref04_Take.f
  have hj : ∀ x : Bool, x = true → Ev (fun k => juratref04_Take.j0 k s x) (0, (⟨#[]⟩ : ByteArray), 0, 3) := by
    rintro x rfl
    exact ev_add 1 (fun k => by rw [juratref04_Take.j0, if_pos rfl])
  by_cases h0 : s.size = 0
  · rw [if_pos h0]
    exact ev_is (fun k => by rw [if_pos (by omega)])
  · rw [if_neg h0]
    refine Ev.congr (fun k => by rw [if_neg (by omega), if_pos (by omega)]) ?_
    have hbt := bt_range s 0
    by_cases h1 : bt s 0 = 0
    · rw [if_pos (by omega)]
      exact Ev.congr (fun k => by rw [if_pos h1]) (hj _ rfl)
    · refine Ev.congr (fun k => by rw [if_neg h1]) ?_
      by_cases h2 : bt s 0 > 127
      · rw [if_pos (by omega)]
        exact hj _ (by simp; omega)
      · rw [if_neg (by omega)]
        have hd : decide (bt s 0 > 127) = false := by simp; omega
        rw [hd]
        refine Ev.step (fun k => by rw [juratref04_Take.j0, if_neg (by decide), if_pos (by omega)]) ?_
        refine Ev.bind (rtake_ev _ (by rw [size_extract' _ _ _ (Nat.le_refl _)]; omega)) (ev_is (fun k => ?_))
        have hb := isB_bytesOf (s.extract 1 s.size)
        by_cases h3 : (vt 9 (bytesOf (s.extract 1 s.size))).2.2 = 0
        · rw [if_pos h3, if_pos h3]
          have hv := vt_ok 9 _ hb h3
          rw [bytesOf_length, size_extract' _ _ _ (Nat.le_refl _)] at hv
          obtain ⟨n, hn⟩ : ∃ n, n = (vt 9 (bytesOf (s.extract 1 s.size))).1 := ⟨_, rfl⟩
          obtain ⟨j, hj⟩ : ∃ j, j = (vt 9 (bytesOf (s.extract 1 s.size))).2.1 := ⟨_, rfl⟩
          rw [← hn, ← hj] at hv ⊢
          by_cases h4 : 67108864 < n
          · rw [if_pos (show n > 67108864 from h4), if_pos h4]
          · rw [if_neg (show ¬ n > 67108864 from h4), if_neg h4]
            have hw : wrap64 (1 + j) = 1 + j := jw64 (by omega) (by omega)
            have hw2 : wrap64 ((s.size : Int) - 1) = (s.size : Int) - 1 := jw64 (by omega) (by omega)
            have hw3 : wrap64 ((s.size : Int) - 1 - j) = (s.size : Int) - 1 - j := jw64 (by omega) (by omega)
            have hw4 : wrap64 (1 + j + n) = 1 + j + n := jw64 (by omega) (by omega)
            rw [hw2, hw3, hw, hw4]
            by_cases h5 : (s.size : Int) - 1 - j < n
            · rw [if_pos h5, if_pos h5]
            · rw [if_neg h5, if_neg h5, if_pos (show 0 < (s.size : Int) by omega), if_pos (show 0 ≤ 1 + j by omega), if_pos (show 1 + j ≤ 1 + j + n by omega), if_pos (show 1 + j + n ≤ (s.size : Int) by omega), jw64 (n := bt s 0) (by omega) (by omega)]
        · rw [if_neg h3, if_neg h3]
theorem rfsplit_go (s : ByteArray) (hs : s.size ≤ 1000000000) : ∀ (d : Nat) (acc : List (Int × ByteArray)) (i : Nat), s.size - i < d → acc.length ≤ i → i ≤ s.size → Ev (fun k => juratref04_Split.l0 k s (acc.map toR) (i : Int)) ((spl d s acc i).1.map toR, (spl d s acc i).2) := by
  intro d
  induction d with
  | zero => intro acc i h; omega
  | succ d ih =>
    intro acc i hd ha hi
    simp only [spl]
    by_cases hlt : i < s.size
    · rw [if_pos hlt]
      have hsz : (s.extract i s.size).size = s.size - i := size_extract' _ _ _ (Nat.le_refl _)
      refine Ev.step (fun k => by rw [juratref04_Split.l0, if_pos (by omega), if_pos (by omega), if_pos (by omega), Int.toNat_natCast]) ?_
      refine Ev.bind (rftake_ev _ (by omega)) ?_
      by_cases h : (ft (s.extract i s.size)).2.2.2 = 0
      · have hf := ft_size _ h
        rw [hsz] at hf
        rw [if_pos h]
        have := ih (acc ++ [((ft (s.extract i s.size)).1, (ft (s.extract i s.size)).2.1)]) (i + (ft (s.extract i s.size)).2.2.1.toNat) (by omega) (by simp; omega) (by omega)
        refine Ev.congr (fun k => ?_) this
        rw [if_pos h, if_pos (by rw [List.length_map]; omega), jw64 (by omega) (by omega), List.map_append, show ((i + (ft (s.extract i s.size)).2.2.1.toNat : Nat) : Int) = (i : Int) + (ft (s.extract i s.size)).2.2.1 by omega]
        rfl
      · rw [if_neg h]
        exact ev_is (fun k => by rw [if_neg h]; rfl)
    · rw [if_neg hlt]
      exact ev_add 1 (fun k => by rw [juratref04_Split.l0, if_neg (by omega)])
theorem rfsplit_ev (s : ByteArray) (hs : s.size ≤ 1000000000) : Ev (fun k => juratref04_Split.f k s) ((spl (s.size + 1) s [] 0).1.map toR, (spl (s.size + 1) s [] 0).2) :=
  rfsplit_go s hs (s.size + 1) [] 0 (by omega) (by simp) (by omega)
theorem same_go (a : List (Int × ByteArray)) (ha : a.length ≤ 1000000000) : ∀ (d i : Nat), i + d = a.length → Ev (fun k => juratlaw04_same.l0 k (a.map toF) (a.map toR) (i : Int)) true := by
  intro d
  induction d with
  | zero =>
    intro i hi
    exact ev_add 1 (fun k => by rw [juratlaw04_same.l0, if_neg (by rw [List.length_map]; omega)])
  | succ d ih =>
    intro i hi
    have hlt : i < a.length := by omega
    have e1 : rd_T34 (a.map toF) (i : Int) = toF a[i] := by simp [rd_T34, List.getD_eq_getElem?_getD, List.getElem?_eq_getElem hlt]
    have e2 : rd_T37 (a.map toR) (i : Int) = toR a[i] := by simp [rd_T37, List.getD_eq_getElem?_getD, List.getElem?_eq_getElem hlt]
    refine Ev.step (fun k => by rw [juratlaw04_same.l0, if_pos (by rw [List.length_map]; omega), if_pos (by omega), if_pos (by rw [List.length_map]; omega), e1, e2, if_pos (show (toF a[i]).f0 = (toR a[i]).f0 from rfl), if_pos (show (toF a[i]).f1.toList = (toR a[i]).f1.toList from rfl), jw64 (n := (i : Int) + 1) (by omega) (by omega), show (i : Int) + 1 = ((i + 1 : Nat) : Int) from rfl]) ?_
    exact ih (i + 1) (by omega)
theorem same_ev (a : List (Int × ByteArray)) (ha : a.length ≤ 1000000000) : Ev (fun k => juratlaw04_same.f k (a.map toF) (a.map toR)) true := by
  unfold juratlaw04_same.f
  refine Ev.congr (fun k => by rw [if_pos (by rw [List.length_map, List.length_map])]) ?_
  exact same_go a ha a.length 0 (by omega)
theorem spl_len (s : ByteArray) : ∀ (d : Nat) (acc : List (Int × ByteArray)) (i : Nat), acc.length ≤ i → i ≤ s.size → (spl d s acc i).1.length ≤ s.size := by
  intro d
  induction d with
  | zero => intro acc i h1 h2; simp only [spl]; omega
  | succ d ih =>
    intro acc i h1 h2
    simp only [spl]
    split
    · split
      · rename_i h3 h4
        have hf := ft_size _ h4
        rw [size_extract' _ _ _ (Nat.le_refl _)] at hf
        exact ih _ _ (by simp; omega) (by omega)
      · simp
    · simp only; omega
end Go.Proofs.Ytpeecclmpbickaa.Pure
