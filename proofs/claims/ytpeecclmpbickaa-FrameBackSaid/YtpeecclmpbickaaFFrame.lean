/- Plain lemmas of this session (FFrame): numbers, bytes and lists. -/
import Derived.Test.YtpeecclmpbickaaFVarint
import Derived.Test.YtpeecclmpbickaaPFx2
import Derived.Lib.Bytes
namespace Go.Proofs.Ytpeecclmpbickaa.Pure
open Go.RowKit Go.Proofs.YtpeecclmpbickaaW.PrintWords Go.Proofs.YtpeecclmpbickaaW.PrintLast Go.Proofs.YtpeecclmpbickaaW.PrintMore Go.Proofs.Ytpeecclmpbickaa.PF
/-! ### frames: the plain law -/
theorem toList_nil (s : ByteArray) : (s.toList = ([] : List UInt8)) ↔ s.size = 0 := by
  rw [Lib.toList_data]
  constructor
  · intro h
    have : s.data.toList.length = 0 := by rw [h]; rfl
    rwa [data_length] at this
  · intro h
    exact List.eq_nil_of_length_eq_zero (by rw [data_length]; exact h)
theorem size_extract' (s : ByteArray) (i j : Nat) (h : j ≤ s.size) : (s.extract i j).size = j - i := by rw [ByteArray.size_extract]; omega
theorem extract_extract' (s : ByteArray) (i n : Nat) : (s.extract i s.size).extract 0 n = s.extract i (i + n) := by
  refine bytesOf_inj ?_
  rw [bytesOf_extract, bytesOf_extract, bytesOf_extract, List.drop_zero, ← bytesOf_length s, List.take_length, List.drop_take]
  congr 1; omega
/-- A frame's bytes. -/
def fp (kind : Int) (b : ByteArray) : ByteArray × Int :=
  if kind < 1 ∨ 127 < kind then ((⟨#[]⟩ : ByteArray), 2) else if 67108864 < b.size then ((⟨#[]⟩ : ByteArray), 5) else (strOfNums [kind] ++ strOfNums (vp b.size) ++ b, 0)
/-- The frame with which bytes begin. -/
def ft (s : ByteArray) : Int × ByteArray × Int × Int :=
  if s.size = 0 then (0, (⟨#[]⟩ : ByteArray), 0, 4) else if bt s 0 < 1 ∨ 127 < bt s 0 then (0, (⟨#[]⟩ : ByteArray), 0, 3) else
    if (vt 9 (bytesOf (s.extract 1 s.size))).2.2 = 0 then
      (if 67108864 < (vt 9 (bytesOf (s.extract 1 s.size))).1 then (0, (⟨#[]⟩ : ByteArray), 0, 5) else
        if (s.size : Int) - 1 - (vt 9 (bytesOf (s.extract 1 s.size))).2.1 < (vt 9 (bytesOf (s.extract 1 s.size))).1 then (0, (⟨#[]⟩ : ByteArray), 0, 4) else
          (bt s 0, s.extract (1 + (vt 9 (bytesOf (s.extract 1 s.size))).2.1).toNat (1 + (vt 9 (bytesOf (s.extract 1 s.size))).2.1 + (vt 9 (bytesOf (s.extract 1 s.size))).1).toNat, 1 + (vt 9 (bytesOf (s.extract 1 s.size))).2.1 + (vt 9 (bytesOf (s.extract 1 s.size))).1, 0))
    else (0, (⟨#[]⟩ : ByteArray), 0, (vt 9 (bytesOf (s.extract 1 s.size))).2.2)
/-- What is taken: how long it is. -/
theorem ft_size (s : ByteArray) (h : (ft s).2.2.2 = 0) : 2 ≤ (ft s).2.2.1 ∧ (ft s).2.2.1 ≤ s.size := by
  revert h
  have hb := isB_bytesOf (s.extract 1 s.size)
  unfold ft
  split
  · intro h; simp at h
  · split
    · intro h; simp at h
    · split
      · rename_i h0 h1 h2
        have := vt_ok 9 _ hb h2
        rw [bytesOf_length] at this
        split
        · intro h; simp at h
        · split
          · intro h; simp at h
          · intro _
            simp only
            omega
      · rename_i h2
        intro h; exact absurd h h2
/-! ### frames: what the program computes -/
theorem fput_ev (kind : Int) (b : ByteArray) (hb : b.size ≤ 140737488351232) : Ev (fun k => frame_Put.f k kind b) (fp kind b) := by
  unfold fp frame_Put.f
  have hj : ∀ x : Bool, x = true → Ev (fun k => frame_Put.j0 k x kind b) ((⟨#[]⟩ : ByteArray), 2) := by
    rintro x rfl
    exact ev_add 1 (fun k => by rw [frame_Put.j0, if_pos rfl])
  by_cases h1 : kind < 1
  · rw [if_pos (.inl h1)]
    exact Ev.congr (fun k => by rw [if_pos h1]) (hj true rfl)
  · refine Ev.congr (fun k => by rw [if_neg h1]) ?_
    by_cases h2 : 127 < kind
    · rw [if_pos (.inr h2)]
      exact hj _ (by simp; omega)
    · rw [if_neg (by omega)]
      have hd : decide (kind > 127) = false := by simp; omega
      rw [hd]
      refine Ev.step (fun k => by rw [frame_Put.j0, if_neg (by decide)]) ?_
      by_cases h3 : 67108864 < b.size
      · rw [if_pos h3]
        exact ev_is (fun k => by rw [if_pos (by omega)])
      · rw [if_neg h3]
        refine Ev.congr (fun k => by rw [if_neg (by omega), Option.bind_some, show kind % 256 = kind by omega]) ?_
        refine Ev.bind (put_ev (by omega)) ?_
        have h9 := vp_nine (n := (b.size : Int)) (by omega)
        have e1 : (strOfNums [kind]).size + (strOfNums (vp b.size)).size ≤ 9223372036854775807 := by rw [strOfNums_size, strOfNums_size]; simp; omega
        have e2 : (strOfNums [kind] ++ strOfNums (vp b.size)).size + b.size ≤ 9223372036854775807 := by rw [ByteArray.size_append, strOfNums_size, strOfNums_size]; simp; omega
        exact ev_is (fun k => by rw [if_pos e1, if_pos e2])
theorem ftake_ev (s : ByteArray) (hs : s.size ≤ 140737488351232) : Ev (fun k => frame_Take.f k s) (ft s) := by
  unfold ft frame_Take.f
  by_cases h0 : s.size = 0
  · rw [if_pos h0]
    exact ev_is (fun k => by rw [if_pos ((toList_nil s).2 h0)])
  · rw [if_neg h0]
    refine Ev.congr (fun k => by rw [if_neg (fun h => h0 ((toList_nil s).1 h)), if_pos (by omega)]) ?_
    by_cases h1 : bt s 0 < 1
    · rw [if_pos (.inl h1)]
      exact ev_is (fun k => by rw [if_pos h1])
    · refine Ev.congr (fun k => by rw [if_neg h1]) ?_
      by_cases h2 : bt s 0 > 127
      · rw [if_pos (.inr h2)]
        exact ev_is (fun k => by rw [if_pos h2])
      · rw [if_neg (by omega)]
        refine Ev.congr (fun k => by rw [if_neg h2, if_pos (by omega)]) ?_
        refine Ev.bind (take_ev _) (ev_is (fun k => ?_))
        have hb := isB_bytesOf (s.extract 1 s.size)
        by_cases h3 : (vt 9 (bytesOf (s.extract 1 s.size))).2.2 = 0
        · rw [if_pos h3, if_pos h3]
          have hv := vt_ok 9 _ hb h3
          rw [bytesOf_length, size_extract' _ _ _ (Nat.le_refl _)] at hv
          obtain ⟨n, hn⟩ : ∃ n, n = (vt 9 (bytesOf (s.extract 1 s.size))).1 := ⟨_, rfl⟩
          obtain ⟨j, hj⟩ : ∃ j, j = (vt 9 (bytesOf (s.extract 1 s.size))).2.1 := ⟨_, rfl⟩
          rw [← hn, ← hj] at hv ⊢
          by_cases h4 : 67108864 < n
          · rw [if_pos (show n > 67108864 from h4), if_pos h4]
          · rw [if_neg (show ¬ n > 67108864 from h4), if_neg h4]
            have hw : wrap64 (1 + j) = 1 + j := jw64 (by omega) (by omega)
            have hsz : (s.extract (1 + j).toNat s.size).size = s.size - (1 + j).toNat := size_extract' _ _ _ (Nat.le_refl _)
            rw [hw, if_pos (show 0 ≤ 1 + j by omega), if_pos (show 1 + j ≤ (s.size : Int) by omega), hsz]
            by_cases h5 : (s.size : Int) - 1 - j < n
            · rw [if_pos (show n > ((s.size - (1 + j).toNat : Nat) : Int) by omega), if_pos h5]
            · have hbt := bt_range s 0
              rw [if_neg (show ¬ n > ((s.size - (1 + j).toNat : Nat) : Int) by omega), if_pos (show 0 ≤ n by omega), if_pos (show n ≤ ((s.size - (1 + j).toNat : Nat) : Int) by omega), if_neg h5, jw64 (n := bt s 0) (by omega) (by omega), jw64 (n := 1 + j + n) (by omega) (by omega), extract_extract', show (1 + j).toNat + n.toNat = (1 + j + n).toNat by omega]
        · rw [if_neg h3, if_neg h3]
theorem awake04_ev : Ev (fun k => juratlaw04_awake.f k) true := by
  unfold juratlaw04_awake.f
  refine Ev.bind (fput_ev 7 _ (by decide)) ?_
  have e0 : fp 7 (⟨#[97, 98]⟩ : ByteArray) = (strOfNums [7] ++ strOfNums [2] ++ (⟨#[97, 98]⟩ : ByteArray), 0) := by
    unfold fp
    rw [if_neg (by decide), if_neg (by decide), show ((⟨#[97, 98]⟩ : ByteArray).size : Int) = ((2 : Nat) : Int) from rfl, vp_nat, vput_small (by decide)]; rfl
  rw [e0]
  have e1 : vt 9 (bytesOf ((⟨#[7, 2, 97]⟩ : ByteArray).extract 1 (⟨#[7, 2, 97]⟩ : ByteArray).size)) = (2, 1, 0) := by
    rw [bytesOf_extract]; decide
  have e2 : ft (⟨#[7, 2, 97]⟩ : ByteArray) = (0, (⟨#[]⟩ : ByteArray), 0, 4) := by
    unfold ft
    rw [e1, if_neg (by decide), if_neg (by decide), if_pos rfl, if_neg (by decide), if_pos (by decide)]
  refine Ev.bind (g := fun k => frame_Split.f k (⟨#[7, 2, 97]⟩ : ByteArray)) (a := (([] : List S34), 0, 4)) ?_ ?_
  · unfold frame_Split.f
    refine Ev.step (fun k => by rw [frame_Split.l0, if_pos (by decide), if_pos (by decide), if_pos (by decide)]) ?_
    have e3 : (⟨#[7, 2, 97]⟩ : ByteArray).extract (0 : Int).toNat (⟨#[7, 2, 97]⟩ : ByteArray).size = (⟨#[7, 2, 97]⟩ : ByteArray) := bytesOf_inj (by rw [bytesOf_extract]; rfl)
    rw [e3]
    refine Ev.bind (ftake_ev _ (by decide)) ?_
    rw [e2]
    exact ev_is (fun k => by rw [if_neg (by decide)])
  · refine ev_is (fun k => ?_)
    rw [if_pos (by rw [Lib.toList_data]; decide), if_pos rfl, if_pos rfl]; rfl
/-! ### frames one behind the other -/
/-- All frames from a place on, behind those that were taken. -/
def spl : Nat → ByteArray → List (Int × ByteArray) → Nat → List (Int × ByteArray) × Int × Int
  | 0, _, acc, _ => (acc, 0, 0)
  | d + 1, s, acc, i => if i < s.size then (if (ft (s.extract i s.size)).2.2.2 = 0 then spl d s (acc ++ [((ft (s.extract i s.size)).1, (ft (s.extract i s.size)).2.1)]) (i + (ft (s.extract i s.size)).2.2.1.toNat) else ([], (i : Int), (ft (s.extract i s.size)).2.2.2)) else (acc, 0, 0)
def toF (x : Int × ByteArray) : S34 := ⟨x.1, x.2⟩
def toR (x : Int × ByteArray) : S37 := ⟨x.1, x.2⟩
theorem fsplit_go (s : ByteArray) (hs : s.size ≤ 1000000000) : ∀ (d : Nat) (acc : List (Int × ByteArray)) (i : Nat), s.size - i < d → acc.length ≤ i → i ≤ s.size → Ev (fun k => frame_Split.l0 k s (acc.map toF) (i : Int)) ((spl d s acc i).1.map toF, (spl d s acc i).2) := by
  intro d
  induction d with
  | zero => intro acc i h; omega
  | succ d ih =>
    intro acc i hd ha hi
    simp only [spl]
    by_cases hlt : i < s.size
    · rw [if_pos hlt]
      have hsz : (s.extract i s.size).size = s.size - i := size_extract' _ _ _ (Nat.le_refl _)
      refine Ev.step (fun k => by rw [frame_Split.l0, if_pos (by omega), if_pos (by omega), if_pos (by omega), Int.toNat_natCast]) ?_
      refine Ev.bind (ftake_ev _ (by omega)) ?_
      by_cases h : (ft (s.extract i s.size)).2.2.2 = 0
      · have hf := ft_size _ h
        rw [hsz] at hf
        rw [if_pos h]
        have := ih (acc ++ [((ft (s.extract i s.size)).1, (ft (s.extract i s.size)).2.1)]) (i + (ft (s.extract i s.size)).2.2.1.toNat) (by omega) (by simp; omega) (by omega)
        refine Ev.congr (fun k => ?_) this
        rw [if_pos h, if_pos (by rw [List.length_map]; omega), jw64 (by omega) (by omega), List.map_append, show ((i + (ft (s.extract i s.size)).2.2.1.toNat : Nat) : Int) = (i : Int) + (ft (s.extract i s.size)).2.2.1 by omega]
        rfl
      · rw [if_neg h]
        exact ev_is (fun k => by rw [if_neg h]; rfl)
    · rw [if_neg hlt]
      exact ev_add 1 (fun k => by rw [frame_Split.l0, if_neg (by omega)])
theorem fsplit_ev (s : ByteArray) (hs : s.size ≤ 1000000000) : Ev (fun k => frame_Split.f k s) ((spl (s.size + 1) s [] 0).1.map toF, (spl (s.size + 1) s [] 0).2) :=
  fsplit_go s hs (s.size + 1) [] 0 (by omega) (by simp) (by omega)
end Go.Proofs.Ytpeecclmpbickaa.Pure
