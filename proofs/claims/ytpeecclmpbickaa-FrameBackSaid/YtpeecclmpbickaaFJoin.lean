/- Plain lemmas of this session (FJoin): numbers, bytes and lists. -/
import Derived.Test.YtpeecclmpbickaaFFrame
import Derived.Test.YtpeecclmpbickaaJoin
import Derived.Test.YtpeecclmpbickaaPFx4
import Derived.Test.YtpeecclmpbickaaPFx5
namespace Go.Proofs.Ytpeecclmpbickaa.Pure
open Go.RowKit Go.Proofs.YtpeecclmpbickaaW.PrintWords Go.Proofs.YtpeecclmpbickaaW.PrintLast Go.Proofs.YtpeecclmpbickaaW.PrintMore Go.Proofs.Ytpeecclmpbickaa.PF
/-! ### frames put together -/
def okF (x : Int × ByteArray) : Prop := 1 ≤ x.1 ∧ x.1 ≤ 127 ∧ x.2.size ≤ 67108864
theorem fp_ok {x : Int × ByteArray} (h : okF x) : fp x.1 x.2 = (strOfNums [x.1] ++ strOfNums (vp x.2.size) ++ x.2, 0) := by
  unfold okF at h
  unfold fp
  rw [if_neg (by omega), if_neg (by omega)]
theorem fp_zero {x : Int × ByteArray} (h : (fp x.1 x.2).2 = 0) : okF x := by
  revert h
  unfold fp okF
  split
  · intro h; simp at h
  · split
    · intro h; simp at h
    · intro _; omega
theorem fp_no {x : Int × ByteArray} (h : (fp x.1 x.2).2 ≠ 0) : (fp x.1 x.2).1 = (⟨#[]⟩ : ByteArray) := by
  revert h
  unfold fp
  split
  · intro _; rfl
  · split
    · intro _; rfl
    · intro h; exact absurd rfl h
theorem fp_bytes {x : Int × ByteArray} (h : okF x) : bytesOf (fp x.1 x.2).1 = x.1 :: (vput x.2.size ++ bytesOf x.2) := by
  have hB : IsB [x.1] := by intro y hy; rw [List.mem_singleton] at hy; unfold okF at h; omega
  rw [fp_ok h]
  simp only
  rw [bytesOf_append, bytesOf_append, bytesOf_strOfNums hB, bytesOf_strOfNums (isB_vp _), vp_nat]
  rfl
theorem fp_size (x : Int × ByteArray) : (fp x.1 x.2).1.size ≤ x.2.size + 10 ∨ 1000000 < x.2.size := by
  by_cases h : (fp x.1 x.2).2 = 0
  · have h1 := fp_zero h
    by_cases h2 : 1000000 < x.2.size
    · exact .inr h2
    · refine .inl ?_
      have h3 : (bytesOf (fp x.1 x.2).1).length = (x.1 :: (vput x.2.size ++ bytesOf x.2)).length := by rw [fp_bytes h1]
      rw [bytesOf_length] at h3
      have := vput_nine (n := x.2.size) (by omega)
      simp [bytesOf_length] at h3
      omega
  · refine .inl ?_
    rw [fp_no h]; exact Nat.zero_le _
/-- All frames' bytes, or why there are none. -/
def jn : List (Int × ByteArray) → List Int → ByteArray × Int
  | [], acc => (strOfNums acc, 0)
  | x :: r, acc => if (fp x.1 x.2).2 = 0 then jn r (acc ++ bytesOf (fp x.1 x.2).1) else ((⟨#[]⟩ : ByteArray), (fp x.1 x.2).2)
def flatF (m : List (Int × ByteArray)) : List Int := m.flatMap fun x => bytesOf (fp x.1 x.2).1
theorem isB_flatF (m : List (Int × ByteArray)) : IsB (flatF m) := by
  intro y hy
  unfold flatF at hy
  obtain ⟨a, _, h⟩ := List.mem_flatMap.1 hy
  exact isB_bytesOf _ y h
theorem jn_ok : ∀ (m : List (Int × ByteArray)) (acc : List Int), (∀ x ∈ m, okF x) → jn m acc = (strOfNums (acc ++ flatF m), 0)
  | [], acc, _ => by simp [jn, flatF]
  | x :: r, acc, h => by
    have hx := h x (List.mem_cons_self ..)
    simp only [jn]
    rw [if_pos (by rw [fp_ok hx]), jn_ok r _ (fun y hy => h y (List.mem_cons_of_mem _ hy)), List.append_assoc]
    rfl
theorem jn_zero : ∀ (m : List (Int × ByteArray)) (acc : List Int), (jn m acc).2 = 0 → ∀ x ∈ m, okF x
  | [], _, _ => fun x hx => by cases hx
  | y :: r, acc, h => by
    simp only [jn] at h
    by_cases hy : (fp y.1 y.2).2 = 0
    · rw [if_pos hy] at h
      intro x hx
      rcases List.mem_cons.1 hx with hx | hx
      · rw [hx]; exact fp_zero hy
      · exact jn_zero r _ h x hx
    · rw [if_neg hy] at h
      exact absurd h hy
theorem join_go : ∀ (m : List (Int × ByteArray)) (acc : List Int), (∀ x ∈ m, x.2.size ≤ 3000) → acc.length + 4000 * m.length ≤ 100000000 → Ev (fun k => frame_Join.go k (m.map toF) acc) (jn m acc)
  | [], acc, _, _ => Ev.now _
  | x :: r, acc, h, hl => by
    have hx := h x (List.mem_cons_self ..)
    simp only [List.map_cons, frame_Join.go, jn, List.length_cons] at hl ⊢
    refine Ev.bind (fput_ev x.1 x.2 (by omega)) ?_
    have hs := fp_size x
    by_cases h0 : (fp x.1 x.2).2 = 0
    · rw [if_pos h0]
      refine Ev.congr (fun k => by rw [if_pos h0, if_pos (by omega)]) ?_
      exact join_go r _ (fun y hy => h y (List.mem_cons_of_mem _ hy)) (by rw [List.length_append, bytesOf_length]; omega)
    · rw [if_neg h0]
      exact ev_is (fun k => by rw [if_neg h0])
theorem join_ev (m : List (Int × ByteArray)) (h : ∀ x ∈ m, x.2.size ≤ 3000) (hl : m.length ≤ 20000) : Ev (fun k => frame_Join.f k (m.map toF)) (jn m []) := join_go m [] h (by simp; omega)
def ofR (x : S37) : Int × ByteArray := (x.f0, x.f1)
theorem map_ofR (l : List S37) : (l.map ofR).map toR = l := by
  rw [List.map_map]
  exact List.map_id'' (fun x => rfl) l
theorem rdR (m : List (Int × ByteArray)) (i : Nat) (h : i < m.length) : rd_T37 (m.map toR) (i : Int) = toR m[i] := by
  simp [rd_T37, List.getD_eq_getElem?_getD, List.getElem?_eq_getElem h]
theorem rdF (m : List (Int × ByteArray)) (i : Nat) (h : i < m.length) : rd_T34 (m.map toF) (i : Int) = toF m[i] := by
  simp [rd_T34, List.getD_eq_getElem?_getD, List.getElem?_eq_getElem h]
theorem few_ev (m : List (Int × ByteArray)) : ∃ b : Bool, Ev (fun k => juratlaw04_few.f k (m.map toR)) b ∧ (b = true → m.length ≤ 20 ∧ ∀ x ∈ m, x.2.size ≤ 500) := by
  unfold juratlaw04_few.f
  by_cases h : m.length > 20
  · refine ⟨false, ?_, fun h => by cases h⟩
    exact ev_is (fun k => by rw [if_pos (by rw [List.length_map]; omega)])
  · have key : ∀ (d i : Nat), i + d = m.length → ∃ b : Bool, Ev (fun k => juratlaw04_few.l0 k (m.map toR) (i : Int)) b ∧ (b = true → ∀ x ∈ m.drop i, x.2.size ≤ 500) := by
      intro d
      induction d with
      | zero =>
        intro i hi
        refine ⟨true, ev_add 1 (fun k => by rw [juratlaw04_few.l0, if_neg (by rw [List.length_map]; omega)]), fun _ x hx => ?_⟩
        rw [List.drop_eq_nil_of_le (by omega)] at hx; cases hx
      | succ d ih =>
        intro i hi
        have hlt : i < m.length := by omega
        by_cases hs : m[i].2.size > 500
        · refine ⟨false, ev_add 1 (fun k => ?_), fun h => by cases h⟩
          rw [juratlaw04_few.l0, if_pos (by rw [List.length_map]; omega), if_pos (by omega), rdR m i hlt, if_pos (show ((toR m[i]).f1.size : Int) > 500 by show (m[i].2.size : Int) > 500; omega)]
        · obtain ⟨b, hb, hq⟩ := ih (i + 1) (by omega)
          refine ⟨b, Ev.step (fun k => by rw [juratlaw04_few.l0, if_pos (by rw [List.length_map]; omega), if_pos (by omega), rdR m i hlt, if_neg (show ¬ ((toR m[i]).f1.size : Int) > 500 by show ¬ (m[i].2.size : Int) > 500; omega), jw64 (n := (i : Int) + 1) (by omega) (by omega), show (i : Int) + 1 = ((i + 1 : Nat) : Int) from rfl]) hb, fun h x hx => ?_⟩
          rw [List.drop_eq_getElem_cons hlt] at hx
          rcases List.mem_cons.1 hx with hx | hx
          · rw [hx]; omega
          · exact hq h x hx
    obtain ⟨b, hb, hq⟩ := key m.length 0 (by omega)
    refine ⟨b, Ev.congr (fun k => by rw [if_neg (by rw [List.length_map]; omega)]; rfl) hb, fun h => ⟨by omega, fun x hx => hq h x (by simpa using hx)⟩⟩
theorem mine_go (m : List (Int × ByteArray)) (hm : m.length ≤ 20) : ∀ (d i : Nat), i + d = m.length → Ev (fun k => juratlaw04_mine.l0 k (m.map toR) ((m.take i).map toF) (i : Int)) (m.map toF) := by
  intro d
  induction d with
  | zero =>
    intro i hi
    exact ev_add 1 (fun k => by rw [juratlaw04_mine.l0, if_neg (by rw [List.length_map]; omega), List.take_of_length_le (by omega)])
  | succ d ih =>
    intro i hi
    have hlt : i < m.length := by omega
    refine Ev.congr (g := fun k => juratlaw04_mine.l0 k (m.map toR) ((m.take i).map toF) (i : Int)) (f := fun k => juratlaw04_mine.l0 k (m.map toR) ((m.take i).map toF) (i : Int)) (fun k => rfl) ?_
    refine Ev.step (fun k => by rw [juratlaw04_mine.l0, if_pos (by rw [List.length_map]; omega), if_pos (by omega), if_pos (by rw [List.length_map, List.length_take]; omega), rdR m i hlt, jw64 (n := (i : Int) + 1) (by omega) (by omega), show (i : Int) + 1 = ((i + 1 : Nat) : Int) from rfl]) ?_
    have := ih (i + 1) (by omega)
    rw [List.take_succ_eq_append_getElem hlt, List.map_append] at this
    exact this
theorem mine_ev (m : List (Int × ByteArray)) (hm : m.length ≤ 20) : Ev (fun k => juratlaw04_mine.f k (m.map toR)) (m.map toF) := mine_go m hm m.length 0 (by omega)
end Go.Proofs.Ytpeecclmpbickaa.Pure
