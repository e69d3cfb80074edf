/- Plain lemmas of this session (LRTake): numbers, bytes and lists. -/
import Derived.Test.YtejcopppchaneaaHTake
import Derived.Test.YtejcopppchaneaaLRef
import Derived.Test.YtejcopppchaneaaHVarref
import Derived.Test.YtejcopppchaneaaPFx1
import Derived.Test.YtejcopppchaneaaPFx4
import Derived.Test.YtejcopppchaneaaPFx5
namespace Go.Proofs.Ytejcopppchaneaa.Pure
open Go.RowKit Go.Proofs.YtejcopppchaneaaW.PrintWords Go.Proofs.YtejcopppchaneaaW.PrintLast Go.Proofs.YtejcopppchaneaaW.PrintMore Go.Proofs.Ytejcopppchaneaa.PF
/-! ### records: the reference takes alike -/
theorem size_extract' (s : ByteArray) (i j : Nat) (h : j ≤ s.size) : (s.extract i j).size = j - i := by rw [ByteArray.size_extract]; omega
theorem wrap_bt (s : ByteArray) (i : Int) : wrap64 (bt s i) = bt s i := by have := bt_range s i; exact jw64 (by omega) (by omega)
def rres (acc : List Int) (p : Int) (q : List Int × Int × Int) : List Int × Int × Int := if q.2.2 = 0 then (acc ++ q.1, p + q.2.1, 0) else ([], 0, q.2.2)
theorem rres_no (acc : List Int) (p e : Int) (l : List Int) (j : Int) (h : e ≠ 0) : rres acc p (l, j, e) = ([], 0, e) := by unfold rres; rw [if_neg h]
theorem rres_step (acc : List Int) (x p j : Int) (Q : List Int × Int × Int) : rres (acc ++ [x]) (p + j) Q = rres acc p (if Q.2.2 = 0 then (x :: Q.1, j + Q.2.1, 0) else ([], 0, Q.2.2)) := by
  unfold rres
  by_cases h : Q.2.2 = 0
  · simp [h, Int.add_assoc]
  · simp [h]
theorem rids_go (s : ByteArray) (hs : s.size ≤ 1000000) (n : Int) (hn : n ≤ 65535) : ∀ (m : Nat) (ah : Int) (acc : List Int) (p : Nat), (acc.length : Int) + m = n → p ≤ s.size → 0 ≤ ah → ah ≤ 65534 → (acc = [] ∧ ah = 0 ∨ 0 < acc.length ∧ rd acc ((acc.length : Int) - 1) = ah) →
    Ev (fun k => juratref28_ids.l0 k s n acc (p : Int)) (rres acc (p : Int) (idsL m ah (decide (acc.length = 0)) ((bytesOf s).drop p))) := by
  intro m
  induction m with
  | zero =>
    intro ah acc p hi hp h0 h1 hA
    refine ev_add 1 (fun k => ?_)
    rw [juratref28_ids.l0, if_neg (by omega)]
    simp [idsL, rres]
  | succ m ih =>
    intro ah acc p hi hp h0 h1 hA
    simp only [idsL]
    have hok := vt_at s p
    have hdd : ∀ j : Nat, ((bytesOf s).drop p).drop j = (bytesOf s).drop (p + j) := fun j => by rw [List.drop_drop]
    have hrt := rtake_ev (s.extract p s.size) (by rw [size_extract' _ _ _ (Nat.le_refl _)]; omega)
    rw [bytes_from] at hrt
    generalize hv : vt 9 ((bytesOf s).drop p) = v at hrt hok ⊢
    obtain ⟨d, j, e⟩ := v
    simp only at hrt hok ⊢
    have hbig : acc.length < 17592186044416 := by omega
    refine Ev.step (fun k => by rw [juratref28_ids.l0, if_pos (by omega), if_pos (by omega), if_pos (by omega), Int.toNat_natCast]) ?_
    refine Ev.bind hrt ?_
    by_cases he : e = 0
    · have hok := hok he
      simp only [if_pos he]
      have hnext : d ≤ 65534 - ah → Ev (fun k => juratref28_ids.l0 k s n (acc ++ [ah + d]) (wrap64 ((p : Int) + j))) (rres acc (p : Int) (if (idsL m (ah + d) false (((bytesOf s).drop p).drop j.toNat)).2.2 = 0 then ((ah + d) :: (idsL m (ah + d) false (((bytesOf s).drop p).drop j.toNat)).1, j + (idsL m (ah + d) false (((bytesOf s).drop p).drop j.toNat)).2.1, 0) else ([], 0, (idsL m (ah + d) false (((bytesOf s).drop p).drop j.toNat)).2.2))) := by
        intro hd
        have := ih (ah + d) (acc ++ [ah + d]) (p + j.toNat) (by rw [List.length_append]; simp; omega) (by omega) (by omega) (by omega) (.inr ⟨by rw [List.length_append]; simp, by
          have hx : (((acc ++ [ah + d]).length : Nat) : Int) - 1 = ((acc.length : Nat) : Int) := by rw [List.length_append]; simp
          rw [hx, rd_get _ _ (by rw [List.length_append]; simp)]
          simp⟩)
        have hf : decide ((acc ++ [ah + d]).length = 0) = false := decide_eq_false (by rw [List.length_append]; simp)
        have hpj : ((p + j.toNat : Nat) : Int) = (p : Int) + j := by omega
        rw [hf, ← hdd, hpj, rres_step] at this
        rw [jw64 (n := (p : Int) + j) (by omega) (by omega)]
        exact this
      rcases hA with ⟨ha, h00⟩ | ⟨ha, hr⟩
      · subst ha h00
        refine Ev.congr (fun k => by rw [if_neg (by simp)]) ?_
        simp only [List.length_nil, Int.sub_zero, Int.zero_add] at hnext ⊢
        rw [if_neg (show ¬ (d = 0 ∧ decide True = false) from fun h => absurd h.2 (by decide))]
        by_cases h11 : 65534 < d
        · rw [if_pos h11, rres_no _ _ _ _ _ (by decide)]
          exact ev_is (fun k => by rw [if_pos h11])
        · rw [if_neg h11]
          refine Ev.congr (fun k => by rw [if_neg h11, if_pos (by decide), jw64 (n := d) (by omega) (by omega)]) ?_
          exact hnext (by omega)
      · have hn0 : acc.length ≠ 0 := by omega
        have hf : decide (acc.length = 0) = false := decide_eq_false hn0
        rw [hf]
        have hw : wrap64 ((acc.length : Int) - 1) = (acc.length : Int) - 1 := jw64 (by omega) (by omega)
        refine Ev.congr (fun k => by rw [if_pos (by omega)]) ?_
        by_cases h9 : d = 0
        · rw [if_pos (show d = 0 ∧ false = false from ⟨h9, rfl⟩), rres_no _ _ _ _ _ (by decide)]
          exact ev_is (fun k => by rw [if_pos h9])
        · rw [if_neg (show ¬ (d = 0 ∧ false = false) from fun h => h9 h.1)]
          refine Ev.congr (fun k => by rw [if_neg h9, hw, if_pos (by omega), if_pos (by omega), hr, jw64 (n := 65534 - ah) (by omega) (by omega)]) ?_
          by_cases h11 : 65534 - ah < d
          · rw [if_pos h11, rres_no _ _ _ _ _ (by decide)]
            exact ev_is (fun k => by rw [if_pos h11])
          · rw [if_neg h11]
            refine Ev.congr (fun k => by rw [if_neg h11, if_pos hbig, jw64 (n := ah + d) (by omega) (by omega)]) ?_
            exact hnext (by omega)
    · simp only [if_neg he]
      rw [rres_no _ _ _ _ _ he]
      exact Ev.now _
theorem rec_rids_ev (s : ByteArray) (hs : s.size ≤ 1000000) (h1 : 1 ≤ s.size) : Ev (fun k => (juratref28_ids.f k s).bind fun q => if q.2.2 = 0 then some ((4, 0, 0, q.1, q.2.1, 0) : RT) else some (0, 0, 0, [], 0, q.2.2)) (rtI ((bytesOf s).drop 1)) := by
  unfold juratref28_ids.f rtI
  have hok := vt_at s 1
  have hdd : ∀ j : Nat, ((bytesOf s).drop 1).drop j = (bytesOf s).drop (1 + j) := fun j => by rw [List.drop_drop]
  have hrt := rtake_ev (s.extract 1 s.size) (by rw [size_extract' _ _ _ (Nat.le_refl _)]; omega)
  rw [bytes_from] at hrt
  have h1' : (1 : Int) ≤ (s.size : Int) := by omega
  simp only [if_pos h1']
  generalize hv : vt 9 ((bytesOf s).drop 1) = v at hrt hok ⊢
  obtain ⟨d, j, e⟩ := v
  simp only at hrt hok ⊢
  by_cases he : e = 0
  · have hok := hok he
    simp only [if_pos he]
    by_cases h6 : 65535 < d
    · simp only [if_pos h6]
      refine Ev.bind (a := (([] : List Int), 0, 6)) ?_ (ev_is (fun k => by rw [if_neg (by decide)]; rfl))
      refine Ev.bind hrt ?_
      exact ev_is (fun k => by rw [if_pos he, if_pos h6])
    · simp only [if_neg h6]
      have := rids_go s hs d (by omega) d.toNat 0 [] (1 + j.toNat) (by simp; omega) (by omega) (by omega) (by omega) (.inl ⟨rfl, rfl⟩)
      have hf : decide (([] : List Int).length = 0) = true := rfl
      have hpj : ((1 + j.toNat : Nat) : Int) = 1 + j := by omega
      rw [hf, ← hdd, hpj] at this
      generalize idsL d.toNat 0 true (((bytesOf s).drop 1).drop j.toNat) = Q at this ⊢
      refine Ev.bind (a := rres [] (1 + j) Q) (Ev.bind hrt ?_) ?_
      · simp only [if_pos he, if_neg h6]
        rw [jw64 (n := 1 + j) (by omega) (by omega)]
        exact this
      · unfold rres
        by_cases hq : Q.2.2 = 0
        · simp only [if_pos hq]
          exact Ev.now _
        · simp only [if_neg hq]
          exact Ev.now _
  · simp only [if_neg he]
    refine Ev.bind (a := (([] : List Int), 0, e)) ?_ (ev_is (fun k => by rw [if_neg he]; rfl))
    refine Ev.bind hrt ?_
    exact ev_is (fun k => by rw [if_neg he])
theorem rec_rj1_ev (s : ByteArray) (hs : s.size ≤ 1000000) (c d j : Int) (hj : 0 ≤ j) (hj1 : 1 + j ≤ s.size) :
    Ev (fun k => juratref28_Take.j1 k s c d j false) (if (vt 9 (((bytesOf s).drop 1).drop j.toNat)).2.2 = 0 then (if goodN c (vt 9 (((bytesOf s).drop 1).drop j.toNat)).1 = true then ((c, d, (vt 9 (((bytesOf s).drop 1).drop j.toNat)).1, [], 1 + j + (vt 9 (((bytesOf s).drop 1).drop j.toNat)).2.1, 0) : RT) else er 11) else er (vt 9 (((bytesOf s).drop 1).drop j.toNat)).2.2) := by
  have hok := vt_at s (1 + j.toNat)
  have hrt := rtake_ev (s.extract (1 + j.toNat) s.size) (by rw [size_extract' _ _ _ (Nat.le_refl _)]; omega)
  rw [bytes_from] at hrt
  rw [List.drop_drop]
  have hw : wrap64 (1 + j) = 1 + j := jw64 (by omega) (by omega)
  refine Ev.step (fun k => by rw [juratref28_Take.j1, if_neg (by decide), hw, if_pos (by omega), if_pos (by omega), show (1 + j).toNat = 1 + j.toNat by omega]) ?_
  generalize hv : vt 9 ((bytesOf s).drop (1 + j.toNat)) = v at hrt hok ⊢
  obtain ⟨d2, j2, e2⟩ := v
  simp only at hrt hok ⊢
  refine Ev.bind hrt ?_
  by_cases he : e2 = 0
  · have hok := hok he
    simp only [if_pos he]
    have hw2 : wrap64 (1 + j + j2) = 1 + j + j2 := jw64 (by omega) (by omega)
    refine Ev.congr (fun k => by rw [ris_is, Option.bind_some]) ?_
    unfold goodN
    cases hR : isR d2 with
    | false =>
      rw [Bool.false_and]
      exact ev_is (fun k => rfl)
    | true =>
      rw [Bool.true_and]
      refine Ev.congr (fun k => by rw [if_pos rfl]) ?_
      have hR' : 0 ≤ d2 ∧ d2 ≤ 4611686018427387903 := by simpa [isR] using hR
      by_cases h4 : c < 4
      · by_cases h0 : d2 = 0
        · rw [decide_eq_false (show ¬ (c < 4 → 0 < d2) from fun h => by have := h h4; omega)]
          exact ev_is (fun k => by rw [if_pos h4, if_pos h0]; rfl)
        · rw [decide_eq_true (show c < 4 → 0 < d2 from fun _ => by omega), if_pos rfl]
          exact ev_is (fun k => by rw [if_pos h4, if_neg h0, hw2])
      · rw [decide_eq_true (show c < 4 → 0 < d2 from fun h => absurd h h4), if_pos rfl]
        exact ev_is (fun k => by rw [if_neg h4, hw2])
  · simp only [if_neg he]
    exact Ev.now _
theorem rec_rnums_ev (s : ByteArray) (hs : s.size ≤ 1000000) (h1 : 1 ≤ s.size) (c : Int) :
    Ev (fun k => (juratref02_Take.f k (s.extract 1 s.size)).bind fun bt232 => (if bt232.2.2 = 0 then ((juratref03_Is.f bt232.1).bind fun t235 => (if t235 = true then (if c < 4 then (juratref28_Take.j1 k s c bt232.1 bt232.2.1 (bt232.1 == 0)) else (juratref28_Take.j1 k s c bt232.1 bt232.2.1 false)) else (juratref28_Take.j1 k s c bt232.1 bt232.2.1 true))) else (some (0, 0, 0, ([] : List Int), 0, bt232.2.2)))) (rtN c ((bytesOf s).drop 1)) := by
  unfold rtN
  have hok := vt_at s 1
  have hrt := rtake_ev (s.extract 1 s.size) (by rw [size_extract' _ _ _ (Nat.le_refl _)]; omega)
  rw [bytes_from] at hrt
  refine Ev.bind hrt ?_
  generalize hv : vt 9 ((bytesOf s).drop 1) = v at hok ⊢
  obtain ⟨d, j, e⟩ := v
  simp only at hok ⊢
  have hbad : ∀ b : Bool, b = true → Ev (fun k => juratref28_Take.j1 k s c d j b) (er 11) := by
    rintro b rfl
    exact ev_add 1 (fun k => by rw [juratref28_Take.j1, if_pos rfl]; rfl)
  by_cases he : e = 0
  · have hok := hok he
    simp only [if_pos he]
    refine Ev.congr (fun k => by rw [ris_is, Option.bind_some]) ?_
    have hgood := rec_rj1_ev s hs c d j (by omega) (by omega)
    cases hR : isR d with
    | false =>
      have hg : goodN c d = false := by unfold goodN; rw [hR, Bool.false_and]
      rw [hg, if_neg (show ¬ (false = true) by decide)]
      exact hbad true rfl
    | true =>
      have hR' : 0 ≤ d ∧ d ≤ 4611686018427387903 := by simpa [isR] using hR
      refine Ev.congr (fun k => by rw [if_pos rfl]) ?_
      by_cases h4 : c < 4
      · refine Ev.congr (fun k => by rw [if_pos h4]) ?_
        by_cases h0 : d = 0
        · have hg : goodN c d = false := by unfold goodN; rw [hR, Bool.true_and]; exact decide_eq_false (fun h => by have := h h4; omega)
          rw [hg, if_neg (show ¬ (false = true) by decide)]
          exact hbad _ (beq_iff_eq.mpr h0)
        · have hg : goodN c d = true := by unfold goodN; rw [hR, Bool.true_and]; exact decide_eq_true (fun _ => by omega)
          rw [hg, if_pos rfl]
          have hb : (d == 0) = false := beq_eq_false_iff_ne.mpr h0
          rw [hb]
          exact hgood
      · refine Ev.congr (fun k => by rw [if_neg h4]) ?_
        have hg : goodN c d = true := by unfold goodN; rw [hR, Bool.true_and]; exact decide_eq_true (fun h => absurd h h4)
        rw [hg, if_pos rfl]
        exact hgood
  · simp only [if_neg he]
    exact Ev.now _
theorem rrec_take_ev (s : ByteArray) (hs : s.size ≤ 1000000) : Ev (fun k => juratref28_Take.f k s) (rt s) := by
  have hbr := bt_range s 0
  unfold juratref28_Take.f rt
  rw [wrap_bt]
  by_cases h0 : s.size = 0
  · rw [if_pos h0]
    exact ev_is (fun k => by rw [if_pos (by omega)]; rfl)
  · rw [if_neg h0]
    refine Ev.congr (fun k => by rw [if_neg (by omega), if_pos (by omega)]) ?_
    generalize bt s 0 = c
    have hj : ∀ b : Bool, b = true → Ev (fun k => juratref28_Take.j0 k s c b) (er 3) := by
      rintro b rfl
      exact ev_add 1 (fun k => by rw [juratref28_Take.j0, if_pos rfl]; rfl)
    by_cases h1 : c < 1
    · rw [if_pos (.inl h1)]
      exact Ev.congr (fun k => by rw [if_pos h1]) (hj true rfl)
    · refine Ev.congr (fun k => by rw [if_neg h1]) ?_
      by_cases h6 : c > 6
      · rw [if_pos (.inr h6)]
        exact hj _ (decide_eq_true h6)
      · rw [if_neg (by omega), decide_eq_false h6]
        refine Ev.step (fun k => by rw [juratref28_Take.j0, if_neg (by decide)]) ?_
        by_cases h4 : c = 4
        · rw [if_pos h4]
          refine Ev.congr (fun k => by rw [if_pos h4]) ?_
          exact rec_rids_ev s hs (by omega)
        · rw [if_neg h4]
          refine Ev.congr (fun k => by rw [if_neg h4, if_pos (by omega)]) ?_
          exact rec_rnums_ev s hs (by omega) c
theorem same_ev (l m : List Int) (hl : l.length ≤ 1000000000) : Ev (fun k => juratref01_Same.f k l m) (decide (l = m)) := by
  unfold juratref01_Same.f
  by_cases h : l.length = m.length
  · refine Ev.congr (fun k => by rw [if_pos (by omega)]) ?_
    have key : ∀ (d i : Nat), i + d = l.length → Ev (fun k => juratref01_Same.l0 k l m (i : Int)) (decide (l.drop i = m.drop i)) := by
      intro d
      induction d with
      | zero =>
        intro i hi
        rw [List.drop_eq_nil_of_le (by omega), List.drop_eq_nil_of_le (by omega), decide_eq_true rfl]
        exact ev_add 1 (fun k => by rw [juratref01_Same.l0, if_neg (by omega)])
      | succ d ih =>
        intro i hi
        have h1 : i < l.length := by omega
        have h2 : i < m.length := by omega
        rw [List.drop_eq_getElem_cons h1, List.drop_eq_getElem_cons h2]
        refine Ev.step (fun k => by rw [juratref01_Same.l0, if_pos (by omega), if_pos (by omega), if_pos (by omega), rd_get l i h1, rd_get m i h2]) ?_
        by_cases he : l[i] = m[i]
        · refine Ev.congr (fun k => by rw [if_pos he, jw64 (n := (i : Int) + 1) (by omega) (by omega)]) ?_
          have := ih (i + 1) (by omega)
          rw [he]
          simp only [List.cons.injEq, true_and]
          exact this
        · refine ev_is (fun k => by rw [if_neg he]; congr 1; exact (decide_eq_false (fun h => he (by injection h))).symm)
    exact key l.length 0 (by omega)
  · refine ev_is (fun k => by rw [if_neg (by omega)]; congr 1; exact (decide_eq_false (fun e => h (by rw [e]))).symm)
theorem rsame_ev (x y : RT) (hl : x.2.2.2.1.length ≤ 1000000000) : Ev (fun k => juratref24_Same.f k x.1 x.2.1 x.2.2.1 x.2.2.2.1 y.1 y.2.1 y.2.2.1 y.2.2.2.1) (decide (x.1 = y.1 ∧ x.2.1 = y.2.1 ∧ x.2.2.1 = y.2.2.1 ∧ x.2.2.2.1 = y.2.2.2.1)) := by
  unfold juratref24_Same.f
  by_cases h1 : x.1 = y.1
  · by_cases h2 : x.2.1 = y.2.1
    · by_cases h3 : x.2.2.1 = y.2.2.1
      · refine Ev.congr (fun k => by rw [if_pos h1, if_pos h2, if_pos h3]) ?_
        refine Ev.bind (same_ev _ y.2.2.2.1 hl) (ev_is (fun k => ?_))
        congr 1
        by_cases h4 : x.2.2.2.1 = y.2.2.2.1
        · rw [decide_eq_true h4, decide_eq_true ⟨h1, h2, h3, h4⟩]
        · rw [decide_eq_false h4]; exact (decide_eq_false (fun h => h4 h.2.2.2)).symm
      · exact ev_is (fun k => by rw [if_pos h1, if_pos h2, if_neg h3]; congr 1; exact (decide_eq_false (fun h => h3 h.2.2.1)).symm)
    · exact ev_is (fun k => by rw [if_pos h1, if_neg h2]; congr 1; exact (decide_eq_false (fun h => h2 h.2.1)).symm)
  · exact ev_is (fun k => by rw [if_neg h1]; congr 1; exact (decide_eq_false (fun h => h1 h.1)).symm)
theorem idsL_len : ∀ (m : Nat) (ah : Int) (b : Bool) (l : List Int), (idsL m ah b l).1.length ≤ m
  | 0, _, _, _ => by simp [idsL]
  | m + 1, ah, b, l => by
    simp only [idsL]
    have := idsL_len m (ah + (vt 9 l).1) false (l.drop (vt 9 l).2.1.toNat)
    split
    · split
      · simp
      · split
        · simp
        · split
          · simp; omega
          · simp
    · simp
theorem rt_ids_len (s : ByteArray) : (rt s).2.2.2.1.length ≤ 65535 := by
  unfold rt
  split
  · simp [er]
  · split
    · simp [er]
    · split
      · unfold rtI
        split
        · split
          · simp [er]
          · split
            · have := idsL_len (vt 9 ((bytesOf s).drop 1)).1.toNat 0 true (((bytesOf s).drop 1).drop (vt 9 ((bytesOf s).drop 1)).2.1.toNat)
              simp only
              omega
            · simp [er]
        · simp [er]
      · unfold rtN
        repeat' split
        all_goals simp [er]
end Go.Proofs.Ytejcopppchaneaa.Pure
