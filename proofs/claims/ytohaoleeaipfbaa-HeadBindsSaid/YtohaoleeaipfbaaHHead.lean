/- Plain lemmas of this session (HHead): numbers, bytes and lists. -/
import Derived.Test.YtohaoleeaipfbaaHFrame
import Derived.Test.YtohaoleeaipfbaaPFx10
import Derived.Test.YtohaoleeaipfbaaPFx12
namespace Go.Proofs.Ytohaoleeaipfbaa.Pure
open Go.RowKit Go.Proofs.YtohaoleeaipfbaaW.PrintWords Go.Proofs.YtohaoleeaipfbaaW.PrintLast Go.Proofs.YtohaoleeaipfbaaW.PrintMore Go.Proofs.Ytohaoleeaipfbaa.PF
/-! ### how far two texts begin alike -/
def cpl : List Int → List Int → Nat
  | x :: a, y :: b => if x = y then cpl a b + 1 else 0
  | _, _ => 0
theorem cpl_nil_r (a : List Int) : cpl a [] = 0 := by cases a <;> rfl
theorem cpl_nil_l (b : List Int) : cpl [] b = 0 := by cases b <;> rfl
theorem cpl_comm : ∀ a b : List Int, cpl a b = cpl b a
  | [], b => by rw [cpl_nil_l, cpl_nil_r]
  | x :: a, [] => rfl
  | x :: a, y :: b => by
    simp only [cpl]
    by_cases h : x = y
    · rw [if_pos h, if_pos h.symm, cpl_comm a b]
    · rw [if_neg h, if_neg (fun e => h e.symm)]
theorem cpl_le_l : ∀ a b : List Int, cpl a b ≤ a.length
  | [], b => by rw [cpl_nil_l]; exact Nat.le_refl _
  | x :: a, [] => Nat.zero_le _
  | x :: a, y :: b => by
    simp only [cpl]
    have := cpl_le_l a b
    split
    · rw [List.length_cons]; omega
    · exact Nat.zero_le _
theorem cpl_le_r (a b : List Int) : cpl a b ≤ b.length := by rw [cpl_comm]; exact cpl_le_l b a
theorem cpl_eq_l : ∀ a b : List Int, cpl a b = a.length → ∃ r, b = a ++ r
  | [], b, _ => ⟨b, rfl⟩
  | x :: a, [], h => by simp [cpl] at h
  | x :: a, y :: b, h => by
    simp only [cpl] at h
    by_cases e : x = y
    · rw [if_pos e, List.length_cons] at h
      obtain ⟨r, hr⟩ := cpl_eq_l a b (by omega)
      exact ⟨r, by rw [e, hr]; rfl⟩
    · rw [if_neg e, List.length_cons] at h; omega
theorem cpl_app : ∀ a r : List Int, cpl a (a ++ r) = a.length
  | [], r => cpl_nil_l _
  | x :: a, r => by
    show (if x = x then cpl a (a ++ r) + 1 else 0) = _
    rw [if_pos rfl, cpl_app a r]; rfl
theorem apre_go (a b : ByteArray) (ha : a.size ≤ 1000000000) (hb : b.size ≤ 1000000000) : ∀ (d i : Nat), i + d = min a.size b.size → Ev (fun k => affix_Prefix.l0 k a b (mn (a.size : Int) (b.size : Int)) (mn (a.size : Int) (b.size : Int)) (i : Int)) ((i + cpl ((bytesOf a).drop i) ((bytesOf b).drop i) : Nat) : Int) := by
  have hmn : mn (a.size : Int) (b.size : Int) = ((min a.size b.size : Nat) : Int) := by unfold mn; split <;> omega
  rw [hmn]
  intro d
  induction d with
  | zero =>
    intro i hi
    have h0 : cpl ((bytesOf a).drop i) ((bytesOf b).drop i) = 0 := by
      by_cases h : a.size ≤ b.size
      · rw [show (bytesOf a).drop i = [] from List.drop_eq_nil_of_le (by rw [bytesOf_length]; omega), cpl_nil_l]
      · rw [show (bytesOf b).drop i = [] from List.drop_eq_nil_of_le (by rw [bytesOf_length]; omega), cpl_nil_r]
    rw [h0]
    refine ev_add 1 (fun k => ?_)
    rw [affix_Prefix.l0, if_neg (by omega)]
    congr 1; omega
  | succ d ih =>
    intro i hi
    refine Ev.step (fun k => by rw [affix_Prefix.l0, if_pos (show (i : Int) < ((min a.size b.size : Nat) : Int) by omega), if_pos (show (0 : Int) ≤ (i : Int) by omega), if_pos (show (i : Int) < (a.size : Int) by omega), if_pos (show (i : Int) < (b.size : Int) by omega)]) ?_
    rw [drop_cons a i (by omega), drop_cons b i (by omega)]
    simp only [cpl]
    by_cases h : bt a (i : Int) = bt b (i : Int)
    · rw [if_pos h]
      have := ih (i + 1) (by omega)
      refine Ev.congr (fun k => ?_) (show Ev (fun k => affix_Prefix.l0 k a b ((min a.size b.size : Nat) : Int) ((min a.size b.size : Nat) : Int) ((i + 1 : Nat) : Int)) _ from (show (i + (cpl ((bytesOf a).drop (i + 1)) ((bytesOf b).drop (i + 1)) + 1)) = i + 1 + cpl ((bytesOf a).drop (i + 1)) ((bytesOf b).drop (i + 1)) by omega) ▸ this)
      rw [if_pos h, jw64 (n := (i : Int) + 1) (by omega) (by omega)]
      rfl
    · rw [if_neg h]
      exact ev_is (fun k => by rw [if_neg h]; rfl)
theorem apre_ev (a b : ByteArray) (ha : a.size ≤ 1000000000) (hb : b.size ≤ 1000000000) : Ev (fun k => affix_Prefix.f k a b) ((cpl (bytesOf a) (bytesOf b) : Nat) : Int) := by
  have := apre_go a b ha hb (min a.size b.size) 0 (by omega)
  rw [List.drop_zero, List.drop_zero, Nat.zero_add] at this
  exact this
theorem rpre_go (a b : ByteArray) (ha : a.size ≤ 1000000000) (hb : b.size ≤ 1000000000) : ∀ (d i : Nat), i + d = min a.size b.size → Ev (fun k => juratref09_Prefix.l0 k a b (i : Int)) ((i + cpl ((bytesOf a).drop i) ((bytesOf b).drop i) : Nat) : Int) := by
  intro d
  induction d with
  | zero =>
    intro i hi
    have h0 : cpl ((bytesOf a).drop i) ((bytesOf b).drop i) = 0 := by
      by_cases h : a.size ≤ b.size
      · rw [show (bytesOf a).drop i = [] from List.drop_eq_nil_of_le (by rw [bytesOf_length]; omega), cpl_nil_l]
      · rw [show (bytesOf b).drop i = [] from List.drop_eq_nil_of_le (by rw [bytesOf_length]; omega), cpl_nil_r]
    rw [h0]
    refine ev_add 1 (fun k => ?_)
    rw [juratref09_Prefix.l0]
    by_cases h : (i : Int) < (a.size : Int)
    · rw [if_pos h, if_neg (by omega)]; rfl
    · rw [if_neg h]; rfl
  | succ d ih =>
    intro i hi
    refine Ev.step (fun k => by rw [juratref09_Prefix.l0, if_pos (show (i : Int) < (a.size : Int) by omega), if_pos (show (i : Int) < (b.size : Int) by omega), if_pos (show (0 : Int) ≤ (i : Int) by omega)]) ?_
    rw [drop_cons a i (by omega), drop_cons b i (by omega)]
    simp only [cpl]
    by_cases h : bt a (i : Int) = bt b (i : Int)
    · rw [if_pos h]
      have := ih (i + 1) (by omega)
      refine Ev.congr (fun k => ?_) (show Ev (fun k => juratref09_Prefix.l0 k a b ((i + 1 : Nat) : Int)) _ from (show (i + (cpl ((bytesOf a).drop (i + 1)) ((bytesOf b).drop (i + 1)) + 1)) = i + 1 + cpl ((bytesOf a).drop (i + 1)) ((bytesOf b).drop (i + 1)) by omega) ▸ this)
      rw [if_pos h, jw64 (n := (i : Int) + 1) (by omega) (by omega)]
      rfl
    · rw [if_neg h]
      exact ev_is (fun k => by rw [if_neg h]; rfl)
theorem rpre_ev (a b : ByteArray) (ha : a.size ≤ 1000000000) (hb : b.size ≤ 1000000000) : Ev (fun k => juratref09_Prefix.f k a b) ((cpl (bytesOf a) (bytesOf b) : Nat) : Int) := by
  have := rpre_go a b ha hb (min a.size b.size) 0 (by omega)
  rw [List.drop_zero, List.drop_zero, Nat.zero_add] at this
  exact this
theorem toList_inj {a b : ByteArray} (h : a.toList = b.toList) : a = b := by
  rw [Lib.toList_data, Lib.toList_data] at h
  exact bytesOf_inj (by unfold bytesOf; rw [h])
theorem pre_is (a b : ByteArray) : strings_HasPrefix.f a b = some (decide (cpl (bytesOf a) (bytesOf b) = b.size)) := by
  unfold strings_HasPrefix.f stringslite_HasPrefix.f
  by_cases h : (a.size : Int) ≥ (b.size : Int)
  · rw [if_pos h, if_pos (by omega), if_pos (by omega)]
    simp only [Option.bind_some, Int.toNat_natCast]
    congr 1
    by_cases e : cpl (bytesOf a) (bytesOf b) = b.size
    · rw [decide_eq_true e]
      obtain ⟨r, hr⟩ := cpl_eq_l (bytesOf b) (bytesOf a) (by rw [cpl_comm, e, bytesOf_length])
      have hx : a.extract 0 b.size = b := bytesOf_inj (by rw [bytesOf_extract, List.drop_zero, hr]; exact List.take_left' (bytesOf_length b))
      rw [hx]; exact beq_self_eq_true _
    · rw [decide_eq_false e]
      refine beq_eq_false_iff_ne.mpr (fun hx => e ?_)
      have hx := toList_inj hx
      have h1 : bytesOf a = bytesOf b ++ (bytesOf a).drop b.size := by
        have := List.take_append_drop b.size (bytesOf a)
        have h2 : (bytesOf a).take b.size = bytesOf b := by
          have := congrArg bytesOf hx
          rwa [bytesOf_extract, List.drop_zero] at this
        rw [h2] at this; exact this.symm
      rw [cpl_comm, h1, cpl_app, bytesOf_length]
  · rw [if_neg h]
    simp only [Option.bind_some]
    congr 1
    refine (decide_eq_false (fun e => ?_)).symm
    have := cpl_le_l (bytesOf a) (bytesOf b)
    rw [bytesOf_length] at this
    omega
/-! ### heads -/
def mk : ByteArray := ⟨#[99, 101, 114, 116, 1]⟩
theorem mk_bytes : bytesOf mk = [99, 101, 114, 116, 1] := rfl
def hp (file : ByteArray) : ByteArray × Int := if (fp 1 file).2 = 0 then (mk ++ (fp 1 file).1, 0) else ((⟨#[]⟩ : ByteArray), (fp 1 file).2)
theorem hput_ev (file : ByteArray) (h : file.size ≤ 3000) : Ev (fun k => head_Put.f k file) (hp file) := by
  unfold head_Put.f hp
  refine Ev.bind (fput_ev 1 file (by omega)) ?_
  have := fp_size (1, file)
  simp only at this
  by_cases h0 : (fp 1 file).2 = 0
  · rw [if_pos h0]
    exact ev_is (fun k => by rw [if_pos h0, if_pos (by omega)]; rfl)
  · rw [if_neg h0]
    exact ev_is (fun k => by rw [if_neg h0])
theorem rhput_ev (file : ByteArray) (h : file.size ≤ 3000) : Ev (fun k => juratref29_Put.f k file) (hp file) := by
  unfold juratref29_Put.f hp
  refine Ev.bind (rfput_ev 1 file (by omega)) ?_
  have := fp_size (1, file)
  simp only at this
  by_cases h0 : (fp 1 file).2 = 0
  · rw [if_pos h0]
    exact ev_is (fun k => by rw [if_pos h0, if_pos (by omega)]; rfl)
  · rw [if_neg h0]
    exact ev_is (fun k => by rw [if_neg h0])
def ht (s : ByteArray) : ByteArray × Int × Int :=
  if cpl (bytesOf s) (bytesOf mk) = 5 then
    (if (ft (s.extract 5 s.size)).2.2.2 = 0 then (if (ft (s.extract 5 s.size)).1 = 1 then ((ft (s.extract 5 s.size)).2.1, 5 + (ft (s.extract 5 s.size)).2.2.1, 0) else ((⟨#[]⟩ : ByteArray), 0, 15)) else ((⟨#[]⟩ : ByteArray), 0, (ft (s.extract 5 s.size)).2.2.2))
  else if cpl (bytesOf s) (bytesOf mk) = s.size then ((⟨#[]⟩ : ByteArray), 0, 4) else ((⟨#[]⟩ : ByteArray), 0, 15)
theorem cpl5 {s : ByteArray} (h : cpl (bytesOf s) (bytesOf mk) = 5) : 5 ≤ s.size := by
  have := cpl_le_l (bytesOf s) (bytesOf mk)
  rw [bytesOf_length] at this
  omega
theorem htake_ev (s : ByteArray) (h : s.size ≤ 1000000) : Ev (fun k => head_Take.f k s) (ht s) := by
  unfold head_Take.f ht
  have hp1 := pre_is s mk
  have hp2 := pre_is mk s
  rw [cpl_comm] at hp2
  change strings_HasPrefix.f s (⟨#[99, 101, 114, 116, 1]⟩ : ByteArray) = some (decide (cpl (bytesOf s) (bytesOf mk) = 5)) at hp1
  change strings_HasPrefix.f (⟨#[99, 101, 114, 116, 1]⟩ : ByteArray) s = some (decide (cpl (bytesOf s) (bytesOf mk) = s.size)) at hp2
  rw [hp1, hp2]
  by_cases h5 : cpl (bytesOf s) (bytesOf mk) = 5
  · have h5s := cpl5 h5
    rw [if_pos h5]
    refine Ev.congr (fun k => by rw [decide_eq_true h5, Option.bind_some, if_pos rfl, if_pos (by omega)]) ?_
    have hsz : (s.extract 5 s.size).size = s.size - 5 := size_extract' _ _ _ (Nat.le_refl _)
    refine Ev.bind (ftake_ev (s.extract 5 s.size) (by omega)) ?_
    by_cases h0 : (ft (s.extract 5 s.size)).2.2.2 = 0
    · have hf := ft_size _ h0
      simp only [if_pos h0]
      by_cases h1 : (ft (s.extract 5 s.size)).1 = 1
      · simp only [if_pos h1]
        exact ev_is (fun k => by rw [jw64 (by omega) (by omega)])
      · simp only [if_neg h1]
        exact Ev.now _
    · simp only [if_neg h0]
      exact Ev.now _
  · rw [if_neg h5]
    refine Ev.congr (fun k => by rw [decide_eq_false h5, Option.bind_some, if_neg (by decide), Option.bind_some]) ?_
    by_cases hz : cpl (bytesOf s) (bytesOf mk) = s.size
    · rw [if_pos hz]
      exact ev_is (fun k => by rw [decide_eq_true hz, if_pos rfl])
    · rw [if_neg hz]
      exact ev_is (fun k => by rw [decide_eq_false hz, if_neg (by decide)])
theorem rhtake_ev (s : ByteArray) (h : s.size ≤ 1000000) : Ev (fun k => juratref29_Take.f k s) (ht s) := by
  unfold juratref29_Take.f ht
  refine Ev.bind (rpre_ev s (⟨#[99, 101, 114, 116, 1]⟩ : ByteArray) (by omega) (by decide)) ?_
  change Ev (fun k => if ((cpl (bytesOf s) (bytesOf mk) : Nat) : Int) < 5 then juratref29_Take.j0 k s ((cpl (bytesOf s) (bytesOf mk) : Nat) : Int) (((cpl (bytesOf s) (bytesOf mk) : Nat) : Int) == (s.size : Int)) else juratref29_Take.j0 k s ((cpl (bytesOf s) (bytesOf mk) : Nat) : Int) false) _
  have hle : cpl (bytesOf s) (bytesOf mk) ≤ 5 := cpl_le_r (bytesOf s) (bytesOf mk)
  by_cases h5 : cpl (bytesOf s) (bytesOf mk) = 5
  · have h5s := cpl5 h5
    rw [if_pos h5]
    refine Ev.congr (fun k => by rw [if_neg (by omega)]) ?_
    refine Ev.step (fun k => by rw [juratref29_Take.j0, if_neg (by decide), if_neg (by omega), if_pos (by omega)]) ?_
    have hsz : (s.extract 5 s.size).size = s.size - 5 := size_extract' _ _ _ (Nat.le_refl _)
    refine Ev.bind (rftake_ev (s.extract 5 s.size) (by omega)) ?_
    by_cases h0 : (ft (s.extract 5 s.size)).2.2.2 = 0
    · have hf := ft_size _ h0
      simp only [if_pos h0]
      by_cases h1 : (ft (s.extract 5 s.size)).1 = 1
      · simp only [if_pos h1]
        exact ev_is (fun k => by rw [jw64 (by omega) (by omega)])
      · simp only [if_neg h1]
        exact Ev.now _
    · simp only [if_neg h0]
      exact Ev.now _
  · rw [if_neg h5]
    refine Ev.congr (fun k => by rw [if_pos (by omega)]) ?_
    by_cases hz : cpl (bytesOf s) (bytesOf mk) = s.size
    · rw [if_pos hz]
      have hb : (((cpl (bytesOf s) (bytesOf mk) : Nat) : Int) == (s.size : Int)) = true := beq_iff_eq.mpr (by omega)
      rw [hb]
      exact ev_add 1 (fun k => by rw [juratref29_Take.j0, if_pos rfl])
    · rw [if_neg hz]
      have hb : (((cpl (bytesOf s) (bytesOf mk) : Nat) : Int) == (s.size : Int)) = false := beq_eq_false_iff_ne.mpr (by omega)
      rw [hb]
      exact ev_add 1 (fun k => by rw [juratref29_Take.j0, if_neg (by decide), if_pos (by omega)])
theorem hp_ok {file : ByteArray} (h : file.size ≤ 3000) : hp file = (mk ++ (fp 1 file).1, 0) := by
  unfold hp
  rw [if_pos (by rw [fp_ok (x := (1, file)) (by unfold okF; simp only; omega)])]
theorem hnew_ev {file : ByteArray} (h : file.size ≤ 3000) : Ev (fun k => head_New.f k file) (mk ++ (fp 1 file).1, 0, false, 0) := by
  unfold head_New.f
  refine Ev.bind (hput_ev file h) ?_
  rw [hp_ok h]
  exact ev_is (fun k => by rw [if_pos rfl])
theorem extract_all (a : ByteArray) : a.extract 0 a.size = a := bytesOf_inj (by rw [bytesOf_extract, List.drop_zero, ← bytesOf_length a, List.take_length])
theorem hfeed_ev (a s : ByteArray) (ha : a.size ≤ 1000000) (hs : s.size ≤ 1000000) : Ev (fun k => head_Match_Feed.f k a 0 false s)
    (if cpl (bytesOf a) (bytesOf s) < a.size ∧ cpl (bytesOf a) (bytesOf s) < s.size then (((cpl (bytesOf a) (bytesOf s) : Nat) : Int), 15, a, ((cpl (bytesOf a) (bytesOf s) : Nat) : Int), true) else (((cpl (bytesOf a) (bytesOf s) : Nat) : Int), 0, a, ((cpl (bytesOf a) (bytesOf s) : Nat) : Int), false)) := by
  unfold head_Match_Feed.f
  refine Ev.congr (fun k => by rw [if_neg (by decide), if_pos (by decide), if_pos (by omega), show (0 : Int).toNat = 0 from rfl, extract_all]) ?_
  refine Ev.bind (apre_ev a s (by omega) (by omega)) ?_
  have h1 := cpl_le_l (bytesOf a) (bytesOf s)
  rw [bytesOf_length] at h1
  rw [jw64 (n := 0 + ((cpl (bytesOf a) (bytesOf s) : Nat) : Int)) (by omega) (by omega), Int.zero_add]
  by_cases hx : cpl (bytesOf a) (bytesOf s) < a.size
  · by_cases hy : cpl (bytesOf a) (bytesOf s) < s.size
    · rw [if_pos (show cpl (bytesOf a) (bytesOf s) < a.size ∧ cpl (bytesOf a) (bytesOf s) < s.size from ⟨hx, hy⟩)]
      exact ev_is (fun k => by rw [if_pos (by omega), if_pos (by omega)])
    · rw [if_neg (show ¬ (cpl (bytesOf a) (bytesOf s) < a.size ∧ cpl (bytesOf a) (bytesOf s) < s.size) from fun h => hy h.2)]
      exact ev_is (fun k => by rw [if_pos (by omega), if_neg (by omega)])
  · rw [if_neg (show ¬ (cpl (bytesOf a) (bytesOf s) < a.size ∧ cpl (bytesOf a) (bytesOf s) < s.size) from fun h => hx h.1)]
    exact ev_is (fun k => by rw [if_neg (by omega)])
theorem awake29_ev : Ev (fun k => juratlaw29_awake.f k) true := by
  unfold juratlaw29_awake.f
  have e0 : (fp 1 (⟨#[97, 98]⟩ : ByteArray)) = ((⟨#[1, 2, 97, 98]⟩ : ByteArray), 0) := by
    rw [fp_ok (x := (1, (⟨#[97, 98]⟩ : ByteArray))) ⟨by decide, by decide, by decide⟩, show ((⟨#[97, 98]⟩ : ByteArray).size : Int) = ((2 : Nat) : Int) from rfl, vp_nat, vput_small (by decide)]; rfl
  have e1 : mk ++ (fp 1 (⟨#[97, 98]⟩ : ByteArray)).1 = (⟨#[99, 101, 114, 116, 1, 1, 2, 97, 98]⟩ : ByteArray) := by rw [e0]; rfl
  refine Ev.bind (hput_ev _ (by decide)) ?_
  rw [hp_ok (by decide), e1]
  refine Ev.bind (hnew_ev (by decide)) ?_
  rw [e1]
  have e2 : cpl (bytesOf (⟨#[99, 101, 114, 116, 1, 1, 2, 97, 98]⟩ : ByteArray)) (bytesOf (⟨#[99, 101, 114, 116, 1, 1, 2, 97, 98, 120, 121, 122]⟩ : ByteArray)) = 9 := by decide
  have hF : Ev (fun k => head_Match_Feed.f k (⟨#[99, 101, 114, 116, 1, 1, 2, 97, 98]⟩ : ByteArray) 0 false (⟨#[99, 101, 114, 116, 1, 1, 2, 97, 98, 120, 121, 122]⟩ : ByteArray)) (9, 0, (⟨#[99, 101, 114, 116, 1, 1, 2, 97, 98]⟩ : ByteArray), 9, false) := by
    have := hfeed_ev (⟨#[99, 101, 114, 116, 1, 1, 2, 97, 98]⟩ : ByteArray) (⟨#[99, 101, 114, 116, 1, 1, 2, 97, 98, 120, 121, 122]⟩ : ByteArray) (by decide) (by decide)
    rw [e2, if_neg (by decide)] at this
    exact this
  refine Ev.bind hF ?_
  refine ev_is (fun k => ?_)
  rw [if_pos (by rw [Lib.toList_data]), if_pos rfl, if_pos rfl, if_pos rfl, if_pos rfl]
  rfl
end Go.Proofs.Ytohaoleeaipfbaa.Pure
