/- Plain lemmas of this session (HTake): numbers, bytes and lists. -/
import Derived.Test.YtejcopppchaneaaLRec
import Derived.Test.YtejcopppchaneaaPFx2
import Derived.Test.YtejcopppchaneaaRecTake
namespace Go.Proofs.Ytejcopppchaneaa.Pure
open Go.RowKit Go.Proofs.YtejcopppchaneaaW.PrintWords Go.Proofs.YtejcopppchaneaaW.PrintLast Go.Proofs.YtejcopppchaneaaW.PrintMore Go.Proofs.Ytejcopppchaneaa.PF
/-! ### records: what is taken -/
def goodN (c n : Int) : Bool := isR n && decide (c < 4 → 0 < n)
def idsL : Nat → Int → Bool → List Int → List Int × Int × Int
  | 0, _, _, _ => ([], 0, 0)
  | m + 1, ah, fst, l =>
    if (vt 9 l).2.2 = 0 then
      (if (vt 9 l).1 = 0 ∧ fst = false then ([], 0, 9) else if 65534 - ah < (vt 9 l).1 then ([], 0, 11) else
        if (idsL m (ah + (vt 9 l).1) false (l.drop (vt 9 l).2.1.toNat)).2.2 = 0 then
          ((ah + (vt 9 l).1) :: (idsL m (ah + (vt 9 l).1) false (l.drop (vt 9 l).2.1.toNat)).1, (vt 9 l).2.1 + (idsL m (ah + (vt 9 l).1) false (l.drop (vt 9 l).2.1.toNat)).2.1, 0)
        else ([], 0, (idsL m (ah + (vt 9 l).1) false (l.drop (vt 9 l).2.1.toNat)).2.2))
    else ([], 0, (vt 9 l).2.2)
abbrev RT := Int × Int × Int × List Int × Int × Int
def er (e : Int) : RT := (0, 0, 0, [], 0, e)
/-- The ids behind the first byte. -/
def rtI (r : List Int) : RT :=
  if (vt 9 r).2.2 = 0 then
    (if 65535 < (vt 9 r).1 then er 6 else
      if (idsL (vt 9 r).1.toNat 0 true (r.drop (vt 9 r).2.1.toNat)).2.2 = 0 then (4, 0, 0, (idsL (vt 9 r).1.toNat 0 true (r.drop (vt 9 r).2.1.toNat)).1, 1 + (vt 9 r).2.1 + (idsL (vt 9 r).1.toNat 0 true (r.drop (vt 9 r).2.1.toNat)).2.1, 0)
      else er (idsL (vt 9 r).1.toNat 0 true (r.drop (vt 9 r).2.1.toNat)).2.2)
  else er (vt 9 r).2.2
/-- The two numbers behind the first byte. -/
def rtN (c : Int) (r : List Int) : RT :=
  if (vt 9 r).2.2 = 0 then
    (if goodN c (vt 9 r).1 = true then
      (if (vt 9 (r.drop (vt 9 r).2.1.toNat)).2.2 = 0 then
        (if goodN c (vt 9 (r.drop (vt 9 r).2.1.toNat)).1 = true then (c, (vt 9 r).1, (vt 9 (r.drop (vt 9 r).2.1.toNat)).1, [], 1 + (vt 9 r).2.1 + (vt 9 (r.drop (vt 9 r).2.1.toNat)).2.1, 0) else er 11)
      else er (vt 9 (r.drop (vt 9 r).2.1.toNat)).2.2)
    else er 11)
  else er (vt 9 r).2.2
def rt (s : ByteArray) : RT :=
  if s.size = 0 then er 4 else if bt s 0 < 1 ∨ 6 < bt s 0 then er 3 else if bt s 0 = 4 then rtI ((bytesOf s).drop 1) else rtN (bt s 0) ((bytesOf s).drop 1)
theorem bytes_from (s : ByteArray) (i : Nat) : bytesOf (s.extract i s.size) = (bytesOf s).drop i := by
  rw [bytesOf_extract, ← bytesOf_length s, List.take_length]
theorem vt_at (s : ByteArray) (i : Nat) (h : (vt 9 ((bytesOf s).drop i)).2.2 = 0) : 0 ≤ (vt 9 ((bytesOf s).drop i)).1 ∧ (vt 9 ((bytesOf s).drop i)).1 < 9223372036854775808 ∧ 1 ≤ (vt 9 ((bytesOf s).drop i)).2.1 ∧ (vt 9 ((bytesOf s).drop i)).2.1 ≤ s.size - i := by
  have := vt_ok 9 _ (isB_drop (isB_bytesOf s) i) h
  rw [List.length_drop, bytesOf_length] at this
  omega
theorem fail_is (s : ByteArray) (at_ e : Int) (b : Bool) (x : Int) : record_taker_fail.f s at_ e b x = some (s, at_, if b = true ∧ e = 0 then x else e) := by
  unfold record_taker_fail.f
  cases b with
  | false => rw [if_neg (by decide), if_neg (fun h => absurd h.1 (by decide))]
  | true =>
    rw [if_pos rfl]
    by_cases h : e = 0
    · rw [if_pos h, if_pos ⟨rfl, h⟩]
    · rw [if_neg h, if_neg (fun h' => h h'.2)]
theorem num_ev (s : ByteArray) (hs : s.size ≤ 1000000) (i : Nat) (hi : i ≤ s.size) : Ev (fun k => record_taker_num.f k s (i : Int) 0) ((vt 9 ((bytesOf s).drop i)).1, s, (i : Int) + (vt 9 ((bytesOf s).drop i)).2.1, (vt 9 ((bytesOf s).drop i)).2.2) := by
  unfold record_taker_num.f
  refine Ev.congr (fun k => by rw [if_pos rfl, if_pos (by omega), if_pos (by omega), Int.toNat_natCast]) ?_
  refine Ev.bind (take_ev (s.extract i s.size)) ?_
  rw [bytes_from, fail_is]
  by_cases h : (vt 9 ((bytesOf s).drop i)).2.2 = 0
  · have := vt_at s i h
    rw [h]
    exact ev_is (fun k => by rw [Option.bind_some, jw64 (n := (i : Int) + (vt 9 ((bytesOf s).drop i)).2.1) (by omega) (by omega), if_neg (fun h => absurd h.1 (by decide))])
  · have := (vt_err 9 _ h).2
    have hb : ((vt 9 ((bytesOf s).drop i)).2.2 != 0) = true := bne_iff_ne.mpr h
    rw [hb]
    exact ev_is (fun k => by rw [Option.bind_some, this, jw64 (n := (i : Int) + 0) (by omega) (by omega), if_pos ⟨rfl, rfl⟩])
theorem num_bad (s : ByteArray) (at_ e : Int) (he : e ≠ 0) (k : Nat) : record_taker_num.f k s at_ e = some (0, s, at_, e) := by
  unfold record_taker_num.f
  rw [if_neg he]
theorem offset_bad (s : ByteArray) (at_ e : Int) (he : e ≠ 0) (least : Int) (hl : least = 0 ∨ least = 1) (k : Nat) : record_taker_offset.f k s at_ e least = some (0, s, at_, e) := by
  unfold record_taker_offset.f
  rw [num_bad s at_ e he, Option.bind_some]
  rcases hl with h | h
  · rw [h, if_neg (by simp), is_is, Option.bind_some, fail_is, if_neg (fun h => he h.2)]; rfl
  · rw [h, if_pos (by simp), fail_is, if_neg (fun h => he h.2)]; rfl
theorem offset_ev (s : ByteArray) (hs : s.size ≤ 1000000) (i : Nat) (hi : i ≤ s.size) (c : Int) (least : Int) (hl : c < 4 ∧ least = 1 ∨ 4 ≤ c ∧ least = 0) :
    Ev (fun k => record_taker_offset.f k s (i : Int) 0 least) ((vt 9 ((bytesOf s).drop i)).1, s, (i : Int) + (vt 9 ((bytesOf s).drop i)).2.1, if (vt 9 ((bytesOf s).drop i)).2.2 = 0 then (if goodN c (vt 9 ((bytesOf s).drop i)).1 = true then 0 else 11) else (vt 9 ((bytesOf s).drop i)).2.2) := by
  unfold record_taker_offset.f
  refine Ev.bind (num_ev s hs i hi) ?_
  by_cases h : (vt 9 ((bytesOf s).drop i)).2.2 = 0
  · rw [if_pos h, h]
    generalize (vt 9 ((bytesOf s).drop i)).1 = n
    by_cases h1 : n < least
    · have hg : goodN c n = false := by
        unfold goodN isR
        rcases hl with ⟨a, b⟩ | ⟨a, b⟩
        · rw [decide_eq_false (show ¬ (c < 4 → 0 < n) by omega), Bool.and_false]
        · rw [decide_eq_false (show ¬ (0 ≤ n ∧ n ≤ 4611686018427387903) by omega), Bool.false_and]
      rw [hg, if_neg (show ¬ (false = true) by decide)]
      exact ev_is (fun k => by rw [if_pos h1, fail_is, if_pos ⟨rfl, rfl⟩]; rfl)
    · have hg : goodN c n = isR n := by
        unfold goodN
        rw [decide_eq_true (show c < 4 → 0 < n by omega), Bool.and_true]
      rw [hg]
      refine ev_is (fun k => ?_)
      rw [if_neg h1, is_is, Option.bind_some, fail_is]
      cases isR n <;> rfl
  · rw [if_neg h]
    have hn := (vt_err 9 _ h).1
    rw [hn]
    refine ev_is (fun k => ?_)
    rcases hl with ⟨_, b⟩ | ⟨_, b⟩
    · rw [b, if_pos (by simp), fail_is, if_neg (fun h' => h h'.2)]; rfl
    · rw [b, if_neg (by simp), is_is, Option.bind_some, fail_is, if_neg (fun h' => h h'.2)]; rfl
theorem list_stop (s : ByteArray) (n : Int) (out : List Int) (ah i at_ e : Int) (he : e ≠ 0) : Ev (fun k => record_taker_list.l0 k n out ah i s at_ e) (out, s, at_, e) := by
  have hj : Ev (fun k => record_taker_list.j1 k n out ah i false s at_ e) (out, s, at_, e) := ev_add 1 (fun k => by rw [record_taker_list.j1, if_neg (by decide)])
  have hb : (e == 0) = false := beq_eq_false_iff_ne.mpr he
  by_cases h : i < n
  · exact Ev.step (fun k => by rw [record_taker_list.l0, if_pos h, hb]) hj
  · exact Ev.step (fun k => by rw [record_taker_list.l0, if_neg h]) hj
theorem list_go (s : ByteArray) (hs : s.size ≤ 1000000) (n : Int) (hn : n ≤ 65535) : ∀ (m i : Nat) (ah : Int) (out : List Int) (p : Nat), (i : Int) + m = n → p ≤ s.size → 0 ≤ ah → ah ≤ 65534 → out.length = i →
    ∃ L at_, Ev (fun k => record_taker_list.l0 k n out ah (i : Int) s (p : Int) 0) (L, s, at_, (idsL m ah (decide (i = 0)) ((bytesOf s).drop p)).2.2) ∧ ((idsL m ah (decide (i = 0)) ((bytesOf s).drop p)).2.2 = 0 → L = out ++ (idsL m ah (decide (i = 0)) ((bytesOf s).drop p)).1 ∧ at_ = (p : Int) + (idsL m ah (decide (i = 0)) ((bytesOf s).drop p)).2.1) := by
  intro m
  induction m with
  | zero =>
    intro i ah out p hi hp h0 h1 hl
    refine ⟨out, (p : Int), ?_, fun _ => ⟨by simp [idsL], by simp [idsL]⟩⟩
    refine Ev.step (fun k => by rw [record_taker_list.l0, if_neg (by omega)]) ?_
    exact ev_add 1 (fun k => by rw [record_taker_list.j1, if_neg (by decide)]; rfl)
  | succ m ih =>
    intro i ah out p hi hp h0 h1 hl
    simp only [idsL]
    have hnum := num_ev s hs p hp
    have hok := vt_at s p
    have her := vt_err 9 ((bytesOf s).drop p)
    have hdd : ∀ j : Nat, ((bytesOf s).drop p).drop j = (bytesOf s).drop (p + j) := fun j => by rw [List.drop_drop]
    generalize hv : vt 9 ((bytesOf s).drop p) = v at hnum hok her ⊢
    obtain ⟨d, j, e⟩ := v
    simp only at hnum hok her ⊢
    have hw : wrap64 (65534 - ah) = 65534 - ah := jw64 (by omega) (by omega)
    have hw1 : wrap64 ((i : Int) + 1) = ((i + 1 : Nat) : Int) := by rw [jw64 (by omega) (by omega)]; rfl
    -- the round, up to the next one
    have step : ∀ (e' : Int) (r : List Int × ByteArray × Int × Int),
        e' = (if (d > 65534 - ah) ∧ (if (d = 0 ∧ (i : Int) > 0) ∧ e = 0 then (9 : Int) else e) = 0 then 11 else (if (d = 0 ∧ (i : Int) > 0) ∧ e = 0 then 9 else e)) →
        Ev (fun k => record_taker_list.l0 k n (out ++ [wrap64 (ah + d)]) (wrap64 (ah + d)) ((i + 1 : Nat) : Int) s ((p : Int) + j) e') r → Ev (fun k => record_taker_list.l0 k n out ah (i : Int) s (p : Int) 0) r := by
      intro e' r he' hr
      refine Ev.step (fun k => by rw [record_taker_list.l0, if_pos (by omega)]) ?_
      refine Ev.step (fun k => by rw [record_taker_list.j1, if_pos (by decide)]) ?_
      refine Ev.bind hnum ?_
      by_cases hd : d = 0
      · refine Ev.congr (fun k => by rw [if_pos hd, fail_is, Option.bind_some, fail_is, Option.bind_some, if_pos (by omega), hw, hw1]) ?_
        have : (if decide (d > 65534 - ah) = true ∧ (if decide ((i : Int) > 0) = true ∧ e = 0 then (9 : Int) else e) = 0 then (11 : Int) else (if decide ((i : Int) > 0) = true ∧ e = 0 then 9 else e)) = e' := by
          rw [he']; simp [hd]
        rw [this]
        exact hr
      · refine Ev.congr (fun k => by rw [if_neg hd, fail_is, Option.bind_some, fail_is, Option.bind_some, if_pos (by omega), hw, hw1]) ?_
        have : (if decide (d > 65534 - ah) = true ∧ (if false = true ∧ e = 0 then (9 : Int) else e) = 0 then (11 : Int) else (if false = true ∧ e = 0 then 9 else e)) = e' := by
          rw [he']; simp [hd]
        rw [this]
        exact hr
    by_cases he : e = 0
    · have hok := hok he
      rw [if_pos he]
      by_cases h9 : d = 0 ∧ decide (i = 0) = false
      · rw [if_pos h9]
        have hi0 : i ≠ 0 := by simpa using h9.2
        refine ⟨_, _, step 9 _ ?_ (list_stop s n _ _ _ _ 9 (by decide)), fun h => absurd h (by decide)⟩
        rw [if_neg (by omega), if_pos ⟨⟨h9.1, by omega⟩, he⟩]
      · rw [if_neg h9]
        have h9' : ¬ ((d = 0 ∧ (i : Int) > 0) ∧ e = 0) := fun h => h9 ⟨h.1.1, by simp; omega⟩
        by_cases h11 : 65534 - ah < d
        · rw [if_pos h11]
          refine ⟨_, _, step 11 _ ?_ (list_stop s n _ _ _ _ 11 (by decide)), fun h => absurd h (by decide)⟩
          rw [if_neg h9', he, if_pos ⟨h11, rfl⟩]
        · rw [if_neg h11]
          have hwd : wrap64 (ah + d) = ah + d := jw64 (by omega) (by omega)
          obtain ⟨L, at_, hE, hL⟩ := ih (i + 1) (ah + d) (out ++ [ah + d]) (p + j.toNat) (by omega) (by omega) (by omega) (by omega) (by rw [List.length_append, hl]; rfl)
          have hf : decide (i + 1 = 0) = false := decide_eq_false (by omega)
          have hpj : ((p + j.toNat : Nat) : Int) = (p : Int) + j := by omega
          rw [hf, ← hdd, hpj] at hE hL
          refine ⟨L, at_, ?_, ?_⟩
          · refine step 0 _ ?_ ?_
            · rw [if_neg h9', he, if_neg (fun h => h11 h.1)]
            · rw [hwd]
              refine hE.imp ?_
              intro K hK k hk
              rw [hK k hk]
              split <;> rename_i hh
              · rw [hh]
              · rfl
          · intro hz
            by_cases hq : (idsL m (ah + d) false (((bytesOf s).drop p).drop j.toNat)).2.2 = 0
            · rw [if_pos hq]
              have := hL hq
              exact ⟨by rw [this.1, List.append_assoc]; rfl, by rw [this.2]; simp only; omega⟩
            · rw [if_neg hq] at hz
              exact absurd hz hq
    · rw [if_neg he]
      have hn0 := (her he).1
      refine ⟨_, _, step e _ ?_ (list_stop s n _ _ _ _ e he), fun h => absurd h he⟩
      rw [if_neg (fun h : (d = 0 ∧ (i : Int) > 0) ∧ e = 0 => he h.2), if_neg (fun h => he h.2)]
theorem idsL_codes_ne : True := trivial
theorem rtake_fin_ok (c a b : Int) (l : List Int) (at_ : Int) : record_Take.fin c a b l at_ 0 = some (c, a, b, l, at_, 0) := by unfold record_Take.fin; rw [if_pos rfl]
theorem rtake_fin_no (c a b : Int) (l : List Int) (at_ e : Int) (he : e ≠ 0) : record_Take.fin c a b l at_ e = some (er e) := by unfold record_Take.fin er; rw [if_neg he]
theorem rec_list_ev (s : ByteArray) (hs : s.size ≤ 1000000) (h1 : 1 ≤ s.size) (g : List Int × ByteArray × Int × Int → Option RT) (hg : ∀ x, g x = record_Take.fin 4 0 0 x.1 x.2.2.1 x.2.2.2) :
    Ev (fun k => (record_taker_list.f k s 1 0).bind g) (rtI ((bytesOf s).drop 1)) := by
  unfold record_taker_list.f rtI
  have hnum := num_ev s hs 1 h1
  have hok := vt_at s 1
  have her := vt_err 9 ((bytesOf s).drop 1)
  have hdd : ∀ j : Nat, ((bytesOf s).drop 1).drop j = (bytesOf s).drop (1 + j) := fun j => by rw [List.drop_drop]
  generalize hv : vt 9 ((bytesOf s).drop 1) = v at hnum hok her ⊢
  obtain ⟨d, j, e⟩ := v
  simp only at hnum hok her ⊢
  have hstart : ∀ (e' : Int) (r : List Int × ByteArray × Int × Int), e' = (if 65535 < d ∧ e = 0 then 6 else e) → Ev (fun k => record_taker_list.l0 k d [] 0 0 s (1 + j) e') r → Ev (fun k => record_taker_list.f k s 1 0) r := by
    intro e' r he' hr
    unfold record_taker_list.f
    refine Ev.bind hnum ?_
    refine Ev.congr (fun k => by rw [fail_is, Option.bind_some]) ?_
    have : (if decide (d > 65535) = true ∧ e = 0 then (6 : Int) else e) = e' := by rw [he']; simp
    simp only
    rw [this]
    exact hr
  by_cases he : e = 0
  · have hok := hok he
    rw [if_pos he]
    by_cases h6 : 65535 < d
    · rw [if_pos h6]
      refine Ev.bind (hstart 6 _ (by rw [if_pos ⟨h6, he⟩]) (list_stop s d [] 0 0 _ 6 (by decide))) ?_
      exact ev_is (fun k => by rw [hg]; exact rtake_fin_no _ _ _ _ _ 6 (by decide))
    · rw [if_neg h6]
      obtain ⟨L, at_, hE, hL⟩ := list_go s hs d (by omega) d.toNat 0 0 [] (1 + j.toNat) (by omega) (by omega) (by omega) (by omega) rfl
      have hf : decide ((0 : Nat) = 0) = true := rfl
      have hpj : ((1 + j.toNat : Nat) : Int) = 1 + j := by omega
      rw [hf, ← hdd, hpj] at hE hL
      refine Ev.bind (hstart 0 _ (by rw [he, if_neg (fun h => h6 h.1)]) hE) ?_
      by_cases hq : (idsL d.toNat 0 true (((bytesOf s).drop 1).drop j.toNat)).2.2 = 0
      · rw [if_pos hq]
        have := hL hq
        refine ev_is (fun k => ?_)
        rw [hg]
        simp only
        rw [hq, rtake_fin_ok, this.1, this.2]
        rfl
      · rw [if_neg hq]
        refine ev_is (fun k => ?_)
        rw [hg]
        exact rtake_fin_no _ _ _ _ _ _ hq
  · rw [if_neg he]
    refine Ev.bind (hstart e _ (by rw [if_neg (fun h => he h.2)]) (list_stop s d [] 0 0 _ e he)) ?_
    exact ev_is (fun k => by rw [hg]; exact rtake_fin_no _ _ _ _ _ _ he)
theorem rec_nums_ev (s : ByteArray) (hs : s.size ≤ 1000000) (h1 : 1 ≤ s.size) (c least : Int) (hl : c < 4 ∧ least = 1 ∨ 4 ≤ c ∧ least = 0) :
    Ev (fun k => (record_taker_offset.f k s 1 0 least).bind fun p => (record_taker_offset.f k p.2.1 p.2.2.1 p.2.2.2 least).bind fun q => record_Take.fin c p.1 q.1 [] q.2.2.1 q.2.2.2) (rtN c ((bytesOf s).drop 1)) := by
  unfold rtN
  have hl' : least = 0 ∨ least = 1 := by omega
  refine Ev.bind (offset_ev s hs 1 h1 c least hl) ?_
  have hok := vt_at s 1
  have hdd : ∀ j : Nat, ((bytesOf s).drop 1).drop j = (bytesOf s).drop (1 + j) := fun j => by rw [List.drop_drop]
  generalize hv : vt 9 ((bytesOf s).drop 1) = v at hok ⊢
  obtain ⟨d, j, e⟩ := v
  simp only at hok ⊢
  by_cases he : e = 0
  · have hok := hok he
    simp only [if_pos he]
    by_cases h6 : goodN c d = true
    · simp only [if_pos h6]
      have := offset_ev s hs (1 + j.toNat) (by omega) c least hl
      have hok2 := vt_at s (1 + j.toNat)
      rw [← hdd, show ((1 + j.toNat : Nat) : Int) = 1 + j by omega] at this
      rw [← hdd] at hok2
      refine Ev.bind this ?_
      generalize hv2 : vt 9 (((bytesOf s).drop 1).drop j.toNat) = u at hok2 ⊢
      obtain ⟨d2, j2, e2⟩ := u
      simp only at hok2 ⊢
      by_cases he2 : e2 = 0
      · simp only [if_pos he2]
        by_cases h7 : goodN c d2 = true
        · simp only [if_pos h7]
          exact ev_is (fun k => rtake_fin_ok _ _ _ _ _)
        · simp only [if_neg h7]
          exact ev_is (fun k => rtake_fin_no _ _ _ _ _ _ (by decide))
      · simp only [if_neg he2]
        exact ev_is (fun k => rtake_fin_no _ _ _ _ _ _ he2)
    · simp only [if_neg h6]
      exact ev_is (fun k => by rw [offset_bad s _ _ (show (11 : Int) ≠ 0 by decide) least hl', Option.bind_some]; exact rtake_fin_no _ _ _ _ _ 11 (by decide))
  · simp only [if_neg he]
    exact ev_is (fun k => by rw [offset_bad s _ _ he least hl', Option.bind_some]; exact rtake_fin_no _ _ _ _ _ _ he)
theorem rec_take_ev (s : ByteArray) (hs : s.size ≤ 1000000) : Ev (fun k => record_Take.f k s) (rt s) := by
  have hbr := bt_range s 0
  have hw : wrap64 (bt s 0) = bt s 0 := jw64 (by omega) (by omega)
  unfold record_Take.f rt
  rw [hw]
  by_cases h0 : s.size = 0
  · rw [if_pos h0]
    exact ev_is (fun k => by rw [if_pos (by omega)]; rfl)
  · rw [if_neg h0]
    refine Ev.congr (fun k => by rw [if_neg (by omega)]) ?_
    generalize bt s 0 = c
    by_cases h1 : c < 1
    · rw [if_pos (.inl h1)]
      exact ev_is (fun k => by rw [if_pos h1]; rfl)
    · by_cases h6 : c > 6
      · rw [if_pos (.inr h6)]
        exact ev_is (fun k => by rw [if_neg h1, if_pos h6]; rfl)
      · rw [if_neg (by omega)]
        refine Ev.congr (fun k => by rw [if_neg h1, if_neg h6]) ?_
        by_cases h4 : c = 4
        · rw [if_pos h4]
          refine Ev.congr (fun k => by rw [if_pos h4, h4]) ?_
          exact rec_list_ev s hs (by omega) _ (fun x => rfl)
        · rw [if_neg h4]
          refine Ev.congr (fun k => by rw [if_neg h4, runs_is, Option.bind_some]) ?_
          by_cases h3 : 1 ≤ c ∧ c ≤ 3
          · refine Ev.congr (fun k => by rw [if_pos (decide_eq_true h3)]) ?_
            exact rec_nums_ev s hs (by omega) c 1 (.inl ⟨by omega, rfl⟩)
          · refine Ev.congr (fun k => by rw [if_neg (by simpa using h3)]) ?_
            exact rec_nums_ev s hs (by omega) c 0 (.inr ⟨by omega, rfl⟩)
end Go.Proofs.Ytejcopppchaneaa.Pure
