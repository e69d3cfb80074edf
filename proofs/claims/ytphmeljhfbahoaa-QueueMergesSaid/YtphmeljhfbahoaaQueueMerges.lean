/- QueueMerges over this seat's program, by walking its text: it returns true. -/
import Derived.Test.YtphmeljhfbahoaaQMerge
import Derived.Test.YtphmeljhfbahoaaOpensQ
import Derived.OrdersHeld
set_option linter.unusedVariables false
set_option linter.unusedSimpArgs false
namespace Go.Proofs.Ytphmeljhfbahoaa.PQ
open Go.Conc Go.RowKit Go.Proofs.YtphmeljhfbahoaaW.PrintWords Go.Proofs.YtphmeljhfbahoaaW.PrintLast Go.Proofs.YtphmeljhfbahoaaW.PrintMore
theorem heap34 : Kd.Heap k34 := Kd.heap_iso _ (Kd.heap_pair (Kd.heap_int _) (Kd.heap_int _))
def qmR15.T : Bool × List (List Nat × List Nat) := (true, [([], []), ([0], [0]), ([1], [1]), ([1], [1]), ([2, 3, 1], [1, 2, 3]), ([4, 1], [1, 4]), ([1], [1]), ([1], [1]), ([6, 7, 1], [1, 6, 7]), ([8, 1], [1, 8]), ([5, 9, 1], [1, 5, 9]), ([1, 10], [1, 10]), ([11, 1, 0, 1, 2, 3, 4, 5, 6, 7, 8, 9, 10, 11], [0, 11])])
def qmR15.B : List Nat := [0, 1, 3, 3, 15, 31, 3, 3, 195, 451, 1023, 2047, 4095]
theorem qmR15.tab : rtab .any (opsOf Try.f5 15) = qmR15.T := by kernel_rfl
theorem qmR15.bits : waitsOk qmR15.T.2 qmR15.B = true := by kernel_rfl
set_option maxHeartbeats 16000000 in
set_option maxRecDepth 100000 in
theorem merges_many (a b : List S34) (A : Option Addr) (c : Nat) (B0 : Option Addr) (d : Nat) (w : World) (hl : (a.length : Int) > 30) : Calls Try.prog 5 #[.slice A a.length c, .slice B0 b.length d] w fun e w' => e = .returned (.bool true) ∧ Below w.heap.size w w' := by
  have h1 : decide ((a.length : Int) > 30) = true := decide_eq_true hl
  clear hl
  go_enter Try.func5, Try.ntmps5
  go_wp2_with (first | (go_at_call 6; (refine (juratlaw33_awake.calls_ _).mono ?_); rintro e w3 ⟨rfl, hb3⟩; have B3 := Aside0.mk hb3; clear hb3) | fail)
  go_ret
  exact ⟨rfl, B3.out⟩
set_option maxHeartbeats 16000000 in
set_option maxRecDepth 100000 in
theorem merges_many2 (a b : List S34) (A : Option Addr) (c : Nat) (B0 : Option Addr) (d : Nat) (w : World) (hl : ¬ (a.length : Int) > 30) (hm : (b.length : Int) > 30) : Calls Try.prog 5 #[.slice A a.length c, .slice B0 b.length d] w fun e w' => e = .returned (.bool true) ∧ Below w.heap.size w w' := by
  have h1 : decide ((a.length : Int) > 30) = false := decide_eq_false hl
  have h2 : decide ((b.length : Int) > 30) = true := decide_eq_true hm
  clear hl hm
  go_enter Try.func5, Try.ntmps5
  go_wp2_with (first | (go_at_call 6; (refine (juratlaw33_awake.calls_ _).mono ?_); rintro e w3 ⟨rfl, hb3⟩; have B3 := Aside0.mk hb3; clear hb3) | fail)
  go_ret
  exact ⟨rfl, B3.out⟩
/-- What stands through the law's loops. -/
def MSt (w wr : World) (g1 c1 g2 c2 : Nat) (ok : Nat → Prop) (v : Value) (m : List S34) : Prop := QAt wr w.heap.size g1 c1 30 [] false ∧ QAt wr w.heap.size g2 c2 30 [] false ∧ Kd.R k34 34 wr w.heap.size ok v m ∧ Below w.heap.size w wr
theorem MSt.below {w wr W' : World} {g1 c1 g2 c2 : Nat} {ok : Nat → Prop} {v : Value} {m : List S34} (h : MSt w wr g1 c1 g2 c2 ok v m) (hb : Below wr.heap.size wr W') : MSt w W' g1 c1 g2 c2 ok v m := ⟨h.1.below hb, h.2.1.below hb, Kd.R_below h.2.2.1 hb, below_step h.2.2.2 hb⟩
set_option maxHeartbeats 16000000 in
set_option maxRecDepth 100000 in
theorem merges_few (a b : List S34) (A : Option Addr) (c : Nat) (B0 : Option Addr) (d : Nat) (w : World) (hr : Kd.C k34 w A a.length a) (hc : a.length ≤ c) (hs : Kd.C k34 w B0 b.length b) (hd : b.length ≤ d) (hl : ¬ (a.length : Int) > 30) (hm : ¬ (b.length : Int) > 30) : Calls Try.prog 5 #[.slice A a.length c, .slice B0 b.length d] w fun e w' => e = .returned (.bool true) ∧ Below w.heap.size w w' := by
  have h1 : decide ((a.length : Int) > 30) = false := decide_eq_false hl
  have h2 : decide ((b.length : Int) > 30) = false := decide_eq_false hm
  have hu34 := Try.underlying34
  have HR := Aside0.mk hr
  have HC := Aside0.mk hc
  have HS := Aside0.mk hs
  have HD := Aside0.mk hd
  have LA := Aside0.mk (show a.length ≤ 30 by omega)
  have LB := Aside0.mk (show b.length ≤ 30 by omega)
  have TA : Aside0 (a.take a.length = a) := ⟨List.take_length⟩
  have TB : Aside0 (b.take b.length = b) := ⟨List.take_length⟩
  clear hr hc hs hd hl hm
  go_enter Try.func5, Try.ntmps5
  go_upto_region 4 with (first | (go_at_call 7; (refine (queue_New.ok 30 _ (by omega) (by omega)).mono ?_); rintro e w1 ⟨g1, c1, rfl, hq1, hb1⟩; have QA := Aside0.mk hq1; have B := Aside0.mk hb1; clear hq1 hb1) | fail)
  go_upto_region 5 with (first | (go_at_call 7; (refine (queue_New.ok 30 _ (by omega) (by omega)).mono ?_); rintro e w2 ⟨g2, c2, rfl, hq2, hb2⟩; have QB := Aside0.mk (hq2.lower B.out.size); have NE := Aside0.mk (show (g1 ≠ c2 ∧ g2 ≠ c1 ∧ c1 ≠ c2) ∧ (g1 < w1.heap.size ∧ c1 < w1.heap.size) ∧ (w1.heap.size ≤ g2 ∧ w1.heap.size ≤ c2) from by have h1 := QA.out.lt; have h2 := hq2.1; have h3 := hq2.2.1; exact ⟨⟨by omega, by omega, by omega⟩, h1, ⟨h2, h3⟩⟩); have QAN := Aside0.mk (QA.out.below hb2); have BN := Aside0.mk (below_step B.out hb2); clear QA B hq2 hb2; have QA := QAN; have B := BN; clear QAN BN) | fail)
  go_upto_region 7 with (first
    | (go_at_call 16; have F := (queue_Fill.calls_ w.heap.size g1 c1 30 [] _ QA.out A c a (Kd.C_kept_came heap34 HR.out B.out (fun k hk => by have h1 := QA.out.2.1; omega)) (by have := LA.out; omega) a.length (by have := LA.out; simp; omega) (by simp)); (with_reducible refine F.mono ?_); clear F; rintro e w3 ⟨rfl, hq, hk, hf⟩; have QAN : Aside0 (QAt w3 w.heap.size g1 c1 30 a false) := ⟨by simpa [TA.out] using hq⟩; have QBN := Aside0.mk (QB.out.kept hk (fun h => NE.out.1.2.1 h) (fun h => NE.out.1.2.2 h.symm)); have BN := Aside0.mk (hf _ _ (Nat.le_refl _) B.out.size B.out); clear QA QB B hq hk hf; have QA := QAN; have QB := QBN; have B := BN; clear QAN QBN BN)
    | (go_at_call 16; have F := (queue_Fill.calls_ w.heap.size g2 c2 30 [] _ QB.out B0 d b (Kd.C_kept_came heap34 HS.out B.out (fun k hk => by have h1 := QB.out.2.1; omega)) (by have := LB.out; omega) b.length (by have := LB.out; simp; omega) (by simp)); (with_reducible refine F.mono ?_); clear F; rintro e w3 ⟨rfl, hq, hk, hf⟩; have QBN : Aside0 (QAt w3 w.heap.size g2 c2 30 b false) := ⟨by simpa [TB.out] using hq⟩; have QAN := Aside0.mk (QA.out.kept hk (fun h => NE.out.1.1 h) (fun h => NE.out.1.2.2 h)); have BN := Aside0.mk (hf _ _ (Nat.le_refl _) B.out.size B.out); clear QA QB B hq hk hf; have QA := QAN; have QB := QBN; have B := BN; clear QAN QBN BN)
    | fail)

  go_upto_region 8 with (first | (go_at_call 18; have F := (queue_Merge.calls_ w g1 c1 30 g2 c2 30 a b false false _ B.out QA.out QB.out NE.out.1 (by have := LA.out; omega) (by have := LB.out; omega)); (with_reducible refine F.mono ?_); clear F; rintro e w5 ⟨v5, rfl, hR, hqa, hqb, hk, hb⟩; obtain ⟨Al, cl, rfl⟩ := Kd.R_slice hR; have L := Aside0.mk hR; clear QA QB B; have QA := Aside0.mk hqa; have QB := Aside0.mk hqb; have B := Aside0.mk hb; clear hR hqa hqb hk hb) | fail)
  have ML := Aside0.mk (merge_len _ a b rfl)
  obtain ⟨ka, hka⟩ := (rising_ev a (by have := LA.out; omega)).rounds
  obtain ⟨kb, hkb⟩ := (rising_ev b (by have := LB.out; omega)).rounds
  obtain ⟨kl, hkl⟩ := (rising_ev (mergeS a b) (by have := ML.out; have := LA.out; have := LB.out; omega)).rounds
  obtain ⟨km, hkm⟩ := (rmerge_ev a b (by have := LA.out; omega) (by have := LB.out; omega)).rounds
  obtain ⟨ks, hks⟩ := (same34_ev (mergeS a b) (by have := ML.out; have := LA.out; have := LB.out; omega)).rounds
  have KA := Aside0.mk hka
  have KB := Aside0.mk hkb
  have KL := Aside0.mk hkl
  have KM := Aside0.mk hkm
  have KS := Aside0.mk hks
  clear hka hkb hkl hkm hks
  have RA := Aside0.mk (rfl : risB a = risB a)
  go_cut [10] (fun v10 wx => v10 = .bool (risB a && risB b) ∧ Aside0 (QAt wx w.heap.size g1 c1 30 [] false) ∧ Aside0 (QAt wx w.heap.size g2 c2 30 [] false) ∧ Aside0 (Kd.R k34 34 wx w.heap.size (fun k => w3.heap.size ≤ k) (.slice Al (mergeS a b).length cl) (mergeS a b)) ∧ Aside0 (Below w.heap.size w wx))
  case first =>
    have FA := juratref15_Rising.calls ka A c a (risB a) w5 (Kd.C_below HR.out B.out) HC.out KA.out
    cases hra : risB a with
    | false =>
      rw [hra] at FA
      go_wp2_with (first | (go_at_call 19; (with_reducible refine FA.mono ?_); rintro e w6 ⟨rfl, hb⟩; have QAN := Aside0.mk (QA.out.below hb); have QBN := Aside0.mk (QB.out.below hb); have BN := Aside0.mk (below_step B.out hb); have LN := Aside0.mk (Kd.R_below L.out hb); clear QA QB B L; have QA := QAN; have QB := QBN; have B := BN; have L := LN; clear QAN QBN BN LN; clear hb) | fail)
      go_meet
      exact ⟨by first | rfl | (rw [hra]; rfl) | simp [hra], QA, QB, L, B⟩
    | true =>
      rw [hra] at FA
      go_wp2_with (first | (go_at_call 19; (with_reducible refine FA.mono ?_); rintro e w6 ⟨rfl, hb⟩; have QAN := Aside0.mk (QA.out.below hb); have QBN := Aside0.mk (QB.out.below hb); have BN := Aside0.mk (below_step B.out hb); have LN := Aside0.mk (Kd.R_below L.out hb); clear QA QB B L; have QA := QAN; have QB := QBN; have B := BN; have L := LN; clear QAN QBN BN LN; clear hb) | (go_at_call 19; have F := juratref15_Rising.calls kb B0 d b (risB b) _ (Kd.C_below HS.out B.out) HD.out KB.out; (with_reducible refine F.mono ?_); clear F; rintro e w6 ⟨rfl, hb⟩; have QAN := Aside0.mk (QA.out.below hb); have QBN := Aside0.mk (QB.out.below hb); have BN := Aside0.mk (below_step B.out hb); have LN := Aside0.mk (Kd.R_below L.out hb); clear QA QB B L; have QA := QAN; have QB := QBN; have B := BN; have L := LN; clear QAN QBN BN LN; clear hb) | fail)
      go_meet
      exact ⟨by first | rfl | (rw [hra]; rfl) | simp [hra], QA, QB, L, B⟩
  case rest =>
    obtain ⟨rfl, QA7, QB7, L7, B7⟩ := hcut
    clear QA QB L B
    have MS0 : Aside0 (MSt w _ g1 c1 g2 c2 (fun k => w3.heap.size ≤ k) (.slice Al (mergeS a b).length cl) (mergeS a b)) := ⟨QA7.out, QB7.out, L7.out, B7.out⟩
    clear QA7 QB7 L7 B7
    go_upto_region 10 with fail
    go_loopw [10, 11] (fun v10 v11 wr => ∃ (i : Nat) (r : Bool), i ≤ a.length ∧ v11 = .int .i64 (i : Int) ∧ v10 = .bool r ∧ Aside0 (r = true → (risB a = true ∧ risB b = true) ∧ ∀ (x : S34), x ∈ a.take i → ∀ y ∈ b, x ≠ y) ∧ Aside0 (MSt w wr g1 c1 g2 c2 (fun k => w3.heap.size ≤ k) (.slice Al (mergeS a b).length cl) (mergeS a b))) (fun _ i _ => a.length - (intOf i).toNat)
    case atStart => exact ⟨0, _, Nat.zero_le _, rfl, rfl, ⟨fun h => ⟨by simpa using h, fun x hx => by simp at hx⟩⟩, MS0⟩
    case round =>
      clear MS0
      obtain ⟨i, r, hi, rfl, rfl, HT, MS⟩ := hrel
      have hi30 : i ≤ 30 := Nat.le_trans hi LA.out
      by_cases hlt : i < a.length
      · have TK := Aside0.mk (show a.take (i + 1) = a.take i ++ [a[i]] from List.take_succ_eq_append_getElem hlt)
        obtain ⟨ad, eA, hc0, hc1⟩ := at_T34 HR.out (i : Int) (by omega) (by omega)
        subst eA
        simp only [Int.toNat_natCast] at hc0 hc1
        have hrd : rd_T34 a (i : Int) = a[i] := rdT34_get a i hlt
        rw [hrd] at hc0 hc1
        clear hrd
        generalize a[i] = x at TK hc0 hc1
        have X0 := Aside0.mk hc0
        have X1 := Aside0.mk hc1
        clear hc0 hc1
        go_upto_region 13 with fail
        go_loopw [10, 12] (fun v10 v12 wr => ∃ (j : Nat) (r2 : Bool), j ≤ b.length ∧ v12 = .int .i64 (j : Int) ∧ v10 = .bool r2 ∧ Aside0 (r2 = true → ((risB a = true ∧ risB b = true) ∧ ∀ (x : S34), x ∈ a.take i → ∀ y ∈ b, x ≠ y) ∧ ∀ y ∈ b.take j, x ≠ y) ∧ Aside0 (MSt w wr g1 c1 g2 c2 (fun k => w3.heap.size ≤ k) (.slice Al (mergeS a b).length cl) (mergeS a b))) (fun _ i _ => b.length - (intOf i).toNat)
        case atStart => exact ⟨0, _, Nat.zero_le _, rfl, rfl, ⟨fun h => ⟨HT.out h, fun y hy => by simp at hy⟩⟩, MS⟩
        case round =>
          clear MS HT
          obtain ⟨j, r2, hj, rfl, rfl, HT, MS⟩ := hrel
          have hj30 : j ≤ 30 := Nat.le_trans hj LB.out
          by_cases hjt : j < b.length
          · have TJ := Aside0.mk (show b.take (j + 1) = b.take j ++ [b[j]] from List.take_succ_eq_append_getElem hjt)
            obtain ⟨ad2, eB, hc0, hc1⟩ := at_T34 HS.out (j : Int) (by omega) (by omega)
            subst eB
            simp only [Int.toNat_natCast] at hc0 hc1
            have hrd : rd_T34 b (j : Int) = b[j] := rdT34_get b j hjt
            rw [hrd] at hc0 hc1
            clear hrd
            generalize b[j] = y at TJ hc0 hc1
            have hy0 := pw_cell_below MS.out.2.2.2 hc0
            have hy1 := pw_cell_below MS.out.2.2.2 hc1
            have hx0 := pw_cell_below MS.out.2.2.2 X0.out
            have hx1 := pw_cell_below MS.out.2.2.2 X1.out
            clear hc0 hc1
            have hjn : wrap64 ((j : Int) + 1) = ((j + 1 : Nat) : Int) := by unfold wrap64; have := LB.out; omega
            have JN := Aside0.mk hjn
            clear hjn
            cases r2 with
            | false =>
              clear hx0 hx1 hy0 hy1
              go_upto_region 15 with fail
              refine start_ (n := 13) (S := fun _ => True) (ds := []) #[false, false, false, false, false, false, false, false, false, false, false, false, false] (by kernel_rfl) rfl rfl trivial (fun hHeld => ?_); refine with_tabW qmR15.tab qmR15.bits (fun HT_ HW_ => ?_)
              have MD := Aside0.mk (MS.out.below (below_drew1 (Below.refl wr.heap.size wr)))
              clear MS
              generalize wr.drew = wd at MD hHeld ⊢
              refine pure_ (i := 0) (N := some 73) (v := ?_) (a' := ?_) #[true, false, false, false, false, false, false, false, false, false, false, false, false] rfl rfl (any_of HT_.out (by kernel_rfl)) (fun _ _ _ h => h) (Or.inl ⟨by rfl, ?_⟩) ?_ ?_
              rotate_left
              · intro w'
                go_simp
                with_reducible rfl
              rotate_left
              · simp only [Act.put, List.setIfInBounds_toArray, List.set_cons_zero, List.set_cons_succ, i64_w, i32_w]
                rfl
              refine pure_ (i := 1) (N := some 74) (v := ?_) (a' := ?_) #[true, true, false, false, false, false, false, false, false, false, false, false, false] rfl rfl (any_of HT_.out (by kernel_rfl)) (fun _ _ _ h => h) (Or.inl ⟨by rfl, ?_⟩) ?_ ?_
              rotate_left
              · intro w'
                go_simp
                with_reducible rfl
              rotate_left
              · simp only [Act.put, List.setIfInBounds_toArray, List.set_cons_zero, List.set_cons_succ, i64_w, i32_w]
                rfl
              refine pure_ (i := 2) (N := some 75) (v := undef) (a' := ?_) #[true, true, true, false, false, false, false, false, false, false, false, false, false] rfl rfl (any_of HT_.out (by kernel_rfl)) (fun _ _ _ h => h) (Or.inr ⟨by rfl, rfl⟩) ?_ ?_
              rotate_left
              · simp only [Act.put, List.setIfInBounds_toArray, List.set_cons_zero, List.set_cons_succ, i64_w, i32_w]
                rfl
              refine pure_ (i := 3) (N := some 76) (v := undef) (a' := ?_) #[true, true, true, true, false, false, false, false, false, false, false, false, false] rfl rfl (any_of HT_.out (by kernel_rfl)) (fun _ _ _ h => h) (Or.inr ⟨by rfl, rfl⟩) ?_ ?_
              rotate_left
              · simp only [Act.put, List.setIfInBounds_toArray, List.set_cons_zero, List.set_cons_succ, i64_w, i32_w]
                rfl
              refine pure_ (i := 4) (N := some 77) (v := undef) (a' := ?_) #[true, true, true, true, true, false, false, false, false, false, false, false, false] rfl rfl (any_of HT_.out (by kernel_rfl)) (fun _ _ _ h => h) (Or.inr ⟨by rfl, rfl⟩) ?_ ?_
              rotate_left
              · simp only [Act.put, List.setIfInBounds_toArray, List.set_cons_zero, List.set_cons_succ, i64_w, i32_w]
                rfl
              refine pure_ (i := 5) (N := some 78) (v := undef) (a' := ?_) #[true, true, true, true, true, true, false, false, false, false, false, false, false] rfl rfl (any_of HT_.out (by kernel_rfl)) (fun _ _ _ h => h) (Or.inr ⟨by rfl, rfl⟩) ?_ ?_
              rotate_left
              · simp only [Act.put, List.setIfInBounds_toArray, List.set_cons_zero, List.set_cons_succ, i64_w, i32_w]
                rfl
              refine pure_ (i := 6) (N := some 79) (v := undef) (a' := ?_) #[true, true, true, true, true, true, true, false, false, false, false, false, false] rfl rfl (any_of HT_.out (by kernel_rfl)) (fun _ _ _ h => h) (Or.inr ⟨by rfl, rfl⟩) ?_ ?_
              rotate_left
              · simp only [Act.put, List.setIfInBounds_toArray, List.set_cons_zero, List.set_cons_succ, i64_w, i32_w]
                rfl
              refine pure_ (i := 7) (N := some 80) (v := undef) (a' := ?_) #[true, true, true, true, true, true, true, true, false, false, false, false, false] rfl rfl (any_of HT_.out (by kernel_rfl)) (fun _ _ _ h => h) (Or.inr ⟨by rfl, rfl⟩) ?_ ?_
              rotate_left
              · simp only [Act.put, List.setIfInBounds_toArray, List.set_cons_zero, List.set_cons_succ, i64_w, i32_w]
                rfl
              refine pure_ (i := 8) (N := some 81) (v := undef) (a' := ?_) #[true, true, true, true, true, true, true, true, true, false, false, false, false] rfl rfl (any_of HT_.out (by kernel_rfl)) (fun _ _ _ h => h) (Or.inr ⟨by rfl, rfl⟩) ?_ ?_
              rotate_left
              · simp only [Act.put, List.setIfInBounds_toArray, List.set_cons_zero, List.set_cons_succ, i64_w, i32_w]
                rfl
              refine pure_ (i := 9) (N := some 82) (v := undef) (a' := ?_) #[true, true, true, true, true, true, true, true, true, true, false, false, false] rfl rfl (any_of HT_.out (by kernel_rfl)) (fun _ _ _ h => h) (Or.inr ⟨by rfl, rfl⟩) ?_ ?_
              rotate_left
              · simp only [Act.put, List.setIfInBounds_toArray, List.set_cons_zero, List.set_cons_succ, i64_w, i32_w]
                rfl
              refine pure_ (i := 10) (N := some 83) (v := undef) (a' := ?_) #[true, true, true, true, true, true, true, true, true, true, true, false, false] rfl rfl (any_of HT_.out (by kernel_rfl)) (fun _ _ _ h => h) (Or.inr ⟨by rfl, rfl⟩) ?_ ?_
              rotate_left
              · simp only [Act.put, List.setIfInBounds_toArray, List.set_cons_zero, List.set_cons_succ, i64_w, i32_w]
                rfl
              refine pure_ (i := 11) (N := some 84) (v := ?_) (a' := ?_) #[true, true, true, true, true, true, true, true, true, true, true, true, false] rfl rfl (any_of HT_.out (by kernel_rfl)) (fun _ _ _ h => h) (Or.inl ⟨by rfl, ?_⟩) ?_ ?_
              rotate_left
              · intro w'
                go_simp
                with_reducible rfl
              rotate_left
              · simp only [Act.put, List.setIfInBounds_toArray, List.set_cons_zero, List.set_cons_succ, i64_w, i32_w]
                rfl
              refine pure_ (i := 12) (N := some 10) (v := ?_) (a' := ?_) #[true, true, true, true, true, true, true, true, true, true, true, true, true] rfl rfl (any_of HT_.out (by kernel_rfl)) (fun _ _ _ h => h) (Or.inl ⟨by rfl, ?_⟩) ?_ ?_
              rotate_left
              · intro w'
                go_simp
                with_reducible rfl
              rotate_left
              · simp only [Act.put, List.setIfInBounds_toArray, List.set_cons_zero, List.set_cons_succ, i64_w, i32_w]
                rfl
              refine done_ (done_of HT_.out (by kernel_rfl)) ?_
              go_wp2_with fail
              exact ⟨⟨j + 1, false, by omega, by first | go_num | rw [JN.out], rfl, ⟨fun h => by cases h⟩, MD⟩, by simp [intOf]; omega⟩
            | true =>
              by_cases hxy : x = y
              · subst hxy
                go_upto_region 15 with fail
                refine start_ (n := 13) (S := (fun w' => w'.cell? (ad.add (i * 2)) = some (.int .i64 x.f0) ∧ w'.cell? ⟨(ad.add (i * 2)).block, (ad.add (i * 2)).off + 1, none⟩ = some (.int .i64 x.f1) ∧ w'.cell? (ad2.add (j * 2)) = some (.int .i64 x.f0) ∧ w'.cell? ⟨(ad2.add (j * 2)).block, (ad2.add (j * 2)).off + 1, none⟩ = some (.int .i64 x.f1))) (ds := []) #[false, false, false, false, false, false, false, false, false, false, false, false, false] (by kernel_rfl) rfl rfl ⟨hx0, hx1, hy0, hy1⟩ (fun hHeld => ?_); refine with_tabW qmR15.tab qmR15.bits (fun HT_ HW_ => ?_)
                clear hx0 hx1 hy0 hy1
                have MD := Aside0.mk (MS.out.below (below_drew1 (Below.refl wr.heap.size wr)))
                clear MS
                generalize wr.drew = wd at MD hHeld ⊢
                refine pure_ (i := 0) (N := some 73) (v := ?_) (a' := ?_) #[true, false, false, false, false, false, false, false, false, false, false, false, false] rfl rfl (any_of HT_.out (by kernel_rfl)) (fun _ _ _ h => h) (Or.inl ⟨by rfl, ?_⟩) ?_ ?_
                rotate_left
                · intro w'
                  go_simp
                  with_reducible rfl
                rotate_left
                · simp only [Act.put, List.setIfInBounds_toArray, List.set_cons_zero, List.set_cons_succ, i64_w, i32_w]
                  rfl
                refine pure_ (i := 1) (N := some 74) (v := ?_) (a' := ?_) #[true, true, false, false, false, false, false, false, false, false, false, false, false] rfl rfl (any_of HT_.out (by kernel_rfl)) (fun _ _ _ h => h) (Or.inl ⟨by rfl, ?_⟩) ?_ ?_
                rotate_left
                · intro w'
                  go_simp
                  with_reducible rfl
                rotate_left
                · simp only [Act.put, List.setIfInBounds_toArray, List.set_cons_zero, List.set_cons_succ, i64_w, i32_w]
                  rfl
                refine pure_ (i := 2) (N := some 75) (v := ?_) (a' := ?_) #[true, true, true, false, false, false, false, false, false, false, false, false, false] rfl rfl (any_of HT_.out (by kernel_rfl)) (fun _ _ _ h => h) (Or.inl ⟨by rfl, ?_⟩) ?_ ?_
                rotate_left
                · intro w'
                  go_simp
                  with_reducible rfl
                rotate_left
                · simp only [Act.put, List.setIfInBounds_toArray, List.set_cons_zero, List.set_cons_succ, i64_w, i32_w]
                  rfl
                refine pure_ (i := 3) (N := some 76) (v := ?_) (a' := ?_) #[true, true, true, true, false, false, false, false, false, false, false, false, false] rfl rfl (any_of HT_.out (by kernel_rfl)) (fun _ _ _ h => h) (Or.inl ⟨by rfl, ?_⟩) ?_ ?_
                rotate_left
                · intro w'
                  go_simp
                  with_reducible rfl
                rotate_left
                · simp only [Act.put, List.setIfInBounds_toArray, List.set_cons_zero, List.set_cons_succ, i64_w, i32_w]
                  rfl
                refine pure_ (i := 4) (N := some 77) (v := ?_) (a' := ?_) #[true, true, true, true, true, false, false, false, false, false, false, false, false] rfl rfl (any_of HT_.out (by kernel_rfl)) (fun _ _ _ h => h) (Or.inl ⟨by rfl, ?_⟩) ?_ ?_
                rotate_left
                · intro w'
                  go_simp
                  with_reducible rfl
                rotate_left
                · simp only [Act.put, List.setIfInBounds_toArray, List.set_cons_zero, List.set_cons_succ, i64_w, i32_w]
                  rfl
                refine take_ (i := 5) (N := some 78) (v := ?_) (a' := ?_) #[true, true, true, true, true, true, false, false, false, false, false, false, false] rfl rfl (take_ofW HT_.out HW_.out (by kernel_rfl)) (fun _ _ _ h => h) (Or.inl ⟨by rfl, ?_⟩) hHeld ?_ ?_
                rotate_left
                · rintro w' ⟨s0, s1, s2, s3⟩
                  go_simp
                  with_reducible rfl
                rotate_left
                · simp only [Act.put, List.setIfInBounds_toArray, List.set_cons_zero, List.set_cons_succ, i64_w, i32_w]
                  rfl
                refine pure_ (i := 6) (N := some 79) (v := ?_) (a' := ?_) #[true, true, true, true, true, true, true, false, false, false, false, false, false] rfl rfl (any_of HT_.out (by kernel_rfl)) (fun _ _ _ h => h) (Or.inl ⟨by rfl, ?_⟩) ?_ ?_
                rotate_left
                · intro w'
                  go_simp
                  with_reducible rfl
                rotate_left
                · simp only [Act.put, List.setIfInBounds_toArray, List.set_cons_zero, List.set_cons_succ, i64_w, i32_w]
                  rfl
                refine pure_ (i := 7) (N := some 80) (v := ?_) (a' := ?_) #[true, true, true, true, true, true, true, true, false, false, false, false, false] rfl rfl (any_of HT_.out (by kernel_rfl)) (fun _ _ _ h => h) (Or.inl ⟨by rfl, ?_⟩) ?_ ?_
                rotate_left
                · intro w'
                  go_simp
                  with_reducible rfl
                rotate_left
                · simp only [Act.put, List.setIfInBounds_toArray, List.set_cons_zero, List.set_cons_succ, i64_w, i32_w]
                  rfl
                refine pure_ (i := 8) (N := some 81) (v := ?_) (a' := ?_) #[true, true, true, true, true, true, true, true, true, false, false, false, false] rfl rfl (any_of HT_.out (by kernel_rfl)) (fun _ _ _ h => h) (Or.inl ⟨by rfl, ?_⟩) ?_ ?_
                rotate_left
                · intro w'
                  go_simp
                  with_reducible rfl
                rotate_left
                · simp only [Act.put, List.setIfInBounds_toArray, List.set_cons_zero, List.set_cons_succ, i64_w, i32_w]
                  rfl
                refine take_ (i := 9) (N := some 82) (v := ?_) (a' := ?_) #[true, true, true, true, true, true, true, true, true, true, false, false, false] rfl rfl (take_ofW HT_.out HW_.out (by kernel_rfl)) (fun _ _ _ h => h) (Or.inl ⟨by rfl, ?_⟩) hHeld ?_ ?_
                rotate_left
                · rintro w' ⟨s0, s1, s2, s3⟩
                  go_simp
                  with_reducible rfl
                rotate_left
                · simp only [Act.put, List.setIfInBounds_toArray, List.set_cons_zero, List.set_cons_succ, i64_w, i32_w]
                  rfl
                refine pure_ (i := 10) (N := some 83) (v := ?_) (a' := ?_) #[true, true, true, true, true, true, true, true, true, true, true, false, false] rfl rfl (any_of HT_.out (by kernel_rfl)) (fun _ _ _ h => h) (Or.inl ⟨by rfl, ?_⟩) ?_ ?_
                rotate_left
                · intro w'
                  go_simp
                  with_reducible rfl
                rotate_left
                · simp only [Act.put, List.setIfInBounds_toArray, List.set_cons_zero, List.set_cons_succ, i64_w, i32_w]
                  rfl
                refine pure_ (i := 11) (N := some 84) (v := ?_) (a' := ?_) #[true, true, true, true, true, true, true, true, true, true, true, true, false] rfl rfl (any_of HT_.out (by kernel_rfl)) (fun _ _ _ h => h) (Or.inl ⟨by rfl, ?_⟩) ?_ ?_
                rotate_left
                · intro w'
                  go_simp
                  with_reducible rfl
                rotate_left
                · simp only [Act.put, List.setIfInBounds_toArray, List.set_cons_zero, List.set_cons_succ, i64_w, i32_w]
                  rfl
                refine pure_ (i := 12) (N := some 10) (v := ?_) (a' := ?_) #[true, true, true, true, true, true, true, true, true, true, true, true, true] rfl rfl (any_of HT_.out (by kernel_rfl)) (fun _ _ _ h => h) (Or.inl ⟨by rfl, ?_⟩) ?_ ?_
                rotate_left
                · intro w'
                  go_simp
                  with_reducible rfl
                rotate_left
                · simp only [Act.put, List.setIfInBounds_toArray, List.set_cons_zero, List.set_cons_succ, i64_w, i32_w]
                  rfl
                refine done_ (done_of HT_.out (by kernel_rfl)) ?_
                go_wp2_with fail
                exact ⟨⟨j + 1, false, by omega, by first | go_num | rw [JN.out], rfl, ⟨fun h => by cases h⟩, MD⟩, by simp [intOf]; omega⟩
              · have NXY := Aside0.mk hxy
                by_cases e0 : x.f0 = y.f0
                · have e1 : ¬ x.f1 = y.f1 := fun h => hxy (by cases x; cases y; simp_all)
                  clear hxy
                  go_upto_region 15 with fail
                  refine start_ (n := 13) (S := (fun w' => w'.cell? (ad.add (i * 2)) = some (.int .i64 x.f0) ∧ w'.cell? ⟨(ad.add (i * 2)).block, (ad.add (i * 2)).off + 1, none⟩ = some (.int .i64 x.f1) ∧ w'.cell? (ad2.add (j * 2)) = some (.int .i64 y.f0) ∧ w'.cell? ⟨(ad2.add (j * 2)).block, (ad2.add (j * 2)).off + 1, none⟩ = some (.int .i64 y.f1))) (ds := []) #[false, false, false, false, false, false, false, false, false, false, false, false, false] (by kernel_rfl) rfl rfl ⟨hx0, hx1, hy0, hy1⟩ (fun hHeld => ?_); refine with_tabW qmR15.tab qmR15.bits (fun HT_ HW_ => ?_)
                  clear hx0 hx1 hy0 hy1
                  have MD := Aside0.mk (MS.out.below (below_drew1 (Below.refl wr.heap.size wr)))
                  clear MS
                  generalize wr.drew = wd at MD hHeld ⊢
                  refine pure_ (i := 0) (N := some 73) (v := ?_) (a' := ?_) #[true, false, false, false, false, false, false, false, false, false, false, false, false] rfl rfl (any_of HT_.out (by kernel_rfl)) (fun _ _ _ h => h) (Or.inl ⟨by rfl, ?_⟩) ?_ ?_
                  rotate_left
                  · intro w'
                    go_simp
                    with_reducible rfl
                  rotate_left
                  · simp only [Act.put, List.setIfInBounds_toArray, List.set_cons_zero, List.set_cons_succ, i64_w, i32_w]
                    rfl
                  refine pure_ (i := 1) (N := some 74) (v := ?_) (a' := ?_) #[true, true, false, false, false, false, false, false, false, false, false, false, false] rfl rfl (any_of HT_.out (by kernel_rfl)) (fun _ _ _ h => h) (Or.inl ⟨by rfl, ?_⟩) ?_ ?_
                  rotate_left
                  · intro w'
                    go_simp
                    with_reducible rfl
                  rotate_left
                  · simp only [Act.put, List.setIfInBounds_toArray, List.set_cons_zero, List.set_cons_succ, i64_w, i32_w]
                    rfl
                  refine pure_ (i := 2) (N := some 75) (v := ?_) (a' := ?_) #[true, true, true, false, false, false, false, false, false, false, false, false, false] rfl rfl (any_of HT_.out (by kernel_rfl)) (fun _ _ _ h => h) (Or.inl ⟨by rfl, ?_⟩) ?_ ?_
                  rotate_left
                  · intro w'
                    go_simp
                    with_reducible rfl
                  rotate_left
                  · simp only [Act.put, List.setIfInBounds_toArray, List.set_cons_zero, List.set_cons_succ, i64_w, i32_w]
                    rfl
                  refine pure_ (i := 3) (N := some 76) (v := ?_) (a' := ?_) #[true, true, true, true, false, false, false, false, false, false, false, false, false] rfl rfl (any_of HT_.out (by kernel_rfl)) (fun _ _ _ h => h) (Or.inl ⟨by rfl, ?_⟩) ?_ ?_
                  rotate_left
                  · intro w'
                    go_simp
                    with_reducible rfl
                  rotate_left
                  · simp only [Act.put, List.setIfInBounds_toArray, List.set_cons_zero, List.set_cons_succ, i64_w, i32_w]
                    rfl
                  refine pure_ (i := 4) (N := some 77) (v := ?_) (a' := ?_) #[true, true, true, true, true, false, false, false, false, false, false, false, false] rfl rfl (any_of HT_.out (by kernel_rfl)) (fun _ _ _ h => h) (Or.inl ⟨by rfl, ?_⟩) ?_ ?_
                  rotate_left
                  · intro w'
                    go_simp
                    with_reducible rfl
                  rotate_left
                  · simp only [Act.put, List.setIfInBounds_toArray, List.set_cons_zero, List.set_cons_succ, i64_w, i32_w]
                    rfl
                  refine take_ (i := 5) (N := some 78) (v := ?_) (a' := ?_) #[true, true, true, true, true, true, false, false, false, false, false, false, false] rfl rfl (take_ofW HT_.out HW_.out (by kernel_rfl)) (fun _ _ _ h => h) (Or.inl ⟨by rfl, ?_⟩) hHeld ?_ ?_
                  rotate_left
                  · rintro w' ⟨s0, s1, s2, s3⟩
                    go_simp
                    with_reducible rfl
                  rotate_left
                  · simp only [Act.put, List.setIfInBounds_toArray, List.set_cons_zero, List.set_cons_succ, i64_w, i32_w]
                    rfl
                  refine pure_ (i := 6) (N := some 79) (v := ?_) (a' := ?_) #[true, true, true, true, true, true, true, false, false, false, false, false, false] rfl rfl (any_of HT_.out (by kernel_rfl)) (fun _ _ _ h => h) (Or.inl ⟨by rfl, ?_⟩) ?_ ?_
                  rotate_left
                  · intro w'
                    go_simp
                    with_reducible rfl
                  rotate_left
                  · simp only [Act.put, List.setIfInBounds_toArray, List.set_cons_zero, List.set_cons_succ, i64_w, i32_w]
                    rfl
                  refine pure_ (i := 7) (N := some 80) (v := ?_) (a' := ?_) #[true, true, true, true, true, true, true, true, false, false, false, false, false] rfl rfl (any_of HT_.out (by kernel_rfl)) (fun _ _ _ h => h) (Or.inl ⟨by rfl, ?_⟩) ?_ ?_
                  rotate_left
                  · intro w'
                    go_simp
                    with_reducible rfl
                  rotate_left
                  · simp only [Act.put, List.setIfInBounds_toArray, List.set_cons_zero, List.set_cons_succ, i64_w, i32_w]
                    rfl
                  refine pure_ (i := 8) (N := some 81) (v := ?_) (a' := ?_) #[true, true, true, true, true, true, true, true, true, false, false, false, false] rfl rfl (any_of HT_.out (by kernel_rfl)) (fun _ _ _ h => h) (Or.inl ⟨by rfl, ?_⟩) ?_ ?_
                  rotate_left
                  · intro w'
                    go_simp
                    with_reducible rfl
                  rotate_left
                  · simp only [Act.put, List.setIfInBounds_toArray, List.set_cons_zero, List.set_cons_succ, i64_w, i32_w]
                    rfl
                  refine take_ (i := 9) (N := some 82) (v := ?_) (a' := ?_) #[true, true, true, true, true, true, true, true, true, true, false, false, false] rfl rfl (take_ofW HT_.out HW_.out (by kernel_rfl)) (fun _ _ _ h => h) (Or.inl ⟨by rfl, ?_⟩) hHeld ?_ ?_
                  rotate_left
                  · rintro w' ⟨s0, s1, s2, s3⟩
                    go_simp
                    with_reducible rfl
                  rotate_left
                  · simp only [Act.put, List.setIfInBounds_toArray, List.set_cons_zero, List.set_cons_succ, i64_w, i32_w]
                    rfl
                  refine pure_ (i := 10) (N := some 83) (v := ?_) (a' := ?_) #[true, true, true, true, true, true, true, true, true, true, true, false, false] rfl rfl (any_of HT_.out (by kernel_rfl)) (fun _ _ _ h => h) (Or.inl ⟨by rfl, ?_⟩) ?_ ?_
                  rotate_left
                  · intro w'
                    go_simp
                    with_reducible rfl
                  rotate_left
                  · simp only [Act.put, List.setIfInBounds_toArray, List.set_cons_zero, List.set_cons_succ, i64_w, i32_w]
                    rfl
                  refine pure_ (i := 11) (N := some 84) (v := ?_) (a' := ?_) #[true, true, true, true, true, true, true, true, true, true, true, true, false] rfl rfl (any_of HT_.out (by kernel_rfl)) (fun _ _ _ h => h) (Or.inl ⟨by rfl, ?_⟩) ?_ ?_
                  rotate_left
                  · intro w'
                    go_simp
                    with_reducible rfl
                  rotate_left
                  · simp only [Act.put, List.setIfInBounds_toArray, List.set_cons_zero, List.set_cons_succ, i64_w, i32_w]
                    rfl
                  refine pure_ (i := 12) (N := some 10) (v := ?_) (a' := ?_) #[true, true, true, true, true, true, true, true, true, true, true, true, true] rfl rfl (any_of HT_.out (by kernel_rfl)) (fun _ _ _ h => h) (Or.inl ⟨by rfl, ?_⟩) ?_ ?_
                  rotate_left
                  · intro w'
                    go_simp
                    with_reducible rfl
                  rotate_left
                  · simp only [Act.put, List.setIfInBounds_toArray, List.set_cons_zero, List.set_cons_succ, i64_w, i32_w]
                    rfl
                  refine done_ (done_of HT_.out (by kernel_rfl)) ?_
                  go_wp2_with fail
                  exact ⟨⟨j + 1, true, by omega, by first | go_num | rw [JN.out], rfl, ⟨fun _ => ⟨(HT.out rfl).1, fun z hz => by
                  rw [TJ.out] at hz
                  rcases List.mem_append.1 hz with hz | hz
                  · exact (HT.out rfl).2 z hz
                  · rw [List.mem_singleton] at hz
                    rw [hz]
                    exact NXY.out⟩⟩, MD⟩, by simp [intOf]; omega⟩
                · clear hxy
                  go_upto_region 15 with fail
                  refine start_ (n := 13) (S := (fun w' => w'.cell? (ad.add (i * 2)) = some (.int .i64 x.f0) ∧ w'.cell? ⟨(ad.add (i * 2)).block, (ad.add (i * 2)).off + 1, none⟩ = some (.int .i64 x.f1) ∧ w'.cell? (ad2.add (j * 2)) = some (.int .i64 y.f0) ∧ w'.cell? ⟨(ad2.add (j * 2)).block, (ad2.add (j * 2)).off + 1, none⟩ = some (.int .i64 y.f1))) (ds := []) #[false, false, false, false, false, false, false, false, false, false, false, false, false] (by kernel_rfl) rfl rfl ⟨hx0, hx1, hy0, hy1⟩ (fun hHeld => ?_); refine with_tabW qmR15.tab qmR15.bits (fun HT_ HW_ => ?_)
                  clear hx0 hx1 hy0 hy1
                  have MD := Aside0.mk (MS.out.below (below_drew1 (Below.refl wr.heap.size wr)))
                  clear MS
                  generalize wr.drew = wd at MD hHeld ⊢
                  refine pure_ (i := 0) (N := some 73) (v := ?_) (a' := ?_) #[true, false, false, false, false, false, false, false, false, false, false, false, false] rfl rfl (any_of HT_.out (by kernel_rfl)) (fun _ _ _ h => h) (Or.inl ⟨by rfl, ?_⟩) ?_ ?_
                  rotate_left
                  · intro w'
                    go_simp
                    with_reducible rfl
                  rotate_left
                  · simp only [Act.put, List.setIfInBounds_toArray, List.set_cons_zero, List.set_cons_succ, i64_w, i32_w]
                    rfl
                  refine pure_ (i := 1) (N := some 74) (v := ?_) (a' := ?_) #[true, true, false, false, false, false, false, false, false, false, false, false, false] rfl rfl (any_of HT_.out (by kernel_rfl)) (fun _ _ _ h => h) (Or.inl ⟨by rfl, ?_⟩) ?_ ?_
                  rotate_left
                  · intro w'
                    go_simp
                    with_reducible rfl
                  rotate_left
                  · simp only [Act.put, List.setIfInBounds_toArray, List.set_cons_zero, List.set_cons_succ, i64_w, i32_w]
                    rfl
                  refine pure_ (i := 2) (N := some 75) (v := ?_) (a' := ?_) #[true, true, true, false, false, false, false, false, false, false, false, false, false] rfl rfl (any_of HT_.out (by kernel_rfl)) (fun _ _ _ h => h) (Or.inl ⟨by rfl, ?_⟩) ?_ ?_
                  rotate_left
                  · intro w'
                    go_simp
                    with_reducible rfl
                  rotate_left
                  · simp only [Act.put, List.setIfInBounds_toArray, List.set_cons_zero, List.set_cons_succ, i64_w, i32_w]
                    rfl
                  refine pure_ (i := 3) (N := some 76) (v := ?_) (a' := ?_) #[true, true, true, true, false, false, false, false, false, false, false, false, false] rfl rfl (any_of HT_.out (by kernel_rfl)) (fun _ _ _ h => h) (Or.inl ⟨by rfl, ?_⟩) ?_ ?_
                  rotate_left
                  · intro w'
                    go_simp
                    with_reducible rfl
                  rotate_left
                  · simp only [Act.put, List.setIfInBounds_toArray, List.set_cons_zero, List.set_cons_succ, i64_w, i32_w]
                    rfl
                  refine pure_ (i := 4) (N := some 77) (v := ?_) (a' := ?_) #[true, true, true, true, true, false, false, false, false, false, false, false, false] rfl rfl (any_of HT_.out (by kernel_rfl)) (fun _ _ _ h => h) (Or.inl ⟨by rfl, ?_⟩) ?_ ?_
                  rotate_left
                  · intro w'
                    go_simp
                    with_reducible rfl
                  rotate_left
                  · simp only [Act.put, List.setIfInBounds_toArray, List.set_cons_zero, List.set_cons_succ, i64_w, i32_w]
                    rfl
                  refine take_ (i := 5) (N := some 78) (v := ?_) (a' := ?_) #[true, true, true, true, true, true, false, false, false, false, false, false, false] rfl rfl (take_ofW HT_.out HW_.out (by kernel_rfl)) (fun _ _ _ h => h) (Or.inl ⟨by rfl, ?_⟩) hHeld ?_ ?_
                  rotate_left
                  · rintro w' ⟨s0, s1, s2, s3⟩
                    go_simp
                    with_reducible rfl
                  rotate_left
                  · simp only [Act.put, List.setIfInBounds_toArray, List.set_cons_zero, List.set_cons_succ, i64_w, i32_w]
                    rfl
                  refine pure_ (i := 6) (N := some 79) (v := ?_) (a' := ?_) #[true, true, true, true, true, true, true, false, false, false, false, false, false] rfl rfl (any_of HT_.out (by kernel_rfl)) (fun _ _ _ h => h) (Or.inl ⟨by rfl, ?_⟩) ?_ ?_
                  rotate_left
                  · intro w'
                    go_simp
                    with_reducible rfl
                  rotate_left
                  · simp only [Act.put, List.setIfInBounds_toArray, List.set_cons_zero, List.set_cons_succ, i64_w, i32_w]
                    rfl
                  refine pure_ (i := 7) (N := some 80) (v := ?_) (a' := ?_) #[true, true, true, true, true, true, true, true, false, false, false, false, false] rfl rfl (any_of HT_.out (by kernel_rfl)) (fun _ _ _ h => h) (Or.inl ⟨by rfl, ?_⟩) ?_ ?_
                  rotate_left
                  · intro w'
                    go_simp
                    with_reducible rfl
                  rotate_left
                  · simp only [Act.put, List.setIfInBounds_toArray, List.set_cons_zero, List.set_cons_succ, i64_w, i32_w]
                    rfl
                  refine pure_ (i := 8) (N := some 81) (v := ?_) (a' := ?_) #[true, true, true, true, true, true, true, true, true, false, false, false, false] rfl rfl (any_of HT_.out (by kernel_rfl)) (fun _ _ _ h => h) (Or.inl ⟨by rfl, ?_⟩) ?_ ?_
                  rotate_left
                  · intro w'
                    go_simp
                    with_reducible rfl
                  rotate_left
                  · simp only [Act.put, List.setIfInBounds_toArray, List.set_cons_zero, List.set_cons_succ, i64_w, i32_w]
                    rfl
                  refine take_ (i := 9) (N := some 82) (v := ?_) (a' := ?_) #[true, true, true, true, true, true, true, true, true, true, false, false, false] rfl rfl (take_ofW HT_.out HW_.out (by kernel_rfl)) (fun _ _ _ h => h) (Or.inl ⟨by rfl, ?_⟩) hHeld ?_ ?_
                  rotate_left
                  · rintro w' ⟨s0, s1, s2, s3⟩
                    go_simp
                    with_reducible rfl
                  rotate_left
                  · simp only [Act.put, List.setIfInBounds_toArray, List.set_cons_zero, List.set_cons_succ, i64_w, i32_w]
                    rfl
                  refine pure_ (i := 10) (N := some 83) (v := ?_) (a' := ?_) #[true, true, true, true, true, true, true, true, true, true, true, false, false] rfl rfl (any_of HT_.out (by kernel_rfl)) (fun _ _ _ h => h) (Or.inl ⟨by rfl, ?_⟩) ?_ ?_
                  rotate_left
                  · intro w'
                    go_simp
                    with_reducible rfl
                  rotate_left
                  · simp only [Act.put, List.setIfInBounds_toArray, List.set_cons_zero, List.set_cons_succ, i64_w, i32_w]
                    rfl
                  refine pure_ (i := 11) (N := some 84) (v := ?_) (a' := ?_) #[true, true, true, true, true, true, true, true, true, true, true, true, false] rfl rfl (any_of HT_.out (by kernel_rfl)) (fun _ _ _ h => h) (Or.inl ⟨by rfl, ?_⟩) ?_ ?_
                  rotate_left
                  · intro w'
                    go_simp
                    with_reducible rfl
                  rotate_left
                  · simp only [Act.put, List.setIfInBounds_toArray, List.set_cons_zero, List.set_cons_succ, i64_w, i32_w]
                    rfl
                  refine pure_ (i := 12) (N := some 10) (v := ?_) (a' := ?_) #[true, true, true, true, true, true, true, true, true, true, true, true, true] rfl rfl (any_of HT_.out (by kernel_rfl)) (fun _ _ _ h => h) (Or.inl ⟨by rfl, ?_⟩) ?_ ?_
                  rotate_left
                  · intro w'
                    go_simp
                    with_reducible rfl
                  rotate_left
                  · simp only [Act.put, List.setIfInBounds_toArray, List.set_cons_zero, List.set_cons_succ, i64_w, i32_w]
                    rfl
                  refine done_ (done_of HT_.out (by kernel_rfl)) ?_
                  go_wp2_with fail
                  exact ⟨⟨j + 1, true, by omega, by first | go_num | rw [JN.out], rfl, ⟨fun _ => ⟨(HT.out rfl).1, fun z hz => by
                  rw [TJ.out] at hz
                  rcases List.mem_append.1 hz with hz | hz
                  · exact (HT.out rfl).2 z hz
                  · rw [List.mem_singleton] at hz
                    rw [hz]
                    exact NXY.out⟩⟩, MD⟩, by simp [intOf]; omega⟩
          · have hjj : j = b.length := by omega
            subst hjj
            go_wp2_with fail
            exact ⟨⟨i + 1, r2, by omega, by go_num, rfl, ⟨fun h => ⟨(HT.out h).1.1, fun z hz => by
              rw [TK.out] at hz
              rcases List.mem_append.1 hz with hz | hz
              · exact (HT.out h).1.2 z hz
              · rw [List.mem_singleton] at hz
                subst hz
                have h2 := (HT.out h).2
                rw [TB.out] at h2
                exact h2⟩⟩, MS⟩, by simp [intOf]; omega⟩
      · have hii : i = a.length := by omega
        subst hii
        cases r with
        | false =>
          go_wp2_with (first
            | (go_at_call 21; have F := juratref33_Merge.calls km A c a B0 d b (mergeS a b) _ (Kd.C_below HR.out MS.out.2.2.2) HC.out (Kd.C_below HS.out MS.out.2.2.2) HD.out KM.out; (with_reducible refine F.mono ?_); clear F; rintro e w6 ⟨v6, rfl, hR, hb⟩; obtain ⟨A6, c6, rfl⟩ := Kd.R_slice hR; have R6 := Aside0.mk hR; have MSN := Aside0.mk (MS.out.below hb); clear MS; have MS := MSN; clear MSN; clear hR hb)
            | (go_at_call 20; have F := juratref15_Same.calls ks Al cl (mergeS a b) A6 c6 (mergeS a b) true _ (Kd.R_reads' MS.out.2.2.1).2.2 (Kd.R_reads' MS.out.2.2.1).2.1 (Kd.R_reads' R6.out).2.2 (Kd.R_reads' R6.out).2.1 KS.out; (with_reducible refine F.mono ?_); clear F; rintro e w7 ⟨rfl, hd⟩; have hb := hd.below; have MSN := Aside0.mk (MS.out.below hb); clear MS; have MS := MSN; clear MSN; clear hd hb)
            | (go_at_call 9; have F := queue_Len.calls_ w.heap.size g1 c1 30 [] false _ MS.out.1; (with_reducible refine F.mono ?_); clear F; rintro e w8 ⟨rfl, rfl⟩)
            | (go_at_call 9; have F := queue_Len.calls_ w.heap.size g2 c2 30 [] false _ MS.out.2.1; (with_reducible refine F.mono ?_); clear F; rintro e w8 ⟨rfl, rfl⟩)
            | (go_at_call 19; have F := juratref15_Rising.calls kl Al cl (mergeS a b) true _ (Kd.R_reads' MS.out.2.2.1).2.2 (Kd.R_reads' MS.out.2.2.1).2.1 KL2.out; (with_reducible refine F.mono ?_); clear F; rintro e w9 ⟨rfl, hb⟩; have MSN := Aside0.mk (MS.out.below hb); clear MS; have MS := MSN; clear MSN; clear hb)
            | (go_at_call 6; (refine (juratlaw33_awake.calls_ _).mono ?_); rintro e w9 ⟨rfl, hb⟩; have MSN := Aside0.mk (MS.out.below hb); clear MS; have MS := MSN; clear MSN; clear hb)
            | fail)
          go_ret
          exact ⟨rfl, MS.out.2.2.2⟩
        | true =>
          have h5 := HT.out rfl
          rw [TA.out] at h5
          have KL2 : Aside0 (juratref15_Rising.f kl (mergeS a b) = some true) := ⟨by rw [KL.out, merge_rises h5.1.1 h5.1.2 h5.2]⟩
          clear h5
          go_wp2_with (first
            | (go_at_call 21; have F := juratref33_Merge.calls km A c a B0 d b (mergeS a b) _ (Kd.C_below HR.out MS.out.2.2.2) HC.out (Kd.C_below HS.out MS.out.2.2.2) HD.out KM.out; (with_reducible refine F.mono ?_); clear F; rintro e w6 ⟨v6, rfl, hR, hb⟩; obtain ⟨A6, c6, rfl⟩ := Kd.R_slice hR; have R6 := Aside0.mk hR; have MSN := Aside0.mk (MS.out.below hb); clear MS; have MS := MSN; clear MSN; clear hR hb)
            | (go_at_call 20; have F := juratref15_Same.calls ks Al cl (mergeS a b) A6 c6 (mergeS a b) true _ (Kd.R_reads' MS.out.2.2.1).2.2 (Kd.R_reads' MS.out.2.2.1).2.1 (Kd.R_reads' R6.out).2.2 (Kd.R_reads' R6.out).2.1 KS.out; (with_reducible refine F.mono ?_); clear F; rintro e w7 ⟨rfl, hd⟩; have hb := hd.below; have MSN := Aside0.mk (MS.out.below hb); clear MS; have MS := MSN; clear MSN; clear hd hb)
            | (go_at_call 9; have F := queue_Len.calls_ w.heap.size g1 c1 30 [] false _ MS.out.1; (with_reducible refine F.mono ?_); clear F; rintro e w8 ⟨rfl, rfl⟩)
            | (go_at_call 9; have F := queue_Len.calls_ w.heap.size g2 c2 30 [] false _ MS.out.2.1; (with_reducible refine F.mono ?_); clear F; rintro e w8 ⟨rfl, rfl⟩)
            | (go_at_call 19; have F := juratref15_Rising.calls kl Al cl (mergeS a b) true _ (Kd.R_reads' MS.out.2.2.1).2.2 (Kd.R_reads' MS.out.2.2.1).2.1 KL2.out; (with_reducible refine F.mono ?_); clear F; rintro e w9 ⟨rfl, hb⟩; have MSN := Aside0.mk (MS.out.below hb); clear MS; have MS := MSN; clear MSN; clear hb)
            | (go_at_call 6; (refine (juratlaw33_awake.calls_ _).mono ?_); rintro e w9 ⟨rfl, hb⟩; have MSN := Aside0.mk (MS.out.below hb); clear MS; have MS := MSN; clear MSN; clear hb)
            | fail)
          go_ret
          exact ⟨rfl, MS.out.2.2.2⟩
/-- QueueMerges returns true. -/
theorem juratlaw33_QueueMerges.holds (a b : List S34) (A : Option Addr) (c : Nat) (B0 : Option Addr) (d : Nat) (w : World) (hr : Kd.C k34 w A a.length a) (hc : a.length ≤ c) (hs : Kd.C k34 w B0 b.length b) (hd : b.length ≤ d) (ga : a.length ≤ maxLen ∧ ∀ x ∈ a, good34 x) (gb : b.length ≤ maxLen ∧ ∀ x ∈ b, good34 x) :
    Calls Try.prog 5 #[.slice A a.length c, .slice B0 b.length d] w fun e w' => e = .returned (.bool true) ∧ Below w.heap.size w w' := by
  by_cases hl : (a.length : Int) > 30
  · exact merges_many a b A c B0 d w hl
  · by_cases hm : (b.length : Int) > 30
    · exact merges_many2 a b A c B0 d w hl hm
    · exact merges_few a b A c B0 d w hr hc hs hd hl hm
end Go.Proofs.Ytphmeljhfbahoaa.PQ
