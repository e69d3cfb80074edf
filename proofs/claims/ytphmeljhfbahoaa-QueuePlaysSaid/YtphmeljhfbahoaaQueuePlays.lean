/- QueuePlays over this seat's program, by walking its text: it returns true. -/
import Derived.Test.YtphmeljhfbahoaaQDoes3
import Derived.Test.YtphmeljhfbahoaaOpensQ
set_option linter.unusedVariables false
set_option linter.unusedSimpArgs false
namespace Go.Proofs.Ytphmeljhfbahoaa.PQ
open Go.Conc Go.RowKit Go.Proofs.YtphmeljhfbahoaaW.PrintWords Go.Proofs.YtphmeljhfbahoaaW.PrintLast Go.Proofs.YtphmeljhfbahoaaW.PrintMore
theorem does.all (S : Nat → Prop) (w0 : World) (g c cap : Nat) (l : List S34) (closed : Bool) (A : Option Addr) (cc : Nat) (y : S36) (w : World) (hb0 : Below w0.heap.size w0 w) (hQ : QAt w w0.heap.size g c cap l closed) (hR : Rd w S A l) (hSg : S g) (hSc : S c) (hS : ∀ k, S k → k < w.heap.size) (hc : l.length ≤ cc) (hl : l.length ≤ cap) (hcap : cap ≤ 4096) :
    Calls Try.prog 8 #[.pointer (some ⟨g, 0, none⟩), .agg #[.slice A l.length cc, .int .i64 (cap : Int), .bool closed], .agg #[.int .i64 y.f0, .int .i64 y.f1, .int .i64 y.f2.f0, .int .i64 y.f2.f1]] w (DPost S w0.heap.size g c cap w) := by
  by_cases h0 : y.f0 = 0
  · rw [h0]; exact does.put S w0.heap.size g c cap l closed A cc y.f1 y.f2 w hQ hR hSg hSc hS hc hl hcap
  by_cases h1 : y.f0 = 1
  · rw [h1]; exact does.take S w0.heap.size g c cap l closed A cc y.f1 y.f2 w hQ hR hSg hSc hS hc hl hcap
  by_cases h2 : y.f0 = 2
  · rw [h2]
    cases closed with
    | false => exact does.close_ S w0.heap.size g c cap l A cc y.f1 y.f2 w hQ hR hSg hSc hS hc hl hcap
    | true => exact does.close2 S w0.heap.size g c cap l A cc y.f1 y.f2 w hQ hR hSg hSc hS hc hl hcap
  by_cases h3 : y.f0 = 3
  · rw [h3]; exact does.fill S w0.heap.size g c cap l closed A cc y.f1 y.f2 w hQ hR hSg hSc hS hc hl hcap hb0.size
  by_cases h4 : y.f0 = 4
  · rw [h4]; exact does.drain S w0 g c cap l closed A cc y.f1 y.f2 w hQ hR hSg hSc hS hc hl hcap hb0
  exact does.other S w0.heap.size g c cap l closed A cc y.f0 y.f1 y.f2 w hQ hR hSg hSc hS hc hl hcap (beq_false_of_ne h0) (beq_false_of_ne h1) (beq_false_of_ne h2) (beq_false_of_ne h3) (beq_false_of_ne h4)
theorem rRoom.calls_ (A : Option Addr) (cc : Nat) (l : List S34) (cap : Nat) (closed : Bool) (w : World) (hC : Kd.C k34 w A l.length l) (hc : l.length ≤ cc) (hl : l.length ≤ cap) (hcap : cap ≤ 4096) (r : Int) (hr : (if closed = true then 0 else (cap : Int) - (l.length : Int)) = r) :
    Calls Try.prog 11 #[.agg #[.slice A l.length cc, .int .i64 (cap : Int), .bool closed]] w fun e w' => e = .returned (.int .i64 r) ∧ Below w.heap.size w w' := by
  refine juratref33_Room.calls A cc l (cap : Int) closed r w hC hc ?_
  unfold juratref33_Room.f
  subst hr
  cases closed with
  | true => rfl
  | false =>
    have e : wrap64 ((cap : Int) - (l.length : Int)) = (cap : Int) - (l.length : Int) := jw64 (by omega) (by omega)
    simp only [Bool.false_eq_true, if_false, e]
theorem qRoom.calls_ (base g c cap : Nat) (l : List S34) (closed : Bool) (w : World) (hQ : QAt w base g c cap l closed) (hl : l.length ≤ cap) (hc : cap ≤ 4096) (r : Int) (hr : (if closed = true then 0 else (cap : Int) - (l.length : Int)) = r) : Calls Try.prog 10 #[.pointer (some ⟨g, 0, none⟩)] w fun e w' => e = .returned (.int .i64 r) ∧ Below w.heap.size w w' := by
  subst hr
  exact queue_Room.calls_ base g c cap l closed w hQ hl hc
theorem qOver.calls_ (base g c cap : Nat) (l : List S34) (closed : Bool) (w : World) (hQ : QAt w base g c cap l closed) (b : Bool) (hb : (closed && decide (l.length = 0)) = b) : Calls Try.prog 12 #[.pointer (some ⟨g, 0, none⟩)] w fun e w' => e = .returned (.bool b) ∧ w = w' := by
  subst hb
  exact queue_Over.calls_ base g c cap l closed w hQ
theorem qLen.calls_ (base g c cap : Nat) (l : List S34) (closed : Bool) (w : World) (hQ : QAt w base g c cap l closed) (n : Nat) (hn : l.length = n) : Calls Try.prog 9 #[.pointer (some ⟨g, 0, none⟩)] w fun e w' => e = .returned (.int .i64 (n : Int)) ∧ w = w' := by
  subst hn
  exact queue_Len.calls_ base g c cap l closed w hQ
set_option maxHeartbeats 16000000 in
set_option maxRecDepth 100000 in
theorem plays_many (size : Int) (l : List S36) (L : Option Addr) (cl : Nat) (w : World) (hl : (l.length : Int) > 30) : Calls Try.prog 3 #[.int .i64 size, .slice L l.length cl] w fun e w' => e = .returned (.bool true) ∧ Below w.heap.size w w' := by
  have h1 : decide ((l.length : Int) > 30) = true := decide_eq_true hl
  clear hl
  go_enter Try.func3, Try.ntmps3
  go_wp2_with (first | (go_at_call 6; (refine (juratlaw33_awake.calls_ _).mono ?_); rintro e w3 ⟨rfl, hb3⟩; have B3 := Aside0.mk hb3; clear hb3) | fail)
  go_ret
  exact ⟨rfl, B3.out⟩
set_option maxHeartbeats 16000000 in
set_option maxRecDepth 100000 in
theorem plays_bad (size : Int) (l : List S36) (L : Option Addr) (cl : Nat) (w : World) (hl : ¬ (l.length : Int) > 30) (hs : size < 1 ∨ 4096 < size) : Calls Try.prog 3 #[.int .i64 size, .slice L l.length cl] w fun e w' => e = .returned (.bool true) ∧ Below w.heap.size w w' := by
  have h1 : decide ((l.length : Int) > 30) = false := decide_eq_false hl
  have HS := Aside0.mk hs
  clear hl
  by_cases h2 : size < 1
  · have h3 : decide (size < 1) = true := decide_eq_true h2
    clear h2 hs
    go_enter Try.func3, Try.ntmps3
    go_wp2_with (first | (go_at_call 7; (refine (queue_New.bad size _ HS.out).mono ?_); rintro e w1 ⟨rfl, rfl⟩) | (go_at_call 6; (refine (juratlaw33_awake.calls_ _).mono ?_); rintro e w3 ⟨rfl, hb3⟩; have B3 := Aside0.mk hb3; clear hb3) | fail)
    go_ret
    exact ⟨rfl, B3.out⟩
  · have h3 : decide (size < 1) = false := decide_eq_false h2
    have h4 : decide (size > 4096) = true := decide_eq_true (by omega)
    clear h2 hs
    go_enter Try.func3, Try.ntmps3
    go_wp2_with (first | (go_at_call 7; (refine (queue_New.bad size _ HS.out).mono ?_); rintro e w1 ⟨rfl, rfl⟩) | (go_at_call 6; (refine (juratlaw33_awake.calls_ _).mono ?_); rintro e w3 ⟨rfl, hb3⟩; have B3 := Aside0.mk hb3; clear hb3) | fail)
    go_ret
    exact ⟨rfl, B3.out⟩
def playsR12.T : Bool × List (List Nat × List Nat) := (true, [([], []), ([], []), ([], []), ([], []), ([2, 3], [2, 3]), ([4], [4]), ([0, 1, 5], [0, 1, 5]), ([6], [6]), ([7], [7]), ([7], [7]), ([], []), ([10, 8, 6, 0, 1, 2, 3, 4, 5, 6, 7, 8, 10], [8, 10]), ([9, 11, 0, 1, 2, 3, 4, 5, 6, 7, 8, 9, 10, 11], [9])])
def playsR12.B : List Nat := [0, 0, 0, 0, 12, 28, 63, 127, 255, 255, 0, 1535, 4095]
theorem playsR12.tab : rtab .any (opsOf Try.f3 12) = playsR12.T := by kernel_rfl
theorem playsR12.bits : waitsOk playsR12.T.2 playsR12.B = true := by kernel_rfl
def playsR14.T : Bool × List (List Nat × List Nat) := (true, [([], []), ([0], [0]), ([1], [1]), ([2], [2]), ([3, 2, 2], [2, 3]), ([2], [2]), ([5, 2], [2, 5]), ([6, 2], [2, 6]), ([4, 7, 2], [2, 4, 7]), ([2, 8], [2, 8]), ([9, 4], [9]), ([10], [10]), ([11, 10, 10], [10, 11]), ([10], [10]), ([13, 12, 10], [10, 13]), ([12, 14, 10], [10, 12, 14]), ([10, 15], [10, 15]), ([16, 14], [16]), ([17], [17]), ([18, 17, 17], [17, 18]), ([17], [17]), ([20, 17], [17, 20]), ([21, 19, 17], [17, 21]), ([22], [22]), ([23, 22], [22, 23]), ([24, 22], [22, 24]), ([25, 22], [22, 25]), ([22, 26, 17], [17, 22, 26]), ([19, 27, 17], [17, 19, 27]), ([17, 28], [17, 28])])
def playsR14.B : List Nat := [0, 1, 3, 7, 15, 7, 39, 103, 255, 511, 1023, 2047, 4095, 2047, 16383, 32767, 65535, 131071, 262143, 524287, 262143, 1310719, 4194303, 8388607, 16777215, 33554431, 67108863, 134217727, 268435455, 536870911]
theorem playsR14.tab : rtab .any (opsOf Try.f3 14) = playsR14.T := by kernel_rfl
theorem playsR14.bits : waitsOk playsR14.T.2 playsR14.B = true := by kernel_rfl
theorem bd_step {SS : Nat → Prop} {n m : Nat} (h : ∀ k, SS k → k < n) (hle : n ≤ m) : ∀ k, SS k → k < m := fun k e => Nat.lt_of_lt_of_le (h k e) hle
theorem rRoomN (A : Option Addr) (cc : Nat) (l : List S34) (n : Nat) (hn : l.length = n) (cap : Nat) (closed : Bool) (w : World) (hC : Kd.C k34 w A l.length l) (hc : l.length ≤ cc) (hl : l.length ≤ cap) (hcap : cap ≤ 4096) (r : Int) (hr : (if closed = true then 0 else (cap : Int) - (l.length : Int)) = r) :
    Calls Try.prog 11 #[.agg #[.slice A n cc, .int .i64 (cap : Int), .bool closed]] w fun e w' => e = .returned (.int .i64 r) ∧ Below w.heap.size w w' := by
  subst hn
  exact rRoom.calls_ A cc l cap closed w hC hc hl hcap r hr
set_option maxHeartbeats 16000000 in
set_option maxRecDepth 100000 in
theorem plays_main (cap : Nat) (l : List S36) (L : Option Addr) (cl : Nat) (w : World) (hC : Kd.C k36 w L l.length l) (hcl : l.length ≤ cl) (hl : ¬ (l.length : Int) > 30) (hs1 : 1 ≤ cap) (hs2 : cap ≤ 4096) : Calls Try.prog 3 #[.int .i64 (cap : Int), .slice L l.length cl] w fun e w' => e = .returned (.bool true) ∧ Below w.heap.size w w' := by
  have h1 : decide ((l.length : Int) > 30) = false := decide_eq_false hl
  have h2 : decide ((cap : Int) < 1) = false := decide_eq_false (by omega)
  have h3 : decide ((cap : Int) > 4096) = false := decide_eq_false (by omega)
  have hl30 : l.length ≤ 30 := by omega
  have hu36 := Try.underlying36
  have HC := Aside0.mk hC
  have HCAP := Aside0.mk hs2
  have HS1 := Aside0.mk hs1
  clear hC hl hs1 hs2
  go_enter Try.func3, Try.ntmps3
  go_upto_region 10 with (first | (go_at_call 7; (refine (queue_New.ok cap _ HS1.out HCAP.out).mono ?_); rintro e w1 ⟨g, c, rfl, hq1, hb1⟩; have Q := Aside0.mk hq1; have B := Aside0.mk hb1; clear hq1 hb1) | fail)
  have K7 := Aside0.mk (blk_new w1 (.cells #[.slice none 0 0, .int .i64 (cap : Int), .bool false] 30))
  have hb := below_alloc (Below.refl w1.heap.size w1) (.cells #[.slice none 0 0, .int .i64 (cap : Int), .bool false] 30)
  have N7 := Aside0.mk (show w1.heap.size ≠ g ∧ w1.heap.size ≠ c ∧ w.heap.size ≤ w1.heap.size from by have h := Q.out.lt; exact ⟨by omega, by omega, B.out.size⟩)
  have QG := Aside0.mk (show w.heap.size ≤ g ∧ w.heap.size ≤ c ∧ g ≠ c from ⟨Q.out.1, Q.out.2.1, Q.out.2.2.1⟩)
  have QN := Aside0.mk (Q.out.below hb)
  have BN := Aside0.mk (below_step B.out hb)
  clear Q B hb
  generalize w1.alloc (.cells #[.slice none 0 0, .int .i64 (cap : Int), .bool false] 30) = w2 at K7 QN BN ⊢
  generalize w1.heap.size = b7 at K7 N7 ⊢
  go_loopw [8] (fun v8 wr => ∃ (j : Nat) (A3 : Option Addr) (c3 : Nat) (l3 : List S34) (cl3 : Bool), j ≤ l.length ∧ v8 = .int .i64 (j : Int) ∧ Aside0 (wr.heap[b7]? = some (.cells #[.slice A3 l3.length c3, .int .i64 (cap : Int), .bool cl3] 30 (0, 0))) ∧ Aside0 (QAt wr w.heap.size g c cap l3 cl3) ∧ Aside0 (Rd wr (fun k => k = g ∨ k = c ∨ k = b7) A3 l3) ∧ Aside0 (l3.length ≤ c3) ∧ Aside0 (l3.length ≤ cap) ∧ Aside0 (Below w.heap.size w wr)) (fun i _ => l.length - (intOf i).toNat)
  case atStart => exact ⟨0, none, 0, [], false, Nat.zero_le _, rfl, K7, QN, ⟨Rd.nil _ _⟩, ⟨Nat.le_refl _⟩, ⟨Nat.zero_le _⟩, BN⟩
  case round =>
    clear K7 QN BN
    obtain ⟨j, A3, c3, l3, cl3, hj, rfl, K7, Q, RR0, HC3, HL3, B⟩ := hrel
    by_cases hlt : j < l.length
    · obtain ⟨ad, eA, hx0, hx1, hx2, hx3⟩ := at_T36 HC.out (j : Int) (by omega) (by omega)
      subst eA
      simp only [Int.toNat_natCast] at hx0 hx1 hx2 hx3
      generalize rd_T36 l (j : Int) = y at hx0 hx1 hx2 hx3
      have W0 := Aside0.mk hx0
      have W1 := Aside0.mk hx1
      have W2 := Aside0.mk hx2
      have W3 := Aside0.mk hx3
      clear hx0 hx1 hx2 hx3
      obtain ⟨SS, hFS, hBD, hRR⟩ : ∃ T : Nat → Prop, (T g ∧ T c ∧ T b7) ∧ (∀ k, T k → k < wr.heap.size) ∧ Rd wr T A3 l3 := ⟨_, ⟨.inl rfl, .inr (.inl rfl), .inr (.inr rfl)⟩, fun k e => by have h1 := Q.out.lt; have h2 := blk_lt K7.out; rcases e with rfl | rfl | rfl <;> omega, RR0.out⟩
      have FS := Aside0.mk hFS
      have BD := Aside0.mk hBD
      have RR := Aside0.mk hRR
      clear hFS hBD hRR RR0
      go_upto_region 12 with fail
      obtain ⟨⟨i0, i1, i2⟩, u0, u1, u2⟩ := cell3 K7.out
      have hx0 := pw_cell_below B.out W0.out; have hx1 := pw_cell_below B.out W1.out; have hx2 := pw_cell_below B.out W2.out; have hx3 := pw_cell_below B.out W3.out
      go_cut [9, 10] (fun v9 v10 wx => ∃ (b9 : Nat) (A4 : Option Addr) (c4 : Nat) (l4 : List S34) (cl4 : Bool), v9 = .pointer (some ⟨b9, 0, none⟩) ∧ v10 = .bool true ∧ Aside0 (b9 ≠ b7) ∧ Aside0 (wx.heap[b9]? = some (.cells #[.slice A4 l4.length c4, .int .i64 (cap : Int), .bool cl4] 30 (0, 0))) ∧ Aside0 (wx.heap[b7]? = some (.cells #[.slice A3 l3.length c3, .int .i64 (cap : Int), .bool cl3] 30 (0, 0))) ∧ Aside0 (QAt wx w.heap.size g c cap l4 cl4) ∧ Aside0 (Rd wx (fun k => k = g ∨ k = c ∨ k = b7) A4 l4) ∧ Aside0 (l4.length ≤ c4) ∧ Aside0 (l4.length ≤ cap) ∧ Aside0 (Below w.heap.size w wx))
      case first =>
        refine start_ (n := 13) (S := (fun w' => w'.cell? ⟨b7, 0, none⟩ = some (.slice A3 l3.length c3) ∧ w'.cell? ⟨b7, 1, none⟩ = some (.int .i64 (cap : Int)) ∧ w'.cell? ⟨b7, 2, none⟩ = some (.bool cl3) ∧ w'.cell? (ad.add (j * 4)) = some (.int .i64 y.f0) ∧ w'.cell? ⟨(ad.add (j * 4)).block, (ad.add (j * 4)).off + 1, none⟩ = some (.int .i64 y.f1) ∧ w'.cell? ⟨(ad.add (j * 4)).block, (ad.add (j * 4)).off + 2, none⟩ = some (.int .i64 y.f2.f0) ∧ w'.cell? ⟨(ad.add (j * 4)).block, (ad.add (j * 4)).off + 3, none⟩ = some (.int .i64 y.f2.f1))) (ds := [11]) #[false, false, false, false, false, false, false, false, false, false, false, false, false] (by kernel_rfl) rfl rfl ⟨i0, i1, i2, hx0, hx1, hx2, hx3⟩ (fun hHeld => ?_); refine with_tabW playsR12.tab playsR12.bits (fun HT_ HW_ => ?_)
        have hb := below_drew1 (Below.refl wr.heap.size wr)
        have QN := Aside0.mk (Q.out.below hb)
        have RRN := Aside0.mk (RR.out.below hb)
        have BDN := Aside0.mk (bd_step BD.out hb.size)
        have K7N := Aside0.mk (blk_below K7.out hb)
        have BN := Aside0.mk (below_step B.out hb)
        clear Q RR BD K7 B
        clear i0 i1 i2 u0 u1 u2
        clear hx0 hx1 hx2 hx3
        have Q := QN; have RR := RRN; have BD := BDN; have K7 := K7N; have B := BN
        clear QN RRN BDN K7N BN
        clear hb
        generalize wr.drew = w4 at Q RR BD K7 B hHeld ⊢
        obtain ⟨⟨i0, i1, i2⟩, u0, u1, u2⟩ := cell3 K7.out
        have hx0 := pw_cell_below B.out W0.out; have hx1 := pw_cell_below B.out W1.out; have hx2 := pw_cell_below B.out W2.out; have hx3 := pw_cell_below B.out W3.out
        refine pure_ (i := 0) (N := some 50) (v := ?_) (a' := ?_) #[true, false, false, false, false, false, false, false, false, false, false, false, false] rfl rfl (any_of HT_.out (by kernel_rfl)) (fun _ _ _ h => h) (Or.inl ⟨by rfl, ?_⟩) ?_ ?_
        rotate_left
        · intro w'
          go_simp
          with_reducible rfl
        rotate_left
        · simp only [Act.put, List.setIfInBounds_toArray, List.set_cons_zero, List.set_cons_succ, i64_w, i32_w]
          rfl
        refine take_ (i := 1) (N := some 51) (v := ?_) (a' := ?_) #[true, true, false, false, false, false, false, false, false, false, false, false, false] rfl rfl (take_ofW HT_.out HW_.out (by kernel_rfl)) (fun _ _ _ h => h) (Or.inl ⟨by rfl, ?_⟩) hHeld ?_ ?_
        rotate_left
        · rintro w' ⟨s0, s1, s2, s3, s4, s5, s6⟩
          go_simp
          with_reducible rfl
        rotate_left
        · simp only [Act.put, List.setIfInBounds_toArray, List.set_cons_zero, List.set_cons_succ, i64_w, i32_w]
          rfl
        refine pure_ (i := 2) (N := some 52) (v := ?_) (a' := ?_) #[true, true, true, false, false, false, false, false, false, false, false, false, false] rfl rfl (any_of HT_.out (by kernel_rfl)) (fun _ _ _ h => h) (Or.inl ⟨by rfl, ?_⟩) ?_ ?_
        rotate_left
        · intro w'
          go_simp
          with_reducible rfl
        rotate_left
        · simp only [Act.put, List.setIfInBounds_toArray, List.set_cons_zero, List.set_cons_succ, i64_w, i32_w]
          rfl
        refine pure_ (i := 3) (N := some 53) (v := ?_) (a' := ?_) #[true, true, true, true, false, false, false, false, false, false, false, false, false] rfl rfl (any_of HT_.out (by kernel_rfl)) (fun _ _ _ h => h) (Or.inl ⟨by rfl, ?_⟩) ?_ ?_
        rotate_left
        · intro w'
          go_simp
          with_reducible rfl
        rotate_left
        · simp only [Act.put, List.setIfInBounds_toArray, List.set_cons_zero, List.set_cons_succ, i64_w, i32_w]
          rfl
        refine pure_ (i := 4) (N := some 54) (v := ?_) (a' := ?_) #[true, true, true, true, true, false, false, false, false, false, false, false, false] rfl rfl (any_of HT_.out (by kernel_rfl)) (fun _ _ _ h => h) (Or.inl ⟨by rfl, ?_⟩) ?_ ?_
        rotate_left
        · intro w'
          go_simp
          with_reducible rfl
        rotate_left
        · simp only [Act.put, List.setIfInBounds_toArray, List.set_cons_zero, List.set_cons_succ, i64_w, i32_w]
          rfl
        refine take_ (i := 5) (N := some 55) (v := ?_) (a' := ?_) #[true, true, true, true, true, true, false, false, false, false, false, false, false] rfl rfl (take_ofW HT_.out HW_.out (by kernel_rfl)) (fun _ _ _ h => h) (Or.inl ⟨by rfl, ?_⟩) hHeld ?_ ?_
        rotate_left
        · rintro w' ⟨s0, s1, s2, s3, s4, s5, s6⟩
          go_simp
          with_reducible rfl
        rotate_left
        · simp only [Act.put, List.setIfInBounds_toArray, List.set_cons_zero, List.set_cons_succ, i64_w, i32_w]
          rfl
        refine two_ (i := 6) (j := 10) (Ni := some 56) (Nj := some 9) #[true, true, true, true, true, true, true, false, false, false, false, false, false] #[true, true, true, true, true, true, false, false, false, false, true, false, false] rfl rfl rfl rfl (two_of HT_.out (by kernel_rfl)) (by decide) (by decide) (fun K hK => ?_) (fun K hK => ?_)
        · skip
          refine goes_ Try.func8 (by kernel_rfl) rfl #[.pointer (some ⟨g, 0, none⟩), .agg #[.slice A3 l3.length c3, .int .i64 (cap : Int), .bool cl3], .agg #[.int .i64 y.f0, .int .i64 y.f1, .int .i64 y.f2.f0, .int .i64 y.f2.f1]] (by rfl) rfl rfl (by (try simp only [List.map_toArray, List.map_cons, List.map_nil]); first | done | rfl) ?_
          refine (does.all SS w g c cap l3 cl3 A3 c3 y _ B.out Q.out RR.out FS.out.1 FS.out.2.1 BD.out HC3.out HL3.out HCAP.out).mono ?_
          rintro e w5 ⟨A4, c4, l4, cl4, rfl, hq, hr, hc4, hl4, hk, hf⟩
          refine ⟨_, rfl, ?_⟩
          have K7N := Aside0.mk (blk_kept K7.out hk (fun e => by have h := N7.out; omega))
          (try (have K9N := Aside0.mk (blk_kept K9.out hk (fun e => by have h := N9.out; have h2 := QG.out; omega)); clear K9; have K9 := K9N; clear K9N))
          have BN := Aside0.mk (hf _ _ (Nat.le_refl _) B.out.size B.out)
          have BDN := Aside0.mk (bd_step BD.out hk.1)
          have RRN := Aside0.mk hr
          have QN := Aside0.mk hq
          have HC4 := Aside0.mk hc4
          have HL4 := Aside0.mk hl4
          clear hq hr hc4 hl4 hk hf Q RR BD K7 B
          clear i0 i1 i2 u0 u1 u2
          clear hx0 hx1 hx2 hx3
          have Q := QN; have RR := RRN; have BD := BDN; have K7 := K7N; have B := BN
          clear QN RRN BDN K7N BN
          obtain ⟨⟨i0, i1, i2⟩, u0, u1, u2⟩ := cell3 K7.out
          have hx0 := pw_cell_below B.out W0.out; have hx1 := pw_cell_below B.out W1.out; have hx2 := pw_cell_below B.out W2.out; have hx3 := pw_cell_below B.out W3.out
          refine hK.out _ _ ⟨i0, i1, i2, hx0, hx1, hx2, hx3⟩ (fun hHeld => ?_)
          clear hK K
          refine norm_ (a' := ?_) ?_ ?_
          rotate_left
          · show Act.put _ (some 56) _ = _
            simp only [Act.put, List.setIfInBounds_toArray, List.set_cons_zero, List.set_cons_succ, i64_w, i32_w]
            rfl
          refine pure_ (i := 7) (N := some 49) (v := ?_) (a' := ?_) #[true, true, true, true, true, true, true, true, false, false, false, false, false] rfl rfl (any_of HT_.out (by kernel_rfl)) (fun _ _ _ h => h) (Or.inl ⟨by rfl, ?_⟩) ?_ ?_
          rotate_left
          · intro w'
            go_simp
            with_reducible rfl
          rotate_left
          · simp only [Act.put, List.setIfInBounds_toArray, List.set_cons_zero, List.set_cons_succ, i64_w, i32_w]
            rfl
          refine pure_ (i := 8) (N := some 57) (v := ?_) (a' := ?_) #[true, true, true, true, true, true, true, true, true, false, false, false, false] rfl rfl (any_of HT_.out (by kernel_rfl)) (fun _ _ _ h => h) (Or.inl ⟨by rfl, ?_⟩) ?_ ?_
          rotate_left
          · intro w'
            go_simp
            with_reducible rfl
          rotate_left
          · simp only [Act.put, List.setIfInBounds_toArray, List.set_cons_zero, List.set_cons_succ, i64_w, i32_w]
            rfl
          refine pure_ (i := 9) (N := some 58) (v := ?_) (a' := ?_) #[true, true, true, true, true, true, true, true, true, true, false, false, false] rfl rfl (any_of HT_.out (by kernel_rfl)) (fun _ _ _ h => h) (Or.inl ⟨by rfl, ?_⟩) ?_ ?_
          rotate_left
          · intro w'
            go_simp
            with_reducible rfl
          rotate_left
          · simp only [Act.put, List.setIfInBounds_toArray, List.set_cons_zero, List.set_cons_succ, i64_w, i32_w]
            rfl
          refine one_ (i := 10) (N := some 9) #[true, true, true, true, true, true, true, true, true, true, true, false, false] rfl rfl (one_of HT_.out (by kernel_rfl)) (by decide) (fun K hK => ?_)
          refine box_step ?hg (N := 9) ?hd (cs := #[.slice none 0 0, .int .i64 0, .bool false]) (t := 30) ?hr ?_; (case hd => rfl); (case hg => rfl); (case hr => first | (go_simp; done) | (go_simp; rfl))
          intro b9 hg9 w9 hbox hb
          have N9 := Aside0.mk (show w.heap.size ≤ b9 ∧ b9 ≠ b7 ∧ b9 ≠ g ∧ b9 ≠ c from by have h1 := blk_lt K7.out; have h2 := Q.out.lt; have h4 := B.out.size; exact ⟨by omega, by omega, by omega, by omega⟩)
          have pack : ∃ T : Nat → Prop, (T g ∧ T c ∧ T b7) ∧ T b9 ∧ (∀ k, T k → k < w9.heap.size) ∧ Rd w9 T _ _ := ⟨fun k => SS k ∨ k = b9, ⟨.inl FS.out.1, .inl FS.out.2.1, .inl FS.out.2.2⟩, .inr rfl, fun k e => by rcases e with e | rfl; exact Nat.lt_of_lt_of_le (BD.out k e) hb.size; exact blk_lt hbox, (RR.out.more (fun k e => e.imp id (fun h => Nat.le_of_eq (by rw [h, hg9])))).below hb⟩
          have K9 := Aside0.mk hbox
          have QN := Aside0.mk (Q.out.below hb)
          have K7N := Aside0.mk (blk_below K7.out hb)
          have BN := Aside0.mk (below_step B.out hb)
          clear Q RR BD FS SS K7 B hb hbox hg9
          clear i0 i1 i2 u0 u1 u2
          clear hx0 hx1 hx2 hx3
          obtain ⟨SS, hFS, hF9, hBD, hRR⟩ := pack
          have FS := Aside0.mk hFS; have F9 := Aside0.mk hF9; have BD := Aside0.mk hBD; have RR := Aside0.mk hRR; have Q := QN; have K7 := K7N; have B := BN
          clear hFS hF9 hBD hRR QN K7N BN
          obtain ⟨⟨i0, i1, i2⟩, u0, u1, u2⟩ := cell3 K7.out
          have hx0 := pw_cell_below B.out W0.out; have hx1 := pw_cell_below B.out W1.out; have hx2 := pw_cell_below B.out W2.out; have hx3 := pw_cell_below B.out W3.out
          refine hK.out _ _ ⟨i0, i1, i2, hx0, hx1, hx2, hx3⟩ (fun hHeld => ?_)
          clear hK K
          refine norm_ (a' := ?_) ?_ ?_
          rotate_left
          · show Act.put _ (some 9) _ = _
            simp only [Act.put, List.setIfInBounds_toArray, List.set_cons_zero, List.set_cons_succ, i64_w, i32_w]
            rfl
          refine last_ (i := 11) (N := none) #[true, true, true, true, true, true, true, true, true, true, true, true, false] rfl rfl (one_of HT_.out (by kernel_rfl)) (by decide) (fun K hK => ?_)
          have fz0 := blk_frozen K9.out 0
          have fz1 := blk_frozen K9.out 1
          have fz2 := blk_frozen K9.out 2
          obtain ⟨⟨e0, e1, e2⟩, _⟩ := cell3 K9.out
          refine skip_ (w1 := ?_) (by rfl) rfl ?_ ?_
          rotate_left
          · go_simp
            rfl
          refine hK.out _ _ ?_
          clear hK K
          refine pure_ (i := 12) (N := some 10) (v := ?_) (a' := ?_) #[true, true, true, true, true, true, true, true, true, true, true, true, true] rfl rfl (any_of HT_.out (by kernel_rfl)) (fun _ _ _ h => h) (Or.inl ⟨by rfl, ?_⟩) ?_ ?_
          rotate_left
          · intro w'
            go_simp
            with_reducible rfl
          rotate_left
          · simp only [Act.put, List.setIfInBounds_toArray, List.set_cons_zero, List.set_cons_succ, i64_w, i32_w]
            rfl
          refine done_ (done_of HT_.out (by kernel_rfl)) ?_
          go_wp2_with fail
          go_meet
          refine ⟨b9, A4, c4, l4, cl4, rfl, rfl, ⟨N9.out.2.1⟩, ⟨put3 K9.out⟩, ⟨far3 K7.out (Ne.symm N9.out.2.1)⟩, ⟨Q.out.kept (kept3 _ b9 _ _ _) (Ne.symm N9.out.2.2.1) (Ne.symm N9.out.2.2.2)⟩, ⟨(RR.out.kept (kept3 _ b9 _ _ _) (fun k e => .inl (by rw [e]; exact F9.out))).less (fun k e => by rcases e with rfl | rfl | rfl; exact FS.out.1; exact FS.out.2.1; exact FS.out.2.2)⟩, HC4, HL4, ⟨bel3 B.out N9.out.1⟩⟩
        · skip
          refine box_step ?hg (N := 9) ?hd (cs := #[.slice none 0 0, .int .i64 0, .bool false]) (t := 30) ?hr ?_; (case hd => rfl); (case hg => rfl); (case hr => first | (go_simp; done) | (go_simp; rfl))
          intro b9 hg9 w9 hbox hb
          have N9 := Aside0.mk (show w.heap.size ≤ b9 ∧ b9 ≠ b7 ∧ b9 ≠ g ∧ b9 ≠ c from by have h1 := blk_lt K7.out; have h2 := Q.out.lt; have h4 := B.out.size; exact ⟨by omega, by omega, by omega, by omega⟩)
          have pack : ∃ T : Nat → Prop, (T g ∧ T c ∧ T b7) ∧ T b9 ∧ (∀ k, T k → k < w9.heap.size) ∧ Rd w9 T _ _ := ⟨fun k => SS k ∨ k = b9, ⟨.inl FS.out.1, .inl FS.out.2.1, .inl FS.out.2.2⟩, .inr rfl, fun k e => by rcases e with e | rfl; exact Nat.lt_of_lt_of_le (BD.out k e) hb.size; exact blk_lt hbox, (RR.out.more (fun k e => e.imp id (fun h => Nat.le_of_eq (by rw [h, hg9])))).below hb⟩
          have K9 := Aside0.mk hbox
          have QN := Aside0.mk (Q.out.below hb)
          have K7N := Aside0.mk (blk_below K7.out hb)
          have BN := Aside0.mk (below_step B.out hb)
          clear Q RR BD FS SS K7 B hb hbox hg9
          clear i0 i1 i2 u0 u1 u2
          clear hx0 hx1 hx2 hx3
          obtain ⟨SS, hFS, hF9, hBD, hRR⟩ := pack
          have FS := Aside0.mk hFS; have F9 := Aside0.mk hF9; have BD := Aside0.mk hBD; have RR := Aside0.mk hRR; have Q := QN; have K7 := K7N; have B := BN
          clear hFS hF9 hBD hRR QN K7N BN
          obtain ⟨⟨i0, i1, i2⟩, u0, u1, u2⟩ := cell3 K7.out
          have hx0 := pw_cell_below B.out W0.out; have hx1 := pw_cell_below B.out W1.out; have hx2 := pw_cell_below B.out W2.out; have hx3 := pw_cell_below B.out W3.out
          refine hK.out _ _ ⟨i0, i1, i2, hx0, hx1, hx2, hx3⟩ (fun hHeld => ?_)
          clear hK K
          refine norm_ (a' := ?_) ?_ ?_
          rotate_left
          · show Act.put _ (some 9) _ = _
            simp only [Act.put, List.setIfInBounds_toArray, List.set_cons_zero, List.set_cons_succ, i64_w, i32_w]
            rfl
          refine one_ (i := 6) (N := some 56) #[true, true, true, true, true, true, true, false, false, false, true, false, false] rfl rfl (one_of HT_.out (by kernel_rfl)) (by decide) (fun K hK => ?_)
          refine goes_ Try.func8 (by kernel_rfl) rfl #[.pointer (some ⟨g, 0, none⟩), .agg #[.slice A3 l3.length c3, .int .i64 (cap : Int), .bool cl3], .agg #[.int .i64 y.f0, .int .i64 y.f1, .int .i64 y.f2.f0, .int .i64 y.f2.f1]] (by rfl) rfl rfl (by (try simp only [List.map_toArray, List.map_cons, List.map_nil]); first | done | rfl) ?_
          refine (does.all SS w g c cap l3 cl3 A3 c3 y _ B.out Q.out RR.out FS.out.1 FS.out.2.1 BD.out HC3.out HL3.out HCAP.out).mono ?_
          rintro e w5 ⟨A4, c4, l4, cl4, rfl, hq, hr, hc4, hl4, hk, hf⟩
          refine ⟨_, rfl, ?_⟩
          have K7N := Aside0.mk (blk_kept K7.out hk (fun e => by have h := N7.out; omega))
          (try (have K9N := Aside0.mk (blk_kept K9.out hk (fun e => by have h := N9.out; have h2 := QG.out; omega)); clear K9; have K9 := K9N; clear K9N))
          have BN := Aside0.mk (hf _ _ (Nat.le_refl _) B.out.size B.out)
          have BDN := Aside0.mk (bd_step BD.out hk.1)
          have RRN := Aside0.mk hr
          have QN := Aside0.mk hq
          have HC4 := Aside0.mk hc4
          have HL4 := Aside0.mk hl4
          clear hq hr hc4 hl4 hk hf Q RR BD K7 B
          clear i0 i1 i2 u0 u1 u2
          clear hx0 hx1 hx2 hx3
          have Q := QN; have RR := RRN; have BD := BDN; have K7 := K7N; have B := BN
          clear QN RRN BDN K7N BN
          obtain ⟨⟨i0, i1, i2⟩, u0, u1, u2⟩ := cell3 K7.out
          have hx0 := pw_cell_below B.out W0.out; have hx1 := pw_cell_below B.out W1.out; have hx2 := pw_cell_below B.out W2.out; have hx3 := pw_cell_below B.out W3.out
          refine hK.out _ _ ⟨i0, i1, i2, hx0, hx1, hx2, hx3⟩ (fun hHeld => ?_)
          clear hK K
          refine norm_ (a' := ?_) ?_ ?_
          rotate_left
          · show Act.put _ (some 56) _ = _
            simp only [Act.put, List.setIfInBounds_toArray, List.set_cons_zero, List.set_cons_succ, i64_w, i32_w]
            rfl
          refine pure_ (i := 7) (N := some 49) (v := ?_) (a' := ?_) #[true, true, true, true, true, true, true, true, false, false, true, false, false] rfl rfl (any_of HT_.out (by kernel_rfl)) (fun _ _ _ h => h) (Or.inl ⟨by rfl, ?_⟩) ?_ ?_
          rotate_left
          · intro w'
            go_simp
            with_reducible rfl
          rotate_left
          · simp only [Act.put, List.setIfInBounds_toArray, List.set_cons_zero, List.set_cons_succ, i64_w, i32_w]
            rfl
          refine pure_ (i := 8) (N := some 57) (v := ?_) (a' := ?_) #[true, true, true, true, true, true, true, true, true, false, true, false, false] rfl rfl (any_of HT_.out (by kernel_rfl)) (fun _ _ _ h => h) (Or.inl ⟨by rfl, ?_⟩) ?_ ?_
          rotate_left
          · intro w'
            go_simp
            with_reducible rfl
          rotate_left
          · simp only [Act.put, List.setIfInBounds_toArray, List.set_cons_zero, List.set_cons_succ, i64_w, i32_w]
            rfl
          refine pure_ (i := 9) (N := some 58) (v := ?_) (a' := ?_) #[true, true, true, true, true, true, true, true, true, true, true, false, false] rfl rfl (any_of HT_.out (by kernel_rfl)) (fun _ _ _ h => h) (Or.inl ⟨by rfl, ?_⟩) ?_ ?_
          rotate_left
          · intro w'
            go_simp
            with_reducible rfl
          rotate_left
          · simp only [Act.put, List.setIfInBounds_toArray, List.set_cons_zero, List.set_cons_succ, i64_w, i32_w]
            rfl
          refine last_ (i := 11) (N := none) #[true, true, true, true, true, true, true, true, true, true, true, true, false] rfl rfl (one_of HT_.out (by kernel_rfl)) (by decide) (fun K hK => ?_)
          have fz0 := blk_frozen K9.out 0
          have fz1 := blk_frozen K9.out 1
          have fz2 := blk_frozen K9.out 2
          obtain ⟨⟨e0, e1, e2⟩, _⟩ := cell3 K9.out
          refine skip_ (w1 := ?_) (by rfl) rfl ?_ ?_
          rotate_left
          · go_simp
            rfl
          refine hK.out _ _ ?_
          clear hK K
          refine pure_ (i := 12) (N := some 10) (v := ?_) (a' := ?_) #[true, true, true, true, true, true, true, true, true, true, true, true, true] rfl rfl (any_of HT_.out (by kernel_rfl)) (fun _ _ _ h => h) (Or.inl ⟨by rfl, ?_⟩) ?_ ?_
          rotate_left
          · intro w'
            go_simp
            with_reducible rfl
          rotate_left
          · simp only [Act.put, List.setIfInBounds_toArray, List.set_cons_zero, List.set_cons_succ, i64_w, i32_w]
            rfl
          refine done_ (done_of HT_.out (by kernel_rfl)) ?_
          go_wp2_with fail
          go_meet
          refine ⟨b9, A4, c4, l4, cl4, rfl, rfl, ⟨N9.out.2.1⟩, ⟨put3 K9.out⟩, ⟨far3 K7.out (Ne.symm N9.out.2.1)⟩, ⟨Q.out.kept (kept3 _ b9 _ _ _) (Ne.symm N9.out.2.2.1) (Ne.symm N9.out.2.2.2)⟩, ⟨(RR.out.kept (kept3 _ b9 _ _ _) (fun k e => .inl (by rw [e]; exact F9.out))).less (fun k e => by rcases e with rfl | rfl | rfl; exact FS.out.1; exact FS.out.2.1; exact FS.out.2.2)⟩, HC4, HL4, ⟨bel3 B.out N9.out.1⟩⟩
      case rest =>
        obtain ⟨b9, A4, c4, l4, cl4, rfl, rfl, N9, K9, K7N, QN, RRN, HC4, HL4, BN⟩ := hcut
        clear Q RR FS BD SS K7 B i0 i1 i2 u0 u1 u2 hx0 hx1 hx2 hx3
        have n97 := N9.out
        have n79 := Ne.symm N9.out
        obtain ⟨⟨e0, e1, e2⟩, _⟩ := cell3 K9.out
        have K7 := K7N
        clear K7N
        obtain ⟨⟨i0, i1, i2⟩, u0, u1, u2⟩ := cell3 K7.out
        go_upto_region 14 with fail
        have K7P := Aside0.mk (put3 (a' := .slice A4 l4.length c4) (b' := .int .i64 (cap : Int)) (c' := .bool cl4) K7.out)
        have QP := Aside0.mk (QN.out.kept (kept3 wc b7 (.slice A4 l4.length c4) (.int .i64 (cap : Int)) (.bool cl4)) (Ne.symm N7.out.1) (Ne.symm N7.out.2.1))
        have RRP := Aside0.mk (RRN.out.kept (kept3 wc b7 (.slice A4 l4.length c4) (.int .i64 (cap : Int)) (.bool cl4)) (fun k e => .inl (.inr (.inr e))))
        have BP := Aside0.mk (bel3 (a' := .slice A4 l4.length c4) (b' := .int .i64 (cap : Int)) (c' := .bool cl4) BN.out N7.out.2.2)
        clear QN RRN BN K9 K7 i0 i1 i2 u0 u1 u2 e0 e1 e2
        generalize (((wc.setCell ⟨b7, 0, none⟩ (.slice A4 l4.length c4)).setCell ⟨b7, 1, none⟩ (.int .i64 (cap : Int))).setCell ⟨b7, 2, none⟩ (.bool cl4)) = wy at K7P QP RRP BP ⊢
        have K7 := K7P
        have Q := QP
        have RR := RRP
        have B := BP
        clear K7P QP RRP BP
        obtain ⟨n, hn⟩ : ∃ n, l4.length = n := ⟨_, rfl⟩
        rw [hn] at K7 ⊢
        have HN := Aside0.mk hn
        clear hn
        obtain ⟨r, hr⟩ : ∃ r, (if cl4 = true then 0 else (cap : Int) - (l4.length : Int)) = r := ⟨_, rfl⟩
        have RM := Aside0.mk hr
        clear hr
        obtain ⟨⟨i0, i1, i2⟩, u0, u1, u2⟩ := cell3 K7.out
        cases cl4 with
        | false =>
          have OV : Aside0 ((false && decide (l4.length = 0)) = false) := ⟨rfl⟩
          refine start_ (n := 30) (S := (fun w' => w'.cell? ⟨b7, 0, none⟩ = some (.slice A4 n c4) ∧ w'.cell? ⟨b7, 1, none⟩ = some (.int .i64 (cap : Int)) ∧ w'.cell? ⟨b7, 2, none⟩ = some (.bool false))) (ds := []) #[false, false, false, false, false, false, false, false, false, false, false, false, false, false, false, false, false, false, false, false, false, false, false, false, false, false, false, false, false, false] (by kernel_rfl) rfl rfl ⟨i0, i1, i2⟩ (fun hHeld => ?_); refine with_tabW playsR14.tab playsR14.bits (fun HT_ HW_ => ?_)
          have hb := below_drew1 (Below.refl wy.heap.size wy)
          have QN := Aside0.mk (Q.out.below hb)
          have RRN := Aside0.mk (RR.out.below hb)
          have K7N := Aside0.mk (blk_below K7.out hb)
          have BN := Aside0.mk (below_step B.out hb)
          clear Q RR K7 B hb
          clear i0 i1 i2 u0 u1 u2
          have Q := QN; have RR := RRN; have K7 := K7N; have B := BN
          clear QN RRN K7N BN
          generalize wy.drew = w4 at Q RR K7 B hHeld ⊢
          obtain ⟨⟨i0, i1, i2⟩, u0, u1, u2⟩ := cell3 K7.out
          refine pure_ (i := 0) (N := some 60) (v := ?_) (a' := ?_) #[true, false, false, false, false, false, false, false, false, false, false, false, false, false, false, false, false, false, false, false, false, false, false, false, false, false, false, false, false, false] rfl rfl (any_of HT_.out (by kernel_rfl)) (fun _ _ _ h => h) (Or.inl ⟨by rfl, ?_⟩) ?_ ?_
          rotate_left
          · intro w'
            go_simp
            with_reducible rfl
          rotate_left
          · simp only [Act.put, List.setIfInBounds_toArray, List.set_cons_zero, List.set_cons_succ, i64_w, i32_w]
            rfl
          refine pure_ (i := 1) (N := some 61) (v := ?_) (a' := ?_) #[true, true, false, false, false, false, false, false, false, false, false, false, false, false, false, false, false, false, false, false, false, false, false, false, false, false, false, false, false, false] rfl rfl (any_of HT_.out (by kernel_rfl)) (fun _ _ _ h => h) (Or.inl ⟨by rfl, ?_⟩) ?_ ?_
          rotate_left
          · intro w'
            go_simp
            with_reducible rfl
          rotate_left
          · simp only [Act.put, List.setIfInBounds_toArray, List.set_cons_zero, List.set_cons_succ, i64_w, i32_w]
            rfl
          refine pure_ (i := 2) (N := some 62) (v := ?_) (a' := ?_) #[true, true, true, false, false, false, false, false, false, false, false, false, false, false, false, false, false, false, false, false, false, false, false, false, false, false, false, false, false, false] rfl rfl (any_of HT_.out (by kernel_rfl)) (fun _ _ _ h => h) (Or.inl ⟨by rfl, ?_⟩) ?_ ?_
          rotate_left
          · intro w'
            go_simp
            with_reducible rfl
          rotate_left
          · simp only [Act.put, List.setIfInBounds_toArray, List.set_cons_zero, List.set_cons_succ, i64_w, i32_w]
            rfl
          refine pure_ (i := 3) (N := some 63) (v := ?_) (a' := ?_) #[true, true, true, true, false, false, false, false, false, false, false, false, false, false, false, false, false, false, false, false, false, false, false, false, false, false, false, false, false, false] rfl rfl (any_of HT_.out (by kernel_rfl)) (fun _ _ _ h => h) (Or.inl ⟨by rfl, ?_⟩) ?_ ?_
          rotate_left
          · intro w'
            go_simp
            with_reducible rfl
          rotate_left
          · simp only [Act.put, List.setIfInBounds_toArray, List.set_cons_zero, List.set_cons_succ, i64_w, i32_w]
            rfl
          refine pure_ (i := 5) (N := some 65) (v := ?_) (a' := ?_) #[true, true, true, true, false, true, false, false, false, false, false, false, false, false, false, false, false, false, false, false, false, false, false, false, false, false, false, false, false, false] rfl rfl (any_of HT_.out (by kernel_rfl)) (fun _ _ _ h => h) (Or.inl ⟨by rfl, ?_⟩) ?_ ?_
          rotate_left
          · intro w'
            go_simp
            with_reducible rfl
          rotate_left
          · simp only [Act.put, List.setIfInBounds_toArray, List.set_cons_zero, List.set_cons_succ, i64_w, i32_w]
            rfl
          refine take_ (i := 6) (N := some 66) (v := ?_) (a' := ?_) #[true, true, true, true, false, true, true, false, false, false, false, false, false, false, false, false, false, false, false, false, false, false, false, false, false, false, false, false, false, false] rfl rfl (take_ofW HT_.out HW_.out (by kernel_rfl)) (fun _ _ _ h => h) (Or.inl ⟨by rfl, ?_⟩) hHeld ?_ ?_
          rotate_left
          · rintro w' ⟨s0, s1, s2⟩
            go_simp
            with_reducible rfl
          rotate_left
          · simp only [Act.put, List.setIfInBounds_toArray, List.set_cons_zero, List.set_cons_succ, i64_w, i32_w]
            rfl
          refine pure_ (i := 7) (N := some 67) (v := ?_) (a' := ?_) #[true, true, true, true, false, true, true, true, false, false, false, false, false, false, false, false, false, false, false, false, false, false, false, false, false, false, false, false, false, false] rfl rfl (any_of HT_.out (by kernel_rfl)) (fun _ _ _ h => h) (Or.inl ⟨by rfl, ?_⟩) ?_ ?_
          rotate_left
          · intro w'
            go_simp
            with_reducible rfl
          rotate_left
          · simp only [Act.put, List.setIfInBounds_toArray, List.set_cons_zero, List.set_cons_succ, i64_w, i32_w]
            rfl
          refine one_ (i := 4) (N := some 64) #[true, true, true, true, true, true, true, true, false, false, false, false, false, false, false, false, false, false, false, false, false, false, false, false, false, false, false, false, false, false] rfl rfl (one_of HT_.out (by kernel_rfl)) (by decide) (fun K hK => ?_)
          refine goes_ Try.func9 (by kernel_rfl) rfl #[.pointer (some ⟨g, 0, none⟩)] (by rfl) rfl rfl (by (try simp only [List.map_toArray, List.map_cons, List.map_nil]); first | done | rfl) ?_
          refine (qLen.calls_ w.heap.size g c cap l4 false _ Q.out n HN.out).mono ?_
          rintro e w5 ⟨rfl, rfl⟩
          refine ⟨_, rfl, ?_⟩
          skip
          refine hK.out _ _ ⟨i0, i1, i2⟩ (fun hHeld => ?_)
          clear hK K
          refine norm_ (a' := ?_) ?_ ?_
          rotate_left
          · show Act.put _ (some 64) _ = _
            simp only [Act.put, List.setIfInBounds_toArray, List.set_cons_zero, List.set_cons_succ, i64_w, i32_w]
            rfl
          refine pure_ (i := 8) (N := some 68) (v := ?_) (a' := ?_) #[true, true, true, true, true, true, true, true, true, false, false, false, false, false, false, false, false, false, false, false, false, false, false, false, false, false, false, false, false, false] rfl rfl (any_of HT_.out (by kernel_rfl)) (fun _ _ _ h => h) (Or.inl ⟨by rfl, ?_⟩) ?_ ?_
          rotate_left
          · intro w'
            go_simp
            with_reducible rfl
          rotate_left
          · simp only [Act.put, List.setIfInBounds_toArray, List.set_cons_zero, List.set_cons_succ, i64_w, i32_w]
            rfl
          refine pure_ (i := 9) (N := some 69) (v := ?_) (a' := ?_) #[true, true, true, true, true, true, true, true, true, true, false, false, false, false, false, false, false, false, false, false, false, false, false, false, false, false, false, false, false, false] rfl rfl (any_of HT_.out (by kernel_rfl)) (fun _ _ _ h => h) (Or.inl ⟨by rfl, ?_⟩) ?_ ?_
          rotate_left
          · intro w'
            go_simp
            with_reducible rfl
          rotate_left
          · simp only [Act.put, List.setIfInBounds_toArray, List.set_cons_zero, List.set_cons_succ, i64_w, i32_w]
            rfl
          refine pure_ (i := 10) (N := some 70) (v := ?_) (a' := ?_) #[true, true, true, true, true, true, true, true, true, true, true, false, false, false, false, false, false, false, false, false, false, false, false, false, false, false, false, false, false, false] rfl rfl (any_of HT_.out (by kernel_rfl)) (fun _ _ _ h => h) (Or.inl ⟨by rfl, ?_⟩) ?_ ?_
          rotate_left
          · intro w'
            go_simp
            with_reducible rfl
          rotate_left
          · simp only [Act.put, List.setIfInBounds_toArray, List.set_cons_zero, List.set_cons_succ, i64_w, i32_w]
            rfl
          refine pure_ (i := 11) (N := some 71) (v := ?_) (a' := ?_) #[true, true, true, true, true, true, true, true, true, true, true, true, false, false, false, false, false, false, false, false, false, false, false, false, false, false, false, false, false, false] rfl rfl (any_of HT_.out (by kernel_rfl)) (fun _ _ _ h => h) (Or.inl ⟨by rfl, ?_⟩) ?_ ?_
          rotate_left
          · intro w'
            go_simp
            with_reducible rfl
          rotate_left
          · simp only [Act.put, List.setIfInBounds_toArray, List.set_cons_zero, List.set_cons_succ, i64_w, i32_w]
            rfl
          refine take_ (i := 13) (N := some 73) (v := ?_) (a' := ?_) #[true, true, true, true, true, true, true, true, true, true, true, true, false, true, false, false, false, false, false, false, false, false, false, false, false, false, false, false, false, false] rfl rfl (take_ofW HT_.out HW_.out (by kernel_rfl)) (fun _ _ _ h => h) (Or.inl ⟨by rfl, ?_⟩) hHeld ?_ ?_
          rotate_left
          · rintro w' ⟨s0, s1, s2⟩
            go_simp
            with_reducible rfl
          rotate_left
          · simp only [Act.put, List.setIfInBounds_toArray, List.set_cons_zero, List.set_cons_succ, i64_w, i32_w]
            rfl
          refine one_ (i := 12) (N := some 72) #[true, true, true, true, true, true, true, true, true, true, true, true, true, true, false, false, false, false, false, false, false, false, false, false, false, false, false, false, false, false] rfl rfl (one_of HT_.out (by kernel_rfl)) (by decide) (fun K hK => ?_)
          refine goes_ Try.func10 (by kernel_rfl) rfl #[.pointer (some ⟨g, 0, none⟩)] (by rfl) rfl rfl (by (try simp only [List.map_toArray, List.map_cons, List.map_nil]); first | done | rfl) ?_
          refine (qRoom.calls_ w.heap.size g c cap l4 false _ Q.out HL4.out HCAP.out r RM.out).mono ?_
          rintro e w6 ⟨rfl, hb⟩
          refine ⟨_, rfl, ?_⟩
          have QN := Aside0.mk (Q.out.below hb)
          have RRN := Aside0.mk (RR.out.below hb)
          have K7N := Aside0.mk (blk_below K7.out hb)
          have BN := Aside0.mk (below_step B.out hb)
          clear Q RR K7 B hb
          clear i0 i1 i2 u0 u1 u2
          have Q := QN; have RR := RRN; have K7 := K7N; have B := BN
          clear QN RRN K7N BN
          obtain ⟨⟨i0, i1, i2⟩, u0, u1, u2⟩ := cell3 K7.out
          refine hK.out _ _ ⟨i0, i1, i2⟩ (fun hHeld => ?_)
          clear hK K
          refine norm_ (a' := ?_) ?_ ?_
          rotate_left
          · show Act.put _ (some 72) _ = _
            simp only [Act.put, List.setIfInBounds_toArray, List.set_cons_zero, List.set_cons_succ, i64_w, i32_w]
            rfl
          refine one_ (i := 14) (N := some 74) #[true, true, true, true, true, true, true, true, true, true, true, true, true, true, true, false, false, false, false, false, false, false, false, false, false, false, false, false, false, false] rfl rfl (one_of HT_.out (by kernel_rfl)) (by decide) (fun K hK => ?_)
          refine goes_ Try.func11 (by kernel_rfl) rfl #[.agg #[.slice A4 n c4, .int .i64 (cap : Int), .bool false]] (by rfl) rfl rfl (by (try simp only [List.map_toArray, List.map_cons, List.map_nil]); first | done | rfl) ?_
          refine (rRoomN A4 c4 l4 n HN.out cap false _ RR.out.now HC4.out HL4.out HCAP.out r RM.out).mono ?_
          rintro e w6 ⟨rfl, hb⟩
          refine ⟨_, rfl, ?_⟩
          have QN := Aside0.mk (Q.out.below hb)
          have RRN := Aside0.mk (RR.out.below hb)
          have K7N := Aside0.mk (blk_below K7.out hb)
          have BN := Aside0.mk (below_step B.out hb)
          clear Q RR K7 B hb
          clear i0 i1 i2 u0 u1 u2
          have Q := QN; have RR := RRN; have K7 := K7N; have B := BN
          clear QN RRN K7N BN
          obtain ⟨⟨i0, i1, i2⟩, u0, u1, u2⟩ := cell3 K7.out
          refine hK.out _ _ ⟨i0, i1, i2⟩ (fun hHeld => ?_)
          clear hK K
          refine norm_ (a' := ?_) ?_ ?_
          rotate_left
          · show Act.put _ (some 74) _ = _
            simp only [Act.put, List.setIfInBounds_toArray, List.set_cons_zero, List.set_cons_succ, i64_w, i32_w]
            rfl
          refine pure_ (i := 15) (N := some 75) (v := ?_) (a' := ?_) #[true, true, true, true, true, true, true, true, true, true, true, true, true, true, true, true, false, false, false, false, false, false, false, false, false, false, false, false, false, false] rfl rfl (any_of HT_.out (by kernel_rfl)) (fun _ _ _ h => h) (Or.inl ⟨by rfl, ?_⟩) ?_ ?_
          rotate_left
          · intro w'
            go_simp
            with_reducible rfl
          rotate_left
          · simp only [Act.put, List.setIfInBounds_toArray, List.set_cons_zero, List.set_cons_succ, i64_w, i32_w]
            rfl
          refine pure_ (i := 16) (N := some 76) (v := ?_) (a' := ?_) #[true, true, true, true, true, true, true, true, true, true, true, true, true, true, true, true, true, false, false, false, false, false, false, false, false, false, false, false, false, false] rfl rfl (any_of HT_.out (by kernel_rfl)) (fun _ _ _ h => h) (Or.inl ⟨by rfl, ?_⟩) ?_ ?_
          rotate_left
          · intro w'
            go_simp
            with_reducible rfl
          rotate_left
          · simp only [Act.put, List.setIfInBounds_toArray, List.set_cons_zero, List.set_cons_succ, i64_w, i32_w]
            rfl
          refine pure_ (i := 17) (N := some 77) (v := ?_) (a' := ?_) #[true, true, true, true, true, true, true, true, true, true, true, true, true, true, true, true, true, true, false, false, false, false, false, false, false, false, false, false, false, false] rfl rfl (any_of HT_.out (by kernel_rfl)) (fun _ _ _ h => h) (Or.inl ⟨by rfl, ?_⟩) ?_ ?_
          rotate_left
          · intro w'
            go_simp
            with_reducible rfl
          rotate_left
          · simp only [Act.put, List.setIfInBounds_toArray, List.set_cons_zero, List.set_cons_succ, i64_w, i32_w]
            rfl
          refine pure_ (i := 18) (N := some 78) (v := ?_) (a' := ?_) #[true, true, true, true, true, true, true, true, true, true, true, true, true, true, true, true, true, true, true, false, false, false, false, false, false, false, false, false, false, false] rfl rfl (any_of HT_.out (by kernel_rfl)) (fun _ _ _ h => h) (Or.inl ⟨by rfl, ?_⟩) ?_ ?_
          rotate_left
          · intro w'
            go_simp
            with_reducible rfl
          rotate_left
          · simp only [Act.put, List.setIfInBounds_toArray, List.set_cons_zero, List.set_cons_succ, i64_w, i32_w]
            rfl
          refine pure_ (i := 20) (N := some 80) (v := ?_) (a' := ?_) #[true, true, true, true, true, true, true, true, true, true, true, true, true, true, true, true, true, true, true, false, true, false, false, false, false, false, false, false, false, false] rfl rfl (any_of HT_.out (by kernel_rfl)) (fun _ _ _ h => h) (Or.inl ⟨by rfl, ?_⟩) ?_ ?_
          rotate_left
          · intro w'
            go_simp
            with_reducible rfl
          rotate_left
          · simp only [Act.put, List.setIfInBounds_toArray, List.set_cons_zero, List.set_cons_succ, i64_w, i32_w]
            rfl
          refine take_ (i := 21) (N := some 81) (v := ?_) (a' := ?_) #[true, true, true, true, true, true, true, true, true, true, true, true, true, true, true, true, true, true, true, false, true, true, false, false, false, false, false, false, false, false] rfl rfl (take_ofW HT_.out HW_.out (by kernel_rfl)) (fun _ _ _ h => h) (Or.inl ⟨by rfl, ?_⟩) hHeld ?_ ?_
          rotate_left
          · rintro w' ⟨s0, s1, s2⟩
            go_simp
            with_reducible rfl
          rotate_left
          · simp only [Act.put, List.setIfInBounds_toArray, List.set_cons_zero, List.set_cons_succ, i64_w, i32_w]
            rfl
          refine one_ (i := 19) (N := some 79) #[true, true, true, true, true, true, true, true, true, true, true, true, true, true, true, true, true, true, true, true, true, true, false, false, false, false, false, false, false, false] rfl rfl (one_of HT_.out (by kernel_rfl)) (by decide) (fun K hK => ?_)
          refine goes_ Try.func12 (by kernel_rfl) rfl #[.pointer (some ⟨g, 0, none⟩)] (by rfl) rfl rfl (by (try simp only [List.map_toArray, List.map_cons, List.map_nil]); first | done | rfl) ?_
          refine (qOver.calls_ w.heap.size g c cap l4 false _ Q.out false OV.out).mono ?_
          rintro e w5 ⟨rfl, rfl⟩
          refine ⟨_, rfl, ?_⟩
          skip
          refine hK.out _ _ ⟨i0, i1, i2⟩ (fun hHeld => ?_)
          clear hK K
          refine norm_ (a' := ?_) ?_ ?_
          rotate_left
          · show Act.put _ (some 79) _ = _
            simp only [Act.put, List.setIfInBounds_toArray, List.set_cons_zero, List.set_cons_succ, i64_w, i32_w]
            rfl
          refine pure_ (i := 22) (N := some 82) (v := ?_) (a' := ?_) #[true, true, true, true, true, true, true, true, true, true, true, true, true, true, true, true, true, true, true, true, true, true, true, false, false, false, false, false, false, false] rfl rfl (any_of HT_.out (by kernel_rfl)) (fun _ _ _ h => h) (Or.inl ⟨by rfl, ?_⟩) ?_ ?_
          rotate_left
          · intro w'
            go_simp
            with_reducible rfl
          rotate_left
          · simp only [Act.put, List.setIfInBounds_toArray, List.set_cons_zero, List.set_cons_succ, i64_w, i32_w]
            rfl
          refine pure_ (i := 23) (N := some 83) (v := undef) (a' := ?_) #[true, true, true, true, true, true, true, true, true, true, true, true, true, true, true, true, true, true, true, true, true, true, true, true, false, false, false, false, false, false] rfl rfl (any_of HT_.out (by kernel_rfl)) (fun _ _ _ h => h) (Or.inr ⟨by rfl, rfl⟩) ?_ ?_
          rotate_left
          · simp only [Act.put, List.setIfInBounds_toArray, List.set_cons_zero, List.set_cons_succ, i64_w, i32_w]
            rfl
          refine pure_ (i := 24) (N := some 84) (v := undef) (a' := ?_) #[true, true, true, true, true, true, true, true, true, true, true, true, true, true, true, true, true, true, true, true, true, true, true, true, true, false, false, false, false, false] rfl rfl (any_of HT_.out (by kernel_rfl)) (fun _ _ _ h => h) (Or.inr ⟨by rfl, rfl⟩) ?_ ?_
          rotate_left
          · simp only [Act.put, List.setIfInBounds_toArray, List.set_cons_zero, List.set_cons_succ, i64_w, i32_w]
            rfl
          refine pure_ (i := 25) (N := some 85) (v := undef) (a' := ?_) #[true, true, true, true, true, true, true, true, true, true, true, true, true, true, true, true, true, true, true, true, true, true, true, true, true, true, false, false, false, false] rfl rfl (any_of HT_.out (by kernel_rfl)) (fun _ _ _ h => h) (Or.inr ⟨by rfl, rfl⟩) ?_ ?_
          rotate_left
          · simp only [Act.put, List.setIfInBounds_toArray, List.set_cons_zero, List.set_cons_succ, i64_w, i32_w]
            rfl
          refine pure_ (i := 26) (N := some 86) (v := undef) (a' := ?_) #[true, true, true, true, true, true, true, true, true, true, true, true, true, true, true, true, true, true, true, true, true, true, true, true, true, true, true, false, false, false] rfl rfl (any_of HT_.out (by kernel_rfl)) (fun _ _ _ h => h) (Or.inr ⟨by rfl, rfl⟩) ?_ ?_
          rotate_left
          · simp only [Act.put, List.setIfInBounds_toArray, List.set_cons_zero, List.set_cons_succ, i64_w, i32_w]
            rfl
          refine pure_ (i := 27) (N := some 87) (v := ?_) (a' := ?_) #[true, true, true, true, true, true, true, true, true, true, true, true, true, true, true, true, true, true, true, true, true, true, true, true, true, true, true, true, false, false] rfl rfl (any_of HT_.out (by kernel_rfl)) (fun _ _ _ h => h) (Or.inl ⟨by rfl, ?_⟩) ?_ ?_
          rotate_left
          · intro w'
            go_simp
            with_reducible rfl
          rotate_left
          · simp only [Act.put, List.setIfInBounds_toArray, List.set_cons_zero, List.set_cons_succ, i64_w, i32_w]
            rfl
          refine pure_ (i := 28) (N := some 88) (v := ?_) (a' := ?_) #[true, true, true, true, true, true, true, true, true, true, true, true, true, true, true, true, true, true, true, true, true, true, true, true, true, true, true, true, true, false] rfl rfl (any_of HT_.out (by kernel_rfl)) (fun _ _ _ h => h) (Or.inl ⟨by rfl, ?_⟩) ?_ ?_
          rotate_left
          · intro w'
            go_simp
            with_reducible rfl
          rotate_left
          · simp only [Act.put, List.setIfInBounds_toArray, List.set_cons_zero, List.set_cons_succ, i64_w, i32_w]
            rfl
          refine pure_ (i := 29) (N := some 89) (v := ?_) (a' := ?_) #[true, true, true, true, true, true, true, true, true, true, true, true, true, true, true, true, true, true, true, true, true, true, true, true, true, true, true, true, true, true] rfl rfl (any_of HT_.out (by kernel_rfl)) (fun _ _ _ h => h) (Or.inl ⟨by rfl, ?_⟩) ?_ ?_
          rotate_left
          · intro w'
            go_simp
            with_reducible rfl
          rotate_left
          · simp only [Act.put, List.setIfInBounds_toArray, List.set_cons_zero, List.set_cons_succ, i64_w, i32_w]
            rfl
          refine done_ (done_of HT_.out (by kernel_rfl)) ?_
          go_wp2_with fail
          exact ⟨⟨j + 1, A4, c4, l4, false, by omega, by go_num, ⟨by rw [HN.out]; exact K7.out⟩, Q, RR, HC4, HL4, B⟩, by simp [intOf]; omega⟩
        | true =>
          by_cases h0 : n = 0
          · subst h0
            have OV : Aside0 ((true && decide (l4.length = 0)) = true) := ⟨by rw [HN.out]; rfl⟩
            refine start_ (n := 30) (S := (fun w' => w'.cell? ⟨b7, 0, none⟩ = some (.slice A4 0 c4) ∧ w'.cell? ⟨b7, 1, none⟩ = some (.int .i64 (cap : Int)) ∧ w'.cell? ⟨b7, 2, none⟩ = some (.bool true))) (ds := []) #[false, false, false, false, false, false, false, false, false, false, false, false, false, false, false, false, false, false, false, false, false, false, false, false, false, false, false, false, false, false] (by kernel_rfl) rfl rfl ⟨i0, i1, i2⟩ (fun hHeld => ?_); refine with_tabW playsR14.tab playsR14.bits (fun HT_ HW_ => ?_)
            have hb := below_drew1 (Below.refl wy.heap.size wy)
            have QN := Aside0.mk (Q.out.below hb)
            have RRN := Aside0.mk (RR.out.below hb)
            have K7N := Aside0.mk (blk_below K7.out hb)
            have BN := Aside0.mk (below_step B.out hb)
            clear Q RR K7 B hb
            clear i0 i1 i2 u0 u1 u2
            have Q := QN; have RR := RRN; have K7 := K7N; have B := BN
            clear QN RRN K7N BN
            generalize wy.drew = w4 at Q RR K7 B hHeld ⊢
            obtain ⟨⟨i0, i1, i2⟩, u0, u1, u2⟩ := cell3 K7.out
            refine pure_ (i := 0) (N := some 60) (v := ?_) (a' := ?_) #[true, false, false, false, false, false, false, false, false, false, false, false, false, false, false, false, false, false, false, false, false, false, false, false, false, false, false, false, false, false] rfl rfl (any_of HT_.out (by kernel_rfl)) (fun _ _ _ h => h) (Or.inl ⟨by rfl, ?_⟩) ?_ ?_
            rotate_left
            · intro w'
              go_simp
              with_reducible rfl
            rotate_left
            · simp only [Act.put, List.setIfInBounds_toArray, List.set_cons_zero, List.set_cons_succ, i64_w, i32_w]
              rfl
            refine pure_ (i := 1) (N := some 61) (v := ?_) (a' := ?_) #[true, true, false, false, false, false, false, false, false, false, false, false, false, false, false, false, false, false, false, false, false, false, false, false, false, false, false, false, false, false] rfl rfl (any_of HT_.out (by kernel_rfl)) (fun _ _ _ h => h) (Or.inl ⟨by rfl, ?_⟩) ?_ ?_
            rotate_left
            · intro w'
              go_simp
              with_reducible rfl
            rotate_left
            · simp only [Act.put, List.setIfInBounds_toArray, List.set_cons_zero, List.set_cons_succ, i64_w, i32_w]
              rfl
            refine pure_ (i := 2) (N := some 62) (v := ?_) (a' := ?_) #[true, true, true, false, false, false, false, false, false, false, false, false, false, false, false, false, false, false, false, false, false, false, false, false, false, false, false, false, false, false] rfl rfl (any_of HT_.out (by kernel_rfl)) (fun _ _ _ h => h) (Or.inl ⟨by rfl, ?_⟩) ?_ ?_
            rotate_left
            · intro w'
              go_simp
              with_reducible rfl
            rotate_left
            · simp only [Act.put, List.setIfInBounds_toArray, List.set_cons_zero, List.set_cons_succ, i64_w, i32_w]
              rfl
            refine pure_ (i := 3) (N := some 63) (v := ?_) (a' := ?_) #[true, true, true, true, false, false, false, false, false, false, false, false, false, false, false, false, false, false, false, false, false, false, false, false, false, false, false, false, false, false] rfl rfl (any_of HT_.out (by kernel_rfl)) (fun _ _ _ h => h) (Or.inl ⟨by rfl, ?_⟩) ?_ ?_
            rotate_left
            · intro w'
              go_simp
              with_reducible rfl
            rotate_left
            · simp only [Act.put, List.setIfInBounds_toArray, List.set_cons_zero, List.set_cons_succ, i64_w, i32_w]
              rfl
            refine pure_ (i := 5) (N := some 65) (v := ?_) (a' := ?_) #[true, true, true, true, false, true, false, false, false, false, false, false, false, false, false, false, false, false, false, false, false, false, false, false, false, false, false, false, false, false] rfl rfl (any_of HT_.out (by kernel_rfl)) (fun _ _ _ h => h) (Or.inl ⟨by rfl, ?_⟩) ?_ ?_
            rotate_left
            · intro w'
              go_simp
              with_reducible rfl
            rotate_left
            · simp only [Act.put, List.setIfInBounds_toArray, List.set_cons_zero, List.set_cons_succ, i64_w, i32_w]
              rfl
            refine take_ (i := 6) (N := some 66) (v := ?_) (a' := ?_) #[true, true, true, true, false, true, true, false, false, false, false, false, false, false, false, false, false, false, false, false, false, false, false, false, false, false, false, false, false, false] rfl rfl (take_ofW HT_.out HW_.out (by kernel_rfl)) (fun _ _ _ h => h) (Or.inl ⟨by rfl, ?_⟩) hHeld ?_ ?_
            rotate_left
            · rintro w' ⟨s0, s1, s2⟩
              go_simp
              with_reducible rfl
            rotate_left
            · simp only [Act.put, List.setIfInBounds_toArray, List.set_cons_zero, List.set_cons_succ, i64_w, i32_w]
              rfl
            refine pure_ (i := 7) (N := some 67) (v := ?_) (a' := ?_) #[true, true, true, true, false, true, true, true, false, false, false, false, false, false, false, false, false, false, false, false, false, false, false, false, false, false, false, false, false, false] rfl rfl (any_of HT_.out (by kernel_rfl)) (fun _ _ _ h => h) (Or.inl ⟨by rfl, ?_⟩) ?_ ?_
            rotate_left
            · intro w'
              go_simp
              with_reducible rfl
            rotate_left
            · simp only [Act.put, List.setIfInBounds_toArray, List.set_cons_zero, List.set_cons_succ, i64_w, i32_w]
              rfl
            refine one_ (i := 4) (N := some 64) #[true, true, true, true, true, true, true, true, false, false, false, false, false, false, false, false, false, false, false, false, false, false, false, false, false, false, false, false, false, false] rfl rfl (one_of HT_.out (by kernel_rfl)) (by decide) (fun K hK => ?_)
            refine goes_ Try.func9 (by kernel_rfl) rfl #[.pointer (some ⟨g, 0, none⟩)] (by rfl) rfl rfl (by (try simp only [List.map_toArray, List.map_cons, List.map_nil]); first | done | rfl) ?_
            refine (qLen.calls_ w.heap.size g c cap l4 true _ Q.out 0 HN.out).mono ?_
            rintro e w5 ⟨rfl, rfl⟩
            refine ⟨_, rfl, ?_⟩
            skip
            refine hK.out _ _ ⟨i0, i1, i2⟩ (fun hHeld => ?_)
            clear hK K
            refine norm_ (a' := ?_) ?_ ?_
            rotate_left
            · show Act.put _ (some 64) _ = _
              simp only [Act.put, List.setIfInBounds_toArray, List.set_cons_zero, List.set_cons_succ, i64_w, i32_w]
              rfl
            refine pure_ (i := 8) (N := some 68) (v := ?_) (a' := ?_) #[true, true, true, true, true, true, true, true, true, false, false, false, false, false, false, false, false, false, false, false, false, false, false, false, false, false, false, false, false, false] rfl rfl (any_of HT_.out (by kernel_rfl)) (fun _ _ _ h => h) (Or.inl ⟨by rfl, ?_⟩) ?_ ?_
            rotate_left
            · intro w'
              go_simp
              with_reducible rfl
            rotate_left
            · simp only [Act.put, List.setIfInBounds_toArray, List.set_cons_zero, List.set_cons_succ, i64_w, i32_w]
              rfl
            refine pure_ (i := 9) (N := some 69) (v := ?_) (a' := ?_) #[true, true, true, true, true, true, true, true, true, true, false, false, false, false, false, false, false, false, false, false, false, false, false, false, false, false, false, false, false, false] rfl rfl (any_of HT_.out (by kernel_rfl)) (fun _ _ _ h => h) (Or.inl ⟨by rfl, ?_⟩) ?_ ?_
            rotate_left
            · intro w'
              go_simp
              with_reducible rfl
            rotate_left
            · simp only [Act.put, List.setIfInBounds_toArray, List.set_cons_zero, List.set_cons_succ, i64_w, i32_w]
              rfl
            refine pure_ (i := 10) (N := some 70) (v := ?_) (a' := ?_) #[true, true, true, true, true, true, true, true, true, true, true, false, false, false, false, false, false, false, false, false, false, false, false, false, false, false, false, false, false, false] rfl rfl (any_of HT_.out (by kernel_rfl)) (fun _ _ _ h => h) (Or.inl ⟨by rfl, ?_⟩) ?_ ?_
            rotate_left
            · intro w'
              go_simp
              with_reducible rfl
            rotate_left
            · simp only [Act.put, List.setIfInBounds_toArray, List.set_cons_zero, List.set_cons_succ, i64_w, i32_w]
              rfl
            refine pure_ (i := 11) (N := some 71) (v := ?_) (a' := ?_) #[true, true, true, true, true, true, true, true, true, true, true, true, false, false, false, false, false, false, false, false, false, false, false, false, false, false, false, false, false, false] rfl rfl (any_of HT_.out (by kernel_rfl)) (fun _ _ _ h => h) (Or.inl ⟨by rfl, ?_⟩) ?_ ?_
            rotate_left
            · intro w'
              go_simp
              with_reducible rfl
            rotate_left
            · simp only [Act.put, List.setIfInBounds_toArray, List.set_cons_zero, List.set_cons_succ, i64_w, i32_w]
              rfl
            refine take_ (i := 13) (N := some 73) (v := ?_) (a' := ?_) #[true, true, true, true, true, true, true, true, true, true, true, true, false, true, false, false, false, false, false, false, false, false, false, false, false, false, false, false, false, false] rfl rfl (take_ofW HT_.out HW_.out (by kernel_rfl)) (fun _ _ _ h => h) (Or.inl ⟨by rfl, ?_⟩) hHeld ?_ ?_
            rotate_left
            · rintro w' ⟨s0, s1, s2⟩
              go_simp
              with_reducible rfl
            rotate_left
            · simp only [Act.put, List.setIfInBounds_toArray, List.set_cons_zero, List.set_cons_succ, i64_w, i32_w]
              rfl
            refine one_ (i := 12) (N := some 72) #[true, true, true, true, true, true, true, true, true, true, true, true, true, true, false, false, false, false, false, false, false, false, false, false, false, false, false, false, false, false] rfl rfl (one_of HT_.out (by kernel_rfl)) (by decide) (fun K hK => ?_)
            refine goes_ Try.func10 (by kernel_rfl) rfl #[.pointer (some ⟨g, 0, none⟩)] (by rfl) rfl rfl (by (try simp only [List.map_toArray, List.map_cons, List.map_nil]); first | done | rfl) ?_
            refine (qRoom.calls_ w.heap.size g c cap l4 true _ Q.out HL4.out HCAP.out r RM.out).mono ?_
            rintro e w6 ⟨rfl, hb⟩
            refine ⟨_, rfl, ?_⟩
            have QN := Aside0.mk (Q.out.below hb)
            have RRN := Aside0.mk (RR.out.below hb)
            have K7N := Aside0.mk (blk_below K7.out hb)
            have BN := Aside0.mk (below_step B.out hb)
            clear Q RR K7 B hb
            clear i0 i1 i2 u0 u1 u2
            have Q := QN; have RR := RRN; have K7 := K7N; have B := BN
            clear QN RRN K7N BN
            obtain ⟨⟨i0, i1, i2⟩, u0, u1, u2⟩ := cell3 K7.out
            refine hK.out _ _ ⟨i0, i1, i2⟩ (fun hHeld => ?_)
            clear hK K
            refine norm_ (a' := ?_) ?_ ?_
            rotate_left
            · show Act.put _ (some 72) _ = _
              simp only [Act.put, List.setIfInBounds_toArray, List.set_cons_zero, List.set_cons_succ, i64_w, i32_w]
              rfl
            refine one_ (i := 14) (N := some 74) #[true, true, true, true, true, true, true, true, true, true, true, true, true, true, true, false, false, false, false, false, false, false, false, false, false, false, false, false, false, false] rfl rfl (one_of HT_.out (by kernel_rfl)) (by decide) (fun K hK => ?_)
            refine goes_ Try.func11 (by kernel_rfl) rfl #[.agg #[.slice A4 0 c4, .int .i64 (cap : Int), .bool true]] (by rfl) rfl rfl (by (try simp only [List.map_toArray, List.map_cons, List.map_nil]); first | done | rfl) ?_
            refine (rRoomN A4 c4 l4 0 HN.out cap true _ RR.out.now HC4.out HL4.out HCAP.out r RM.out).mono ?_
            rintro e w6 ⟨rfl, hb⟩
            refine ⟨_, rfl, ?_⟩
            have QN := Aside0.mk (Q.out.below hb)
            have RRN := Aside0.mk (RR.out.below hb)
            have K7N := Aside0.mk (blk_below K7.out hb)
            have BN := Aside0.mk (below_step B.out hb)
            clear Q RR K7 B hb
            clear i0 i1 i2 u0 u1 u2
            have Q := QN; have RR := RRN; have K7 := K7N; have B := BN
            clear QN RRN K7N BN
            obtain ⟨⟨i0, i1, i2⟩, u0, u1, u2⟩ := cell3 K7.out
            refine hK.out _ _ ⟨i0, i1, i2⟩ (fun hHeld => ?_)
            clear hK K
            refine norm_ (a' := ?_) ?_ ?_
            rotate_left
            · show Act.put _ (some 74) _ = _
              simp only [Act.put, List.setIfInBounds_toArray, List.set_cons_zero, List.set_cons_succ, i64_w, i32_w]
              rfl
            refine pure_ (i := 15) (N := some 75) (v := ?_) (a' := ?_) #[true, true, true, true, true, true, true, true, true, true, true, true, true, true, true, true, false, false, false, false, false, false, false, false, false, false, false, false, false, false] rfl rfl (any_of HT_.out (by kernel_rfl)) (fun _ _ _ h => h) (Or.inl ⟨by rfl, ?_⟩) ?_ ?_
            rotate_left
            · intro w'
              go_simp
              with_reducible rfl
            rotate_left
            · simp only [Act.put, List.setIfInBounds_toArray, List.set_cons_zero, List.set_cons_succ, i64_w, i32_w]
              rfl
            refine pure_ (i := 16) (N := some 76) (v := ?_) (a' := ?_) #[true, true, true, true, true, true, true, true, true, true, true, true, true, true, true, true, true, false, false, false, false, false, false, false, false, false, false, false, false, false] rfl rfl (any_of HT_.out (by kernel_rfl)) (fun _ _ _ h => h) (Or.inl ⟨by rfl, ?_⟩) ?_ ?_
            rotate_left
            · intro w'
              go_simp
              with_reducible rfl
            rotate_left
            · simp only [Act.put, List.setIfInBounds_toArray, List.set_cons_zero, List.set_cons_succ, i64_w, i32_w]
              rfl
            refine pure_ (i := 17) (N := some 77) (v := ?_) (a' := ?_) #[true, true, true, true, true, true, true, true, true, true, true, true, true, true, true, true, true, true, false, false, false, false, false, false, false, false, false, false, false, false] rfl rfl (any_of HT_.out (by kernel_rfl)) (fun _ _ _ h => h) (Or.inl ⟨by rfl, ?_⟩) ?_ ?_
            rotate_left
            · intro w'
              go_simp
              with_reducible rfl
            rotate_left
            · simp only [Act.put, List.setIfInBounds_toArray, List.set_cons_zero, List.set_cons_succ, i64_w, i32_w]
              rfl
            refine pure_ (i := 18) (N := some 78) (v := ?_) (a' := ?_) #[true, true, true, true, true, true, true, true, true, true, true, true, true, true, true, true, true, true, true, false, false, false, false, false, false, false, false, false, false, false] rfl rfl (any_of HT_.out (by kernel_rfl)) (fun _ _ _ h => h) (Or.inl ⟨by rfl, ?_⟩) ?_ ?_
            rotate_left
            · intro w'
              go_simp
              with_reducible rfl
            rotate_left
            · simp only [Act.put, List.setIfInBounds_toArray, List.set_cons_zero, List.set_cons_succ, i64_w, i32_w]
              rfl
            refine pure_ (i := 20) (N := some 80) (v := ?_) (a' := ?_) #[true, true, true, true, true, true, true, true, true, true, true, true, true, true, true, true, true, true, true, false, true, false, false, false, false, false, false, false, false, false] rfl rfl (any_of HT_.out (by kernel_rfl)) (fun _ _ _ h => h) (Or.inl ⟨by rfl, ?_⟩) ?_ ?_
            rotate_left
            · intro w'
              go_simp
              with_reducible rfl
            rotate_left
            · simp only [Act.put, List.setIfInBounds_toArray, List.set_cons_zero, List.set_cons_succ, i64_w, i32_w]
              rfl
            refine take_ (i := 21) (N := some 81) (v := ?_) (a' := ?_) #[true, true, true, true, true, true, true, true, true, true, true, true, true, true, true, true, true, true, true, false, true, true, false, false, false, false, false, false, false, false] rfl rfl (take_ofW HT_.out HW_.out (by kernel_rfl)) (fun _ _ _ h => h) (Or.inl ⟨by rfl, ?_⟩) hHeld ?_ ?_
            rotate_left
            · rintro w' ⟨s0, s1, s2⟩
              go_simp
              with_reducible rfl
            rotate_left
            · simp only [Act.put, List.setIfInBounds_toArray, List.set_cons_zero, List.set_cons_succ, i64_w, i32_w]
              rfl
            refine one_ (i := 19) (N := some 79) #[true, true, true, true, true, true, true, true, true, true, true, true, true, true, true, true, true, true, true, true, true, true, false, false, false, false, false, false, false, false] rfl rfl (one_of HT_.out (by kernel_rfl)) (by decide) (fun K hK => ?_)
            refine goes_ Try.func12 (by kernel_rfl) rfl #[.pointer (some ⟨g, 0, none⟩)] (by rfl) rfl rfl (by (try simp only [List.map_toArray, List.map_cons, List.map_nil]); first | done | rfl) ?_
            refine (qOver.calls_ w.heap.size g c cap l4 true _ Q.out true OV.out).mono ?_
            rintro e w5 ⟨rfl, rfl⟩
            refine ⟨_, rfl, ?_⟩
            skip
            refine hK.out _ _ ⟨i0, i1, i2⟩ (fun hHeld => ?_)
            clear hK K
            refine norm_ (a' := ?_) ?_ ?_
            rotate_left
            · show Act.put _ (some 79) _ = _
              simp only [Act.put, List.setIfInBounds_toArray, List.set_cons_zero, List.set_cons_succ, i64_w, i32_w]
              rfl
            refine pure_ (i := 22) (N := some 82) (v := ?_) (a' := ?_) #[true, true, true, true, true, true, true, true, true, true, true, true, true, true, true, true, true, true, true, true, true, true, true, false, false, false, false, false, false, false] rfl rfl (any_of HT_.out (by kernel_rfl)) (fun _ _ _ h => h) (Or.inl ⟨by rfl, ?_⟩) ?_ ?_
            rotate_left
            · intro w'
              go_simp
              with_reducible rfl
            rotate_left
            · simp only [Act.put, List.setIfInBounds_toArray, List.set_cons_zero, List.set_cons_succ, i64_w, i32_w]
              rfl
            refine pure_ (i := 23) (N := some 83) (v := ?_) (a' := ?_) #[true, true, true, true, true, true, true, true, true, true, true, true, true, true, true, true, true, true, true, true, true, true, true, true, false, false, false, false, false, false] rfl rfl (any_of HT_.out (by kernel_rfl)) (fun _ _ _ h => h) (Or.inl ⟨by rfl, ?_⟩) ?_ ?_
            rotate_left
            · intro w'
              go_simp
              with_reducible rfl
            rotate_left
            · simp only [Act.put, List.setIfInBounds_toArray, List.set_cons_zero, List.set_cons_succ, i64_w, i32_w]
              rfl
            refine take_ (i := 24) (N := some 84) (v := ?_) (a' := ?_) #[true, true, true, true, true, true, true, true, true, true, true, true, true, true, true, true, true, true, true, true, true, true, true, true, true, false, false, false, false, false] rfl rfl (take_ofW HT_.out HW_.out (by kernel_rfl)) (fun _ _ _ h => h) (Or.inl ⟨by rfl, ?_⟩) hHeld ?_ ?_
            rotate_left
            · rintro w' ⟨s0, s1, s2⟩
              go_simp
              with_reducible rfl
            rotate_left
            · simp only [Act.put, List.setIfInBounds_toArray, List.set_cons_zero, List.set_cons_succ, i64_w, i32_w]
              rfl
            refine pure_ (i := 25) (N := some 85) (v := ?_) (a' := ?_) #[true, true, true, true, true, true, true, true, true, true, true, true, true, true, true, true, true, true, true, true, true, true, true, true, true, true, false, false, false, false] rfl rfl (any_of HT_.out (by kernel_rfl)) (fun _ _ _ h => h) (Or.inl ⟨by rfl, ?_⟩) ?_ ?_
            rotate_left
            · intro w'
              go_simp
              with_reducible rfl
            rotate_left
            · simp only [Act.put, List.setIfInBounds_toArray, List.set_cons_zero, List.set_cons_succ, i64_w, i32_w]
              rfl
            refine pure_ (i := 26) (N := some 86) (v := ?_) (a' := ?_) #[true, true, true, true, true, true, true, true, true, true, true, true, true, true, true, true, true, true, true, true, true, true, true, true, true, true, true, false, false, false] rfl rfl (any_of HT_.out (by kernel_rfl)) (fun _ _ _ h => h) (Or.inl ⟨by rfl, ?_⟩) ?_ ?_
            rotate_left
            · intro w'
              go_simp
              with_reducible rfl
            rotate_left
            · simp only [Act.put, List.setIfInBounds_toArray, List.set_cons_zero, List.set_cons_succ, i64_w, i32_w]
              rfl
            refine pure_ (i := 27) (N := some 87) (v := ?_) (a' := ?_) #[true, true, true, true, true, true, true, true, true, true, true, true, true, true, true, true, true, true, true, true, true, true, true, true, true, true, true, true, false, false] rfl rfl (any_of HT_.out (by kernel_rfl)) (fun _ _ _ h => h) (Or.inl ⟨by rfl, ?_⟩) ?_ ?_
            rotate_left
            · intro w'
              go_simp
              with_reducible rfl
            rotate_left
            · simp only [Act.put, List.setIfInBounds_toArray, List.set_cons_zero, List.set_cons_succ, i64_w, i32_w]
              rfl
            refine pure_ (i := 28) (N := some 88) (v := ?_) (a' := ?_) #[true, true, true, true, true, true, true, true, true, true, true, true, true, true, true, true, true, true, true, true, true, true, true, true, true, true, true, true, true, false] rfl rfl (any_of HT_.out (by kernel_rfl)) (fun _ _ _ h => h) (Or.inl ⟨by rfl, ?_⟩) ?_ ?_
            rotate_left
            · intro w'
              go_simp
              with_reducible rfl
            rotate_left
            · simp only [Act.put, List.setIfInBounds_toArray, List.set_cons_zero, List.set_cons_succ, i64_w, i32_w]
              rfl
            refine pure_ (i := 29) (N := some 89) (v := ?_) (a' := ?_) #[true, true, true, true, true, true, true, true, true, true, true, true, true, true, true, true, true, true, true, true, true, true, true, true, true, true, true, true, true, true] rfl rfl (any_of HT_.out (by kernel_rfl)) (fun _ _ _ h => h) (Or.inl ⟨by rfl, ?_⟩) ?_ ?_
            rotate_left
            · intro w'
              go_simp
              with_reducible rfl
            rotate_left
            · simp only [Act.put, List.setIfInBounds_toArray, List.set_cons_zero, List.set_cons_succ, i64_w, i32_w]
              rfl
            refine done_ (done_of HT_.out (by kernel_rfl)) ?_
            go_wp2_with fail
            exact ⟨⟨j + 1, A4, c4, l4, true, by omega, by go_num, ⟨by rw [HN.out]; exact K7.out⟩, Q, RR, HC4, HL4, B⟩, by simp [intOf]; omega⟩
          · have hz : ((n : Int) == 0) = false := beq_false_of_ne (by omega)
            have OV : Aside0 ((true && decide (l4.length = 0)) = false) := ⟨by rw [HN.out]; simp [h0]⟩
            clear h0
            refine start_ (n := 30) (S := (fun w' => w'.cell? ⟨b7, 0, none⟩ = some (.slice A4 n c4) ∧ w'.cell? ⟨b7, 1, none⟩ = some (.int .i64 (cap : Int)) ∧ w'.cell? ⟨b7, 2, none⟩ = some (.bool true))) (ds := []) #[false, false, false, false, false, false, false, false, false, false, false, false, false, false, false, false, false, false, false, false, false, false, false, false, false, false, false, false, false, false] (by kernel_rfl) rfl rfl ⟨i0, i1, i2⟩ (fun hHeld => ?_); refine with_tabW playsR14.tab playsR14.bits (fun HT_ HW_ => ?_)
            have hb := below_drew1 (Below.refl wy.heap.size wy)
            have QN := Aside0.mk (Q.out.below hb)
            have RRN := Aside0.mk (RR.out.below hb)
            have K7N := Aside0.mk (blk_below K7.out hb)
            have BN := Aside0.mk (below_step B.out hb)
            clear Q RR K7 B hb
            clear i0 i1 i2 u0 u1 u2
            have Q := QN; have RR := RRN; have K7 := K7N; have B := BN
            clear QN RRN K7N BN
            generalize wy.drew = w4 at Q RR K7 B hHeld ⊢
            obtain ⟨⟨i0, i1, i2⟩, u0, u1, u2⟩ := cell3 K7.out
            refine pure_ (i := 0) (N := some 60) (v := ?_) (a' := ?_) #[true, false, false, false, false, false, false, false, false, false, false, false, false, false, false, false, false, false, false, false, false, false, false, false, false, false, false, false, false, false] rfl rfl (any_of HT_.out (by kernel_rfl)) (fun _ _ _ h => h) (Or.inl ⟨by rfl, ?_⟩) ?_ ?_
            rotate_left
            · intro w'
              go_simp
              with_reducible rfl
            rotate_left
            · simp only [Act.put, List.setIfInBounds_toArray, List.set_cons_zero, List.set_cons_succ, i64_w, i32_w]
              rfl
            refine pure_ (i := 1) (N := some 61) (v := ?_) (a' := ?_) #[true, true, false, false, false, false, false, false, false, false, false, false, false, false, false, false, false, false, false, false, false, false, false, false, false, false, false, false, false, false] rfl rfl (any_of HT_.out (by kernel_rfl)) (fun _ _ _ h => h) (Or.inl ⟨by rfl, ?_⟩) ?_ ?_
            rotate_left
            · intro w'
              go_simp
              with_reducible rfl
            rotate_left
            · simp only [Act.put, List.setIfInBounds_toArray, List.set_cons_zero, List.set_cons_succ, i64_w, i32_w]
              rfl
            refine pure_ (i := 2) (N := some 62) (v := ?_) (a' := ?_) #[true, true, true, false, false, false, false, false, false, false, false, false, false, false, false, false, false, false, false, false, false, false, false, false, false, false, false, false, false, false] rfl rfl (any_of HT_.out (by kernel_rfl)) (fun _ _ _ h => h) (Or.inl ⟨by rfl, ?_⟩) ?_ ?_
            rotate_left
            · intro w'
              go_simp
              with_reducible rfl
            rotate_left
            · simp only [Act.put, List.setIfInBounds_toArray, List.set_cons_zero, List.set_cons_succ, i64_w, i32_w]
              rfl
            refine pure_ (i := 3) (N := some 63) (v := ?_) (a' := ?_) #[true, true, true, true, false, false, false, false, false, false, false, false, false, false, false, false, false, false, false, false, false, false, false, false, false, false, false, false, false, false] rfl rfl (any_of HT_.out (by kernel_rfl)) (fun _ _ _ h => h) (Or.inl ⟨by rfl, ?_⟩) ?_ ?_
            rotate_left
            · intro w'
              go_simp
              with_reducible rfl
            rotate_left
            · simp only [Act.put, List.setIfInBounds_toArray, List.set_cons_zero, List.set_cons_succ, i64_w, i32_w]
              rfl
            refine pure_ (i := 5) (N := some 65) (v := ?_) (a' := ?_) #[true, true, true, true, false, true, false, false, false, false, false, false, false, false, false, false, false, false, false, false, false, false, false, false, false, false, false, false, false, false] rfl rfl (any_of HT_.out (by kernel_rfl)) (fun _ _ _ h => h) (Or.inl ⟨by rfl, ?_⟩) ?_ ?_
            rotate_left
            · intro w'
              go_simp
              with_reducible rfl
            rotate_left
            · simp only [Act.put, List.setIfInBounds_toArray, List.set_cons_zero, List.set_cons_succ, i64_w, i32_w]
              rfl
            refine take_ (i := 6) (N := some 66) (v := ?_) (a' := ?_) #[true, true, true, true, false, true, true, false, false, false, false, false, false, false, false, false, false, false, false, false, false, false, false, false, false, false, false, false, false, false] rfl rfl (take_ofW HT_.out HW_.out (by kernel_rfl)) (fun _ _ _ h => h) (Or.inl ⟨by rfl, ?_⟩) hHeld ?_ ?_
            rotate_left
            · rintro w' ⟨s0, s1, s2⟩
              go_simp
              with_reducible rfl
            rotate_left
            · simp only [Act.put, List.setIfInBounds_toArray, List.set_cons_zero, List.set_cons_succ, i64_w, i32_w]
              rfl
            refine pure_ (i := 7) (N := some 67) (v := ?_) (a' := ?_) #[true, true, true, true, false, true, true, true, false, false, false, false, false, false, false, false, false, false, false, false, false, false, false, false, false, false, false, false, false, false] rfl rfl (any_of HT_.out (by kernel_rfl)) (fun _ _ _ h => h) (Or.inl ⟨by rfl, ?_⟩) ?_ ?_
            rotate_left
            · intro w'
              go_simp
              with_reducible rfl
            rotate_left
            · simp only [Act.put, List.setIfInBounds_toArray, List.set_cons_zero, List.set_cons_succ, i64_w, i32_w]
              rfl
            refine one_ (i := 4) (N := some 64) #[true, true, true, true, true, true, true, true, false, false, false, false, false, false, false, false, false, false, false, false, false, false, false, false, false, false, false, false, false, false] rfl rfl (one_of HT_.out (by kernel_rfl)) (by decide) (fun K hK => ?_)
            refine goes_ Try.func9 (by kernel_rfl) rfl #[.pointer (some ⟨g, 0, none⟩)] (by rfl) rfl rfl (by (try simp only [List.map_toArray, List.map_cons, List.map_nil]); first | done | rfl) ?_
            refine (qLen.calls_ w.heap.size g c cap l4 true _ Q.out n HN.out).mono ?_
            rintro e w5 ⟨rfl, rfl⟩
            refine ⟨_, rfl, ?_⟩
            skip
            refine hK.out _ _ ⟨i0, i1, i2⟩ (fun hHeld => ?_)
            clear hK K
            refine norm_ (a' := ?_) ?_ ?_
            rotate_left
            · show Act.put _ (some 64) _ = _
              simp only [Act.put, List.setIfInBounds_toArray, List.set_cons_zero, List.set_cons_succ, i64_w, i32_w]
              rfl
            refine pure_ (i := 8) (N := some 68) (v := ?_) (a' := ?_) #[true, true, true, true, true, true, true, true, true, false, false, false, false, false, false, false, false, false, false, false, false, false, false, false, false, false, false, false, false, false] rfl rfl (any_of HT_.out (by kernel_rfl)) (fun _ _ _ h => h) (Or.inl ⟨by rfl, ?_⟩) ?_ ?_
            rotate_left
            · intro w'
              go_simp
              with_reducible rfl
            rotate_left
            · simp only [Act.put, List.setIfInBounds_toArray, List.set_cons_zero, List.set_cons_succ, i64_w, i32_w]
              rfl
            refine pure_ (i := 9) (N := some 69) (v := ?_) (a' := ?_) #[true, true, true, true, true, true, true, true, true, true, false, false, false, false, false, false, false, false, false, false, false, false, false, false, false, false, false, false, false, false] rfl rfl (any_of HT_.out (by kernel_rfl)) (fun _ _ _ h => h) (Or.inl ⟨by rfl, ?_⟩) ?_ ?_
            rotate_left
            · intro w'
              go_simp
              with_reducible rfl
            rotate_left
            · simp only [Act.put, List.setIfInBounds_toArray, List.set_cons_zero, List.set_cons_succ, i64_w, i32_w]
              rfl
            refine pure_ (i := 10) (N := some 70) (v := ?_) (a' := ?_) #[true, true, true, true, true, true, true, true, true, true, true, false, false, false, false, false, false, false, false, false, false, false, false, false, false, false, false, false, false, false] rfl rfl (any_of HT_.out (by kernel_rfl)) (fun _ _ _ h => h) (Or.inl ⟨by rfl, ?_⟩) ?_ ?_
            rotate_left
            · intro w'
              go_simp
              with_reducible rfl
            rotate_left
            · simp only [Act.put, List.setIfInBounds_toArray, List.set_cons_zero, List.set_cons_succ, i64_w, i32_w]
              rfl
            refine pure_ (i := 11) (N := some 71) (v := ?_) (a' := ?_) #[true, true, true, true, true, true, true, true, true, true, true, true, false, false, false, false, false, false, false, false, false, false, false, false, false, false, false, false, false, false] rfl rfl (any_of HT_.out (by kernel_rfl)) (fun _ _ _ h => h) (Or.inl ⟨by rfl, ?_⟩) ?_ ?_
            rotate_left
            · intro w'
              go_simp
              with_reducible rfl
            rotate_left
            · simp only [Act.put, List.setIfInBounds_toArray, List.set_cons_zero, List.set_cons_succ, i64_w, i32_w]
              rfl
            refine take_ (i := 13) (N := some 73) (v := ?_) (a' := ?_) #[true, true, true, true, true, true, true, true, true, true, true, true, false, true, false, false, false, false, false, false, false, false, false, false, false, false, false, false, false, false] rfl rfl (take_ofW HT_.out HW_.out (by kernel_rfl)) (fun _ _ _ h => h) (Or.inl ⟨by rfl, ?_⟩) hHeld ?_ ?_
            rotate_left
            · rintro w' ⟨s0, s1, s2⟩
              go_simp
              with_reducible rfl
            rotate_left
            · simp only [Act.put, List.setIfInBounds_toArray, List.set_cons_zero, List.set_cons_succ, i64_w, i32_w]
              rfl
            refine one_ (i := 12) (N := some 72) #[true, true, true, true, true, true, true, true, true, true, true, true, true, true, false, false, false, false, false, false, false, false, false, false, false, false, false, false, false, false] rfl rfl (one_of HT_.out (by kernel_rfl)) (by decide) (fun K hK => ?_)
            refine goes_ Try.func10 (by kernel_rfl) rfl #[.pointer (some ⟨g, 0, none⟩)] (by rfl) rfl rfl (by (try simp only [List.map_toArray, List.map_cons, List.map_nil]); first | done | rfl) ?_
            refine (qRoom.calls_ w.heap.size g c cap l4 true _ Q.out HL4.out HCAP.out r RM.out).mono ?_
            rintro e w6 ⟨rfl, hb⟩
            refine ⟨_, rfl, ?_⟩
            have QN := Aside0.mk (Q.out.below hb)
            have RRN := Aside0.mk (RR.out.below hb)
            have K7N := Aside0.mk (blk_below K7.out hb)
            have BN := Aside0.mk (below_step B.out hb)
            clear Q RR K7 B hb
            clear i0 i1 i2 u0 u1 u2
            have Q := QN; have RR := RRN; have K7 := K7N; have B := BN
            clear QN RRN K7N BN
            obtain ⟨⟨i0, i1, i2⟩, u0, u1, u2⟩ := cell3 K7.out
            refine hK.out _ _ ⟨i0, i1, i2⟩ (fun hHeld => ?_)
            clear hK K
            refine norm_ (a' := ?_) ?_ ?_
            rotate_left
            · show Act.put _ (some 72) _ = _
              simp only [Act.put, List.setIfInBounds_toArray, List.set_cons_zero, List.set_cons_succ, i64_w, i32_w]
              rfl
            refine one_ (i := 14) (N := some 74) #[true, true, true, true, true, true, true, true, true, true, true, true, true, true, true, false, false, false, false, false, false, false, false, false, false, false, false, false, false, false] rfl rfl (one_of HT_.out (by kernel_rfl)) (by decide) (fun K hK => ?_)
            refine goes_ Try.func11 (by kernel_rfl) rfl #[.agg #[.slice A4 n c4, .int .i64 (cap : Int), .bool true]] (by rfl) rfl rfl (by (try simp only [List.map_toArray, List.map_cons, List.map_nil]); first | done | rfl) ?_
            refine (rRoomN A4 c4 l4 n HN.out cap true _ RR.out.now HC4.out HL4.out HCAP.out r RM.out).mono ?_
            rintro e w6 ⟨rfl, hb⟩
            refine ⟨_, rfl, ?_⟩
            have QN := Aside0.mk (Q.out.below hb)
            have RRN := Aside0.mk (RR.out.below hb)
            have K7N := Aside0.mk (blk_below K7.out hb)
            have BN := Aside0.mk (below_step B.out hb)
            clear Q RR K7 B hb
            clear i0 i1 i2 u0 u1 u2
            have Q := QN; have RR := RRN; have K7 := K7N; have B := BN
            clear QN RRN K7N BN
            obtain ⟨⟨i0, i1, i2⟩, u0, u1, u2⟩ := cell3 K7.out
            refine hK.out _ _ ⟨i0, i1, i2⟩ (fun hHeld => ?_)
            clear hK K
            refine norm_ (a' := ?_) ?_ ?_
            rotate_left
            · show Act.put _ (some 74) _ = _
              simp only [Act.put, List.setIfInBounds_toArray, List.set_cons_zero, List.set_cons_succ, i64_w, i32_w]
              rfl
            refine pure_ (i := 15) (N := some 75) (v := ?_) (a' := ?_) #[true, true, true, true, true, true, true, true, true, true, true, true, true, true, true, true, false, false, false, false, false, false, false, false, false, false, false, false, false, false] rfl rfl (any_of HT_.out (by kernel_rfl)) (fun _ _ _ h => h) (Or.inl ⟨by rfl, ?_⟩) ?_ ?_
            rotate_left
            · intro w'
              go_simp
              with_reducible rfl
            rotate_left
            · simp only [Act.put, List.setIfInBounds_toArray, List.set_cons_zero, List.set_cons_succ, i64_w, i32_w]
              rfl
            refine pure_ (i := 16) (N := some 76) (v := ?_) (a' := ?_) #[true, true, true, true, true, true, true, true, true, true, true, true, true, true, true, true, true, false, false, false, false, false, false, false, false, false, false, false, false, false] rfl rfl (any_of HT_.out (by kernel_rfl)) (fun _ _ _ h => h) (Or.inl ⟨by rfl, ?_⟩) ?_ ?_
            rotate_left
            · intro w'
              go_simp
              with_reducible rfl
            rotate_left
            · simp only [Act.put, List.setIfInBounds_toArray, List.set_cons_zero, List.set_cons_succ, i64_w, i32_w]
              rfl
            refine pure_ (i := 17) (N := some 77) (v := ?_) (a' := ?_) #[true, true, true, true, true, true, true, true, true, true, true, true, true, true, true, true, true, true, false, false, false, false, false, false, false, false, false, false, false, false] rfl rfl (any_of HT_.out (by kernel_rfl)) (fun _ _ _ h => h) (Or.inl ⟨by rfl, ?_⟩) ?_ ?_
            rotate_left
            · intro w'
              go_simp
              with_reducible rfl
            rotate_left
            · simp only [Act.put, List.setIfInBounds_toArray, List.set_cons_zero, List.set_cons_succ, i64_w, i32_w]
              rfl
            refine pure_ (i := 18) (N := some 78) (v := ?_) (a' := ?_) #[true, true, true, true, true, true, true, true, true, true, true, true, true, true, true, true, true, true, true, false, false, false, false, false, false, false, false, false, false, false] rfl rfl (any_of HT_.out (by kernel_rfl)) (fun _ _ _ h => h) (Or.inl ⟨by rfl, ?_⟩) ?_ ?_
            rotate_left
            · intro w'
              go_simp
              with_reducible rfl
            rotate_left
            · simp only [Act.put, List.setIfInBounds_toArray, List.set_cons_zero, List.set_cons_succ, i64_w, i32_w]
              rfl
            refine pure_ (i := 20) (N := some 80) (v := ?_) (a' := ?_) #[true, true, true, true, true, true, true, true, true, true, true, true, true, true, true, true, true, true, true, false, true, false, false, false, false, false, false, false, false, false] rfl rfl (any_of HT_.out (by kernel_rfl)) (fun _ _ _ h => h) (Or.inl ⟨by rfl, ?_⟩) ?_ ?_
            rotate_left
            · intro w'
              go_simp
              with_reducible rfl
            rotate_left
            · simp only [Act.put, List.setIfInBounds_toArray, List.set_cons_zero, List.set_cons_succ, i64_w, i32_w]
              rfl
            refine take_ (i := 21) (N := some 81) (v := ?_) (a' := ?_) #[true, true, true, true, true, true, true, true, true, true, true, true, true, true, true, true, true, true, true, false, true, true, false, false, false, false, false, false, false, false] rfl rfl (take_ofW HT_.out HW_.out (by kernel_rfl)) (fun _ _ _ h => h) (Or.inl ⟨by rfl, ?_⟩) hHeld ?_ ?_
            rotate_left
            · rintro w' ⟨s0, s1, s2⟩
              go_simp
              with_reducible rfl
            rotate_left
            · simp only [Act.put, List.setIfInBounds_toArray, List.set_cons_zero, List.set_cons_succ, i64_w, i32_w]
              rfl
            refine one_ (i := 19) (N := some 79) #[true, true, true, true, true, true, true, true, true, true, true, true, true, true, true, true, true, true, true, true, true, true, false, false, false, false, false, false, false, false] rfl rfl (one_of HT_.out (by kernel_rfl)) (by decide) (fun K hK => ?_)
            refine goes_ Try.func12 (by kernel_rfl) rfl #[.pointer (some ⟨g, 0, none⟩)] (by rfl) rfl rfl (by (try simp only [List.map_toArray, List.map_cons, List.map_nil]); first | done | rfl) ?_
            refine (qOver.calls_ w.heap.size g c cap l4 true _ Q.out false OV.out).mono ?_
            rintro e w5 ⟨rfl, rfl⟩
            refine ⟨_, rfl, ?_⟩
            skip
            refine hK.out _ _ ⟨i0, i1, i2⟩ (fun hHeld => ?_)
            clear hK K
            refine norm_ (a' := ?_) ?_ ?_
            rotate_left
            · show Act.put _ (some 79) _ = _
              simp only [Act.put, List.setIfInBounds_toArray, List.set_cons_zero, List.set_cons_succ, i64_w, i32_w]
              rfl
            refine pure_ (i := 22) (N := some 82) (v := ?_) (a' := ?_) #[true, true, true, true, true, true, true, true, true, true, true, true, true, true, true, true, true, true, true, true, true, true, true, false, false, false, false, false, false, false] rfl rfl (any_of HT_.out (by kernel_rfl)) (fun _ _ _ h => h) (Or.inl ⟨by rfl, ?_⟩) ?_ ?_
            rotate_left
            · intro w'
              go_simp
              with_reducible rfl
            rotate_left
            · simp only [Act.put, List.setIfInBounds_toArray, List.set_cons_zero, List.set_cons_succ, i64_w, i32_w]
              rfl
            refine pure_ (i := 23) (N := some 83) (v := ?_) (a' := ?_) #[true, true, true, true, true, true, true, true, true, true, true, true, true, true, true, true, true, true, true, true, true, true, true, true, false, false, false, false, false, false] rfl rfl (any_of HT_.out (by kernel_rfl)) (fun _ _ _ h => h) (Or.inl ⟨by rfl, ?_⟩) ?_ ?_
            rotate_left
            · intro w'
              go_simp
              with_reducible rfl
            rotate_left
            · simp only [Act.put, List.setIfInBounds_toArray, List.set_cons_zero, List.set_cons_succ, i64_w, i32_w]
              rfl
            refine take_ (i := 24) (N := some 84) (v := ?_) (a' := ?_) #[true, true, true, true, true, true, true, true, true, true, true, true, true, true, true, true, true, true, true, true, true, true, true, true, true, false, false, false, false, false] rfl rfl (take_ofW HT_.out HW_.out (by kernel_rfl)) (fun _ _ _ h => h) (Or.inl ⟨by rfl, ?_⟩) hHeld ?_ ?_
            rotate_left
            · rintro w' ⟨s0, s1, s2⟩
              go_simp
              with_reducible rfl
            rotate_left
            · simp only [Act.put, List.setIfInBounds_toArray, List.set_cons_zero, List.set_cons_succ, i64_w, i32_w]
              rfl
            refine pure_ (i := 25) (N := some 85) (v := ?_) (a' := ?_) #[true, true, true, true, true, true, true, true, true, true, true, true, true, true, true, true, true, true, true, true, true, true, true, true, true, true, false, false, false, false] rfl rfl (any_of HT_.out (by kernel_rfl)) (fun _ _ _ h => h) (Or.inl ⟨by rfl, ?_⟩) ?_ ?_
            rotate_left
            · intro w'
              go_simp
              with_reducible rfl
            rotate_left
            · simp only [Act.put, List.setIfInBounds_toArray, List.set_cons_zero, List.set_cons_succ, i64_w, i32_w]
              rfl
            refine pure_ (i := 26) (N := some 86) (v := ?_) (a' := ?_) #[true, true, true, true, true, true, true, true, true, true, true, true, true, true, true, true, true, true, true, true, true, true, true, true, true, true, true, false, false, false] rfl rfl (any_of HT_.out (by kernel_rfl)) (fun _ _ _ h => h) (Or.inl ⟨by rfl, ?_⟩) ?_ ?_
            rotate_left
            · intro w'
              go_simp
              with_reducible rfl
            rotate_left
            · simp only [Act.put, List.setIfInBounds_toArray, List.set_cons_zero, List.set_cons_succ, i64_w, i32_w]
              rfl
            refine pure_ (i := 27) (N := some 87) (v := ?_) (a' := ?_) #[true, true, true, true, true, true, true, true, true, true, true, true, true, true, true, true, true, true, true, true, true, true, true, true, true, true, true, true, false, false] rfl rfl (any_of HT_.out (by kernel_rfl)) (fun _ _ _ h => h) (Or.inl ⟨by rfl, ?_⟩) ?_ ?_
            rotate_left
            · intro w'
              go_simp
              with_reducible rfl
            rotate_left
            · simp only [Act.put, List.setIfInBounds_toArray, List.set_cons_zero, List.set_cons_succ, i64_w, i32_w]
              rfl
            refine pure_ (i := 28) (N := some 88) (v := ?_) (a' := ?_) #[true, true, true, true, true, true, true, true, true, true, true, true, true, true, true, true, true, true, true, true, true, true, true, true, true, true, true, true, true, false] rfl rfl (any_of HT_.out (by kernel_rfl)) (fun _ _ _ h => h) (Or.inl ⟨by rfl, ?_⟩) ?_ ?_
            rotate_left
            · intro w'
              go_simp
              with_reducible rfl
            rotate_left
            · simp only [Act.put, List.setIfInBounds_toArray, List.set_cons_zero, List.set_cons_succ, i64_w, i32_w]
              rfl
            refine pure_ (i := 29) (N := some 89) (v := ?_) (a' := ?_) #[true, true, true, true, true, true, true, true, true, true, true, true, true, true, true, true, true, true, true, true, true, true, true, true, true, true, true, true, true, true] rfl rfl (any_of HT_.out (by kernel_rfl)) (fun _ _ _ h => h) (Or.inl ⟨by rfl, ?_⟩) ?_ ?_
            rotate_left
            · intro w'
              go_simp
              with_reducible rfl
            rotate_left
            · simp only [Act.put, List.setIfInBounds_toArray, List.set_cons_zero, List.set_cons_succ, i64_w, i32_w]
              rfl
            refine done_ (done_of HT_.out (by kernel_rfl)) ?_
            go_wp2_with fail
            exact ⟨⟨j + 1, A4, c4, l4, true, by omega, by go_num, ⟨by rw [HN.out]; exact K7.out⟩, Q, RR, HC4, HL4, B⟩, by simp [intOf]; omega⟩
    · have hjj : j = l.length := by omega
      subst hjj
      go_wp2_with (first | (go_at_call 6; (refine (juratlaw33_awake.calls_ _).mono ?_); rintro e w9 ⟨rfl, hb⟩; have BE := Aside0.mk (below_step B.out hb); clear hb) | fail)
      go_ret
      exact ⟨rfl, BE.out⟩
/-- QueuePlays returns true. -/
theorem juratlaw33_QueuePlays.holds (size : Int) (l : List S36) (L : Option Addr) (cl : Nat) (w : World) (hC : Kd.C k36 w L l.length l) (hcl : l.length ≤ cl) (gs : (Lit.int .i64 size).wf = true) (gl : l.length ≤ maxLen ∧ ∀ x ∈ l, good36 x) :
    Calls Try.prog 3 #[.int .i64 size, .slice L l.length cl] w fun e w' => e = .returned (.bool true) ∧ Below w.heap.size w w' := by
  by_cases hl : (l.length : Int) > 30
  · exact plays_many size l L cl w hl
  · by_cases hs : size < 1 ∨ 4096 < size
    · exact plays_bad size l L cl w hl hs
    · obtain ⟨cap, rfl⟩ := Int.eq_ofNat_of_zero_le (show 0 ≤ size by omega)
      exact plays_main cap l L cl w hC hcl hl (by omega) (by omega)
end Go.Proofs.Ytphmeljhfbahoaa.PQ
