/- Reference 31: Next: what it does. -/
import Derived.Test.YtejcopppchaneaaRNext
import Derived.Test.YtejcopppchaneaaLRTake
import Derived.Test.YtejcopppchaneaaLRTwo
import Derived.Test.YtejcopppchaneaaWNEv
set_option linter.unusedVariables false
set_option linter.unusedSimpArgs false
namespace Go.Proofs.Ytejcopppchaneaa.PF
open Go.RowKit Go.Proofs.YtejcopppchaneaaW.PrintWords Go.Proofs.YtejcopppchaneaaW.PrintLast Go.Proofs.YtejcopppchaneaaW.PrintMore Go.Proofs.Ytejcopppchaneaa.Pure
structure RS where
  R : List S30
  rest : ByteArray
  closed : Bool
  e : Int
def rbad (R : List S30) (x : S30) : Bool := (twoS (lastOf R) x).2.2.2.2 || ((x.f0 == 5) && ((R.length == 0) || ((lastOf R).f0 == 5)))
def rStep (bad : Bool) (s : RS) (q : RT) : RS × Bool := if bad = true then ({ s with e := 9 }, false) else (⟨s.R ++ [xOf q], s.rest.extract q.2.2.2.2.1.toNat s.rest.size, s.closed, s.e⟩, true)
def rNextS (s : RS) : RS × Bool :=
  if s.e ≠ 0 then (s, false)
  else if (lastOf s.R).f0 = 6 then (if s.rest.size = 0 then (s, false) else ({ s with e := 20 }, false))
  else if ((rt s.rest).2.2.2.2.2 == 4 && !s.closed) = true then (s, false)
  else if (rt s.rest).2.2.2.2.2 ≠ 0 then ({ s with e := (rt s.rest).2.2.2.2.2 }, false)
  else rStep (rbad s.R (xOf (rt s.rest))) s (rt s.rest)
def NextPost (w : World) (ok : Nat → Prop) (p : RS × Bool) (e : Ending) (w' : World) : Prop :=
  ∃ v : Value, e = .returned (.tuple #[.agg #[v, .string p.1.rest, .bool p.1.closed, .int .i64 p.1.e], .bool p.2]) ∧ (∃ A' c', v = .slice A' p.1.R.length c' ∧ p.1.R.length ≤ c' ∧ Kd.F k30 w' (fun k => ok k ∨ w.heap.size ≤ k) A' p.1.R.length p.1.R) ∧ Below w.heap.size w w' 
def rnextR12.T : Bool × List (List Nat × List Nat) := (true, [([], []), ([0], [0]), ([], []), ([1, 2, 1], [1, 2]), ([3], [3]), ([4], [4]), ([4], [4]), ([], []), ([7, 5, 3, 0, 1, 2, 3, 4, 5, 7], [5, 7]), ([6, 8, 0, 1, 2, 3, 4, 5, 6, 7, 8], [6])])
def rnextR12.B : List Nat := [0, 1, 0, 7, 15, 31, 31, 0, 191, 511]
theorem rnextR12.tab : rtab .any (opsOf Try.f21 12) = rnextR12.T := by kernel_rfl
theorem rnextR12.bits : waitsOk rnextR12.T.2 rnextR12.B = true := by kernel_rfl
set_option maxHeartbeats 32000000 in
set_option maxRecDepth 100000 in
theorem rNext.calls_ (A : Option Addr) (c : Nat) (R : List S30) (rest : ByteArray) (closed : Bool) (e0 : Int) (ok : Nat → Prop) (p : RS × Bool) (w : World) (hF : Kd.F k30 w ok A R.length R) (hc : R.length ≤ c) (hl : R.length ≤ 900) (hz : rest.size ≤ 900) (hok : okR (lastOf R)) (hp : rNextS ⟨R, rest, closed, e0⟩ = p) :
    Calls Try.prog 21 #[.agg #[.slice A R.length c, .string rest, .bool closed, .int .i64 e0]] w (NextPost w ok p) := by
  have hu45 := Try.underlying45
  have hu30 := Try.underlying30
  have HF := Aside0.mk hF
  have HCC := Aside0.mk hc
  have HL := Aside0.mk (show R.length ≤ 1000 by omega)
  have HZ := Aside0.mk hz
  have HOK := Aside0.mk hok
  have HP := Aside0.mk hp
  clear hF hc hl hz hok hp
  go_enter Try.func21, Try.ntmps21
  go_upto_region 1 with (first | ((with_reducible refine gate_dst (N := 1) rfl ?_); refine box_event ?hg (N := 1) ?hd (cs := #[.slice A R.length c, .string rest, .bool closed, .int .i64 e0]) (t := 45) ?hr ?_; (case hd => rfl); (case hg => rfl); (case hr => first | (go_simp; done) | (go_simp; rfl)); intro g1 hg_ w1 hbox hb; have G1 := Aside0.mk (show w.heap.size ≤ g1 by omega); clear hg_; have X := Aside0.mk hbox; have B := Aside0.mk hb; clear hbox hb; skip) | ((with_reducible refine gate_dst (N := 2) rfl ?_); refine box_event ?hg (N := 2) ?hd (cs := #[.slice none 0 0, .string ⟨#[]⟩, .bool false, .int .i64 0]) (t := 45) ?hr ?_; (case hd => rfl); (case hg => rfl); (case hr => first | (go_simp; done) | (go_simp; rfl)); intro g2 hg_ w2 hbox hb; have G2 := Aside0.mk (show w.heap.size ≤ g2 by have := B.out.size; omega); have N2 := Aside0.mk (show g1 ≠ g2 by have := blk_lt X.out; omega); clear hg_; have XN := Aside0.mk (blk_below X.out hb); clear X; have X := XN; clear XN; have Y := Aside0.mk hbox; have BN := Aside0.mk (below_step B.out hb); clear B; have B := BN; clear BN; clear hbox hb; obtain ⟨⟨i0, i1, i2, i3⟩, u0, u1, u2, u3⟩ := cell4 X.out; obtain ⟨⟨k0, k1, k2, k3⟩, z0, z1, z2, z3⟩ := cell4 Y.out) | fail)
  by_cases he : e0 = 0
  · have b0 : (e0 != 0) = false := bne_eq_false_iff_eq.mpr he
    subst he
    by_cases h6 : (lastOf R).f0 = 6
    · have b6 : ((lastOf R).f0 == 6) = true := beq_iff_eq.mpr h6
      have B6 := Aside0.mk b6
      have hp := HP.out
      rw [rNextS, if_neg (by simp), if_pos h6] at hp
      by_cases hr : rest.size = 0
      · rw [if_pos hr] at hp
        subst hp
        have d1 : decide ((rest.size : Int) > 0) = false := decide_eq_false (by omega)
        have d2 : decide (0 < rest.size) = false := decide_eq_false (by omega)
        clear h6 b6 hr
        go_wp2_with (first | (go_at_call 22; (refine (rEnded.calls_ A c R rest closed 0 _ (Kd.C_below (Kd.F_now HF.out) B.out) HCC.out HL.out).mono ?_); rintro e w5 ⟨he5, hb⟩; rw [B6.out] at he5; subst he5; have XN := Aside0.mk (blk_below X.out hb); have YN := Aside0.mk (blk_below Y.out hb); have BN := Aside0.mk (below_step B.out hb); clear X Y B i0 i1 i2 i3 u0 u1 u2 u3 k0 k1 k2 k3 z0 z1 z2 z3; have X := XN; have Y := YN; have B := BN; clear XN YN BN; obtain ⟨⟨i0, i1, i2, i3⟩, u0, u1, u2, u3⟩ := cell4 X.out; obtain ⟨⟨k0, k1, k2, k3⟩, z0, z1, z2, z3⟩ := cell4 Y.out; clear hb) | fail)
        (try simp only [Exit.inBlock, Exit.then])
        (refine bodyPost_ret (results_ct rfl _ _ g2 45 #[.slice A R.length c, .string rest, .bool closed, .int .i64 0] (0, 0) _ rfl (by exact blk4_put Y.out) Try.underlying45 rfl (by kernel_rfl)) rfl ?_)
        exact ⟨_, rfl, ⟨A, c, rfl, HCC.out, Kd.F_mono (Kd.F_below HF.out (below4_put B.out G2.out)) (fun _ h => .inl h)⟩, below4_put B.out G2.out⟩
      · rw [if_neg hr] at hp
        subst hp
        have d1 : decide ((rest.size : Int) > 0) = true := decide_eq_true (by omega)
        have d2 : decide (0 < rest.size) = true := decide_eq_true (by omega)
        clear h6 b6 hr
        go_wp2_with (first | (go_at_call 22; (refine (rEnded.calls_ A c R rest closed 0 _ (Kd.C_below (Kd.F_now HF.out) B.out) HCC.out HL.out).mono ?_); rintro e w5 ⟨he5, hb⟩; rw [B6.out] at he5; subst he5; have XN := Aside0.mk (blk_below X.out hb); have YN := Aside0.mk (blk_below Y.out hb); have BN := Aside0.mk (below_step B.out hb); clear X Y B i0 i1 i2 i3 u0 u1 u2 u3 k0 k1 k2 k3 z0 z1 z2 z3; have X := XN; have Y := YN; have B := BN; clear XN YN BN; obtain ⟨⟨i0, i1, i2, i3⟩, u0, u1, u2, u3⟩ := cell4 X.out; obtain ⟨⟨k0, k1, k2, k3⟩, z0, z1, z2, z3⟩ := cell4 Y.out; clear hb) | (go_at_call 36; (refine (rfail.calls_ A c R rest _ _ _ 20).mono ?_); rintro e w5 ⟨rfl, hb⟩; have XN := Aside0.mk (blk_below X.out hb); have YN := Aside0.mk (blk_below Y.out hb); have BN := Aside0.mk (below_step B.out hb); clear X Y B i0 i1 i2 i3 u0 u1 u2 u3 k0 k1 k2 k3 z0 z1 z2 z3; have X := XN; have Y := YN; have B := BN; clear XN YN BN; obtain ⟨⟨i0, i1, i2, i3⟩, u0, u1, u2, u3⟩ := cell4 X.out; obtain ⟨⟨k0, k1, k2, k3⟩, z0, z1, z2, z3⟩ := cell4 Y.out; clear hb) | fail)
        (try simp only [Exit.inBlock, Exit.then])
        (refine bodyPost_ret (results_ct rfl _ _ g2 45 #[.slice A R.length c, .string rest, .bool closed, .int .i64 20] (0, 0) _ rfl (by exact blk4_put Y.out) Try.underlying45 rfl (by kernel_rfl)) rfl ?_)
        exact ⟨_, rfl, ⟨A, c, rfl, HCC.out, Kd.F_mono (Kd.F_below HF.out (below4_put B.out G2.out)) (fun _ h => .inl h)⟩, below4_put B.out G2.out⟩
    · have b6 : ((lastOf R).f0 == 6) = false := beq_eq_false_iff_ne.mpr h6
      have B6 := Aside0.mk b6
      have hp := HP.out
      rw [rNextS, if_neg (by simp), if_neg h6] at hp
      clear h6 b6 HP
      obtain ⟨kk, hk⟩ := (rrec_take_ev rest (by have := HZ.out; omega)).rounds
      have hg := rt_good rest HZ.out
      simp only at hp
      obtain ⟨⟨q1, q2, q3, q4, q5, q6⟩, hq⟩ : ∃ q, rt rest = q := ⟨_, rfl⟩
      rw [hq] at hk hp hg
      simp only [xOf] at hp hg
      have TK := Aside0.mk hk
      have HP := Aside0.mk hp
      have HGD := Aside0.mk hg
      clear hk hp hq hg
      go_upto_region 8 with (first | (go_at_call 22; (refine (rEnded.calls_ A c R rest closed 0 _ (Kd.C_below (Kd.F_now HF.out) B.out) HCC.out HL.out).mono ?_); rintro e w5 ⟨he5, hb⟩; rw [B6.out] at he5; subst he5; have XN := Aside0.mk (blk_below X.out hb); have YN := Aside0.mk (blk_below Y.out hb); have BN := Aside0.mk (below_step B.out hb); clear X Y B i0 i1 i2 i3 u0 u1 u2 u3 k0 k1 k2 k3 z0 z1 z2 z3; have X := XN; have Y := YN; have B := BN; clear XN YN BN; obtain ⟨⟨i0, i1, i2, i3⟩, u0, u1, u2, u3⟩ := cell4 X.out; obtain ⟨⟨k0, k1, k2, k3⟩, z0, z1, z2, z3⟩ := cell4 Y.out; clear hb) | (go_at_call 37; (with_reducible refine (juratref28_Take.calls kk rest q1 q2 q3 q4 q5 q6 _ TK.out).mono ?_); rintro e w3 ⟨v, rfl, hR, hb⟩; obtain ⟨A4, c4, rfl⟩ := Kd.R_slice hR; have HR := Aside0.mk (Kd.R_lower hR B.out.size); have XN := Aside0.mk (blk_below X.out hb); have YN := Aside0.mk (blk_below Y.out hb); have BN := Aside0.mk (below_step B.out hb); clear X Y B i0 i1 i2 i3 u0 u1 u2 u3 k0 k1 k2 k3 z0 z1 z2 z3; have X := XN; have Y := YN; have B := BN; clear XN YN BN; obtain ⟨⟨i0, i1, i2, i3⟩, u0, u1, u2, u3⟩ := cell4 X.out; obtain ⟨⟨k0, k1, k2, k3⟩, z0, z1, z2, z3⟩ := cell4 Y.out; clear hb hR) | fail)
      have D := Aside0.mk (blk_new w3 (.cells #[.int .i64 q1, .int .i64 q2, .int .i64 q3, .slice A4 q4.length c4] 30))
      have hb := below_alloc (Below.refl w3.heap.size w3) (.cells #[.int .i64 q1, .int .i64 q2, .int .i64 q3, .slice A4 q4.length c4] 30)
      have N4 := Aside0.mk (show w.heap.size ≤ w3.heap.size ∧ w3.heap.size ≠ g1 ∧ w3.heap.size ≠ g2 from by have h1 := blk_lt X.out; have h2 := blk_lt Y.out; have h3 := B.out.size; exact ⟨by omega, by omega, by omega⟩)
      have HN := Aside0.mk (Kd.R_below HR.out hb)
      clear HR
      have HR := HN
      clear HN
      have XN := Aside0.mk (blk_below X.out hb); have YN := Aside0.mk (blk_below Y.out hb); have BN := Aside0.mk (below_step B.out hb); clear X Y B i0 i1 i2 i3 u0 u1 u2 u3 k0 k1 k2 k3 z0 z1 z2 z3; have X := XN; have Y := YN; have B := BN; clear XN YN BN; obtain ⟨⟨i0, i1, i2, i3⟩, u0, u1, u2, u3⟩ := cell4 X.out; obtain ⟨⟨k0, k1, k2, k3⟩, z0, z1, z2, z3⟩ := cell4 Y.out
      clear hb
      generalize w3.alloc (.cells #[.int .i64 q1, .int .i64 q2, .int .i64 q3, .slice A4 q4.length c4] 30) = w4 at X Y D HR B i0 i1 i2 i3 u0 u1 u2 u3 k0 k1 k2 k3 z0 z1 z2 z3 ⊢
      generalize w3.heap.size = g4 at D N4 ⊢
      obtain ⟨⟨l0, l1, l2, l3⟩, m0, m1, m2, m3⟩ := cell4 D.out
      by_cases h4 : q6 = 4
      · have e4 : (q6 == 4) = true := beq_iff_eq.mpr h4
        have e5 : (q6 != 0) = true := bne_iff_ne.mpr (by omega)
        cases closed with
        | false =>
          have hp := HP.out
          rw [if_pos (by simp [e4])] at hp
          subst hp
          clear h4
          go_wp2
          (try simp only [Exit.inBlock, Exit.then])
          (refine bodyPost_ret (results_ct rfl _ _ g2 45 #[.slice A R.length c, .string rest, .bool false, .int .i64 0] (0, 0) _ rfl (by exact blk4_put Y.out) Try.underlying45 rfl (by kernel_rfl)) rfl ?_)
          exact ⟨_, rfl, ⟨A, c, rfl, HCC.out, Kd.F_mono (Kd.F_below HF.out (below4_put B.out G2.out)) (fun _ h => .inl h)⟩, below4_put B.out G2.out⟩
        | true =>
          have hp := HP.out
          rw [if_neg (by simp), if_pos (by omega)] at hp
          subst hp
          clear h4
          go_wp2_with (first | (go_at_call 36; (refine (rfail.calls_ A c R rest _ _ _ q6).mono ?_); rintro e w5 ⟨rfl, hb⟩; have XN := Aside0.mk (blk_below X.out hb); have YN := Aside0.mk (blk_below Y.out hb); have BN := Aside0.mk (below_step B.out hb); clear X Y B i0 i1 i2 i3 u0 u1 u2 u3 k0 k1 k2 k3 z0 z1 z2 z3; have X := XN; have Y := YN; have B := BN; clear XN YN BN; obtain ⟨⟨i0, i1, i2, i3⟩, u0, u1, u2, u3⟩ := cell4 X.out; obtain ⟨⟨k0, k1, k2, k3⟩, z0, z1, z2, z3⟩ := cell4 Y.out; clear hb) | fail)
          (try simp only [Exit.inBlock, Exit.then])
          (refine bodyPost_ret (results_ct rfl _ _ g2 45 #[.slice A R.length c, .string rest, .bool true, .int .i64 q6] (0, 0) _ rfl (by exact blk4_put Y.out) Try.underlying45 rfl (by kernel_rfl)) rfl ?_)
          exact ⟨_, rfl, ⟨A, c, rfl, HCC.out, Kd.F_mono (Kd.F_below HF.out (below4_put B.out G2.out)) (fun _ h => .inl h)⟩, below4_put B.out G2.out⟩
      · have e4 : (q6 == 4) = false := beq_eq_false_iff_ne.mpr h4
        have hp := HP.out
        rw [if_neg (by simp [e4])] at hp
        by_cases h5 : q6 = 0
        · have e5 : (q6 != 0) = false := bne_eq_false_iff_eq.mpr h5
          rw [if_neg (by simp [h5])] at hp
          obtain ⟨kt, hkt⟩ := (rtwo_ev (lastOf R) ⟨q1, q2, q3, q4⟩ HOK.out (HGD.out h5).1).rounds
          obtain ⟨⟨t1, t2, t3, t4, t5⟩, ht⟩ : ∃ q, twoS (lastOf R) ⟨q1, q2, q3, q4⟩ = q := ⟨_, rfl⟩
          obtain ⟨bad, hbad⟩ : ∃ b : Bool, rbad R ⟨q1, q2, q3, q4⟩ = b := ⟨_, rfl⟩
          rw [hbad] at hp
          unfold rbad at hbad
          rw [ht] at hkt hbad
          simp only at hkt hbad
          have TW : Aside0 (juratref27_Two.f kt (lastOf R).f0 (lastOf R).f1 (lastOf R).f2 (lastOf R).f3 q1 q2 q3 q4 = some (t1, t2, t3, t4, t5)) := ⟨hkt⟩
          have HBAD := Aside0.mk hbad
          have HP2 := Aside0.mk hp
          have HG5 := Aside0.mk (HGD.out h5).2
          clear hp hkt ht hbad HP h4 h5
          go_upto_region 12 with fail
          go_cut [8] (fun v8 wx => v8 = .bool t5 ∧ Aside0 (wx.heap[g1]? = some (.cells #[.slice A R.length c, .string rest, .bool closed, .int .i64 0] 45 (0, 0))) ∧ Aside0 (wx.heap[g2]? = some (.cells #[.slice none 0 0, .string ⟨#[]⟩, .bool false, .int .i64 0] 45 (0, 0))) ∧ Aside0 (wx.heap[g4]? = some (.cells #[.int .i64 q1, .int .i64 q2, .int .i64 q3, .slice A4 q4.length c4] 30 (0, 0))) ∧ Aside0 (Kd.R (Kd.int .i64) 3 wx w.heap.size (fun _ => True) (.slice A4 q4.length c4) q4) ∧ Aside0 (Below w.heap.size w wx))
          case first =>
            refine start_ (n := 10) (S := (fun w' => w'.cell? ⟨g1, 0, none⟩ = some (.slice A R.length c) ∧ w'.cell? ⟨g1, 1, none⟩ = some (.string rest) ∧ w'.cell? ⟨g1, 2, none⟩ = some (.bool closed) ∧ w'.cell? ⟨g1, 3, none⟩ = some (.int .i64 0) ∧ w'.cell? ⟨g4, 0, none⟩ = some (.int .i64 q1) ∧ w'.cell? ⟨g4, 1, none⟩ = some (.int .i64 q2) ∧ w'.cell? ⟨g4, 2, none⟩ = some (.int .i64 q3) ∧ w'.cell? ⟨g4, 3, none⟩ = some (.slice A4 q4.length c4))) (ds := [8]) #[false, false, false, false, false, false, false, false, false, false] (by kernel_rfl) rfl rfl ⟨i0, i1, i2, i3, l0, l1, l2, l3⟩ (fun hHeld => ?_); refine with_tabW rnextR12.tab rnextR12.bits (fun HT_ HW_ => ?_)
            have hb := below_drew1 (Below.refl w4.heap.size w4)
            have XN := Aside0.mk (blk_below X.out hb); have YN := Aside0.mk (blk_below Y.out hb); have DN := Aside0.mk (blk_below D.out hb); have HN := Aside0.mk (Kd.R_below HR.out hb); have BN := Aside0.mk (below_step B.out hb); (try have CN := Aside0.mk (Kd.C_below LC.out hb)); clear X Y B D HR i0 i1 i2 i3 u0 u1 u2 u3 k0 k1 k2 k3 z0 z1 z2 z3 l0 l1 l2 l3 m0 m1 m2 m3; (try clear LC); have X := XN; have Y := YN; have B := BN; have D := DN; have HR := HN; (try have LC := CN); clear XN YN BN DN HN; (try clear CN); obtain ⟨⟨i0, i1, i2, i3⟩, u0, u1, u2, u3⟩ := cell4 X.out; obtain ⟨⟨k0, k1, k2, k3⟩, z0, z1, z2, z3⟩ := cell4 Y.out; obtain ⟨⟨l0, l1, l2, l3⟩, m0, m1, m2, m3⟩ := cell4 D.out
            clear hb
            generalize w4.drew = w5 at X Y D HR B hHeld i0 i1 i2 i3 u0 u1 u2 u3 k0 k1 k2 k3 z0 z1 z2 z3 l0 l1 l2 l3 m0 m1 m2 m3 ⊢
            refine take_ (i := 0) (N := some 48) (v := ?_) (a' := ?_) #[true, false, false, false, false, false, false, false, false, false] rfl rfl (take_ofW HT_.out HW_.out (by kernel_rfl)) (fun _ _ _ h => h) (Or.inl ⟨by rfl, ?_⟩) hHeld ?_ ?_
            rotate_left
            · rintro w' ⟨s0, s1, s2, s3, s4, s5, s6, s7⟩
              go_simp
              with_reducible rfl
            rotate_left
            · simp only [Act.put, List.setIfInBounds_toArray, List.set_cons_zero, List.set_cons_succ, i64_w, i32_w]
              rfl
            refine take_ (i := 2) (N := some 50) (v := ?_) (a' := ?_) #[true, false, true, false, false, false, false, false, false, false] rfl rfl (take_ofW HT_.out HW_.out (by kernel_rfl)) (fun _ _ _ h => h) (Or.inl ⟨by rfl, ?_⟩) hHeld ?_ ?_
            rotate_left
            · rintro w' ⟨s0, s1, s2, s3, s4, s5, s6, s7⟩
              go_simp
              with_reducible rfl
            rotate_left
            · simp only [Act.put, List.setIfInBounds_toArray, List.set_cons_zero, List.set_cons_succ, i64_w, i32_w]
              rfl
            refine two_ (i := 1) (j := 7) (Ni := some 49) (Nj := some 7) #[true, true, true, false, false, false, false, false, false, false] #[true, false, true, false, false, false, false, true, false, false] rfl rfl rfl rfl (two_of HT_.out (by kernel_rfl)) (by decide) (by decide) (fun K hK => ?_) (fun K hK => ?_)
            · skip
              refine goes_ Try.func39 (by kernel_rfl) rfl #[.agg #[.slice A R.length c, .string rest, .bool closed, .int .i64 0]] (by rfl) rfl rfl (by (try simp only [List.map_toArray, List.map_cons, List.map_nil]); first | done | rfl) ?_
              refine (rlast.calls_ A c R rest closed 0 _ (Kd.C_below (Kd.F_now HF.out) B.out) HCC.out HL.out _ rfl).mono ?_
              rintro e w5 ⟨A3, c3, rfl, h3, hC3, hb⟩
              refine ⟨_, rfl, ?_⟩
              have XN := Aside0.mk (blk_below X.out hb); have YN := Aside0.mk (blk_below Y.out hb); have DN := Aside0.mk (blk_below D.out hb); have HN := Aside0.mk (Kd.R_below HR.out hb); have BN := Aside0.mk (below_step B.out hb); (try have CN := Aside0.mk (Kd.C_below LC.out hb)); clear X Y B D HR i0 i1 i2 i3 u0 u1 u2 u3 k0 k1 k2 k3 z0 z1 z2 z3 l0 l1 l2 l3 m0 m1 m2 m3; (try clear LC); have X := XN; have Y := YN; have B := BN; have D := DN; have HR := HN; (try have LC := CN); clear XN YN BN DN HN; (try clear CN); obtain ⟨⟨i0, i1, i2, i3⟩, u0, u1, u2, u3⟩ := cell4 X.out; obtain ⟨⟨k0, k1, k2, k3⟩, z0, z1, z2, z3⟩ := cell4 Y.out; obtain ⟨⟨l0, l1, l2, l3⟩, m0, m1, m2, m3⟩ := cell4 D.out
              have LC := Aside0.mk hC3
              have L3 := Aside0.mk h3
              (try (have QN := Aside0.mk (blk_below Q7.out hb); clear Q7; have Q7 := QN; clear QN))
              clear hb hC3 h3
              refine hK.out _ _ ⟨i0, i1, i2, i3, l0, l1, l2, l3⟩ (fun hHeld => ?_)
              clear hK K
              refine norm_ (a' := ?_) ?_ ?_
              rotate_left
              · show Act.put _ (some 49) _ = _
                simp only [Act.put, List.setIfInBounds_toArray, List.set_cons_zero, List.set_cons_succ, i64_w, i32_w]
                rfl
              refine two_ (i := 3) (j := 7) (Ni := some 51) (Nj := some 7) #[true, true, true, true, false, false, false, false, false, false] #[true, true, true, false, false, false, false, true, false, false] rfl rfl rfl rfl (two_of HT_.out (by kernel_rfl)) (by decide) (by decide) (fun K hK => ?_) (fun K hK => ?_)
              · skip
                refine goes_ Try.func38 (by kernel_rfl) rfl #[.agg #[.int .i64 (lastOf R).f0, .int .i64 (lastOf R).f1, .int .i64 (lastOf R).f2, .slice A3 (lastOf R).f3.length c3], .agg #[.int .i64 q1, .int .i64 q2, .int .i64 q3, .slice A4 q4.length c4]] (by rfl) rfl rfl (by (try simp only [List.map_toArray, List.map_cons, List.map_nil]); first | done | rfl) ?_
                refine (juratref27_Two.calls kt (lastOf R).f0 (lastOf R).f1 (lastOf R).f2 A3 c3 (lastOf R).f3 q1 q2 q3 A4 c4 q4 t1 t2 t3 t4 t5 _ LC.out L3.out (Kd.R_reads' HR.out).2.2 (Kd.R_reads' HR.out).2.1 TW.out).mono ?_
                rintro e w6 ⟨v6, rfl, hR6, hb⟩
                refine ⟨_, rfl, ?_⟩
                obtain ⟨A6, c6, rfl⟩ := Kd.R_slice hR6
                have XN := Aside0.mk (blk_below X.out hb); have YN := Aside0.mk (blk_below Y.out hb); have DN := Aside0.mk (blk_below D.out hb); have HN := Aside0.mk (Kd.R_below HR.out hb); have BN := Aside0.mk (below_step B.out hb); (try have CN := Aside0.mk (Kd.C_below LC.out hb)); clear X Y B D HR i0 i1 i2 i3 u0 u1 u2 u3 k0 k1 k2 k3 z0 z1 z2 z3 l0 l1 l2 l3 m0 m1 m2 m3; (try clear LC); have X := XN; have Y := YN; have B := BN; have D := DN; have HR := HN; (try have LC := CN); clear XN YN BN DN HN; (try clear CN); obtain ⟨⟨i0, i1, i2, i3⟩, u0, u1, u2, u3⟩ := cell4 X.out; obtain ⟨⟨k0, k1, k2, k3⟩, z0, z1, z2, z3⟩ := cell4 Y.out; obtain ⟨⟨l0, l1, l2, l3⟩, m0, m1, m2, m3⟩ := cell4 D.out
                (try (have QN := Aside0.mk (blk_below Q7.out hb); clear Q7; have Q7 := QN; clear QN))
                clear hb hR6
                refine hK.out _ _ ⟨i0, i1, i2, i3, l0, l1, l2, l3⟩ (fun hHeld => ?_)
                clear hK K
                refine norm_ (a' := ?_) ?_ ?_
                rotate_left
                · show Act.put _ (some 51) _ = _
                  simp only [Act.put, List.setIfInBounds_toArray, List.set_cons_zero, List.set_cons_succ, i64_w, i32_w]
                  rfl
                refine pure_ (i := 4) (N := some 47) (v := ?_) (a' := ?_) #[true, true, true, true, true, false, false, false, false, false] rfl rfl (any_of HT_.out (by kernel_rfl)) (fun _ _ _ h => h) (Or.inl ⟨by rfl, ?_⟩) ?_ ?_
                rotate_left
                · intro w'
                  go_simp
                  with_reducible rfl
                rotate_left
                · simp only [Act.put, List.setIfInBounds_toArray, List.set_cons_zero, List.set_cons_succ, i64_w, i32_w]
                  rfl
                refine pure_ (i := 5) (N := some 52) (v := ?_) (a' := ?_) #[true, true, true, true, true, true, false, false, false, false] rfl rfl (any_of HT_.out (by kernel_rfl)) (fun _ _ _ h => h) (Or.inl ⟨by rfl, ?_⟩) ?_ ?_
                rotate_left
                · intro w'
                  go_simp
                  with_reducible rfl
                rotate_left
                · simp only [Act.put, List.setIfInBounds_toArray, List.set_cons_zero, List.set_cons_succ, i64_w, i32_w]
                  rfl
                refine pure_ (i := 6) (N := some 53) (v := ?_) (a' := ?_) #[true, true, true, true, true, true, true, false, false, false] rfl rfl (any_of HT_.out (by kernel_rfl)) (fun _ _ _ h => h) (Or.inl ⟨by rfl, ?_⟩) ?_ ?_
                rotate_left
                · intro w'
                  go_simp
                  with_reducible rfl
                rotate_left
                · simp only [Act.put, List.setIfInBounds_toArray, List.set_cons_zero, List.set_cons_succ, i64_w, i32_w]
                  rfl
                refine one_ (i := 7) (N := some 7) #[true, true, true, true, true, true, true, true, false, false] rfl rfl (one_of HT_.out (by kernel_rfl)) (by decide) (fun K hK => ?_)
                refine box_step ?hg (N := 7) ?hd (cs := #[.int .i64 0, .int .i64 0, .int .i64 0, .slice none 0 0]) (t := 30) ?hr ?_; (case hd => rfl); (case hg => rfl); (case hr => first | (go_simp; done) | (go_simp; rfl))
                intro g7 hg7 w9 hbox hb
                have N7 := Aside0.mk (show w.heap.size ≤ g7 ∧ g7 ≠ g1 ∧ g7 ≠ g2 ∧ g7 ≠ g4 from by have h1 := blk_lt X.out; have h2 := blk_lt Y.out; have h3 := blk_lt D.out; have h4 := B.out.size; exact ⟨by omega, by omega, by omega, by omega⟩)
                have Q7 := Aside0.mk hbox
                have XN := Aside0.mk (blk_below X.out hb); have YN := Aside0.mk (blk_below Y.out hb); have DN := Aside0.mk (blk_below D.out hb); have HN := Aside0.mk (Kd.R_below HR.out hb); have BN := Aside0.mk (below_step B.out hb); (try have CN := Aside0.mk (Kd.C_below LC.out hb)); clear X Y B D HR i0 i1 i2 i3 u0 u1 u2 u3 k0 k1 k2 k3 z0 z1 z2 z3 l0 l1 l2 l3 m0 m1 m2 m3; (try clear LC); have X := XN; have Y := YN; have B := BN; have D := DN; have HR := HN; (try have LC := CN); clear XN YN BN DN HN; (try clear CN); obtain ⟨⟨i0, i1, i2, i3⟩, u0, u1, u2, u3⟩ := cell4 X.out; obtain ⟨⟨k0, k1, k2, k3⟩, z0, z1, z2, z3⟩ := cell4 Y.out; obtain ⟨⟨l0, l1, l2, l3⟩, m0, m1, m2, m3⟩ := cell4 D.out
                clear hb hbox hg7
                refine hK.out _ _ ⟨i0, i1, i2, i3, l0, l1, l2, l3⟩ (fun hHeld => ?_)
                clear hK K
                refine norm_ (a' := ?_) ?_ ?_
                rotate_left
                · show Act.put _ (some 7) _ = _
                  simp only [Act.put, List.setIfInBounds_toArray, List.set_cons_zero, List.set_cons_succ, i64_w, i32_w]
                  rfl
                refine last_ (i := 8) (N := none) #[true, true, true, true, true, true, true, true, true, false] rfl rfl (one_of HT_.out (by kernel_rfl)) (by decide) (fun K hK => ?_)
                obtain ⟨⟨e0, e1, e2, e3⟩, f0, f1, f2, f3⟩ := cell4 Q7.out
                refine skip_ (w1 := ?_) (by rfl) rfl ?_ ?_
                rotate_left
                · go_simp
                  rfl
                refine hK.out _ _ ?_
                clear hK K
                refine pure_ (i := 9) (N := some 8) (v := ?_) (a' := ?_) #[true, true, true, true, true, true, true, true, true, true] rfl rfl (any_of HT_.out (by kernel_rfl)) (fun _ _ _ h => h) (Or.inl ⟨by rfl, ?_⟩) ?_ ?_
                rotate_left
                · intro w'
                  go_simp
                  with_reducible rfl
                rotate_left
                · simp only [Act.put, List.setIfInBounds_toArray, List.set_cons_zero, List.set_cons_succ, i64_w, i32_w]
                  rfl
                refine done_ (done_of HT_.out (by kernel_rfl)) ?_
                go_wp2_with fail
                go_meet
                exact ⟨rfl, ⟨blk_kept X.out (kept4 _ g7 _ _ _ _) (Ne.symm N7.out.2.1)⟩, ⟨blk_kept Y.out (kept4 _ g7 _ _ _ _) (Ne.symm N7.out.2.2.1)⟩, ⟨blk_kept D.out (kept4 _ g7 _ _ _ _) (Ne.symm N7.out.2.2.2)⟩, ⟨row4_put Q7.out HR.out⟩, ⟨below4_put B.out N7.out.1⟩⟩
              · skip
                refine box_step ?hg (N := 7) ?hd (cs := #[.int .i64 0, .int .i64 0, .int .i64 0, .slice none 0 0]) (t := 30) ?hr ?_; (case hd => rfl); (case hg => rfl); (case hr => first | (go_simp; done) | (go_simp; rfl))
                intro g7 hg7 w9 hbox hb
                have N7 := Aside0.mk (show w.heap.size ≤ g7 ∧ g7 ≠ g1 ∧ g7 ≠ g2 ∧ g7 ≠ g4 from by have h1 := blk_lt X.out; have h2 := blk_lt Y.out; have h3 := blk_lt D.out; have h4 := B.out.size; exact ⟨by omega, by omega, by omega, by omega⟩)
                have Q7 := Aside0.mk hbox
                have XN := Aside0.mk (blk_below X.out hb); have YN := Aside0.mk (blk_below Y.out hb); have DN := Aside0.mk (blk_below D.out hb); have HN := Aside0.mk (Kd.R_below HR.out hb); have BN := Aside0.mk (below_step B.out hb); (try have CN := Aside0.mk (Kd.C_below LC.out hb)); clear X Y B D HR i0 i1 i2 i3 u0 u1 u2 u3 k0 k1 k2 k3 z0 z1 z2 z3 l0 l1 l2 l3 m0 m1 m2 m3; (try clear LC); have X := XN; have Y := YN; have B := BN; have D := DN; have HR := HN; (try have LC := CN); clear XN YN BN DN HN; (try clear CN); obtain ⟨⟨i0, i1, i2, i3⟩, u0, u1, u2, u3⟩ := cell4 X.out; obtain ⟨⟨k0, k1, k2, k3⟩, z0, z1, z2, z3⟩ := cell4 Y.out; obtain ⟨⟨l0, l1, l2, l3⟩, m0, m1, m2, m3⟩ := cell4 D.out
                clear hb hbox hg7
                refine hK.out _ _ ⟨i0, i1, i2, i3, l0, l1, l2, l3⟩ (fun hHeld => ?_)
                clear hK K
                refine norm_ (a' := ?_) ?_ ?_
                rotate_left
                · show Act.put _ (some 7) _ = _
                  simp only [Act.put, List.setIfInBounds_toArray, List.set_cons_zero, List.set_cons_succ, i64_w, i32_w]
                  rfl
                refine one_ (i := 3) (N := some 51) #[true, true, true, true, false, false, false, true, false, false] rfl rfl (one_of HT_.out (by kernel_rfl)) (by decide) (fun K hK => ?_)
                refine goes_ Try.func38 (by kernel_rfl) rfl #[.agg #[.int .i64 (lastOf R).f0, .int .i64 (lastOf R).f1, .int .i64 (lastOf R).f2, .slice A3 (lastOf R).f3.length c3], .agg #[.int .i64 q1, .int .i64 q2, .int .i64 q3, .slice A4 q4.length c4]] (by rfl) rfl rfl (by (try simp only [List.map_toArray, List.map_cons, List.map_nil]); first | done | rfl) ?_
                refine (juratref27_Two.calls kt (lastOf R).f0 (lastOf R).f1 (lastOf R).f2 A3 c3 (lastOf R).f3 q1 q2 q3 A4 c4 q4 t1 t2 t3 t4 t5 _ LC.out L3.out (Kd.R_reads' HR.out).2.2 (Kd.R_reads' HR.out).2.1 TW.out).mono ?_
                rintro e w6 ⟨v6, rfl, hR6, hb⟩
                refine ⟨_, rfl, ?_⟩
                obtain ⟨A6, c6, rfl⟩ := Kd.R_slice hR6
                have XN := Aside0.mk (blk_below X.out hb); have YN := Aside0.mk (blk_below Y.out hb); have DN := Aside0.mk (blk_below D.out hb); have HN := Aside0.mk (Kd.R_below HR.out hb); have BN := Aside0.mk (below_step B.out hb); (try have CN := Aside0.mk (Kd.C_below LC.out hb)); clear X Y B D HR i0 i1 i2 i3 u0 u1 u2 u3 k0 k1 k2 k3 z0 z1 z2 z3 l0 l1 l2 l3 m0 m1 m2 m3; (try clear LC); have X := XN; have Y := YN; have B := BN; have D := DN; have HR := HN; (try have LC := CN); clear XN YN BN DN HN; (try clear CN); obtain ⟨⟨i0, i1, i2, i3⟩, u0, u1, u2, u3⟩ := cell4 X.out; obtain ⟨⟨k0, k1, k2, k3⟩, z0, z1, z2, z3⟩ := cell4 Y.out; obtain ⟨⟨l0, l1, l2, l3⟩, m0, m1, m2, m3⟩ := cell4 D.out
                (try (have QN := Aside0.mk (blk_below Q7.out hb); clear Q7; have Q7 := QN; clear QN))
                clear hb hR6
                refine hK.out _ _ ⟨i0, i1, i2, i3, l0, l1, l2, l3⟩ (fun hHeld => ?_)
                clear hK K
                refine norm_ (a' := ?_) ?_ ?_
                rotate_left
                · show Act.put _ (some 51) _ = _
                  simp only [Act.put, List.setIfInBounds_toArray, List.set_cons_zero, List.set_cons_succ, i64_w, i32_w]
                  rfl
                refine pure_ (i := 4) (N := some 47) (v := ?_) (a' := ?_) #[true, true, true, true, true, false, false, true, false, false] rfl rfl (any_of HT_.out (by kernel_rfl)) (fun _ _ _ h => h) (Or.inl ⟨by rfl, ?_⟩) ?_ ?_
                rotate_left
                · intro w'
                  go_simp
                  with_reducible rfl
                rotate_left
                · simp only [Act.put, List.setIfInBounds_toArray, List.set_cons_zero, List.set_cons_succ, i64_w, i32_w]
                  rfl
                refine pure_ (i := 5) (N := some 52) (v := ?_) (a' := ?_) #[true, true, true, true, true, true, false, true, false, false] rfl rfl (any_of HT_.out (by kernel_rfl)) (fun _ _ _ h => h) (Or.inl ⟨by rfl, ?_⟩) ?_ ?_
                rotate_left
                · intro w'
                  go_simp
                  with_reducible rfl
                rotate_left
                · simp only [Act.put, List.setIfInBounds_toArray, List.set_cons_zero, List.set_cons_succ, i64_w, i32_w]
                  rfl
                refine pure_ (i := 6) (N := some 53) (v := ?_) (a' := ?_) #[true, true, true, true, true, true, true, true, false, false] rfl rfl (any_of HT_.out (by kernel_rfl)) (fun _ _ _ h => h) (Or.inl ⟨by rfl, ?_⟩) ?_ ?_
                rotate_left
                · intro w'
                  go_simp
                  with_reducible rfl
                rotate_left
                · simp only [Act.put, List.setIfInBounds_toArray, List.set_cons_zero, List.set_cons_succ, i64_w, i32_w]
                  rfl
                refine last_ (i := 8) (N := none) #[true, true, true, true, true, true, true, true, true, false] rfl rfl (one_of HT_.out (by kernel_rfl)) (by decide) (fun K hK => ?_)
                obtain ⟨⟨e0, e1, e2, e3⟩, f0, f1, f2, f3⟩ := cell4 Q7.out
                refine skip_ (w1 := ?_) (by rfl) rfl ?_ ?_
                rotate_left
                · go_simp
                  rfl
                refine hK.out _ _ ?_
                clear hK K
                refine pure_ (i := 9) (N := some 8) (v := ?_) (a' := ?_) #[true, true, true, true, true, true, true, true, true, true] rfl rfl (any_of HT_.out (by kernel_rfl)) (fun _ _ _ h => h) (Or.inl ⟨by rfl, ?_⟩) ?_ ?_
                rotate_left
                · intro w'
                  go_simp
                  with_reducible rfl
                rotate_left
                · simp only [Act.put, List.setIfInBounds_toArray, List.set_cons_zero, List.set_cons_succ, i64_w, i32_w]
                  rfl
                refine done_ (done_of HT_.out (by kernel_rfl)) ?_
                go_wp2_with fail
                go_meet
                exact ⟨rfl, ⟨blk_kept X.out (kept4 _ g7 _ _ _ _) (Ne.symm N7.out.2.1)⟩, ⟨blk_kept Y.out (kept4 _ g7 _ _ _ _) (Ne.symm N7.out.2.2.1)⟩, ⟨blk_kept D.out (kept4 _ g7 _ _ _ _) (Ne.symm N7.out.2.2.2)⟩, ⟨row4_put Q7.out HR.out⟩, ⟨below4_put B.out N7.out.1⟩⟩
            · skip
              refine box_step ?hg (N := 7) ?hd (cs := #[.int .i64 0, .int .i64 0, .int .i64 0, .slice none 0 0]) (t := 30) ?hr ?_; (case hd => rfl); (case hg => rfl); (case hr => first | (go_simp; done) | (go_simp; rfl))
              intro g7 hg7 w9 hbox hb
              have N7 := Aside0.mk (show w.heap.size ≤ g7 ∧ g7 ≠ g1 ∧ g7 ≠ g2 ∧ g7 ≠ g4 from by have h1 := blk_lt X.out; have h2 := blk_lt Y.out; have h3 := blk_lt D.out; have h4 := B.out.size; exact ⟨by omega, by omega, by omega, by omega⟩)
              have Q7 := Aside0.mk hbox
              have XN := Aside0.mk (blk_below X.out hb); have YN := Aside0.mk (blk_below Y.out hb); have DN := Aside0.mk (blk_below D.out hb); have HN := Aside0.mk (Kd.R_below HR.out hb); have BN := Aside0.mk (below_step B.out hb); (try have CN := Aside0.mk (Kd.C_below LC.out hb)); clear X Y B D HR i0 i1 i2 i3 u0 u1 u2 u3 k0 k1 k2 k3 z0 z1 z2 z3 l0 l1 l2 l3 m0 m1 m2 m3; (try clear LC); have X := XN; have Y := YN; have B := BN; have D := DN; have HR := HN; (try have LC := CN); clear XN YN BN DN HN; (try clear CN); obtain ⟨⟨i0, i1, i2, i3⟩, u0, u1, u2, u3⟩ := cell4 X.out; obtain ⟨⟨k0, k1, k2, k3⟩, z0, z1, z2, z3⟩ := cell4 Y.out; obtain ⟨⟨l0, l1, l2, l3⟩, m0, m1, m2, m3⟩ := cell4 D.out
              clear hb hbox hg7
              refine hK.out _ _ ⟨i0, i1, i2, i3, l0, l1, l2, l3⟩ (fun hHeld => ?_)
              clear hK K
              refine norm_ (a' := ?_) ?_ ?_
              rotate_left
              · show Act.put _ (some 7) _ = _
                simp only [Act.put, List.setIfInBounds_toArray, List.set_cons_zero, List.set_cons_succ, i64_w, i32_w]
                rfl
              refine one_ (i := 1) (N := some 49) #[true, true, true, false, false, false, false, true, false, false] rfl rfl (one_of HT_.out (by kernel_rfl)) (by decide) (fun K hK => ?_)
              refine goes_ Try.func39 (by kernel_rfl) rfl #[.agg #[.slice A R.length c, .string rest, .bool closed, .int .i64 0]] (by rfl) rfl rfl (by (try simp only [List.map_toArray, List.map_cons, List.map_nil]); first | done | rfl) ?_
              refine (rlast.calls_ A c R rest closed 0 _ (Kd.C_below (Kd.F_now HF.out) B.out) HCC.out HL.out _ rfl).mono ?_
              rintro e w5 ⟨A3, c3, rfl, h3, hC3, hb⟩
              refine ⟨_, rfl, ?_⟩
              have XN := Aside0.mk (blk_below X.out hb); have YN := Aside0.mk (blk_below Y.out hb); have DN := Aside0.mk (blk_below D.out hb); have HN := Aside0.mk (Kd.R_below HR.out hb); have BN := Aside0.mk (below_step B.out hb); (try have CN := Aside0.mk (Kd.C_below LC.out hb)); clear X Y B D HR i0 i1 i2 i3 u0 u1 u2 u3 k0 k1 k2 k3 z0 z1 z2 z3 l0 l1 l2 l3 m0 m1 m2 m3; (try clear LC); have X := XN; have Y := YN; have B := BN; have D := DN; have HR := HN; (try have LC := CN); clear XN YN BN DN HN; (try clear CN); obtain ⟨⟨i0, i1, i2, i3⟩, u0, u1, u2, u3⟩ := cell4 X.out; obtain ⟨⟨k0, k1, k2, k3⟩, z0, z1, z2, z3⟩ := cell4 Y.out; obtain ⟨⟨l0, l1, l2, l3⟩, m0, m1, m2, m3⟩ := cell4 D.out
              have LC := Aside0.mk hC3
              have L3 := Aside0.mk h3
              (try (have QN := Aside0.mk (blk_below Q7.out hb); clear Q7; have Q7 := QN; clear QN))
              clear hb hC3 h3
              refine hK.out _ _ ⟨i0, i1, i2, i3, l0, l1, l2, l3⟩ (fun hHeld => ?_)
              clear hK K
              refine norm_ (a' := ?_) ?_ ?_
              rotate_left
              · show Act.put _ (some 49) _ = _
                simp only [Act.put, List.setIfInBounds_toArray, List.set_cons_zero, List.set_cons_succ, i64_w, i32_w]
                rfl
              refine one_ (i := 3) (N := some 51) #[true, true, true, true, false, false, false, true, false, false] rfl rfl (one_of HT_.out (by kernel_rfl)) (by decide) (fun K hK => ?_)
              refine goes_ Try.func38 (by kernel_rfl) rfl #[.agg #[.int .i64 (lastOf R).f0, .int .i64 (lastOf R).f1, .int .i64 (lastOf R).f2, .slice A3 (lastOf R).f3.length c3], .agg #[.int .i64 q1, .int .i64 q2, .int .i64 q3, .slice A4 q4.length c4]] (by rfl) rfl rfl (by (try simp only [List.map_toArray, List.map_cons, List.map_nil]); first | done | rfl) ?_
              refine (juratref27_Two.calls kt (lastOf R).f0 (lastOf R).f1 (lastOf R).f2 A3 c3 (lastOf R).f3 q1 q2 q3 A4 c4 q4 t1 t2 t3 t4 t5 _ LC.out L3.out (Kd.R_reads' HR.out).2.2 (Kd.R_reads' HR.out).2.1 TW.out).mono ?_
              rintro e w6 ⟨v6, rfl, hR6, hb⟩
              refine ⟨_, rfl, ?_⟩
              obtain ⟨A6, c6, rfl⟩ := Kd.R_slice hR6
              have XN := Aside0.mk (blk_below X.out hb); have YN := Aside0.mk (blk_below Y.out hb); have DN := Aside0.mk (blk_below D.out hb); have HN := Aside0.mk (Kd.R_below HR.out hb); have BN := Aside0.mk (below_step B.out hb); (try have CN := Aside0.mk (Kd.C_below LC.out hb)); clear X Y B D HR i0 i1 i2 i3 u0 u1 u2 u3 k0 k1 k2 k3 z0 z1 z2 z3 l0 l1 l2 l3 m0 m1 m2 m3; (try clear LC); have X := XN; have Y := YN; have B := BN; have D := DN; have HR := HN; (try have LC := CN); clear XN YN BN DN HN; (try clear CN); obtain ⟨⟨i0, i1, i2, i3⟩, u0, u1, u2, u3⟩ := cell4 X.out; obtain ⟨⟨k0, k1, k2, k3⟩, z0, z1, z2, z3⟩ := cell4 Y.out; obtain ⟨⟨l0, l1, l2, l3⟩, m0, m1, m2, m3⟩ := cell4 D.out
              (try (have QN := Aside0.mk (blk_below Q7.out hb); clear Q7; have Q7 := QN; clear QN))
              clear hb hR6
              refine hK.out _ _ ⟨i0, i1, i2, i3, l0, l1, l2, l3⟩ (fun hHeld => ?_)
              clear hK K
              refine norm_ (a' := ?_) ?_ ?_
              rotate_left
              · show Act.put _ (some 51) _ = _
                simp only [Act.put, List.setIfInBounds_toArray, List.set_cons_zero, List.set_cons_succ, i64_w, i32_w]
                rfl
              refine pure_ (i := 4) (N := some 47) (v := ?_) (a' := ?_) #[true, true, true, true, true, false, false, true, false, false] rfl rfl (any_of HT_.out (by kernel_rfl)) (fun _ _ _ h => h) (Or.inl ⟨by rfl, ?_⟩) ?_ ?_
              rotate_left
              · intro w'
                go_simp
                with_reducible rfl
              rotate_left
              · simp only [Act.put, List.setIfInBounds_toArray, List.set_cons_zero, List.set_cons_succ, i64_w, i32_w]
                rfl
              refine pure_ (i := 5) (N := some 52) (v := ?_) (a' := ?_) #[true, true, true, true, true, true, false, true, false, false] rfl rfl (any_of HT_.out (by kernel_rfl)) (fun _ _ _ h => h) (Or.inl ⟨by rfl, ?_⟩) ?_ ?_
              rotate_left
              · intro w'
                go_simp
                with_reducible rfl
              rotate_left
              · simp only [Act.put, List.setIfInBounds_toArray, List.set_cons_zero, List.set_cons_succ, i64_w, i32_w]
                rfl
              refine pure_ (i := 6) (N := some 53) (v := ?_) (a' := ?_) #[true, true, true, true, true, true, true, true, false, false] rfl rfl (any_of HT_.out (by kernel_rfl)) (fun _ _ _ h => h) (Or.inl ⟨by rfl, ?_⟩) ?_ ?_
              rotate_left
              · intro w'
                go_simp
                with_reducible rfl
              rotate_left
              · simp only [Act.put, List.setIfInBounds_toArray, List.set_cons_zero, List.set_cons_succ, i64_w, i32_w]
                rfl
              refine last_ (i := 8) (N := none) #[true, true, true, true, true, true, true, true, true, false] rfl rfl (one_of HT_.out (by kernel_rfl)) (by decide) (fun K hK => ?_)
              obtain ⟨⟨e0, e1, e2, e3⟩, f0, f1, f2, f3⟩ := cell4 Q7.out
              refine skip_ (w1 := ?_) (by rfl) rfl ?_ ?_
              rotate_left
              · go_simp
                rfl
              refine hK.out _ _ ?_
              clear hK K
              refine pure_ (i := 9) (N := some 8) (v := ?_) (a' := ?_) #[true, true, true, true, true, true, true, true, true, true] rfl rfl (any_of HT_.out (by kernel_rfl)) (fun _ _ _ h => h) (Or.inl ⟨by rfl, ?_⟩) ?_ ?_
              rotate_left
              · intro w'
                go_simp
                with_reducible rfl
              rotate_left
              · simp only [Act.put, List.setIfInBounds_toArray, List.set_cons_zero, List.set_cons_succ, i64_w, i32_w]
                rfl
              refine done_ (done_of HT_.out (by kernel_rfl)) ?_
              go_wp2_with fail
              go_meet
              exact ⟨rfl, ⟨blk_kept X.out (kept4 _ g7 _ _ _ _) (Ne.symm N7.out.2.1)⟩, ⟨blk_kept Y.out (kept4 _ g7 _ _ _ _) (Ne.symm N7.out.2.2.1)⟩, ⟨blk_kept D.out (kept4 _ g7 _ _ _ _) (Ne.symm N7.out.2.2.2)⟩, ⟨row4_put Q7.out HR.out⟩, ⟨below4_put B.out N7.out.1⟩⟩
          case rest =>
            obtain ⟨rfl, X, Y, D, HR, B⟩ := hcut
            obtain ⟨⟨i0, i1, i2, i3⟩, u0, u1, u2, u3⟩ := cell4 X.out
            obtain ⟨⟨k0, k1, k2, k3⟩, z0, z1, z2, z3⟩ := cell4 Y.out
            obtain ⟨⟨l0, l1, l2, l3⟩, m0, m1, m2, m3⟩ := cell4 D.out
            have hfd := field30
            go_upto_region 13 with fail
            go_cut [71] (fun v71 wx => v71 = .bool bad ∧ Aside0 (wx.heap[g1]? = some (.cells #[.slice A R.length c, .string rest, .bool closed, .int .i64 0] 45 (0, 0))) ∧ Aside0 (wx.heap[g2]? = some (.cells #[.slice none 0 0, .string ⟨#[]⟩, .bool false, .int .i64 0] 45 (0, 0))) ∧ Aside0 (wx.heap[g4]? = some (.cells #[.int .i64 q1, .int .i64 q2, .int .i64 q3, .slice A4 q4.length c4] 30 (0, 0))) ∧ Aside0 (Kd.R (Kd.int .i64) 3 wx w.heap.size (fun _ => True) (.slice A4 q4.length c4) q4) ∧ Aside0 (Below w.heap.size w wx))
            case first =>
              have hbad := HBAD.out
              cases t5 with
              | true =>
                subst hbad
                go_wp2
                go_meet
                exact ⟨by simp, X, Y, D, HR, B⟩
              | false =>
                by_cases c5 : q1 = 5
                · have d5 : (q1 == 5) = true := beq_iff_eq.mpr c5
                  by_cases c6 : R.length = 0
                  · have d6 : ((R.length : Int) == 0) = true := beq_iff_eq.mpr (by omega)
                    have hb1 : bad = true := by rw [← hbad]; simp [c5, c6]
                    subst hb1
                    clear c5 c6 hbad
                    go_wp2
                    go_meet
                    exact ⟨rfl, X, Y, D, HR, B⟩
                  · have d6 : ((R.length : Int) == 0) = false := beq_eq_false_iff_ne.mpr (by omega)
                    have hb1 : ((lastOf R).f0 == 5) = bad := by rw [← hbad]; simp [c5, c6]
                    have HB1 := Aside0.mk hb1
                    clear c5 c6 hbad hb1
                    go_wp2_with (first | (go_at_call 39; (refine (rlast.calls_ A c R rest closed 0 _ (Kd.C_below (Kd.F_now HF.out) B.out) HCC.out HL.out _ rfl).mono ?_); rintro e w6 ⟨A3, c3, rfl, h3, hC3, hb⟩; have XN := Aside0.mk (blk_below X.out hb); have YN := Aside0.mk (blk_below Y.out hb); have DN := Aside0.mk (blk_below D.out hb); have HN := Aside0.mk (Kd.R_below HR.out hb); have BN := Aside0.mk (below_step B.out hb); (try have CN := Aside0.mk (Kd.C_below LC.out hb)); clear X Y B D HR i0 i1 i2 i3 u0 u1 u2 u3 k0 k1 k2 k3 z0 z1 z2 z3 l0 l1 l2 l3 m0 m1 m2 m3; (try clear LC); have X := XN; have Y := YN; have B := BN; have D := DN; have HR := HN; (try have LC := CN); clear XN YN BN DN HN; (try clear CN); obtain ⟨⟨i0, i1, i2, i3⟩, u0, u1, u2, u3⟩ := cell4 X.out; obtain ⟨⟨k0, k1, k2, k3⟩, z0, z1, z2, z3⟩ := cell4 Y.out; obtain ⟨⟨l0, l1, l2, l3⟩, m0, m1, m2, m3⟩ := cell4 D.out; clear hb hC3 h3) | fail)
                    go_meet
                    exact ⟨by rw [← HB1.out], X, Y, D, HR, B⟩
                · have d5 : (q1 == 5) = false := beq_eq_false_iff_ne.mpr c5
                  have hb1 : bad = false := by rw [← hbad]; simp [c5]
                  subst hb1
                  clear c5 hbad
                  go_wp2
                  go_meet
                  exact ⟨rfl, X, Y, D, HR, B⟩
            case rest =>
              obtain ⟨rfl, X, Y, D, HR, B⟩ := hcut
              skip
              obtain ⟨⟨i0, i1, i2, i3⟩, u0, u1, u2, u3⟩ := cell4 X.out
              obtain ⟨⟨k0, k1, k2, k3⟩, z0, z1, z2, z3⟩ := cell4 Y.out
              obtain ⟨⟨l0, l1, l2, l3⟩, m0, m1, m2, m3⟩ := cell4 D.out
              have hp := HP2.out
              unfold rStep at hp
              cases bad with
              | true =>
                rw [if_pos rfl] at hp
                subst hp
                go_wp2_with (first | (go_at_call 36; (refine (rfail.calls_ A c R rest _ _ _ 9).mono ?_); rintro e w5 ⟨rfl, hb⟩; have XN := Aside0.mk (blk_below X.out hb); have YN := Aside0.mk (blk_below Y.out hb); have BN := Aside0.mk (below_step B.out hb); clear X Y B i0 i1 i2 i3 u0 u1 u2 u3 k0 k1 k2 k3 z0 z1 z2 z3; have X := XN; have Y := YN; have B := BN; clear XN YN BN; obtain ⟨⟨i0, i1, i2, i3⟩, u0, u1, u2, u3⟩ := cell4 X.out; obtain ⟨⟨k0, k1, k2, k3⟩, z0, z1, z2, z3⟩ := cell4 Y.out; clear hb) | fail)
                (try simp only [Exit.inBlock, Exit.then])
                (refine bodyPost_ret (results_ct rfl _ _ g2 45 #[.slice A R.length c, .string rest, .bool closed, .int .i64 9] (0, 0) _ rfl (by exact blk4_put Y.out) Try.underlying45 rfl (by kernel_rfl)) rfl ?_)
                exact ⟨_, rfl, ⟨A, c, rfl, HCC.out, Kd.F_mono (Kd.F_below HF.out (below4_put B.out G2.out)) (fun _ h => .inl h)⟩, below4_put B.out G2.out⟩
              | false =>
                rw [if_neg (by decide)] at hp
                subst hp
                have X7 := X
                have Y7 := Y
                have D7 := D
                have FX : Aside0 (Kd.F (Kd.int .i64) wc (fun k => (w.heap.size ≤ k ∧ k ≠ g1 ∧ k ≠ g2) ∧ k < wc.heap.size) A4 q4.length q4) := ⟨Kd.F_bound (Kd.F_mono (Kd.Q_F (Kd.Q_bound (Kd.Q_types (Kd.Q_types (Kd.Q_of_R HR.out) X7.out (by decide)) Y7.out (by decide)))) (fun k hk => ⟨hk.2.1, hk.1.1.2, hk.1.2⟩))⟩
                have FR : Aside0 (Kd.F k30 wc (fun k => ok k ∧ k < w.heap.size) A R.length R) := ⟨Kd.F_below (Kd.F_bound HF.out) B.out⟩
                have L4 := Aside0.mk (Kd.R_reads' HR.out).2.1
                have hne := N2.out
                have h41 := N4.out.2.1
                have h42 := N4.out.2.2
                have d1 : decide (0 ≤ q5) = true := decide_eq_true (by have := HG5.out; omega)
                have d2 : decide (q5 ≤ (rest.size : Int)) = true := decide_eq_true HG5.out.2
                have d3 := eq_true (show 0 ≤ q5 by have := HG5.out; omega)
                have d4 := eq_true HG5.out.2
                have FRESH : Aside0 (∀ k, wc.heap.size ≤ k → w.heap.size ≤ k ∧ k ≠ g1 ∧ k ≠ g2) := ⟨fun k hk => by have h1 := blk_lt X7.out; have h2 := blk_lt Y7.out; have h3 := B.out.size; exact ⟨by omega, by omega, by omega⟩⟩
                have BB := Aside0.mk (Below.refl wc.heap.size wc)
                clear HR
                go_upto_region 16 with (first | ((with_reducible refine gate_dst (N := 76) rfl ?_); refine Kd.N_lit k30 wc.heap.size 30 ?hg (N' := 76) ?hd (xs := ([] : List S30)) (inner := []) (ok := (fun k => (ok k ∧ k < w.heap.size) ∨ (w.heap.size ≤ k ∧ k ≠ g1 ∧ k ≠ g2))) (okp := fun _ => False) ?hr ?hp (fun _ hk => hk.elim) (.inr (FRESH.out _ (Nat.le_refl _))) (Below.refl wc.heap.size wc) (Nat.le_refl _) (by simp) ?_; (case hd => rfl); (case hg => rfl); (case hr => first | (go_simp; done) | (go_simp; rfl)); (case hp => exact Reps.none _ _); intro v5 w5 ho hb hg_ hnew_; obtain ⟨A5, c5, rfl⟩ := Kd.N_slice ho; have O := Aside0.mk ho; clear X Y D BB i0 i1 i2 i3 u0 u1 u2 u3 k0 k1 k2 k3 z0 z1 z2 z3 l0 l1 l2 l3 m0 m1 m2 m3; have X := Aside0.mk (blk_below X7.out hb); have Y := Aside0.mk (blk_below Y7.out hb); have D := Aside0.mk (blk_below D7.out hb); have BB := Aside0.mk hb; obtain ⟨⟨i0, i1, i2, i3⟩, u0, u1, u2, u3⟩ := cell4 X.out; obtain ⟨⟨k0, k1, k2, k3⟩, z0, z1, z2, z3⟩ := cell4 Y.out; obtain ⟨⟨l0, l1, l2, l3⟩, m0, m1, m2, m3⟩ := cell4 D.out; clear hg_ hnew_ ho hb) | fail)
                go_upto_region 17 with (first | (at_builtin; refine Kd.N_append_rows k30 (w0 := wc) wc.heap.size rfl (.tmp 77) (.tmp 79) 22 30 (.agg #[(.int .i64 0), (.int .i64 0), (.int .i64 0), (.slice none 0 0)]) 48 rfl Try.underlying22 info30 rfl (by decide) (by omega) (.slice A5 ([] : List S30).length c5) [] R A R.length c (fun k => (ok k ∧ k < w.heap.size) ∨ (w.heap.size ≤ k ∧ k ≠ g1 ∧ k ≠ g2)) (fun k => ok k ∧ k < w.heap.size) rfl rfl O.out (Kd.F_below FR.out BB.out) (fun k hk => ⟨.inl hk, fun he => by have h1 := Kd.N_base O.out k he.symm; have h2 := hk.2; have h3 := B.out.size; omega⟩) (fun k hk => .inr (FRESH.out k (Nat.le_trans BB.out.size hk))) BB.out BB.out.size (by have := HL.out; simp only [List.length_nil]; omega) ?_; intro v6 w6 ho hb hg_ hat_; have O2 : Aside0 (Kd.N k30 30 w6 wc.heap.size (fun k => (ok k ∧ k < w.heap.size) ∨ (w.heap.size ≤ k ∧ k ≠ g1 ∧ k ≠ g2)) v6 R) := ⟨ho⟩; obtain ⟨A6, c6, rfl⟩ := Kd.N_slice O2.out; clear O; clear X Y D BB i0 i1 i2 i3 u0 u1 u2 u3 k0 k1 k2 k3 z0 z1 z2 z3 l0 l1 l2 l3 m0 m1 m2 m3; have X := Aside0.mk (blk_below X7.out hb); have Y := Aside0.mk (blk_below Y7.out hb); have D := Aside0.mk (blk_below D7.out hb); have BB := Aside0.mk hb; obtain ⟨⟨i0, i1, i2, i3⟩, u0, u1, u2, u3⟩ := cell4 X.out; obtain ⟨⟨k0, k1, k2, k3⟩, z0, z1, z2, z3⟩ := cell4 Y.out; obtain ⟨⟨l0, l1, l2, l3⟩, m0, m1, m2, m3⟩ := cell4 D.out; clear hg_ hat_ ho hb) | fail)
                go_upto_region 18 with (first | (at_builtin; refine Kd.N_append k30 (w0 := wc) wc.heap.size rfl (.tmp 81) (.tmp 83) 22 30 (.agg #[(.int .i64 0), (.int .i64 0), (.int .i64 0), (.slice none 0 0)]) 48 rfl Try.underlying22 info30 rfl (by decide) (by omega) (.slice A6 R.length c6) R ⟨q1, q2, q3, q4⟩ [.int .i64 q1, .int .i64 q2, .int .i64 q3, .slice A4 q4.length c4] (fun k => (ok k ∧ k < w.heap.size) ∨ (w.heap.size ≤ k ∧ k ≠ g1 ∧ k ≠ g2)) (fun k => (w.heap.size ≤ k ∧ k ≠ g1 ∧ k ≠ g2) ∧ k < wc.heap.size) rfl ?aX ?aP (fun k hk => ⟨.inr hk.1, fun he => by have h1 := Kd.N_base O2.out k he.symm; have h2 := hk.2; omega⟩) (fun k hk => .inr (FRESH.out k (Nat.le_trans BB.out.size hk))) O2.out BB.out BB.out.size (by have := HL.out; omega) ?_; (case aX => first | (go_simp; done) | (go_simp; rfl)); (case aP => exact k30_mkF _ _ ⟨q1, q2, q3, q4⟩ L4.out (Kd.F_below FX.out BB.out)); intro v9 w9 ho hb hg_ hat_; obtain ⟨A9, c9, hv9⟩ := Kd.N_slice ho; rw [List.length_append, List.length_singleton] at hv9; subst hv9; have O3 := Aside0.mk ho; clear O2; clear X Y D BB i0 i1 i2 i3 u0 u1 u2 u3 k0 k1 k2 k3 z0 z1 z2 z3 l0 l1 l2 l3 m0 m1 m2 m3; have X := Aside0.mk (blk_below X7.out hb); have Y := Aside0.mk (blk_below Y7.out hb); have D := Aside0.mk (blk_below D7.out hb); have BB := Aside0.mk hb; obtain ⟨⟨i0, i1, i2, i3⟩, u0, u1, u2, u3⟩ := cell4 X.out; obtain ⟨⟨k0, k1, k2, k3⟩, z0, z1, z2, z3⟩ := cell4 Y.out; obtain ⟨⟨l0, l1, l2, l3⟩, m0, m1, m2, m3⟩ := cell4 D.out; clear hg_ hat_ ho hb) | fail)
                go_wp2
                (try simp only [Exit.inBlock, Exit.then])
                refine bodyPost_ret (results_ct rfl _ _ g2 45 #[.slice A9 (R.length + 1) c9, .string (rest.extract q5.toNat rest.size), .bool closed, .int .i64 0] (0, 0) _ rfl (by exact blk4_put (far8 (far8 Y.out (Ne.symm hne) 0 _) (Ne.symm hne) 1 _)) Try.underlying45 rfl (by kernel_rfl)) rfl ?_
                have hG1 := G1.out
                have hG2 := G2.out
                have FO : Kd.F k30 w9 (fun k => (ok k ∧ k < w.heap.size) ∨ (w.heap.size ≤ k ∧ k ≠ g1 ∧ k ≠ g2)) A9 (R ++ [(⟨q1, q2, q3, q4⟩ : S30)]).length (R ++ [(⟨q1, q2, q3, q4⟩ : S30)]) := Kd.N_F (by rw [List.length_append, List.length_singleton]; exact O3.out)
                have n1 : ∀ k, ((ok k ∧ k < w.heap.size) ∨ (w.heap.size ≤ k ∧ k ≠ g1 ∧ k ≠ g2)) → k ≠ g1 := fun k hk => by rcases hk with h | h <;> omega
                have n2 : ∀ k, ((ok k ∧ k < w.heap.size) ∨ (w.heap.size ≤ k ∧ k ≠ g1 ∧ k ≠ g2)) → k ≠ g2 := fun k hk => by rcases hk with h | h <;> omega
                refine ⟨_, rfl, ⟨A9, c9, by rw [List.length_append, List.length_singleton], (by rw [List.length_append, List.length_singleton]; exact (Kd.N_reads' (n := R.length + 1) O3.out).2.1), Kd.F_mono (Kd.F_far (p := ⟨g2, 3, none⟩) (Kd.F_far (p := ⟨g2, 2, none⟩) (Kd.F_far (p := ⟨g2, 1, none⟩) (Kd.F_far (p := ⟨g2, 0, none⟩) (Kd.F_far (p := ⟨g1, 1, none⟩) (Kd.F_far (p := ⟨g1, 0, none⟩) FO n1 _) n1 _) n2 _) n2 _) n2 _) n2 _) (fun k hk => hk.elim (fun h => .inl h.1) (fun h => .inr h.1))⟩, ?_⟩
                exact below4_put (((below_step B.out BB.out).setCell (p := ⟨g1, 0, none⟩) G1.out _).setCell (p := ⟨g1, 1, none⟩) G1.out _) G2.out
        · have e5 : (q6 != 0) = true := bne_iff_ne.mpr h5
          rw [if_pos h5] at hp
          subst hp
          clear h4 h5
          go_wp2_with (first | (go_at_call 36; (refine (rfail.calls_ A c R rest _ _ _ q6).mono ?_); rintro e w5 ⟨rfl, hb⟩; have XN := Aside0.mk (blk_below X.out hb); have YN := Aside0.mk (blk_below Y.out hb); have BN := Aside0.mk (below_step B.out hb); clear X Y B i0 i1 i2 i3 u0 u1 u2 u3 k0 k1 k2 k3 z0 z1 z2 z3; have X := XN; have Y := YN; have B := BN; clear XN YN BN; obtain ⟨⟨i0, i1, i2, i3⟩, u0, u1, u2, u3⟩ := cell4 X.out; obtain ⟨⟨k0, k1, k2, k3⟩, z0, z1, z2, z3⟩ := cell4 Y.out; clear hb) | fail)
          (try simp only [Exit.inBlock, Exit.then])
          (refine bodyPost_ret (results_ct rfl _ _ g2 45 #[.slice A R.length c, .string rest, .bool closed, .int .i64 q6] (0, 0) _ rfl (by exact blk4_put Y.out) Try.underlying45 rfl (by kernel_rfl)) rfl ?_)
          exact ⟨_, rfl, ⟨A, c, rfl, HCC.out, Kd.F_mono (Kd.F_below HF.out (below4_put B.out G2.out)) (fun _ h => .inl h)⟩, below4_put B.out G2.out⟩
  · have b0 : (e0 != 0) = true := bne_iff_ne.mpr he
    have hp := HP.out
    rw [rNextS, if_pos he] at hp
    subst hp
    clear he
    go_wp2
    (try simp only [Exit.inBlock, Exit.then])
    (refine bodyPost_ret (results_ct rfl _ _ g2 45 #[.slice A R.length c, .string rest, .bool closed, .int .i64 e0] (0, 0) _ rfl (by exact blk4_put Y.out) Try.underlying45 rfl (by kernel_rfl)) rfl ?_)
    exact ⟨_, rfl, ⟨A, c, rfl, HCC.out, Kd.F_mono (Kd.F_below HF.out (below4_put B.out G2.out)) (fun _ h => .inl h)⟩, below4_put B.out G2.out⟩
end Go.Proofs.Ytejcopppchaneaa.PF
