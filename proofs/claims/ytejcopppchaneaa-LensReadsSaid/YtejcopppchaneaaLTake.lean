/- lens.take: what it does. -/
import Derived.Test.YtejcopppchaneaaLens
set_option linter.unusedVariables false
set_option linter.unusedSimpArgs false
namespace Go.Proofs.Ytejcopppchaneaa.PF
open Go.RowKit Go.Proofs.YtejcopppchaneaaW.PrintWords Go.Proofs.YtejcopppchaneaaW.PrintLast Go.Proofs.YtejcopppchaneaaW.PrintMore Go.Proofs.Ytejcopppchaneaa.Pure
def xOf (p : RT) : S30 := ⟨p.1, p.2.1, p.2.2.1, p.2.2.2.1⟩
def takeQ (closed fit : Bool) (q : RT) : RT := if (q.2.2.2.2.2 == 4 && !closed) = true then er 0 else if (q.2.2.2.2.2 == 0 && !fit) = true then er 9 else q
def takeS (s : LS) : RT :=
  if s.e ≠ 0 then er s.e
  else if s.ended = true then (if s.rest.size = 0 then er 0 else er 20)
  else takeQ s.closed (fitsB s (xOf (rt s.rest))) (rt s.rest)
set_option maxHeartbeats 16000000 in
set_option maxRecDepth 100000 in
theorem lens_take.calls_ (g : Nat) (rest : ByteArray) (k n r : Int) (closed ended : Bool) (e0 : Int) (p : RT) (w : World) (hL : LAt w g ⟨rest, k, n, r, closed, ended, e0⟩) (hz : rest.size ≤ 600) (h1 : okR (lastR ⟨rest, k, n, r, closed, ended, e0⟩)) (h2 : (rt rest).2.2.2.2.2 = 0 → okR (xOf (rt rest))) (hp : takeS ⟨rest, k, n, r, closed, ended, e0⟩ = p) :
    Calls Try.prog 34 #[.pointer (some ⟨g, 0, none⟩)] w fun e w' => ∃ v : Value, e = .returned (.tuple #[.agg #[.int .i64 p.1, .int .i64 p.2.1, .int .i64 p.2.2.1, v], .int .i64 p.2.2.2.2.1, .int .i64 p.2.2.2.2.2]) ∧ Kd.R (Kd.int .i64) 3 w' w.heap.size (fun _ => True) v p.2.2.2.1 ∧ Below w.heap.size w w' := by
  have hu30 := Try.underlying30
  have hu61 := Try.underlying61
  have L : Aside0 (w.heap[g]? = some (.cells #[.string rest, .int .i64 k, .int .i64 n, .int .i64 r, .slice none 0 0, .bool closed, .bool ended, .int .i64 e0] 61 (0, 0))) := ⟨hL⟩
  have H1 := Aside0.mk h1
  have H2 := Aside0.mk h2
  have HZ := Aside0.mk hz
  have HP := Aside0.mk hp
  clear hL h1 h2 hz hp
  go_enter Try.func34, Try.ntmps34
  go_upto_region 1 with (first | ((with_reducible refine gate_dst (N := 2) rfl ?_); refine box_event ?hg (N := 2) ?hd (cs := #[.int .i64 0, .int .i64 0, .int .i64 0, .slice none 0 0]) (t := 30) ?hr ?_; (case hd => rfl); (case hg => rfl); (case hr => first | (go_simp; done) | (go_simp; rfl)); intro gr hg_ w1 hbox hb; have GR := Aside0.mk (show w.heap.size ≤ gr by omega); clear hg_; have BR := Aside0.mk hbox; have LN := Aside0.mk (blk_below L.out hb); clear L; have L := LN; clear LN; have HB := Aside0.mk hb; clear hbox hb; obtain ⟨⟨i0, i1, i2, i3, i4, i5, i6, i7⟩, u0, u1, u2, u3, u4, u5, u6, u7⟩ := cell8 L.out; obtain ⟨⟨k0, k1, k2, k3⟩, z0, z1, z2, z3⟩ := cell4 BR.out) | fail)
  by_cases he : e0 = 0
  · have e1 : (e0 != 0) = false := bne_eq_false_iff_eq.mpr he
    cases ended with
    | true =>
      by_cases hr : rest.size = 0
      · have hp := HP.out
        rw [takeS, if_neg (by simp [he]), if_pos rfl, if_pos hr] at hp
        subst hp
        have er1 : rest.toList.isEmpty = true := by rw [toList_empty]; exact decide_eq_true (by omega)
        go_wp2
        ((try simp only [Exit.inBlock, Exit.then]); refine bodyPost_ret (results_ctt rfl _ _ gr 30 #[.int .i64 0, .int .i64 0, .int .i64 0, .slice none 0 0] (0, 0) _ rfl (by exact blk4_put BR.out) Try.underlying30 rfl (by kernel_rfl)) rfl ?_)
        exact ⟨_, rfl, Kd.R_nil _ _ _ _ _, below4_put HB.out GR.out⟩
      · have hp := HP.out
        rw [takeS, if_neg (by simp [he]), if_pos rfl, if_neg hr] at hp
        subst hp
        have er1 : rest.toList.isEmpty = false := by rw [toList_empty]; exact decide_eq_false (by omega)
        go_wp2
        ((try simp only [Exit.inBlock, Exit.then]); refine bodyPost_ret (results_ctt rfl _ _ gr 30 #[.int .i64 0, .int .i64 0, .int .i64 0, .slice none 0 0] (0, 0) _ rfl (by exact blk4_put BR.out) Try.underlying30 rfl (by kernel_rfl)) rfl ?_)
        exact ⟨_, rfl, Kd.R_nil _ _ _ _ _, below4_put HB.out GR.out⟩
    | false =>
      obtain ⟨kk, hk⟩ := (rec_take_ev rest (by have := HZ.out; omega)).rounds
      have hp := HP.out
      rw [takeS, if_neg (by simp [he]), if_neg (by simp)] at hp
      simp only at hp
      have h2 := H2.out
      obtain ⟨⟨q1, q2, q3, q4, q5, q6⟩, hq⟩ : ∃ q, rt rest = q := ⟨_, rfl⟩
      rw [hq] at hk hp h2
      simp only [xOf] at hp h2
      have RTK := Aside0.mk hk
      have H2 := Aside0.mk h2
      clear HP
      have HP := Aside0.mk hp
      clear hk hp hq h2
      go_upto_region 8 with (first | (go_at_call 50; (with_reducible refine (record_Take.calls kk rest q1 q2 q3 q4 q5 q6 _ RTK.out).mono ?_); rintro e w2 ⟨v, rfl, hR, hb⟩; obtain ⟨A, c, rfl⟩ := Kd.R_slice hR; have HR := Aside0.mk (Kd.R_lower hR HB.out.size); have LN := Aside0.mk (blk_below L.out hb); have KN := Aside0.mk (blk_below BR.out hb); have BN := Aside0.mk (below_step HB.out hb); clear L BR HB i0 i1 i2 i3 i4 i5 i6 i7 u0 u1 u2 u3 u4 u5 u6 u7 k0 k1 k2 k3 z0 z1 z2 z3; have L := LN; have BR := KN; have HB := BN; clear LN KN BN; obtain ⟨⟨i0, i1, i2, i3, i4, i5, i6, i7⟩, u0, u1, u2, u3, u4, u5, u6, u7⟩ := cell8 L.out; obtain ⟨⟨k0, k1, k2, k3⟩, z0, z1, z2, z3⟩ := cell4 BR.out; clear hb hR) | ((with_reducible refine gate_dst (N := 5) rfl ?_); refine box_event ?hg (N := 5) ?hd (cs := #[.int .i64 0, .int .i64 0, .int .i64 0, .slice none 0 0]) (t := 30) ?hr ?_; (case hd => rfl); (case hg => rfl); (case hr => first | (go_simp; done) | (go_simp; rfl)); intro gx hg_ w3 hbox hb; have NX := Aside0.mk (show gx ≠ g ∧ gx ≠ gr ∧ w.heap.size ≤ gx from by have h1 := blk_lt L.out; have h2 := blk_lt BR.out; have h3 := HB.out.size; exact ⟨by omega, by omega, by omega⟩); clear hg_; have BX := Aside0.mk hbox; have LN := Aside0.mk (blk_below L.out hb); have KN := Aside0.mk (blk_below BR.out hb); have RN := Aside0.mk (Kd.R_below HR.out hb); have BN := Aside0.mk (below_step HB.out hb); clear L BR HR HB i0 i1 i2 i3 i4 i5 i6 i7 u0 u1 u2 u3 u4 u5 u6 u7 k0 k1 k2 k3 z0 z1 z2 z3; have L := LN; have BR := KN; have HR := RN; have HB := BN; clear LN KN RN BN; clear hbox hb; obtain ⟨⟨i0, i1, i2, i3, i4, i5, i6, i7⟩, u0, u1, u2, u3, u4, u5, u6, u7⟩ := cell8 L.out; obtain ⟨⟨k0, k1, k2, k3⟩, z0, z1, z2, z3⟩ := cell4 BR.out; obtain ⟨⟨l0, l1, l2, l3⟩, m0, m1, m2, m3⟩ := cell4 BX.out) | fail)
      have HR3 := Aside0.mk (row4_put (a' := .int .i64 q1) (b' := .int .i64 q2) (c' := .int .i64 q3) (d' := .slice A q4.length c) BX.out HR.out)
      have L3 := Aside0.mk (blk_kept L.out (kept4 _ gx (.int .i64 q1) (.int .i64 q2) (.int .i64 q3) (.slice A q4.length c)) (Ne.symm NX.out.1))
      have BR3 := Aside0.mk (blk_kept BR.out (kept4 _ gx (.int .i64 q1) (.int .i64 q2) (.int .i64 q3) (.slice A q4.length c)) (Ne.symm NX.out.2.1))
      have HB3 := Aside0.mk (below4_put (a' := .int .i64 q1) (b' := .int .i64 q2) (c' := .int .i64 q3) (d' := .slice A q4.length c) HB.out NX.out.2.2)
      have BX3 := Aside0.mk (blk4_put (a' := .int .i64 q1) (b' := .int .i64 q2) (c' := .int .i64 q3) (d' := .slice A q4.length c) BX.out)
      clear L BR HB HR BX i0 i1 i2 i3 i4 i5 i6 i7 u0 u1 u2 u3 u4 u5 u6 u7 k0 k1 k2 k3 z0 z1 z2 z3 l0 l1 l2 l3 m0 m1 m2 m3
      generalize ((((w3.setCell ⟨gx, 0, none⟩ (.int .i64 q1)).setCell ⟨gx, 1, none⟩ (.int .i64 q2)).setCell ⟨gx, 2, none⟩ (.int .i64 q3)).setCell ⟨gx, 3, none⟩ (.slice A q4.length c)) = w4 at L3 BR3 HB3 BX3 HR3 ⊢
      obtain ⟨⟨i0, i1, i2, i3, i4, i5, i6, i7⟩, u0, u1, u2, u3, u4, u5, u6, u7⟩ := cell8 L3.out
      obtain ⟨⟨k0, k1, k2, k3⟩, z0, z1, z2, z3⟩ := cell4 BR3.out
      obtain ⟨⟨l0, l1, l2, l3⟩, m0, m1, m2, m3⟩ := cell4 BX3.out
      have fin : ∀ (w5 : World), w5.heap[gr]? = some (.cells #[.int .i64 0, .int .i64 0, .int .i64 0, .slice none 0 0] 30 (0, 0)) → True := fun _ _ => trivial
      by_cases h4 : q6 = 4
      · have e4 : (q6 == 4) = true := beq_iff_eq.mpr h4
        have e5 : (q6 == 0) = false := beq_eq_false_iff_ne.mpr (by omega)
        cases closed with
        | false =>
          have hp := HP.out
          rw [show takeQ false _ (q1, q2, q3, q4, q5, q6) = er 0 from by simp [takeQ, e4]] at hp
          subst hp
          go_wp2
          ((try simp only [Exit.inBlock, Exit.then]); refine bodyPost_ret (results_ctt rfl _ _ gr 30 #[.int .i64 0, .int .i64 0, .int .i64 0, .slice none 0 0] (0, 0) _ rfl (by exact blk4_put BR3.out) Try.underlying30 rfl (by kernel_rfl)) rfl ?_)
          exact ⟨_, rfl, Kd.R_nil _ _ _ _ _, below4_put HB3.out GR.out⟩
        | true =>
          have hp := HP.out
          rw [show takeQ true _ (q1, q2, q3, q4, q5, q6) = (q1, q2, q3, q4, q5, q6) from by simp [takeQ, e4, e5]] at hp
          subst hp
          go_wp2
          ((try simp only [Exit.inBlock, Exit.then]); refine bodyPost_ret (results_ctt rfl _ _ gr 30 #[.int .i64 q1, .int .i64 q2, .int .i64 q3, .slice A q4.length c] (0, 0) _ rfl (by exact blk4_put BR3.out) Try.underlying30 rfl (by kernel_rfl)) rfl ?_)
          exact ⟨_, rfl, row4_put BR3.out HR3.out, below4_put HB3.out GR.out⟩
      · have e4 : (q6 == 4) = false := beq_eq_false_iff_ne.mpr h4
        have hp := HP.out
        by_cases h5 : q6 = 0
        · have e5 : (q6 == 0) = true := beq_iff_eq.mpr h5
          have HC := Aside0.mk (Kd.R_reads' HR3.out).2.2
          have HL := Aside0.mk (Kd.R_reads' HR3.out).2.1
          have HF := Aside0.mk (H2.out h5)
          have FF : Calls Try.prog 51 #[.pointer (some ⟨g, 0, none⟩), .agg #[.int .i64 q1, .int .i64 q2, .int .i64 q3, .slice A q4.length c]] w4 fun e w' => e = .returned (.bool (fitsB ⟨rest, k, n, r, closed, false, e0⟩ ⟨q1, q2, q3, q4⟩)) ∧ Below w4.heap.size w4 w' := lens_fits.calls_ g ⟨rest, k, n, r, closed, false, e0⟩ ⟨q1, q2, q3, q4⟩ A c w4 L3.out HC.out HL.out H1.out HF.out
          have FF := Aside0.mk FF
          cases hf : fitsB ⟨rest, k, n, r, closed, false, e0⟩ ⟨q1, q2, q3, q4⟩ with
          | false =>
            rw [show takeQ closed _ (q1, q2, q3, q4, q5, q6) = er 9 from by simp [takeQ, e4, e5, hf]] at hp
            subst hp
            have HFB := Aside0.mk hf
            clear hf
            go_wp2_with (first | (go_at_call 51; (with_reducible refine FF.out.mono ?_); rintro e w5 ⟨he5, hb⟩; rw [HFB.out] at he5; subst he5; have LN := Aside0.mk (blk_below L3.out hb); have KN := Aside0.mk (blk_below BR3.out hb); have XN := Aside0.mk (blk_below BX3.out hb); have BN := Aside0.mk (below_step HB3.out hb); have RN := Aside0.mk (Kd.R_below HR3.out hb); clear L3 BR3 BX3 HB3 HC HL HR3 i0 i1 i2 i3 i4 i5 i6 i7 u0 u1 u2 u3 u4 u5 u6 u7 k0 k1 k2 k3 z0 z1 z2 z3 l0 l1 l2 l3 m0 m1 m2 m3; have L3 := LN; have BR3 := KN; have BX3 := XN; have HB3 := BN; have HR3 := RN; clear LN KN BN XN RN; obtain ⟨⟨i0, i1, i2, i3, i4, i5, i6, i7⟩, u0, u1, u2, u3, u4, u5, u6, u7⟩ := cell8 L3.out; obtain ⟨⟨k0, k1, k2, k3⟩, z0, z1, z2, z3⟩ := cell4 BR3.out; obtain ⟨⟨l0, l1, l2, l3⟩, m0, m1, m2, m3⟩ := cell4 BX3.out; clear hb) | fail)
            ((try simp only [Exit.inBlock, Exit.then]); refine bodyPost_ret (results_ctt rfl _ _ gr 30 #[.int .i64 0, .int .i64 0, .int .i64 0, .slice none 0 0] (0, 0) _ rfl (by exact blk4_put BR3.out) Try.underlying30 rfl (by kernel_rfl)) rfl ?_)
            exact ⟨_, rfl, Kd.R_nil _ _ _ _ _, below4_put HB3.out GR.out⟩
          | true =>
            rw [show takeQ closed _ (q1, q2, q3, q4, q5, q6) = (q1, q2, q3, q4, q5, q6) from by simp [takeQ, e4, e5, hf]] at hp
            subst hp
            have HFB := Aside0.mk hf
            clear hf
            go_wp2_with (first | (go_at_call 51; (with_reducible refine FF.out.mono ?_); rintro e w5 ⟨he5, hb⟩; rw [HFB.out] at he5; subst he5; have LN := Aside0.mk (blk_below L3.out hb); have KN := Aside0.mk (blk_below BR3.out hb); have XN := Aside0.mk (blk_below BX3.out hb); have BN := Aside0.mk (below_step HB3.out hb); have RN := Aside0.mk (Kd.R_below HR3.out hb); clear L3 BR3 BX3 HB3 HC HL HR3 i0 i1 i2 i3 i4 i5 i6 i7 u0 u1 u2 u3 u4 u5 u6 u7 k0 k1 k2 k3 z0 z1 z2 z3 l0 l1 l2 l3 m0 m1 m2 m3; have L3 := LN; have BR3 := KN; have BX3 := XN; have HB3 := BN; have HR3 := RN; clear LN KN BN XN RN; obtain ⟨⟨i0, i1, i2, i3, i4, i5, i6, i7⟩, u0, u1, u2, u3, u4, u5, u6, u7⟩ := cell8 L3.out; obtain ⟨⟨k0, k1, k2, k3⟩, z0, z1, z2, z3⟩ := cell4 BR3.out; obtain ⟨⟨l0, l1, l2, l3⟩, m0, m1, m2, m3⟩ := cell4 BX3.out; clear hb) | fail)
            ((try simp only [Exit.inBlock, Exit.then]); refine bodyPost_ret (results_ctt rfl _ _ gr 30 #[.int .i64 q1, .int .i64 q2, .int .i64 q3, .slice A q4.length c] (0, 0) _ rfl (by exact blk4_put BR3.out) Try.underlying30 rfl (by kernel_rfl)) rfl ?_)
            exact ⟨_, rfl, row4_put BR3.out HR3.out, below4_put HB3.out GR.out⟩
        · have e5 : (q6 == 0) = false := beq_eq_false_iff_ne.mpr h5
          rw [show takeQ closed _ (q1, q2, q3, q4, q5, q6) = (q1, q2, q3, q4, q5, q6) from by simp [takeQ, e4, e5]] at hp
          subst hp
          go_wp2
          ((try simp only [Exit.inBlock, Exit.then]); refine bodyPost_ret (results_ctt rfl _ _ gr 30 #[.int .i64 q1, .int .i64 q2, .int .i64 q3, .slice A q4.length c] (0, 0) _ rfl (by exact blk4_put BR3.out) Try.underlying30 rfl (by kernel_rfl)) rfl ?_)
          exact ⟨_, rfl, row4_put BR3.out HR3.out, below4_put HB3.out GR.out⟩
  · have e1 : (e0 != 0) = true := bne_iff_ne.mpr he
    have hp := HP.out
    rw [takeS, if_pos he] at hp
    subst hp
    go_wp2
    go_region
    all_goals go_wp2
    all_goals ((try simp only [Exit.inBlock, Exit.then]); refine bodyPost_ret (results_ctt rfl _ _ gr 30 #[.int .i64 0, .int .i64 0, .int .i64 0, .slice none 0 0] (0, 0) _ rfl (by refine blk_drew ?_; exact blk4_put BR.out) Try.underlying30 rfl (by kernel_rfl)) rfl ?_)
    all_goals exact ⟨_, rfl, Kd.R_nil _ _ _ _ _, below_drew (below4_put HB.out GR.out)⟩
end Go.Proofs.Ytejcopppchaneaa.PF
