/- Merged for a claim, what it doesn't need left out: words of the kit's print (W..), what that print, patched, wrote (P..), and texts of this session: RecTake, HTake, PFx1, PFx3, LMer, Lens, LTake, LNext, LMeth, LPlain. -/
import Derived.RegionTactic
import Derived.Lib.Builder
import Derived.Test.YtejcopppchaneaaSLB0
section
namespace Go.Proofs.Ytejcopppchaneaa.PF
open Go.RowKit Go.Proofs.YtejcopppchaneaaW.PrintWords Go.Proofs.YtejcopppchaneaaW.PrintLast Go.Proofs.YtejcopppchaneaaW.PrintMore
set_option linter.unusedVariables false
set_option linter.unusedSimpArgs false
def record_Take.fin (c a b : Int) (l : List Int) (at_ e : Int) : Option (Int × Int × Int × List Int × Int × Int) := if e = 0 then some (c, a, b, l, at_, 0) else some (0, 0, 0, [], 0, e)
def record_Take.f (k : Nat) (a0 : ByteArray) : Option (Int × Int × Int × List Int × Int × Int) :=
  if (a0.size : Int) = 0 then some (0, 0, 0, [], 0, 4)
  else if wrap64 (bt a0 0) < 1 then some (0, 0, 0, [], 0, 3)
  else if wrap64 (bt a0 0) > 6 then some (0, 0, 0, [], 0, 3)
  else if wrap64 (bt a0 0) = 4 then (record_taker_list.f k a0 1 0).bind fun p => record_Take.fin (wrap64 (bt a0 0)) 0 0 p.1 p.2.2.1 p.2.2.2
  else (record_runs.f (wrap64 (bt a0 0))).bind fun t => if t = true then
      (record_taker_offset.f k a0 1 0 1).bind fun p => (record_taker_offset.f k p.2.1 p.2.2.1 p.2.2.2 1).bind fun q => record_Take.fin (wrap64 (bt a0 0)) p.1 q.1 [] q.2.2.1 q.2.2.2
    else (record_taker_offset.f k a0 1 0 0).bind fun p => (record_taker_offset.f k p.2.1 p.2.2.1 p.2.2.2 0).bind fun q => record_Take.fin (wrap64 (bt a0 0)) p.1 q.1 [] q.2.2.1 q.2.2.2
theorem toList_empty (s : ByteArray) : s.toList.isEmpty = decide ((s.size : Int) = 0) := by
  rw [Lib.toList_data]
  have h : s.data.toList.length = s.size := by rw [Array.length_toList]; rfl
  cases hl : s.data.toList with
  | nil => rw [hl] at h; simp at h; simp [← h]
  | cons x r => rw [hl, List.length_cons] at h; exact (decide_eq_false (by omega)).symm
theorem cell4 {w : World} {g : Nat} {a b c d : Value} {t : TypeId} (h : w.heap[g]? = some (.cells #[a, b, c, d] t (0, 0))) : (w.cell? ⟨g, 0, none⟩ = some a ∧ w.cell? ⟨g, 1, none⟩ = some b ∧ w.cell? ⟨g, 2, none⟩ = some c ∧ w.cell? ⟨g, 3, none⟩ = some d) ∧ w.frozen? ⟨g, 0, none⟩ = false ∧ w.frozen? ⟨g, 1, none⟩ = false ∧ w.frozen? ⟨g, 2, none⟩ = false ∧ w.frozen? ⟨g, 3, none⟩ = false :=
  ⟨⟨(blk_cell h 0).trans rfl, (blk_cell h 1).trans rfl, (blk_cell h 2).trans rfl, (blk_cell h 3).trans rfl⟩, blk_frozen h 0, blk_frozen h 1, blk_frozen h 2, blk_frozen h 3⟩
theorem cell3 {w : World} {g : Nat} {a b c : Value} {t : TypeId} (h : w.heap[g]? = some (.cells #[a, b, c] t (0, 0))) : (w.cell? ⟨g, 0, none⟩ = some a ∧ w.cell? ⟨g, 1, none⟩ = some b ∧ w.cell? ⟨g, 2, none⟩ = some c) ∧ w.frozen? ⟨g, 0, none⟩ = false ∧ w.frozen? ⟨g, 1, none⟩ = false ∧ w.frozen? ⟨g, 2, none⟩ = false :=
  ⟨⟨(blk_cell h 0).trans rfl, (blk_cell h 1).trans rfl, (blk_cell h 2).trans rfl⟩, blk_frozen h 0, blk_frozen h 1, blk_frozen h 2⟩
theorem blk4_put {w : World} {g : Nat} {a b c d a' b' c' d' : Value} {t : TypeId} (h : w.heap[g]? = some (.cells #[a, b, c, d] t (0, 0))) : ((((w.setCell ⟨g, 0, none⟩ a').setCell ⟨g, 1, none⟩ b').setCell ⟨g, 2, none⟩ c').setCell ⟨g, 3, none⟩ d').heap[g]? = some (.cells #[a', b', c', d'] t (0, 0)) :=
  blk_put (cs := #[a', b', c', d]) (blk_put (cs := #[a', b', c, d]) (blk_put (cs := #[a', b, c, d]) (blk_put (cs := #[a, b, c, d]) h 0 a' rfl) 1 b' rfl) 2 c' rfl) 3 d' rfl
theorem below4_put {b0 : Nat} {w0 w : World} {g : Nat} {a' b' c' d' : Value} (h : Below b0 w0 w) (hg : b0 ≤ g) : Below b0 w0 ((((w.setCell ⟨g, 0, none⟩ a').setCell ⟨g, 1, none⟩ b').setCell ⟨g, 2, none⟩ c').setCell ⟨g, 3, none⟩ d') :=
  (((h.setCell (p := ⟨g, 0, none⟩) hg _).setCell (p := ⟨g, 1, none⟩) hg _).setCell (p := ⟨g, 2, none⟩) hg _).setCell (p := ⟨g, 3, none⟩) hg _
theorem row4_put {w : World} {g base : Nat} {ok : Nat → Prop} {v : Value} {xs : List Int} {a b c d a' b' c' d' : Value} (h : w.heap[g]? = some (.cells #[a, b, c, d] 30 (0, 0))) (hr : Kd.R (Kd.int .i64) 3 w base ok v xs) : Kd.R (Kd.int .i64) 3 ((((w.setCell ⟨g, 0, none⟩ a').setCell ⟨g, 1, none⟩ b').setCell ⟨g, 2, none⟩ c').setCell ⟨g, 3, none⟩ d') base ok v xs :=
  Kd.R_set (Kd.R_set (Kd.R_set (Kd.R_set hr h (by decide) 0 a') (blk_put (cs' := #[a', b, c, d]) h 0 a' rfl) (by decide) 1 b') (blk_put (cs' := #[a', b', c, d]) (blk_put (cs' := #[a', b, c, d]) h 0 a' rfl) 1 b' rfl) (by decide) 2 c') (blk_put (cs' := #[a', b', c', d]) (blk_put (cs' := #[a', b', c, d]) (blk_put (cs' := #[a', b, c, d]) h 0 a' rfl) 1 b' rfl) 2 c' rfl) (by decide) 3 d'
set_option maxHeartbeats 8000000 in
set_option maxRecDepth 100000 in
theorem record_Take.empty_ (a0 : ByteArray) (w : World) (h : (a0.size : Int) = 0) :
    Calls Try.prog 50 #[.string a0] w fun e w' => ∃ v3_ : Value, e = .returned (.tuple #[.agg #[.int .i64 0, .int .i64 0, .int .i64 0, v3_], .int .i64 0, .int .i64 4]) ∧ Kd.R (Kd.int .i64) 3 w' w.heap.size (fun _ => True) v3_ [] ∧ Below w.heap.size w w' := by
  have hu24 := Try.underlying30
  have he : a0.toList.isEmpty = true := by rw [toList_empty]; exact decide_eq_true h
  go_enter Try.func50, Try.ntmps50
  go_wp2_with (first | ((with_reducible refine gate_dst (N := 2) rfl ?_); refine box_event ?hg (N := 2) ?hd (cs := #[.int .i64 0, .int .i64 0, .int .i64 0, .slice none 0 0]) (t := 30) ?hr ?_; (case hd => rfl); (case hg => rfl); (case hr => first | (go_simp; done) | (go_simp; rfl)); intro gr hgr w1 hbox hb; have GR := Aside0.mk (show w.heap.size ≤ gr by omega); clear hgr; have HB1 := Aside0.mk hb; clear hb; have BR := Aside0.mk hbox; clear hbox; obtain ⟨⟨k0, k1, k2, k3⟩, z0, z1, z2, z3⟩ := cell4 BR.out) | fail)
  refine bodyPost_ret (results_ctt rfl _ _ gr 30 #[.int .i64 0, .int .i64 0, .int .i64 0, .slice none 0 0] (0, 0) _ rfl (by exact blk4_put BR.out) Try.underlying30 rfl (by kernel_rfl)) rfl ?_
  exact ⟨_, rfl, Kd.R_nil _ _ _ _ _, below4_put HB1.out GR.out⟩
set_option maxHeartbeats 16000000 in
set_option maxRecDepth 100000 in
theorem record_Take.calls (k : Nat) (a0 : ByteArray) (r1 : Int) (r2 : Int) (r3 : Int) (r4 : List Int) (r5 : Int) (r6 : Int) (w : World) (h : record_Take.f k a0 = some (r1, r2, r3, r4, r5, r6)) :
    Calls Try.prog 50 #[.string a0] w fun e w' => ∃ v3_ : Value, e = .returned (.tuple #[.agg #[.int .i64 r1, .int .i64 r2, .int .i64 r3, v3_], .int .i64 r5, .int .i64 r6]) ∧ Kd.R (Kd.int .i64) 3 w' w.heap.size (fun _ => True) v3_ r4 ∧ Below w.heap.size w w' := by
  have H := h
  clear h
  unfold record_Take.f at H
  by_cases h : (a0.size : Int) = 0
  · rw [if_pos h] at H
    simp only [Option.some.injEq, Prod.mk.injEq] at H
    obtain ⟨rfl, rfl, rfl, rfl, rfl, rfl⟩ := H
    exact record_Take.empty_ a0 w h
  · rw [if_neg h] at H
    have HC := Aside0.mk H
    clear H
    have hu24 := Try.underlying30
    have he : a0.toList.isEmpty = false := by rw [toList_empty]; exact decide_eq_false h
    have c5b0 : decide (0 < (a0.size : Int)) = true := decide_eq_true (by omega)
    have c5b1 : decide (0 < a0.size) = true := decide_eq_true (by omega)
    go_enter Try.func50, Try.ntmps50
    go_upto_region 7 with (first | ((with_reducible refine gate_dst (N := 2) rfl ?_); refine box_event ?hg (N := 2) ?hd (cs := #[.int .i64 0, .int .i64 0, .int .i64 0, .slice none 0 0]) (t := 30) ?hr ?_; (case hd => rfl); (case hg => rfl); (case hr => first | (go_simp; done) | (go_simp; rfl)); intro gr hgr w1 hbox hb; have GR := Aside0.mk (show w.heap.size ≤ gr by omega); clear hgr; have HB1 := Aside0.mk hb; clear hb; have BR := Aside0.mk hbox; clear hbox; obtain ⟨⟨k0, k1, k2, k3⟩, z0, z1, z2, z3⟩ := cell4 BR.out) | ((with_reducible refine gate_dst (N := 11) rfl ?_); refine box_event ?hg (N := 11) ?hd (cs := #[.string a0, .int .i64 1, .int .i64 0]) (t := 105) ?hr ?_; (case hd => rfl); (case hg => rfl); (case hr => first | (go_simp; done) | (go_simp; rfl)); intro gt hgt w2 hbt hb2; have hne : gr ≠ gt := (by have := blk_lt BR.out; omega); have GT := Aside0.mk (show w.heap.size ≤ gt by have := HB1.out.size; omega); clear hgt; have HB2 := Aside0.mk (below_step HB1.out hb2); have BR2 := Aside0.mk (blk_below BR.out hb2); have BT := Aside0.mk hbt; clear hbt hb2 HB1 BR k0 k1 k2 k3 z0 z1 z2 z3; obtain ⟨⟨k0, k1, k2, k3⟩, z0, z1, z2, z3⟩ := cell4 BR2.out) | fail)
    have e0 : ∀ h : 0 < a0.size, ((a0[0]'h).toNat : Int) = bt a0 0 := bt_at a0 0
    rw [e0]
    clear e0
    have BR3 := Aside0.mk (blk_put (cs' := #[.int .i64 (wrap64 (bt a0 0)), .int .i64 0, .int .i64 0, .slice none 0 0]) BR2.out 0 (.int .i64 (wrap64 (bt a0 0))) rfl)
    have BT3 := Aside0.mk (blk_far BT.out (p := ⟨gr, 0, none⟩) (Ne.symm hne) (.int .i64 (wrap64 (bt a0 0))))
    have HB3 := Aside0.mk (HB2.out.setCell (p := ⟨gr, 0, none⟩) GR.out (.int .i64 (wrap64 (bt a0 0))))
    clear BR2 BT HB2 k0 k1 k2 k3 z0 z1 z2 z3
    generalize w2.setCell ⟨gr, 0, none⟩ (.int .i64 (wrap64 (bt a0 0))) = w3 at BR3 BT3 HB3 ⊢
    have H := HC.out
    clear HC
    generalize wrap64 (bt a0 0) = c at H BR3 ⊢
    obtain ⟨⟨k0, k1, k2, k3⟩, z0, z1, z2, z3⟩ := cell4 BR3.out
    obtain ⟨⟨j0, j1, j2⟩, y0, y1, y2⟩ := cell3 BT3.out
    by_cases h1 : c < 1
    · rw [if_pos h1] at H
      simp only [Option.some.injEq, Prod.mk.injEq] at H
      obtain ⟨rfl, rfl, rfl, rfl, rfl, rfl⟩ := H
      have d1 : decide (c < 1) = true := decide_eq_true h1
      clear h1
      go_wp2
      go_region
      all_goals go_wp2
      all_goals (refine bodyPost_ret (results_ctt rfl _ _ gr 30 #[.int .i64 0, .int .i64 0, .int .i64 0, .slice none 0 0] (0, 0) _ rfl (by refine blk_drew ?_; exact blk4_put (blk_far BR3.out (p := ⟨gt, 2, none⟩) hne _)) Try.underlying30 rfl (by kernel_rfl)) rfl ?_)
      all_goals exact ⟨_, rfl, Kd.R_nil _ _ _ _ _, below_drew (below4_put (HB3.out.setCell (p := ⟨gt, 2, none⟩) GT.out _) GR.out)⟩
    · rw [if_neg h1] at H
      have d1 : decide (c < 1) = false := decide_eq_false h1
      clear h1
      by_cases h2 : c > 6
      · rw [if_pos h2] at H
        simp only [Option.some.injEq, Prod.mk.injEq] at H
        obtain ⟨rfl, rfl, rfl, rfl, rfl, rfl⟩ := H
        have d2 : decide (c > 6) = true := decide_eq_true h2
        have d2' : decide (6 < c) = true := decide_eq_true h2
        clear h2
        go_wp2
        go_region
        all_goals go_wp2
        all_goals (refine bodyPost_ret (results_ctt rfl _ _ gr 30 #[.int .i64 0, .int .i64 0, .int .i64 0, .slice none 0 0] (0, 0) _ rfl (by refine blk_drew ?_; exact blk4_put (blk_far BR3.out (p := ⟨gt, 2, none⟩) hne _)) Try.underlying30 rfl (by kernel_rfl)) rfl ?_)
        all_goals exact ⟨_, rfl, Kd.R_nil _ _ _ _ _, below_drew (below4_put (HB3.out.setCell (p := ⟨gt, 2, none⟩) GT.out _) GR.out)⟩
      · rw [if_neg h2] at H
        have d2 : decide (c > 6) = false := decide_eq_false h2
        have d2' : decide (6 < c) = false := decide_eq_false h2
        clear h2
        by_cases h3 : c = 4
        · rw [if_pos h3] at H
          have d3 : (c == 4) = true := beq_iff_eq.mpr h3
          clear h3
          obtain ⟨⟨p1, p2, p3, p4⟩, A1, H⟩ := Option.bind_eq_some_iff.mp H
          simp only at H
          have HA1 := Aside0.mk A1
          have HH := Aside0.mk H
          clear A1 H
          have HI3 := Aside0.mk (show IsS105 w w3 gt a0 1 0 from ⟨BT3.out, GT.out⟩)
          go_upto_region 14 with (first | (go_at_call 63; (with_reducible refine (record_taker_list.calls k gt a0 1 0 p1 p2 p3 p4 w _ HI3.out HB3.out HA1.out).mono ?_); rintro e w4 ⟨v, rfl, hR, hI, hB4, hK⟩; obtain ⟨A, cp, rfl⟩ := Kd.R_slice hR; have HR4 := Aside0.mk (Kd.R_lower hR HB3.out.size); have BR4 := Aside0.mk (KeepBut.blk hK BR3.out hne (by simp)); have HB4 := Aside0.mk hB4; have BT4 := Aside0.mk hI.1; clear hR hI hB4 hK k0 k1 k2 k3 z0 z1 z2 z3 j0 j1 j2 y0 y1 y2; obtain ⟨⟨k0, k1, k2, k3⟩, z0, z1, z2, z3⟩ := cell4 BR4.out) | fail)
          have BR6 := Aside0.mk (blk_put (cs' := #[.int .i64 c, .int .i64 0, .int .i64 0, .slice A p1.length cp]) BR4.out 3 (.slice A p1.length cp) rfl)
          have BT6 := Aside0.mk (blk_far BT4.out (p := ⟨gr, 3, none⟩) (Ne.symm hne) (.slice A p1.length cp))
          have HB6 := Aside0.mk (HB4.out.setCell (p := ⟨gr, 3, none⟩) GR.out (.slice A p1.length cp))
          have HR6 := Aside0.mk (Kd.R_set HR4.out BR4.out (by decide) 3 (.slice A p1.length cp))
          clear BR4 BT4 HB4 HR4 k0 k1 k2 k3 z0 z1 z2 z3
          generalize w4.setCell ⟨gr, 3, none⟩ (.slice A p1.length cp) = w6 at BR6 BT6 HB6 HR6 ⊢
          have H := HH.out
          clear HH
          obtain ⟨⟨k0, k1, k2, k3⟩, z0, z1, z2, z3⟩ := cell4 BR6.out
          obtain ⟨⟨j0, j1, j2⟩, y0, y1, y2⟩ := cell3 BT6.out
          unfold record_Take.fin at H
          by_cases he0 : p4 = 0
          · rw [if_pos he0] at H
            simp only [Option.some.injEq, Prod.mk.injEq] at H
            obtain ⟨rfl, rfl, rfl, rfl, rfl, rfl⟩ := H
            have b0 : (p4 == 0) = true := beq_iff_eq.mpr he0
            have b1 : (p4 != 0) = false := bne_eq_false_iff_eq.mpr he0
            clear he0
            go_wp2
            go_region
            all_goals go_wp2
            all_goals (refine bodyPost_ret (results_ctt rfl _ _ gr 30 #[.int .i64 c, .int .i64 0, .int .i64 0, (.slice A p1.length cp)] (0, 0) _ rfl (by refine blk_drew ?_; exact blk4_put BR6.out) Try.underlying30 rfl (by kernel_rfl)) rfl ?_)
            all_goals exact ⟨_, rfl, Kd.R_drew (row4_put BR6.out HR6.out), below_drew (below4_put HB6.out GR.out)⟩
          · rw [if_neg he0] at H
            simp only [Option.some.injEq, Prod.mk.injEq] at H
            obtain ⟨rfl, rfl, rfl, rfl, rfl, rfl⟩ := H
            have b0 : (p4 == 0) = false := beq_eq_false_iff_ne.mpr he0
            have b1 : (p4 != 0) = true := bne_iff_ne.mpr he0
            clear he0
            go_wp2
            go_region
            all_goals go_wp2
            all_goals (refine bodyPost_ret (results_ctt rfl _ _ gr 30 #[.int .i64 0, .int .i64 0, .int .i64 0, .slice none 0 0] (0, 0) _ rfl (by refine blk_drew ?_; exact blk4_put BR6.out) Try.underlying30 rfl (by kernel_rfl)) rfl ?_)
            all_goals exact ⟨_, rfl, Kd.R_nil _ _ _ _ _, below_drew (below4_put HB6.out GR.out)⟩
        · rw [if_neg h3] at H
          have d3 : (c == 4) = false := beq_eq_false_iff_ne.mpr h3
          clear h3
          obtain ⟨t, AR0, H⟩ := Option.bind_eq_some_iff.mp H
          have AR := Aside0.mk AR0
          clear AR0
          by_cases ht : t = true
          · subst ht
            rw [if_pos rfl] at H
            obtain ⟨⟨p1, p2, p3, p4⟩, A1, H⟩ := Option.bind_eq_some_iff.mp H
            obtain ⟨⟨q1, q2, q3, q4⟩, A2, H⟩ := Option.bind_eq_some_iff.mp H
            simp only at A2 H
            have HA1 := Aside0.mk A1
            have HA2 := Aside0.mk A2
            have HH := Aside0.mk H
            clear A1 A2 H
            have HI3 := Aside0.mk (show IsS105 w w3 gt a0 1 0 from ⟨BT3.out, GT.out⟩)
            go_upto_region 13 with (first | (go_at_call 64; (with_reducible refine (record_runs.calls c _ _ AR.out).mono ?_); rintro e wr ⟨rfl, hdr⟩; obtain ⟨mr, hmr⟩ := hdr; subst hmr) | (go_at_call 65; (with_reducible refine (record_taker_offset.calls k gt a0 1 0 1 p1 p2 p3 p4 w _ (IsS105.drewN HI3.out mr) (pw_below_drewN HB3.out mr) HA1.out).mono ?_); rintro e w4 ⟨rfl, hI, hB4, hK⟩; have BR4 := Aside0.mk (KeepBut.blk hK (blk_drewN BR3.out mr) hne (by simp)); have HB4 := Aside0.mk hB4; have BT4 := Aside0.mk hI.1; clear hI hB4 hK k0 k1 k2 k3 z0 z1 z2 z3 j0 j1 j2 y0 y1 y2; obtain ⟨⟨k0, k1, k2, k3⟩, z0, z1, z2, z3⟩ := cell4 BR4.out) | fail)
            have BR5 := Aside0.mk (blk_put (cs' := #[.int .i64 c, .int .i64 p1, .int .i64 0, .slice none 0 0]) BR4.out 1 (.int .i64 p1) rfl)
            have BT5 := Aside0.mk (blk_far BT4.out (p := ⟨gr, 1, none⟩) (Ne.symm hne) (.int .i64 p1))
            have HB5 := Aside0.mk (HB4.out.setCell (p := ⟨gr, 1, none⟩) GR.out (.int .i64 p1))
            clear BR4 BT4 HB4 k0 k1 k2 k3 z0 z1 z2 z3
            generalize w4.setCell ⟨gr, 1, none⟩ (.int .i64 p1) = w5 at BR5 BT5 HB5 ⊢
            obtain ⟨⟨k0, k1, k2, k3⟩, z0, z1, z2, z3⟩ := cell4 BR5.out
            obtain ⟨⟨j0, j1, j2⟩, y0, y1, y2⟩ := cell3 BT5.out
            have HI5 := Aside0.mk (show IsS105 w w5 gt p2 p3 p4 from ⟨BT5.out, GT.out⟩)
            go_upto_region 14 with (first | (go_at_call 65; (with_reducible refine (record_taker_offset.calls k gt p2 p3 p4 1 q1 q2 q3 q4 w _ HI5.out HB5.out HA2.out).mono ?_); rintro e w7 ⟨rfl, hI, hB7, hK⟩; have BR7 := Aside0.mk (KeepBut.blk hK BR5.out hne (by simp)); have HB7 := Aside0.mk hB7; have BT7 := Aside0.mk hI.1; clear hI hB7 hK k0 k1 k2 k3 z0 z1 z2 z3 j0 j1 j2 y0 y1 y2; obtain ⟨⟨k0, k1, k2, k3⟩, z0, z1, z2, z3⟩ := cell4 BR7.out) | fail)
            have BR6 := Aside0.mk (blk_put (cs' := #[.int .i64 c, .int .i64 p1, .int .i64 q1, .slice none 0 0]) BR7.out 2 (.int .i64 q1) rfl)
            have BT6 := Aside0.mk (blk_far BT7.out (p := ⟨gr, 2, none⟩) (Ne.symm hne) (.int .i64 q1))
            have HB6 := Aside0.mk (HB7.out.setCell (p := ⟨gr, 2, none⟩) GR.out (.int .i64 q1))
            clear BR7 BT7 HB7 k0 k1 k2 k3 z0 z1 z2 z3
            generalize w7.setCell ⟨gr, 2, none⟩ (.int .i64 q1) = w6 at BR6 BT6 HB6 ⊢
            have H := HH.out
            clear HH
            obtain ⟨⟨k0, k1, k2, k3⟩, z0, z1, z2, z3⟩ := cell4 BR6.out
            obtain ⟨⟨j0, j1, j2⟩, y0, y1, y2⟩ := cell3 BT6.out
            unfold record_Take.fin at H
            by_cases he0 : q4 = 0
            · rw [if_pos he0] at H
              simp only [Option.some.injEq, Prod.mk.injEq] at H
              obtain ⟨rfl, rfl, rfl, rfl, rfl, rfl⟩ := H
              have b0 : (q4 == 0) = true := beq_iff_eq.mpr he0
              have b1 : (q4 != 0) = false := bne_eq_false_iff_eq.mpr he0
              clear he0
              go_wp2
              go_region
              all_goals go_wp2
              all_goals (refine bodyPost_ret (results_ctt rfl _ _ gr 30 #[.int .i64 c, .int .i64 p1, .int .i64 q1, .slice none 0 0] (0, 0) _ rfl (by refine blk_drew ?_; exact blk4_put BR6.out) Try.underlying30 rfl (by kernel_rfl)) rfl ?_)
              all_goals exact ⟨_, rfl, Kd.R_nil _ _ _ _ _, below_drew (below4_put HB6.out GR.out)⟩
            · rw [if_neg he0] at H
              simp only [Option.some.injEq, Prod.mk.injEq] at H
              obtain ⟨rfl, rfl, rfl, rfl, rfl, rfl⟩ := H
              have b0 : (q4 == 0) = false := beq_eq_false_iff_ne.mpr he0
              have b1 : (q4 != 0) = true := bne_iff_ne.mpr he0
              clear he0
              go_wp2
              go_region
              all_goals go_wp2
              all_goals (refine bodyPost_ret (results_ctt rfl _ _ gr 30 #[.int .i64 0, .int .i64 0, .int .i64 0, .slice none 0 0] (0, 0) _ rfl (by refine blk_drew ?_; exact blk4_put BR6.out) Try.underlying30 rfl (by kernel_rfl)) rfl ?_)
              all_goals exact ⟨_, rfl, Kd.R_nil _ _ _ _ _, below_drew (below4_put HB6.out GR.out)⟩
          · rw [if_neg ht] at H
            obtain rfl : t = false := by simpa using ht
            clear ht
            obtain ⟨⟨p1, p2, p3, p4⟩, A1, H⟩ := Option.bind_eq_some_iff.mp H
            obtain ⟨⟨q1, q2, q3, q4⟩, A2, H⟩ := Option.bind_eq_some_iff.mp H
            simp only at A2 H
            have HA1 := Aside0.mk A1
            have HA2 := Aside0.mk A2
            have HH := Aside0.mk H
            clear A1 A2 H
            have HI3 := Aside0.mk (show IsS105 w w3 gt a0 1 0 from ⟨BT3.out, GT.out⟩)
            go_upto_region 6 with (first | (go_at_call 64; (with_reducible refine (record_runs.calls c _ _ AR.out).mono ?_); rintro e wr ⟨rfl, hdr⟩; obtain ⟨mr, hmr⟩ := hdr; subst hmr) | (go_at_call 65; (with_reducible refine (record_taker_offset.calls k gt a0 1 0 0 p1 p2 p3 p4 w _ (IsS105.drewN HI3.out mr) (pw_below_drewN HB3.out mr) HA1.out).mono ?_); rintro e w4 ⟨rfl, hI, hB4, hK⟩; have BR4 := Aside0.mk (KeepBut.blk hK (blk_drewN BR3.out mr) hne (by simp)); have HB4 := Aside0.mk hB4; have BT4 := Aside0.mk hI.1; clear hI hB4 hK k0 k1 k2 k3 z0 z1 z2 z3 j0 j1 j2 y0 y1 y2; obtain ⟨⟨k0, k1, k2, k3⟩, z0, z1, z2, z3⟩ := cell4 BR4.out) | fail)
            have BR5 := Aside0.mk (blk_put (cs' := #[.int .i64 c, .int .i64 p1, .int .i64 0, .slice none 0 0]) BR4.out 1 (.int .i64 p1) rfl)
            have BT5 := Aside0.mk (blk_far BT4.out (p := ⟨gr, 1, none⟩) (Ne.symm hne) (.int .i64 p1))
            have HB5 := Aside0.mk (HB4.out.setCell (p := ⟨gr, 1, none⟩) GR.out (.int .i64 p1))
            clear BR4 BT4 HB4 k0 k1 k2 k3 z0 z1 z2 z3
            generalize w4.setCell ⟨gr, 1, none⟩ (.int .i64 p1) = w5 at BR5 BT5 HB5 ⊢
            obtain ⟨⟨k0, k1, k2, k3⟩, z0, z1, z2, z3⟩ := cell4 BR5.out
            obtain ⟨⟨j0, j1, j2⟩, y0, y1, y2⟩ := cell3 BT5.out
            have HI5 := Aside0.mk (show IsS105 w w5 gt p2 p3 p4 from ⟨BT5.out, GT.out⟩)
            go_upto_region 14 with (first | (go_at_call 65; (with_reducible refine (record_taker_offset.calls k gt p2 p3 p4 0 q1 q2 q3 q4 w _ HI5.out HB5.out HA2.out).mono ?_); rintro e w7 ⟨rfl, hI, hB7, hK⟩; have BR7 := Aside0.mk (KeepBut.blk hK BR5.out hne (by simp)); have HB7 := Aside0.mk hB7; have BT7 := Aside0.mk hI.1; clear hI hB7 hK k0 k1 k2 k3 z0 z1 z2 z3 j0 j1 j2 y0 y1 y2; obtain ⟨⟨k0, k1, k2, k3⟩, z0, z1, z2, z3⟩ := cell4 BR7.out) | fail)
            have BR6 := Aside0.mk (blk_put (cs' := #[.int .i64 c, .int .i64 p1, .int .i64 q1, .slice none 0 0]) BR7.out 2 (.int .i64 q1) rfl)
            have BT6 := Aside0.mk (blk_far BT7.out (p := ⟨gr, 2, none⟩) (Ne.symm hne) (.int .i64 q1))
            have HB6 := Aside0.mk (HB7.out.setCell (p := ⟨gr, 2, none⟩) GR.out (.int .i64 q1))
            clear BR7 BT7 HB7 k0 k1 k2 k3 z0 z1 z2 z3
            generalize w7.setCell ⟨gr, 2, none⟩ (.int .i64 q1) = w6 at BR6 BT6 HB6 ⊢
            have H := HH.out
            clear HH
            obtain ⟨⟨k0, k1, k2, k3⟩, z0, z1, z2, z3⟩ := cell4 BR6.out
            obtain ⟨⟨j0, j1, j2⟩, y0, y1, y2⟩ := cell3 BT6.out
            unfold record_Take.fin at H
            by_cases he0 : q4 = 0
            · rw [if_pos he0] at H
              simp only [Option.some.injEq, Prod.mk.injEq] at H
              obtain ⟨rfl, rfl, rfl, rfl, rfl, rfl⟩ := H
              have b0 : (q4 == 0) = true := beq_iff_eq.mpr he0
              have b1 : (q4 != 0) = false := bne_eq_false_iff_eq.mpr he0
              clear he0
              go_wp2
              go_region
              all_goals go_wp2
              all_goals (refine bodyPost_ret (results_ctt rfl _ _ gr 30 #[.int .i64 c, .int .i64 p1, .int .i64 q1, .slice none 0 0] (0, 0) _ rfl (by refine blk_drew ?_; exact blk4_put BR6.out) Try.underlying30 rfl (by kernel_rfl)) rfl ?_)
              all_goals exact ⟨_, rfl, Kd.R_nil _ _ _ _ _, below_drew (below4_put HB6.out GR.out)⟩
            · rw [if_neg he0] at H
              simp only [Option.some.injEq, Prod.mk.injEq] at H
              obtain ⟨rfl, rfl, rfl, rfl, rfl, rfl⟩ := H
              have b0 : (q4 == 0) = false := beq_eq_false_iff_ne.mpr he0
              have b1 : (q4 != 0) = true := bne_iff_ne.mpr he0
              clear he0
              go_wp2
              go_region
              all_goals go_wp2
              all_goals (refine bodyPost_ret (results_ctt rfl _ _ gr 30 #[.int .i64 0, .int .i64 0, .int .i64 0, .slice none 0 0] (0, 0) _ rfl (by refine blk_drew ?_; exact blk4_put BR6.out) Try.underlying30 rfl (by kernel_rfl)) rfl ?_)
              all_goals exact ⟨_, rfl, Kd.R_nil _ _ _ _ _, below_drew (below4_put HB6.out GR.out)⟩
end Go.Proofs.Ytejcopppchaneaa.PF
end
section
namespace Go.Proofs.Ytejcopppchaneaa.Pure
open Go.RowKit Go.Proofs.YtejcopppchaneaaW.PrintWords Go.Proofs.YtejcopppchaneaaW.PrintLast Go.Proofs.YtejcopppchaneaaW.PrintMore Go.Proofs.Ytejcopppchaneaa.PF
def goodN (c n : Int) : Bool := isR n && decide (c < 4 → 0 < n)
def idsL : Nat → Int → Bool → List Int → List Int × Int × Int
  | 0, _, _, _ => ([], 0, 0)
  | m + 1, ah, fst, l =>
    if (vt 9 l).2.2 = 0 then
      (if (vt 9 l).1 = 0 ∧ fst = false then ([], 0, 9) else if 65534 - ah < (vt 9 l).1 then ([], 0, 11) else
        if (idsL m (ah + (vt 9 l).1) false (l.drop (vt 9 l).2.1.toNat)).2.2 = 0 then
          ((ah + (vt 9 l).1) :: (idsL m (ah + (vt 9 l).1) false (l.drop (vt 9 l).2.1.toNat)).1, (vt 9 l).2.1 + (idsL m (ah + (vt 9 l).1) false (l.drop (vt 9 l).2.1.toNat)).2.1, 0)
        else ([], 0, (idsL m (ah + (vt 9 l).1) false (l.drop (vt 9 l).2.1.toNat)).2.2))
    else ([], 0, (vt 9 l).2.2)
abbrev RT := Int × Int × Int × List Int × Int × Int
def er (e : Int) : RT := (0, 0, 0, [], 0, e)
def rtI (r : List Int) : RT :=
  if (vt 9 r).2.2 = 0 then
    (if 65535 < (vt 9 r).1 then er 6 else
      if (idsL (vt 9 r).1.toNat 0 true (r.drop (vt 9 r).2.1.toNat)).2.2 = 0 then (4, 0, 0, (idsL (vt 9 r).1.toNat 0 true (r.drop (vt 9 r).2.1.toNat)).1, 1 + (vt 9 r).2.1 + (idsL (vt 9 r).1.toNat 0 true (r.drop (vt 9 r).2.1.toNat)).2.1, 0)
      else er (idsL (vt 9 r).1.toNat 0 true (r.drop (vt 9 r).2.1.toNat)).2.2)
  else er (vt 9 r).2.2
def rtN (c : Int) (r : List Int) : RT :=
  if (vt 9 r).2.2 = 0 then
    (if goodN c (vt 9 r).1 = true then
      (if (vt 9 (r.drop (vt 9 r).2.1.toNat)).2.2 = 0 then
        (if goodN c (vt 9 (r.drop (vt 9 r).2.1.toNat)).1 = true then (c, (vt 9 r).1, (vt 9 (r.drop (vt 9 r).2.1.toNat)).1, [], 1 + (vt 9 r).2.1 + (vt 9 (r.drop (vt 9 r).2.1.toNat)).2.1, 0) else er 11)
      else er (vt 9 (r.drop (vt 9 r).2.1.toNat)).2.2)
    else er 11)
  else er (vt 9 r).2.2
def rt (s : ByteArray) : RT :=
  if s.size = 0 then er 4 else if bt s 0 < 1 ∨ 6 < bt s 0 then er 3 else if bt s 0 = 4 then rtI ((bytesOf s).drop 1) else rtN (bt s 0) ((bytesOf s).drop 1)
theorem bytes_from (s : ByteArray) (i : Nat) : bytesOf (s.extract i s.size) = (bytesOf s).drop i := by
  rw [bytesOf_extract, ← bytesOf_length s, List.take_length]
theorem vt_at (s : ByteArray) (i : Nat) (h : (vt 9 ((bytesOf s).drop i)).2.2 = 0) : 0 ≤ (vt 9 ((bytesOf s).drop i)).1 ∧ (vt 9 ((bytesOf s).drop i)).1 < 9223372036854775808 ∧ 1 ≤ (vt 9 ((bytesOf s).drop i)).2.1 ∧ (vt 9 ((bytesOf s).drop i)).2.1 ≤ s.size - i := by
  have := vt_ok 9 _ (isB_drop (isB_bytesOf s) i) h
  rw [List.length_drop, bytesOf_length] at this
  omega
theorem fail_is (s : ByteArray) (at_ e : Int) (b : Bool) (x : Int) : record_taker_fail.f s at_ e b x = some (s, at_, if b = true ∧ e = 0 then x else e) := by
  unfold record_taker_fail.f
  cases b with
  | false => rw [if_neg (by decide), if_neg (fun h => absurd h.1 (by decide))]
  | true =>
    rw [if_pos rfl]
    by_cases h : e = 0
    · rw [if_pos h, if_pos ⟨rfl, h⟩]
    · rw [if_neg h, if_neg (fun h' => h h'.2)]
theorem num_ev (s : ByteArray) (hs : s.size ≤ 1000000) (i : Nat) (hi : i ≤ s.size) : Ev (fun k => record_taker_num.f k s (i : Int) 0) ((vt 9 ((bytesOf s).drop i)).1, s, (i : Int) + (vt 9 ((bytesOf s).drop i)).2.1, (vt 9 ((bytesOf s).drop i)).2.2) := by
  unfold record_taker_num.f
  refine Ev.congr (fun k => by rw [if_pos rfl, if_pos (by omega), if_pos (by omega), Int.toNat_natCast]) ?_
  refine Ev.bind (take_ev (s.extract i s.size)) ?_
  rw [bytes_from, fail_is]
  by_cases h : (vt 9 ((bytesOf s).drop i)).2.2 = 0
  · have := vt_at s i h
    rw [h]
    exact ev_is (fun k => by rw [Option.bind_some, jw64 (n := (i : Int) + (vt 9 ((bytesOf s).drop i)).2.1) (by omega) (by omega), if_neg (fun h => absurd h.1 (by decide))])
  · have := (vt_err 9 _ h).2
    have hb : ((vt 9 ((bytesOf s).drop i)).2.2 != 0) = true := bne_iff_ne.mpr h
    rw [hb]
    exact ev_is (fun k => by rw [Option.bind_some, this, jw64 (n := (i : Int) + 0) (by omega) (by omega), if_pos ⟨rfl, rfl⟩])
theorem num_bad (s : ByteArray) (at_ e : Int) (he : e ≠ 0) (k : Nat) : record_taker_num.f k s at_ e = some (0, s, at_, e) := by
  unfold record_taker_num.f
  rw [if_neg he]
theorem offset_bad (s : ByteArray) (at_ e : Int) (he : e ≠ 0) (least : Int) (hl : least = 0 ∨ least = 1) (k : Nat) : record_taker_offset.f k s at_ e least = some (0, s, at_, e) := by
  unfold record_taker_offset.f
  rw [num_bad s at_ e he, Option.bind_some]
  rcases hl with h | h
  · rw [h, if_neg (by simp), is_is, Option.bind_some, fail_is, if_neg (fun h => he h.2)]; rfl
  · rw [h, if_pos (by simp), fail_is, if_neg (fun h => he h.2)]; rfl
theorem offset_ev (s : ByteArray) (hs : s.size ≤ 1000000) (i : Nat) (hi : i ≤ s.size) (c : Int) (least : Int) (hl : c < 4 ∧ least = 1 ∨ 4 ≤ c ∧ least = 0) :
    Ev (fun k => record_taker_offset.f k s (i : Int) 0 least) ((vt 9 ((bytesOf s).drop i)).1, s, (i : Int) + (vt 9 ((bytesOf s).drop i)).2.1, if (vt 9 ((bytesOf s).drop i)).2.2 = 0 then (if goodN c (vt 9 ((bytesOf s).drop i)).1 = true then 0 else 11) else (vt 9 ((bytesOf s).drop i)).2.2) := by
  unfold record_taker_offset.f
  refine Ev.bind (num_ev s hs i hi) ?_
  by_cases h : (vt 9 ((bytesOf s).drop i)).2.2 = 0
  · rw [if_pos h, h]
    generalize (vt 9 ((bytesOf s).drop i)).1 = n
    by_cases h1 : n < least
    · have hg : goodN c n = false := by
        unfold goodN isR
        rcases hl with ⟨a, b⟩ | ⟨a, b⟩
        · rw [decide_eq_false (show ¬ (c < 4 → 0 < n) by omega), Bool.and_false]
        · rw [decide_eq_false (show ¬ (0 ≤ n ∧ n ≤ 4611686018427387903) by omega), Bool.false_and]
      rw [hg, if_neg (show ¬ (false = true) by decide)]
      exact ev_is (fun k => by rw [if_pos h1, fail_is, if_pos ⟨rfl, rfl⟩]; rfl)
    · have hg : goodN c n = isR n := by
        unfold goodN
        rw [decide_eq_true (show c < 4 → 0 < n by omega), Bool.and_true]
      rw [hg]
      refine ev_is (fun k => ?_)
      rw [if_neg h1, is_is, Option.bind_some, fail_is]
      cases isR n <;> rfl
  · rw [if_neg h]
    have hn := (vt_err 9 _ h).1
    rw [hn]
    refine ev_is (fun k => ?_)
    rcases hl with ⟨_, b⟩ | ⟨_, b⟩
    · rw [b, if_pos (by simp), fail_is, if_neg (fun h' => h h'.2)]; rfl
    · rw [b, if_neg (by simp), is_is, Option.bind_some, fail_is, if_neg (fun h' => h h'.2)]; rfl
theorem list_stop (s : ByteArray) (n : Int) (out : List Int) (ah i at_ e : Int) (he : e ≠ 0) : Ev (fun k => record_taker_list.l0 k n out ah i s at_ e) (out, s, at_, e) := by
  have hj : Ev (fun k => record_taker_list.j1 k n out ah i false s at_ e) (out, s, at_, e) := ev_add 1 (fun k => by rw [record_taker_list.j1, if_neg (by decide)])
  have hb : (e == 0) = false := beq_eq_false_iff_ne.mpr he
  by_cases h : i < n
  · exact Ev.step (fun k => by rw [record_taker_list.l0, if_pos h, hb]) hj
  · exact Ev.step (fun k => by rw [record_taker_list.l0, if_neg h]) hj
theorem list_go (s : ByteArray) (hs : s.size ≤ 1000000) (n : Int) (hn : n ≤ 65535) : ∀ (m i : Nat) (ah : Int) (out : List Int) (p : Nat), (i : Int) + m = n → p ≤ s.size → 0 ≤ ah → ah ≤ 65534 → out.length = i →
    ∃ L at_, Ev (fun k => record_taker_list.l0 k n out ah (i : Int) s (p : Int) 0) (L, s, at_, (idsL m ah (decide (i = 0)) ((bytesOf s).drop p)).2.2) ∧ ((idsL m ah (decide (i = 0)) ((bytesOf s).drop p)).2.2 = 0 → L = out ++ (idsL m ah (decide (i = 0)) ((bytesOf s).drop p)).1 ∧ at_ = (p : Int) + (idsL m ah (decide (i = 0)) ((bytesOf s).drop p)).2.1) := by
  intro m
  induction m with
  | zero =>
    intro i ah out p hi hp h0 h1 hl
    refine ⟨out, (p : Int), ?_, fun _ => ⟨by simp [idsL], by simp [idsL]⟩⟩
    refine Ev.step (fun k => by rw [record_taker_list.l0, if_neg (by omega)]) ?_
    exact ev_add 1 (fun k => by rw [record_taker_list.j1, if_neg (by decide)]; rfl)
  | succ m ih =>
    intro i ah out p hi hp h0 h1 hl
    simp only [idsL]
    have hnum := num_ev s hs p hp
    have hok := vt_at s p
    have her := vt_err 9 ((bytesOf s).drop p)
    have hdd : ∀ j : Nat, ((bytesOf s).drop p).drop j = (bytesOf s).drop (p + j) := fun j => by rw [List.drop_drop]
    generalize hv : vt 9 ((bytesOf s).drop p) = v at hnum hok her ⊢
    obtain ⟨d, j, e⟩ := v
    simp only at hnum hok her ⊢
    have hw : wrap64 (65534 - ah) = 65534 - ah := jw64 (by omega) (by omega)
    have hw1 : wrap64 ((i : Int) + 1) = ((i + 1 : Nat) : Int) := by rw [jw64 (by omega) (by omega)]; rfl
    have step : ∀ (e' : Int) (r : List Int × ByteArray × Int × Int),
        e' = (if (d > 65534 - ah) ∧ (if (d = 0 ∧ (i : Int) > 0) ∧ e = 0 then (9 : Int) else e) = 0 then 11 else (if (d = 0 ∧ (i : Int) > 0) ∧ e = 0 then 9 else e)) →
        Ev (fun k => record_taker_list.l0 k n (out ++ [wrap64 (ah + d)]) (wrap64 (ah + d)) ((i + 1 : Nat) : Int) s ((p : Int) + j) e') r → Ev (fun k => record_taker_list.l0 k n out ah (i : Int) s (p : Int) 0) r := by
      intro e' r he' hr
      refine Ev.step (fun k => by rw [record_taker_list.l0, if_pos (by omega)]) ?_
      refine Ev.step (fun k => by rw [record_taker_list.j1, if_pos (by decide)]) ?_
      refine Ev.bind hnum ?_
      by_cases hd : d = 0
      · refine Ev.congr (fun k => by rw [if_pos hd, fail_is, Option.bind_some, fail_is, Option.bind_some, if_pos (by omega), hw, hw1]) ?_
        have : (if decide (d > 65534 - ah) = true ∧ (if decide ((i : Int) > 0) = true ∧ e = 0 then (9 : Int) else e) = 0 then (11 : Int) else (if decide ((i : Int) > 0) = true ∧ e = 0 then 9 else e)) = e' := by
          rw [he']; simp [hd]
        rw [this]
        exact hr
      · refine Ev.congr (fun k => by rw [if_neg hd, fail_is, Option.bind_some, fail_is, Option.bind_some, if_pos (by omega), hw, hw1]) ?_
        have : (if decide (d > 65534 - ah) = true ∧ (if false = true ∧ e = 0 then (9 : Int) else e) = 0 then (11 : Int) else (if false = true ∧ e = 0 then 9 else e)) = e' := by
          rw [he']; simp [hd]
        rw [this]
        exact hr
    by_cases he : e = 0
    · have hok := hok he
      rw [if_pos he]
      by_cases h9 : d = 0 ∧ decide (i = 0) = false
      · rw [if_pos h9]
        have hi0 : i ≠ 0 := by simpa using h9.2
        refine ⟨_, _, step 9 _ ?_ (list_stop s n _ _ _ _ 9 (by decide)), fun h => absurd h (by decide)⟩
        rw [if_neg (by omega), if_pos ⟨⟨h9.1, by omega⟩, he⟩]
      · rw [if_neg h9]
        have h9' : ¬ ((d = 0 ∧ (i : Int) > 0) ∧ e = 0) := fun h => h9 ⟨h.1.1, by simp; omega⟩
        by_cases h11 : 65534 - ah < d
        · rw [if_pos h11]
          refine ⟨_, _, step 11 _ ?_ (list_stop s n _ _ _ _ 11 (by decide)), fun h => absurd h (by decide)⟩
          rw [if_neg h9', he, if_pos ⟨h11, rfl⟩]
        · rw [if_neg h11]
          have hwd : wrap64 (ah + d) = ah + d := jw64 (by omega) (by omega)
          obtain ⟨L, at_, hE, hL⟩ := ih (i + 1) (ah + d) (out ++ [ah + d]) (p + j.toNat) (by omega) (by omega) (by omega) (by omega) (by rw [List.length_append, hl]; rfl)
          have hf : decide (i + 1 = 0) = false := decide_eq_false (by omega)
          have hpj : ((p + j.toNat : Nat) : Int) = (p : Int) + j := by omega
          rw [hf, ← hdd, hpj] at hE hL
          refine ⟨L, at_, ?_, ?_⟩
          · refine step 0 _ ?_ ?_
            · rw [if_neg h9', he, if_neg (fun h => h11 h.1)]
            · rw [hwd]
              refine hE.imp ?_
              intro K hK k hk
              rw [hK k hk]
              split <;> rename_i hh
              · rw [hh]
              · rfl
          · intro hz
            by_cases hq : (idsL m (ah + d) false (((bytesOf s).drop p).drop j.toNat)).2.2 = 0
            · rw [if_pos hq]
              have := hL hq
              exact ⟨by rw [this.1, List.append_assoc]; rfl, by rw [this.2]; simp only; omega⟩
            · rw [if_neg hq] at hz
              exact absurd hz hq
    · rw [if_neg he]
      have hn0 := (her he).1
      refine ⟨_, _, step e _ ?_ (list_stop s n _ _ _ _ e he), fun h => absurd h he⟩
      rw [if_neg (fun h : (d = 0 ∧ (i : Int) > 0) ∧ e = 0 => he h.2), if_neg (fun h => he h.2)]
theorem rtake_fin_ok (c a b : Int) (l : List Int) (at_ : Int) : record_Take.fin c a b l at_ 0 = some (c, a, b, l, at_, 0) := by unfold record_Take.fin; rw [if_pos rfl]
theorem rtake_fin_no (c a b : Int) (l : List Int) (at_ e : Int) (he : e ≠ 0) : record_Take.fin c a b l at_ e = some (er e) := by unfold record_Take.fin er; rw [if_neg he]
theorem rec_list_ev (s : ByteArray) (hs : s.size ≤ 1000000) (h1 : 1 ≤ s.size) (g : List Int × ByteArray × Int × Int → Option RT) (hg : ∀ x, g x = record_Take.fin 4 0 0 x.1 x.2.2.1 x.2.2.2) :
    Ev (fun k => (record_taker_list.f k s 1 0).bind g) (rtI ((bytesOf s).drop 1)) := by
  unfold record_taker_list.f rtI
  have hnum := num_ev s hs 1 h1
  have hok := vt_at s 1
  have her := vt_err 9 ((bytesOf s).drop 1)
  have hdd : ∀ j : Nat, ((bytesOf s).drop 1).drop j = (bytesOf s).drop (1 + j) := fun j => by rw [List.drop_drop]
  generalize hv : vt 9 ((bytesOf s).drop 1) = v at hnum hok her ⊢
  obtain ⟨d, j, e⟩ := v
  simp only at hnum hok her ⊢
  have hstart : ∀ (e' : Int) (r : List Int × ByteArray × Int × Int), e' = (if 65535 < d ∧ e = 0 then 6 else e) → Ev (fun k => record_taker_list.l0 k d [] 0 0 s (1 + j) e') r → Ev (fun k => record_taker_list.f k s 1 0) r := by
    intro e' r he' hr
    unfold record_taker_list.f
    refine Ev.bind hnum ?_
    refine Ev.congr (fun k => by rw [fail_is, Option.bind_some]) ?_
    have : (if decide (d > 65535) = true ∧ e = 0 then (6 : Int) else e) = e' := by rw [he']; simp
    simp only
    rw [this]
    exact hr
  by_cases he : e = 0
  · have hok := hok he
    rw [if_pos he]
    by_cases h6 : 65535 < d
    · rw [if_pos h6]
      refine Ev.bind (hstart 6 _ (by rw [if_pos ⟨h6, he⟩]) (list_stop s d [] 0 0 _ 6 (by decide))) ?_
      exact ev_is (fun k => by rw [hg]; exact rtake_fin_no _ _ _ _ _ 6 (by decide))
    · rw [if_neg h6]
      obtain ⟨L, at_, hE, hL⟩ := list_go s hs d (by omega) d.toNat 0 0 [] (1 + j.toNat) (by omega) (by omega) (by omega) (by omega) rfl
      have hf : decide ((0 : Nat) = 0) = true := rfl
      have hpj : ((1 + j.toNat : Nat) : Int) = 1 + j := by omega
      rw [hf, ← hdd, hpj] at hE hL
      refine Ev.bind (hstart 0 _ (by rw [he, if_neg (fun h => h6 h.1)]) hE) ?_
      by_cases hq : (idsL d.toNat 0 true (((bytesOf s).drop 1).drop j.toNat)).2.2 = 0
      · rw [if_pos hq]
        have := hL hq
        refine ev_is (fun k => ?_)
        rw [hg]
        simp only
        rw [hq, rtake_fin_ok, this.1, this.2]
        rfl
      · rw [if_neg hq]
        refine ev_is (fun k => ?_)
        rw [hg]
        exact rtake_fin_no _ _ _ _ _ _ hq
  · rw [if_neg he]
    refine Ev.bind (hstart e _ (by rw [if_neg (fun h => he h.2)]) (list_stop s d [] 0 0 _ e he)) ?_
    exact ev_is (fun k => by rw [hg]; exact rtake_fin_no _ _ _ _ _ _ he)
theorem rec_nums_ev (s : ByteArray) (hs : s.size ≤ 1000000) (h1 : 1 ≤ s.size) (c least : Int) (hl : c < 4 ∧ least = 1 ∨ 4 ≤ c ∧ least = 0) :
    Ev (fun k => (record_taker_offset.f k s 1 0 least).bind fun p => (record_taker_offset.f k p.2.1 p.2.2.1 p.2.2.2 least).bind fun q => record_Take.fin c p.1 q.1 [] q.2.2.1 q.2.2.2) (rtN c ((bytesOf s).drop 1)) := by
  unfold rtN
  have hl' : least = 0 ∨ least = 1 := by omega
  refine Ev.bind (offset_ev s hs 1 h1 c least hl) ?_
  have hok := vt_at s 1
  have hdd : ∀ j : Nat, ((bytesOf s).drop 1).drop j = (bytesOf s).drop (1 + j) := fun j => by rw [List.drop_drop]
  generalize hv : vt 9 ((bytesOf s).drop 1) = v at hok ⊢
  obtain ⟨d, j, e⟩ := v
  simp only at hok ⊢
  by_cases he : e = 0
  · have hok := hok he
    simp only [if_pos he]
    by_cases h6 : goodN c d = true
    · simp only [if_pos h6]
      have := offset_ev s hs (1 + j.toNat) (by omega) c least hl
      have hok2 := vt_at s (1 + j.toNat)
      rw [← hdd, show ((1 + j.toNat : Nat) : Int) = 1 + j by omega] at this
      rw [← hdd] at hok2
      refine Ev.bind this ?_
      generalize hv2 : vt 9 (((bytesOf s).drop 1).drop j.toNat) = u at hok2 ⊢
      obtain ⟨d2, j2, e2⟩ := u
      simp only at hok2 ⊢
      by_cases he2 : e2 = 0
      · simp only [if_pos he2]
        by_cases h7 : goodN c d2 = true
        · simp only [if_pos h7]
          exact ev_is (fun k => rtake_fin_ok _ _ _ _ _)
        · simp only [if_neg h7]
          exact ev_is (fun k => rtake_fin_no _ _ _ _ _ _ (by decide))
      · simp only [if_neg he2]
        exact ev_is (fun k => rtake_fin_no _ _ _ _ _ _ he2)
    · simp only [if_neg h6]
      exact ev_is (fun k => by rw [offset_bad s _ _ (show (11 : Int) ≠ 0 by decide) least hl', Option.bind_some]; exact rtake_fin_no _ _ _ _ _ 11 (by decide))
  · simp only [if_neg he]
    exact ev_is (fun k => by rw [offset_bad s _ _ he least hl', Option.bind_some]; exact rtake_fin_no _ _ _ _ _ _ he)
theorem rec_take_ev (s : ByteArray) (hs : s.size ≤ 1000000) : Ev (fun k => record_Take.f k s) (rt s) := by
  have hbr := bt_range s 0
  have hw : wrap64 (bt s 0) = bt s 0 := jw64 (by omega) (by omega)
  unfold record_Take.f rt
  rw [hw]
  by_cases h0 : s.size = 0
  · rw [if_pos h0]
    exact ev_is (fun k => by rw [if_pos (by omega)]; rfl)
  · rw [if_neg h0]
    refine Ev.congr (fun k => by rw [if_neg (by omega)]) ?_
    generalize bt s 0 = c
    by_cases h1 : c < 1
    · rw [if_pos (.inl h1)]
      exact ev_is (fun k => by rw [if_pos h1]; rfl)
    · by_cases h6 : c > 6
      · rw [if_pos (.inr h6)]
        exact ev_is (fun k => by rw [if_neg h1, if_pos h6]; rfl)
      · rw [if_neg (by omega)]
        refine Ev.congr (fun k => by rw [if_neg h1, if_neg h6]) ?_
        by_cases h4 : c = 4
        · rw [if_pos h4]
          refine Ev.congr (fun k => by rw [if_pos h4, h4]) ?_
          exact rec_list_ev s hs (by omega) _ (fun x => rfl)
        · rw [if_neg h4]
          refine Ev.congr (fun k => by rw [if_neg h4, runs_is, Option.bind_some]) ?_
          by_cases h3 : 1 ≤ c ∧ c ≤ 3
          · refine Ev.congr (fun k => by rw [if_pos (decide_eq_true h3)]) ?_
            exact rec_nums_ev s hs (by omega) c 1 (.inl ⟨by omega, rfl⟩)
          · refine Ev.congr (fun k => by rw [if_neg (by simpa using h3)]) ?_
            exact rec_nums_ev s hs (by omega) c 0 (.inr ⟨by omega, rfl⟩)
end Go.Proofs.Ytejcopppchaneaa.Pure
end
section
namespace Go.Proofs.Ytejcopppchaneaa.PF
open Go.RowKit Go.Proofs.YtejcopppchaneaaW.PrintWords Go.Proofs.YtejcopppchaneaaW.PrintLast Go.Proofs.YtejcopppchaneaaW.PrintMore
attribute [local go_sem] max2_int min2_int max_two min_two max_three min_three max_four min_four   -- for this text's walks alone
set_option linter.unusedVariables false
set_option linter.unusedSimpArgs false
def juratref01_Same.l0 : Nat → List Int → List Int → Int → Option (Bool)
  | 0, _, _, _ => none
  | k + 1, x0, x1, x5 => if x5 < (x0.length : Int) then (if 0 ≤ x5 then (if x5 < (x1.length : Int) then (if (rd x0 x5) = (rd x1 x5) then (juratref01_Same.l0 k x0 x1 (wrap64 (x5 + 1))) else (some false)) else (none)) else (none)) else (some true)
def juratref01_Same.f (k : Nat) (l0 : List Int) (l1 : List Int) : Option (Bool) := if (l0.length : Int) = (l1.length : Int) then (juratref01_Same.l0 k l0 l1 0) else (some false)
set_option maxHeartbeats 8000000 in
set_option maxRecDepth 100000 in
theorem juratref01_Same.calls (k : Nat) (A0 : Option Addr) (c0 : Nat) (l0 : List Int) (A1 : Option Addr) (c1 : Nat) (l1 : List Int) (r : Bool) (w : World) (hr0 : Kd.C (Kd.int .i64) w A0 l0.length l0) (hc0 : l0.length ≤ c0) (hr1 : Kd.C (Kd.int .i64) w A1 l1.length l1) (hc1 : l1.length ≤ c1) (h : juratref01_Same.f k l0 l1 = some r) :
    Calls Try.prog 35 #[.slice A0 l0.length c0, .slice A1 l1.length c1] w fun e w' => e = .returned (.bool r) ∧ Drawn0 w w' := by
  have HR0 := Aside0.mk hr0
  have HC0 := Aside0.mk hc0
  clear hr0 hc0
  have HR1 := Aside0.mk hr1
  have HC1 := Aside0.mk hc1
  clear hr1 hc1
  have H : (if (l0.length : Int) = (l1.length : Int) then (juratref01_Same.l0 k l0 l1 0) else (some false)) = some r := h
  clear h
  by_cases c3 : (l0.length : Int) = (l1.length : Int)
  · rw [if_pos c3] at H
    have c3b0 : ((l0.length : Int) == (l1.length : Int)) = true := beq_iff_eq.mpr c3
    have c3b1 : ((l0.length : Int) != (l1.length : Int)) = false := bne_eq_false_iff_eq.mpr c3
    have c3b2 : (l0.length == l1.length) = true := by first | simpa using c3 | (simp at c3 ⊢; omega)
    clear c3
    have H' := Aside0.mk H
    clear H
    go_enter Try.func35, Try.ntmps35
    go_wp2
    repeat (go_quiet (fail); try go_wp2)
    go_loopg [5] k (fun kq v5 w' => ∃ (x5_1 : Int), v5 = .int .i64 x5_1 ∧ Aside0 (juratref01_Same.l0 kq l0 l1 x5_1 = some r) ∧ Aside0 (kq ≤ k) ∧ Drawn0 w w')
    case atStart => exact ⟨(0), (by first | rfl | (simp; done) | (simp [*]; done)), H', ⟨Nat.le_refl _⟩, by repeat (first | exact Drawn0.refl _ | apply Drawn0.step)⟩
    case round =>
      clear H'
      try clear c1
      try clear p2
      try clear c3
      try clear c3b0
      try clear c3b1
      try clear c3b2
      obtain ⟨x5_1, rfl, HA, HK1, ⟨m1, rfl⟩⟩ := hrel
      cases gk with
      | zero => exact absurd HA.out (by simp [juratref01_Same.l0])
      | succ k1 =>
        have H := HA.out
        clear HA
        simp only [juratref01_Same.l0] at H
        by_cases c4 : x5_1 < (l0.length : Int)
        · rw [if_pos c4] at H
          have c4b0 : decide (x5_1 < (l0.length : Int)) = true := decide_eq_true c4
          clear c4
          by_cases c5 : 0 ≤ x5_1
          · rw [if_pos c5] at H
            have c5b0 : decide (0 ≤ x5_1) = true := decide_eq_true c5
            clear c5
            by_cases c6 : x5_1 < (l1.length : Int)
            · rw [if_pos c6] at H
              have c6b0 : decide (x5_1 < (l1.length : Int)) = true := decide_eq_true c6
              clear c6
              by_cases c7 : (rd l0 x5_1) = (rd l1 x5_1)
              · rw [if_pos c7] at H
                have c7b0 : ((rd l0 x5_1) == (rd l1 x5_1)) = true := beq_iff_eq.mpr c7
                have c7b1 : ((rd l0 x5_1) != (rd l1 x5_1)) = false := bne_eq_false_iff_eq.mpr c7
                clear c7
                have H' := Aside0.mk H
                clear H
                have p102 : 0 ≤ (x5_1 : Int) := of_decide_eq_true (by first | (with_reducible assumption) | assumption)
                have q102 : x5_1 < (l0.length : Int) := of_decide_eq_true (by first | (with_reducible assumption) | assumption)
                obtain ⟨ad102, e102, hx102_0⟩ := Kd.at_int HR0.out x5_1 p102 q102
                cases e102
                replace p102 := eq_true p102
                replace q102 := eq_true q102
                have p103 : 0 ≤ (x5_1 : Int) := of_decide_eq_true (by first | (with_reducible assumption) | assumption)
                have q103 : x5_1 < (l1.length : Int) := of_decide_eq_true (by first | (with_reducible assumption) | assumption)
                obtain ⟨ad103, e103, hx103_0⟩ := Kd.at_int HR1.out x5_1 p103 q103
                cases e103
                replace p103 := eq_true p103
                replace q103 := eq_true q103
                go_wp2
                repeat (go_quiet (fail); try go_wp2)
                go_roundg k1
                case measure => have := HK1.out; omega
                case rel => exact ⟨(wrap64 (x5_1 + 1)), (by first | rfl | (simp; done) | (simp [*]; done)), H', ⟨by have := HK1.out; omega⟩, by repeat (first | exact Drawn0.refl _ | apply Drawn0.step)⟩
              · rw [if_neg c7] at H
                have c7b0 : ((rd l0 x5_1) == (rd l1 x5_1)) = false := beq_eq_false_iff_ne.mpr c7
                have c7b1 : ((rd l0 x5_1) != (rd l1 x5_1)) = true := bne_iff_ne.mpr c7
                obtain rfl := Option.some.inj H
                have p102 : 0 ≤ (x5_1 : Int) := of_decide_eq_true (by first | (with_reducible assumption) | assumption)
                have q102 : x5_1 < (l0.length : Int) := of_decide_eq_true (by first | (with_reducible assumption) | assumption)
                obtain ⟨ad102, e102, hx102_0⟩ := Kd.at_int HR0.out x5_1 p102 q102
                cases e102
                replace p102 := eq_true p102
                replace q102 := eq_true q102
                have p103 : 0 ≤ (x5_1 : Int) := of_decide_eq_true (by first | (with_reducible assumption) | assumption)
                have q103 : x5_1 < (l1.length : Int) := of_decide_eq_true (by first | (with_reducible assumption) | assumption)
                obtain ⟨ad103, e103, hx103_0⟩ := Kd.at_int HR1.out x5_1 p103 q103
                cases e103
                replace p103 := eq_true p103
                replace q103 := eq_true q103
                go_wp2
                repeat (go_quiet (fail); try go_wp2)
                go_ret
                exact ⟨by first | rfl | (simp; done) | (simp [*]; done), by repeat (first | exact Drawn0.refl _ | apply Drawn0.step)⟩
            · rw [if_neg c6] at H
              exact absurd H (by simp)
          · rw [if_neg c5] at H
            exact absurd H (by simp)
        · rw [if_neg c4] at H
          have c4b0 : decide (x5_1 < (l0.length : Int)) = false := decide_eq_false c4
          clear c4
          obtain rfl := Option.some.inj H
          go_wp2
          repeat (go_quiet (fail); try go_wp2)
          go_ret
          exact ⟨by first | rfl | (simp; done) | (simp [*]; done), by repeat (first | exact Drawn0.refl _ | apply Drawn0.step)⟩
  · rw [if_neg c3] at H
    have c3b0 : ((l0.length : Int) == (l1.length : Int)) = false := beq_eq_false_iff_ne.mpr c3
    have c3b1 : ((l0.length : Int) != (l1.length : Int)) = true := bne_iff_ne.mpr c3
    have c3b2 : (l0.length == l1.length) = false := by first | simpa using c3 | (simp at c3 ⊢; omega)
    obtain rfl := Option.some.inj H
    go_enter Try.func35, Try.ntmps35
    go_wp2
    repeat (go_quiet (fail); try go_wp2)
    go_ret
    exact ⟨by first | rfl | (simp; done) | (simp [*]; done), by repeat (first | exact Drawn0.refl _ | apply Drawn0.step)⟩
def juratref24_Same.f (k : Nat) (a0_0 : Int) (a0_1 : Int) (a0_2 : Int) (l0_3 : List Int) (a1_0 : Int) (a1_1 : Int) (a1_2 : Int) (l1_3 : List Int) : Option (Bool) := if a0_0 = a1_0 then (if a0_1 = a1_1 then (if a0_2 = a1_2 then ((juratref01_Same.f k l0_3 l1_3).bind fun t106 => (some t106)) else (some false)) else (some false)) else (some false)
set_option maxHeartbeats 8000000 in
set_option maxRecDepth 100000 in
theorem juratref24_Same.calls (k : Nat) (a0_0 : Int) (a0_1 : Int) (a0_2 : Int) (A0_3 : Option Addr) (c0_3 : Nat) (l0_3 : List Int) (a1_0 : Int) (a1_1 : Int) (a1_2 : Int) (A1_3 : Option Addr) (c1_3 : Nat) (l1_3 : List Int) (r : Bool) (w : World) (hr0_3 : Kd.C (Kd.int .i64) w A0_3 l0_3.length l0_3) (hc0_3 : l0_3.length ≤ c0_3) (hr1_3 : Kd.C (Kd.int .i64) w A1_3 l1_3.length l1_3) (hc1_3 : l1_3.length ≤ c1_3) (h : juratref24_Same.f k a0_0 a0_1 a0_2 l0_3 a1_0 a1_1 a1_2 l1_3 = some r) :
    Calls Try.prog 16 #[.agg #[.int .i64 a0_0, .int .i64 a0_1, .int .i64 a0_2, .slice A0_3 l0_3.length c0_3], .agg #[.int .i64 a1_0, .int .i64 a1_1, .int .i64 a1_2, .slice A1_3 l1_3.length c1_3]] w fun e w' => e = .returned (.bool r) ∧ Below w.heap.size w w' := by
  have hu30 := Try.underlying30
  have HR0_3 := Aside0.mk hr0_3
  have HC0_3 := Aside0.mk hc0_3
  clear hr0_3 hc0_3
  have HR1_3 := Aside0.mk hr1_3
  have HC1_3 := Aside0.mk hc1_3
  clear hr1_3 hc1_3
  have HB := Aside0.mk (Below.refl w.heap.size w)
  have H : (if a0_0 = a1_0 then (if a0_1 = a1_1 then (if a0_2 = a1_2 then ((juratref01_Same.f k l0_3 l1_3).bind fun t106 => (some t106)) else (some false)) else (some false)) else (some false)) = some r := h
  clear h
  by_cases c3 : a0_0 = a1_0
  · rw [if_pos c3] at H
    have c3b0 : (a0_0 == a1_0) = true := beq_iff_eq.mpr c3
    have c3b1 : (a0_0 != a1_0) = false := bne_eq_false_iff_eq.mpr c3
    clear c3
    by_cases c4 : a0_1 = a1_1
    · rw [if_pos c4] at H
      have c4b0 : (a0_1 == a1_1) = true := beq_iff_eq.mpr c4
      have c4b1 : (a0_1 != a1_1) = false := bne_eq_false_iff_eq.mpr c4
      clear c4
      by_cases c5 : a0_2 = a1_2
      · rw [if_pos c5] at H
        have c5b0 : (a0_2 == a1_2) = true := beq_iff_eq.mpr c5
        have c5b1 : (a0_2 != a1_2) = false := bne_eq_false_iff_eq.mpr c5
        clear c5
        replace H := Option.bind_eq_some_iff.mp H
        obtain ⟨t106, A60, H⟩ := H
        replace H : (some t106) = some r := H
        have A6 := Aside0.mk A60
        clear A60
        obtain rfl := Option.some.inj H
        go_enter Try.func16, Try.ntmps16
        go_wp2_with (first | ((with_reducible refine gate_dst (N := 2) rfl ?_); refine box_event ?hg (N := 2) ?hd (cs := #[.int .i64 a0_0, .int .i64 a0_1, .int .i64 a0_2, .slice A0_3 l0_3.length c0_3]) (t := 30) ?hr ?_; (case hd => rfl); (case hg => rfl); (case hr => first | (go_simp; done) | (go_simp; rfl)); intro gb104 hg w7 hbox hb; have n0_ := Aside0.mk (below_step (by repeat (first | (with_reducible first | exact HB.out | apply below_alloc | apply pw_below_drewN | apply below_drew1) | exact HB.out)) hb); have n1_ := Aside0.mk (hbox); have n2_ := Aside0.mk ((by rw [hg]; exact (below_size (by repeat (first | (with_reducible first | exact HB.out | apply below_alloc | apply pw_below_drewN | apply below_drew1) | exact HB.out))) : w.heap.size ≤ gb104)); have n3_ := Aside0.mk ((by rw [hg]; exact (below_size (by repeat (first | (with_reducible first | exact HB.out | apply below_alloc | apply pw_below_drewN | apply below_drew1) | exact HB.out))) : w.heap.size ≤ gb104)); clear HB; have HB := n0_; have BK104 := n1_; have GW104 := n2_; have GE104 := n3_; clear n0_ n1_ n2_ n3_; clear hb hbox hg) | ((with_reducible refine gate_dst (N := 3) rfl ?_); refine box_event ?hg (N := 3) ?hd (cs := #[.int .i64 a1_0, .int .i64 a1_1, .int .i64 a1_2, .slice A1_3 l1_3.length c1_3]) (t := 30) ?hr ?_; (case hd => rfl); (case hg => rfl); (case hr => first | (go_simp; done) | (go_simp; rfl)); intro gb105 hg w8 hbox hb; have n0_ := Aside0.mk (blk_below (g := gb104) (o := .cells #[.int .i64 a0_0, .int .i64 a0_1, .int .i64 a0_2, .slice A0_3 l0_3.length c0_3] 30 (0, 0)) (by (with_reducible repeat (first | refine blk_drewN ?_ _ | refine blk_drew ?_ | refine blk_alloc ?_ _)); exact BK104.out) hb); have n1_ := Aside0.mk (below_step (by repeat (first | (with_reducible first | exact HB.out | apply below_alloc | apply pw_below_drewN | apply below_drew1 | refine below_set ?_ GE104.out) | exact HB.out)) hb); have n2_ := Aside0.mk (hbox); have n3_ := Aside0.mk ((by rw [hg]; exact (below_size (by repeat (first | (with_reducible first | exact HB.out | apply below_alloc | apply pw_below_drewN | apply below_drew1 | refine below_set ?_ GE104.out) | exact HB.out))) : w.heap.size ≤ gb105)); have n4_ := Aside0.mk ((by rw [hg]; exact (below_size (by repeat (first | (with_reducible first | exact HB.out | apply below_alloc | apply pw_below_drewN | apply below_drew1 | refine below_set ?_ GE104.out) | exact HB.out))) : w.heap.size ≤ gb105)); have n5_ := Aside0.mk ((by rw [hg]; exact Nat.ne_of_lt (blk_lt (g := gb104) (o := .cells #[.int .i64 a0_0, .int .i64 a0_1, .int .i64 a0_2, .slice A0_3 l0_3.length c0_3] 30 (0, 0)) (by (with_reducible repeat (first | refine blk_drewN ?_ _ | refine blk_drew ?_ | refine blk_alloc ?_ _)); exact BK104.out)) : gb104 ≠ gb105)); have n6_ := Aside0.mk ((by rw [hg]; exact Nat.ne_of_gt (blk_lt (g := gb104) (o := .cells #[.int .i64 a0_0, .int .i64 a0_1, .int .i64 a0_2, .slice A0_3 l0_3.length c0_3] 30 (0, 0)) (by (with_reducible repeat (first | refine blk_drewN ?_ _ | refine blk_drew ?_ | refine blk_alloc ?_ _)); exact BK104.out)) : gb105 ≠ gb104)); clear BK104; clear HB; have BK104 := n0_; have HB := n1_; have BK105 := n2_; have GW105 := n3_; have GE105 := n4_; have NB104_105 := n5_; have NB105_104 := n6_; clear n0_ n1_ n2_ n3_ n4_ n5_ n6_; clear hb hbox hg; have hnb9 := NB104_105.out; have hnc9 := NB105_104.out; have hcz10_0 : w8.cell? ⟨gb104, 0, none⟩ = some (.int .i64 a0_0) := (blk_cell BK104.out 0).trans rfl; have hcz10_1 : w8.cell? ⟨gb104, 1, none⟩ = some (.int .i64 a0_1) := (blk_cell BK104.out 1).trans rfl; have hcz10_2 : w8.cell? ⟨gb104, 2, none⟩ = some (.int .i64 a0_2) := (blk_cell BK104.out 2).trans rfl; have hcz10_3 : w8.cell? ⟨gb104, 3, none⟩ = some (.slice A0_3 l0_3.length c0_3) := (blk_cell BK104.out 3).trans rfl; have hfz10_0 := blk_frozen BK104.out 0; have hfz10_1 := blk_frozen BK104.out 1; have hfz10_2 := blk_frozen BK104.out 2; have hfz10_3 := blk_frozen BK104.out 3; have hcz11_0 : w8.cell? ⟨gb105, 0, none⟩ = some (.int .i64 a1_0) := (blk_cell BK105.out 0).trans rfl; have hcz11_1 : w8.cell? ⟨gb105, 1, none⟩ = some (.int .i64 a1_1) := (blk_cell BK105.out 1).trans rfl; have hcz11_2 : w8.cell? ⟨gb105, 2, none⟩ = some (.int .i64 a1_2) := (blk_cell BK105.out 2).trans rfl; have hcz11_3 : w8.cell? ⟨gb105, 3, none⟩ = some (.slice A1_3 l1_3.length c1_3) := (blk_cell BK105.out 3).trans rfl; have hfz11_0 := blk_frozen BK105.out 0; have hfz11_1 := blk_frozen BK105.out 1; have hfz11_2 := blk_frozen BK105.out 2; have hfz11_3 := blk_frozen BK105.out 3) | (go_at_call 35; (with_reducible refine (juratref01_Same.calls k _ _ l0_3 _ _ l1_3 t106 _ ?side1 ?side2 ?side3 ?side4 A6.out).mono ?_); (case side1 => repeat (first | exact (Kd.C_below HR0_3.out HB.out) | (with_reducible refine Kd.C_alloc ?_ _) | (with_reducible refine Kd.C_drewN ?_ _) | (with_reducible refine Kd.C_drew ?_))); (case side2 => exact HC0_3.out); (case side3 => repeat (first | exact (Kd.C_below HR1_3.out HB.out) | (with_reducible refine Kd.C_alloc ?_ _) | (with_reducible refine Kd.C_drewN ?_ _) | (with_reducible refine Kd.C_drew ?_))); (case side4 => exact HC1_3.out); rintro e w' ⟨rfl, ⟨nd, rfl⟩⟩))
        go_ret
        exact ⟨by first | rfl | (simp [errW_none, errW_some] <;> rfl) | (simp [*, errW_none, errW_some] <;> rfl), by repeat (first | (with_reducible first | exact HB.out | apply below_alloc | apply pw_below_drewN | apply below_drew1 | refine below_set ?_ GE104.out | refine below_set ?_ GE105.out) | exact HB.out)⟩
      · rw [if_neg c5] at H
        have c5b0 : (a0_2 == a1_2) = false := beq_eq_false_iff_ne.mpr c5
        have c5b1 : (a0_2 != a1_2) = true := bne_iff_ne.mpr c5
        obtain rfl := Option.some.inj H
        go_enter Try.func16, Try.ntmps16
        go_wp2_with (first | ((with_reducible refine gate_dst (N := 2) rfl ?_); refine box_event ?hg (N := 2) ?hd (cs := #[.int .i64 a0_0, .int .i64 a0_1, .int .i64 a0_2, .slice A0_3 l0_3.length c0_3]) (t := 30) ?hr ?_; (case hd => rfl); (case hg => rfl); (case hr => first | (go_simp; done) | (go_simp; rfl)); intro gb104 hg w12 hbox hb; have n0_ := Aside0.mk (below_step (by repeat (first | (with_reducible first | exact HB.out | apply below_alloc | apply pw_below_drewN | apply below_drew1) | exact HB.out)) hb); have n1_ := Aside0.mk (hbox); have n2_ := Aside0.mk ((by rw [hg]; exact (below_size (by repeat (first | (with_reducible first | exact HB.out | apply below_alloc | apply pw_below_drewN | apply below_drew1) | exact HB.out))) : w.heap.size ≤ gb104)); have n3_ := Aside0.mk ((by rw [hg]; exact (below_size (by repeat (first | (with_reducible first | exact HB.out | apply below_alloc | apply pw_below_drewN | apply below_drew1) | exact HB.out))) : w.heap.size ≤ gb104)); clear HB; have HB := n0_; have BK104 := n1_; have GW104 := n2_; have GE104 := n3_; clear n0_ n1_ n2_ n3_; clear hb hbox hg) | ((with_reducible refine gate_dst (N := 3) rfl ?_); refine box_event ?hg (N := 3) ?hd (cs := #[.int .i64 a1_0, .int .i64 a1_1, .int .i64 a1_2, .slice A1_3 l1_3.length c1_3]) (t := 30) ?hr ?_; (case hd => rfl); (case hg => rfl); (case hr => first | (go_simp; done) | (go_simp; rfl)); intro gb105 hg w13 hbox hb; have n0_ := Aside0.mk (blk_below (g := gb104) (o := .cells #[.int .i64 a0_0, .int .i64 a0_1, .int .i64 a0_2, .slice A0_3 l0_3.length c0_3] 30 (0, 0)) (by (with_reducible repeat (first | refine blk_drewN ?_ _ | refine blk_drew ?_ | refine blk_alloc ?_ _)); exact BK104.out) hb); have n1_ := Aside0.mk (below_step (by repeat (first | (with_reducible first | exact HB.out | apply below_alloc | apply pw_below_drewN | apply below_drew1 | refine below_set ?_ GE104.out) | exact HB.out)) hb); have n2_ := Aside0.mk (hbox); have n3_ := Aside0.mk ((by rw [hg]; exact (below_size (by repeat (first | (with_reducible first | exact HB.out | apply below_alloc | apply pw_below_drewN | apply below_drew1 | refine below_set ?_ GE104.out) | exact HB.out))) : w.heap.size ≤ gb105)); have n4_ := Aside0.mk ((by rw [hg]; exact (below_size (by repeat (first | (with_reducible first | exact HB.out | apply below_alloc | apply pw_below_drewN | apply below_drew1 | refine below_set ?_ GE104.out) | exact HB.out))) : w.heap.size ≤ gb105)); have n5_ := Aside0.mk ((by rw [hg]; exact Nat.ne_of_lt (blk_lt (g := gb104) (o := .cells #[.int .i64 a0_0, .int .i64 a0_1, .int .i64 a0_2, .slice A0_3 l0_3.length c0_3] 30 (0, 0)) (by (with_reducible repeat (first | refine blk_drewN ?_ _ | refine blk_drew ?_ | refine blk_alloc ?_ _)); exact BK104.out)) : gb104 ≠ gb105)); have n6_ := Aside0.mk ((by rw [hg]; exact Nat.ne_of_gt (blk_lt (g := gb104) (o := .cells #[.int .i64 a0_0, .int .i64 a0_1, .int .i64 a0_2, .slice A0_3 l0_3.length c0_3] 30 (0, 0)) (by (with_reducible repeat (first | refine blk_drewN ?_ _ | refine blk_drew ?_ | refine blk_alloc ?_ _)); exact BK104.out)) : gb105 ≠ gb104)); clear BK104; clear HB; have BK104 := n0_; have HB := n1_; have BK105 := n2_; have GW105 := n3_; have GE105 := n4_; have NB104_105 := n5_; have NB105_104 := n6_; clear n0_ n1_ n2_ n3_ n4_ n5_ n6_; clear hb hbox hg; have hnb14 := NB104_105.out; have hnc14 := NB105_104.out; have hcz15_0 : w13.cell? ⟨gb104, 0, none⟩ = some (.int .i64 a0_0) := (blk_cell BK104.out 0).trans rfl; have hcz15_1 : w13.cell? ⟨gb104, 1, none⟩ = some (.int .i64 a0_1) := (blk_cell BK104.out 1).trans rfl; have hcz15_2 : w13.cell? ⟨gb104, 2, none⟩ = some (.int .i64 a0_2) := (blk_cell BK104.out 2).trans rfl; have hcz15_3 : w13.cell? ⟨gb104, 3, none⟩ = some (.slice A0_3 l0_3.length c0_3) := (blk_cell BK104.out 3).trans rfl; have hfz15_0 := blk_frozen BK104.out 0; have hfz15_1 := blk_frozen BK104.out 1; have hfz15_2 := blk_frozen BK104.out 2; have hfz15_3 := blk_frozen BK104.out 3; have hcz16_0 : w13.cell? ⟨gb105, 0, none⟩ = some (.int .i64 a1_0) := (blk_cell BK105.out 0).trans rfl; have hcz16_1 : w13.cell? ⟨gb105, 1, none⟩ = some (.int .i64 a1_1) := (blk_cell BK105.out 1).trans rfl; have hcz16_2 : w13.cell? ⟨gb105, 2, none⟩ = some (.int .i64 a1_2) := (blk_cell BK105.out 2).trans rfl; have hcz16_3 : w13.cell? ⟨gb105, 3, none⟩ = some (.slice A1_3 l1_3.length c1_3) := (blk_cell BK105.out 3).trans rfl; have hfz16_0 := blk_frozen BK105.out 0; have hfz16_1 := blk_frozen BK105.out 1; have hfz16_2 := blk_frozen BK105.out 2; have hfz16_3 := blk_frozen BK105.out 3))
        go_ret
        exact ⟨by first | rfl | (simp [errW_none, errW_some] <;> rfl) | (simp [*, errW_none, errW_some] <;> rfl), by repeat (first | (with_reducible first | exact HB.out | apply below_alloc | apply pw_below_drewN | apply below_drew1 | refine below_set ?_ GE104.out | refine below_set ?_ GE105.out) | exact HB.out)⟩
    · rw [if_neg c4] at H
      have c4b0 : (a0_1 == a1_1) = false := beq_eq_false_iff_ne.mpr c4
      have c4b1 : (a0_1 != a1_1) = true := bne_iff_ne.mpr c4
      obtain rfl := Option.some.inj H
      go_enter Try.func16, Try.ntmps16
      go_wp2_with (first | ((with_reducible refine gate_dst (N := 2) rfl ?_); refine box_event ?hg (N := 2) ?hd (cs := #[.int .i64 a0_0, .int .i64 a0_1, .int .i64 a0_2, .slice A0_3 l0_3.length c0_3]) (t := 30) ?hr ?_; (case hd => rfl); (case hg => rfl); (case hr => first | (go_simp; done) | (go_simp; rfl)); intro gb104 hg w17 hbox hb; have n0_ := Aside0.mk (below_step (by repeat (first | (with_reducible first | exact HB.out | apply below_alloc | apply pw_below_drewN | apply below_drew1) | exact HB.out)) hb); have n1_ := Aside0.mk (hbox); have n2_ := Aside0.mk ((by rw [hg]; exact (below_size (by repeat (first | (with_reducible first | exact HB.out | apply below_alloc | apply pw_below_drewN | apply below_drew1) | exact HB.out))) : w.heap.size ≤ gb104)); have n3_ := Aside0.mk ((by rw [hg]; exact (below_size (by repeat (first | (with_reducible first | exact HB.out | apply below_alloc | apply pw_below_drewN | apply below_drew1) | exact HB.out))) : w.heap.size ≤ gb104)); clear HB; have HB := n0_; have BK104 := n1_; have GW104 := n2_; have GE104 := n3_; clear n0_ n1_ n2_ n3_; clear hb hbox hg) | ((with_reducible refine gate_dst (N := 3) rfl ?_); refine box_event ?hg (N := 3) ?hd (cs := #[.int .i64 a1_0, .int .i64 a1_1, .int .i64 a1_2, .slice A1_3 l1_3.length c1_3]) (t := 30) ?hr ?_; (case hd => rfl); (case hg => rfl); (case hr => first | (go_simp; done) | (go_simp; rfl)); intro gb105 hg w18 hbox hb; have n0_ := Aside0.mk (blk_below (g := gb104) (o := .cells #[.int .i64 a0_0, .int .i64 a0_1, .int .i64 a0_2, .slice A0_3 l0_3.length c0_3] 30 (0, 0)) (by (with_reducible repeat (first | refine blk_drewN ?_ _ | refine blk_drew ?_ | refine blk_alloc ?_ _)); exact BK104.out) hb); have n1_ := Aside0.mk (below_step (by repeat (first | (with_reducible first | exact HB.out | apply below_alloc | apply pw_below_drewN | apply below_drew1 | refine below_set ?_ GE104.out) | exact HB.out)) hb); have n2_ := Aside0.mk (hbox); have n3_ := Aside0.mk ((by rw [hg]; exact (below_size (by repeat (first | (with_reducible first | exact HB.out | apply below_alloc | apply pw_below_drewN | apply below_drew1 | refine below_set ?_ GE104.out) | exact HB.out))) : w.heap.size ≤ gb105)); have n4_ := Aside0.mk ((by rw [hg]; exact (below_size (by repeat (first | (with_reducible first | exact HB.out | apply below_alloc | apply pw_below_drewN | apply below_drew1 | refine below_set ?_ GE104.out) | exact HB.out))) : w.heap.size ≤ gb105)); have n5_ := Aside0.mk ((by rw [hg]; exact Nat.ne_of_lt (blk_lt (g := gb104) (o := .cells #[.int .i64 a0_0, .int .i64 a0_1, .int .i64 a0_2, .slice A0_3 l0_3.length c0_3] 30 (0, 0)) (by (with_reducible repeat (first | refine blk_drewN ?_ _ | refine blk_drew ?_ | refine blk_alloc ?_ _)); exact BK104.out)) : gb104 ≠ gb105)); have n6_ := Aside0.mk ((by rw [hg]; exact Nat.ne_of_gt (blk_lt (g := gb104) (o := .cells #[.int .i64 a0_0, .int .i64 a0_1, .int .i64 a0_2, .slice A0_3 l0_3.length c0_3] 30 (0, 0)) (by (with_reducible repeat (first | refine blk_drewN ?_ _ | refine blk_drew ?_ | refine blk_alloc ?_ _)); exact BK104.out)) : gb105 ≠ gb104)); clear BK104; clear HB; have BK104 := n0_; have HB := n1_; have BK105 := n2_; have GW105 := n3_; have GE105 := n4_; have NB104_105 := n5_; have NB105_104 := n6_; clear n0_ n1_ n2_ n3_ n4_ n5_ n6_; clear hb hbox hg; have hnb19 := NB104_105.out; have hnc19 := NB105_104.out; have hcz20_0 : w18.cell? ⟨gb104, 0, none⟩ = some (.int .i64 a0_0) := (blk_cell BK104.out 0).trans rfl; have hcz20_1 : w18.cell? ⟨gb104, 1, none⟩ = some (.int .i64 a0_1) := (blk_cell BK104.out 1).trans rfl; have hcz20_2 : w18.cell? ⟨gb104, 2, none⟩ = some (.int .i64 a0_2) := (blk_cell BK104.out 2).trans rfl; have hcz20_3 : w18.cell? ⟨gb104, 3, none⟩ = some (.slice A0_3 l0_3.length c0_3) := (blk_cell BK104.out 3).trans rfl; have hfz20_0 := blk_frozen BK104.out 0; have hfz20_1 := blk_frozen BK104.out 1; have hfz20_2 := blk_frozen BK104.out 2; have hfz20_3 := blk_frozen BK104.out 3; have hcz21_0 : w18.cell? ⟨gb105, 0, none⟩ = some (.int .i64 a1_0) := (blk_cell BK105.out 0).trans rfl; have hcz21_1 : w18.cell? ⟨gb105, 1, none⟩ = some (.int .i64 a1_1) := (blk_cell BK105.out 1).trans rfl; have hcz21_2 : w18.cell? ⟨gb105, 2, none⟩ = some (.int .i64 a1_2) := (blk_cell BK105.out 2).trans rfl; have hcz21_3 : w18.cell? ⟨gb105, 3, none⟩ = some (.slice A1_3 l1_3.length c1_3) := (blk_cell BK105.out 3).trans rfl; have hfz21_0 := blk_frozen BK105.out 0; have hfz21_1 := blk_frozen BK105.out 1; have hfz21_2 := blk_frozen BK105.out 2; have hfz21_3 := blk_frozen BK105.out 3))
      go_ret
      exact ⟨by first | rfl | (simp [errW_none, errW_some] <;> rfl) | (simp [*, errW_none, errW_some] <;> rfl), by repeat (first | (with_reducible first | exact HB.out | apply below_alloc | apply pw_below_drewN | apply below_drew1 | refine below_set ?_ GE104.out | refine below_set ?_ GE105.out) | exact HB.out)⟩
  · rw [if_neg c3] at H
    have c3b0 : (a0_0 == a1_0) = false := beq_eq_false_iff_ne.mpr c3
    have c3b1 : (a0_0 != a1_0) = true := bne_iff_ne.mpr c3
    obtain rfl := Option.some.inj H
    go_enter Try.func16, Try.ntmps16
    go_wp2_with (first | ((with_reducible refine gate_dst (N := 2) rfl ?_); refine box_event ?hg (N := 2) ?hd (cs := #[.int .i64 a0_0, .int .i64 a0_1, .int .i64 a0_2, .slice A0_3 l0_3.length c0_3]) (t := 30) ?hr ?_; (case hd => rfl); (case hg => rfl); (case hr => first | (go_simp; done) | (go_simp; rfl)); intro gb104 hg w22 hbox hb; have n0_ := Aside0.mk (below_step (by repeat (first | (with_reducible first | exact HB.out | apply below_alloc | apply pw_below_drewN | apply below_drew1) | exact HB.out)) hb); have n1_ := Aside0.mk (hbox); have n2_ := Aside0.mk ((by rw [hg]; exact (below_size (by repeat (first | (with_reducible first | exact HB.out | apply below_alloc | apply pw_below_drewN | apply below_drew1) | exact HB.out))) : w.heap.size ≤ gb104)); have n3_ := Aside0.mk ((by rw [hg]; exact (below_size (by repeat (first | (with_reducible first | exact HB.out | apply below_alloc | apply pw_below_drewN | apply below_drew1) | exact HB.out))) : w.heap.size ≤ gb104)); clear HB; have HB := n0_; have BK104 := n1_; have GW104 := n2_; have GE104 := n3_; clear n0_ n1_ n2_ n3_; clear hb hbox hg) | ((with_reducible refine gate_dst (N := 3) rfl ?_); refine box_event ?hg (N := 3) ?hd (cs := #[.int .i64 a1_0, .int .i64 a1_1, .int .i64 a1_2, .slice A1_3 l1_3.length c1_3]) (t := 30) ?hr ?_; (case hd => rfl); (case hg => rfl); (case hr => first | (go_simp; done) | (go_simp; rfl)); intro gb105 hg w23 hbox hb; have n0_ := Aside0.mk (blk_below (g := gb104) (o := .cells #[.int .i64 a0_0, .int .i64 a0_1, .int .i64 a0_2, .slice A0_3 l0_3.length c0_3] 30 (0, 0)) (by (with_reducible repeat (first | refine blk_drewN ?_ _ | refine blk_drew ?_ | refine blk_alloc ?_ _)); exact BK104.out) hb); have n1_ := Aside0.mk (below_step (by repeat (first | (with_reducible first | exact HB.out | apply below_alloc | apply pw_below_drewN | apply below_drew1 | refine below_set ?_ GE104.out) | exact HB.out)) hb); have n2_ := Aside0.mk (hbox); have n3_ := Aside0.mk ((by rw [hg]; exact (below_size (by repeat (first | (with_reducible first | exact HB.out | apply below_alloc | apply pw_below_drewN | apply below_drew1 | refine below_set ?_ GE104.out) | exact HB.out))) : w.heap.size ≤ gb105)); have n4_ := Aside0.mk ((by rw [hg]; exact (below_size (by repeat (first | (with_reducible first | exact HB.out | apply below_alloc | apply pw_below_drewN | apply below_drew1 | refine below_set ?_ GE104.out) | exact HB.out))) : w.heap.size ≤ gb105)); have n5_ := Aside0.mk ((by rw [hg]; exact Nat.ne_of_lt (blk_lt (g := gb104) (o := .cells #[.int .i64 a0_0, .int .i64 a0_1, .int .i64 a0_2, .slice A0_3 l0_3.length c0_3] 30 (0, 0)) (by (with_reducible repeat (first | refine blk_drewN ?_ _ | refine blk_drew ?_ | refine blk_alloc ?_ _)); exact BK104.out)) : gb104 ≠ gb105)); have n6_ := Aside0.mk ((by rw [hg]; exact Nat.ne_of_gt (blk_lt (g := gb104) (o := .cells #[.int .i64 a0_0, .int .i64 a0_1, .int .i64 a0_2, .slice A0_3 l0_3.length c0_3] 30 (0, 0)) (by (with_reducible repeat (first | refine blk_drewN ?_ _ | refine blk_drew ?_ | refine blk_alloc ?_ _)); exact BK104.out)) : gb105 ≠ gb104)); clear BK104; clear HB; have BK104 := n0_; have HB := n1_; have BK105 := n2_; have GW105 := n3_; have GE105 := n4_; have NB104_105 := n5_; have NB105_104 := n6_; clear n0_ n1_ n2_ n3_ n4_ n5_ n6_; clear hb hbox hg; have hnb24 := NB104_105.out; have hnc24 := NB105_104.out; have hcz25_0 : w23.cell? ⟨gb104, 0, none⟩ = some (.int .i64 a0_0) := (blk_cell BK104.out 0).trans rfl; have hcz25_1 : w23.cell? ⟨gb104, 1, none⟩ = some (.int .i64 a0_1) := (blk_cell BK104.out 1).trans rfl; have hcz25_2 : w23.cell? ⟨gb104, 2, none⟩ = some (.int .i64 a0_2) := (blk_cell BK104.out 2).trans rfl; have hcz25_3 : w23.cell? ⟨gb104, 3, none⟩ = some (.slice A0_3 l0_3.length c0_3) := (blk_cell BK104.out 3).trans rfl; have hfz25_0 := blk_frozen BK104.out 0; have hfz25_1 := blk_frozen BK104.out 1; have hfz25_2 := blk_frozen BK104.out 2; have hfz25_3 := blk_frozen BK104.out 3; have hcz26_0 : w23.cell? ⟨gb105, 0, none⟩ = some (.int .i64 a1_0) := (blk_cell BK105.out 0).trans rfl; have hcz26_1 : w23.cell? ⟨gb105, 1, none⟩ = some (.int .i64 a1_1) := (blk_cell BK105.out 1).trans rfl; have hcz26_2 : w23.cell? ⟨gb105, 2, none⟩ = some (.int .i64 a1_2) := (blk_cell BK105.out 2).trans rfl; have hcz26_3 : w23.cell? ⟨gb105, 3, none⟩ = some (.slice A1_3 l1_3.length c1_3) := (blk_cell BK105.out 3).trans rfl; have hfz26_0 := blk_frozen BK105.out 0; have hfz26_1 := blk_frozen BK105.out 1; have hfz26_2 := blk_frozen BK105.out 2; have hfz26_3 := blk_frozen BK105.out 3))
    go_ret
    exact ⟨by first | rfl | (simp [errW_none, errW_some] <;> rfl) | (simp [*, errW_none, errW_some] <;> rfl), by repeat (first | (with_reducible first | exact HB.out | apply below_alloc | apply pw_below_drewN | apply below_drew1 | refine below_set ?_ GE104.out | refine below_set ?_ GE105.out) | exact HB.out)⟩
def juratref26_Same.l0 : Nat → List (S30) → List (S30) → Int → Option (Bool)
  | 0, _, _, _ => none
  | k + 1, x0, x1, x5 => if x5 < (x0.length : Int) then (if 0 ≤ x5 then (if x5 < (x1.length : Int) then ((juratref24_Same.f k ((rd_T30 x0 x5).f0) ((rd_T30 x0 x5).f1) ((rd_T30 x0 x5).f2) ((rd_T30 x0 x5).f3) ((rd_T30 x1 x5).f0) ((rd_T30 x1 x5).f1) ((rd_T30 x1 x5).f2) ((rd_T30 x1 x5).f3)).bind fun t109 => (if t109 = true then (juratref26_Same.l0 k x0 x1 (wrap64 (x5 + 1))) else (some false))) else (none)) else (none)) else (some true)
def juratref26_Same.f (k : Nat) (l0 : List (S30)) (l1 : List (S30)) : Option (Bool) := if (l0.length : Int) = (l1.length : Int) then (juratref26_Same.l0 k l0 l1 0) else (some false)
def juratref26_Same.T6 : Bool × List (List Nat × List Nat) := (true, [([], []), ([], []), ([0, 1], [0, 1]), ([2], [2]), ([], []), ([], []), ([4, 5], [4, 5]), ([6], [6]), ([3, 7], [3, 7]), ([8], [8])])
def juratref26_Same.B6 : List Nat := [0, 0, 3, 7, 0, 0, 48, 112, 255, 511]
theorem juratref26_Same.tab6 : rtab .any (opsOf Try.f11 6) = juratref26_Same.T6 := by kernel_rfl
theorem juratref26_Same.bits6 : waitsOk juratref26_Same.T6.2 juratref26_Same.B6 = true := by kernel_rfl
set_option maxHeartbeats 8000000 in
set_option maxRecDepth 100000 in
theorem juratref26_Same.calls (k : Nat) (A0 : Option Addr) (c0 : Nat) (l0 : List (S30)) (A1 : Option Addr) (c1 : Nat) (l1 : List (S30)) (r : Bool) (w : World) (hr0 : Kd.C k30 w A0 l0.length l0) (hc0 : l0.length ≤ c0) (hr1 : Kd.C k30 w A1 l1.length l1) (hc1 : l1.length ≤ c1) (h : juratref26_Same.f k l0 l1 = some r) :
    Calls Try.prog 11 #[.slice A0 l0.length c0, .slice A1 l1.length c1] w fun e w' => e = .returned (.bool r) ∧ Below w.heap.size w w' := by
  have hu30 := Try.underlying30
  have HR0 := Aside0.mk hr0
  have HC0 := Aside0.mk hc0
  clear hr0 hc0
  have HR1 := Aside0.mk hr1
  have HC1 := Aside0.mk hc1
  clear hr1 hc1
  have HB := Aside0.mk (Below.refl w.heap.size w)
  have H : (if (l0.length : Int) = (l1.length : Int) then (juratref26_Same.l0 k l0 l1 0) else (some false)) = some r := h
  clear h
  by_cases c3 : (l0.length : Int) = (l1.length : Int)
  · rw [if_pos c3] at H
    have c3b0 : ((l0.length : Int) == (l1.length : Int)) = true := beq_iff_eq.mpr c3
    have c3b1 : ((l0.length : Int) != (l1.length : Int)) = false := bne_eq_false_iff_eq.mpr c3
    have c3b2 : (l0.length == l1.length) = true := by first | simpa using c3 | (simp at c3 ⊢; omega)
    clear c3
    have H' := Aside0.mk H
    clear H
    go_enter Try.func11, Try.ntmps11
    go_wp2
    go_loopg [5] k (fun kq v5 w' => ∃ (x5_1 : Int), v5 = .int .i64 x5_1 ∧ Aside0 (juratref26_Same.l0 kq l0 l1 x5_1 = some r) ∧ Aside0 (kq ≤ k) ∧ Aside0 (Below w.heap.size w w'))
    case atStart => exact ⟨(0), (by first | rfl | (simp; done) | (simp [*]; done)), H', ⟨Nat.le_refl _⟩, ⟨by repeat (first | (with_reducible first | exact HB.out | apply below_alloc | apply pw_below_drewN | apply below_drew1) | exact HB.out)⟩⟩
    case round =>
      clear H'
      try clear c1
      try clear p2
      try clear c3
      try clear c3b0
      try clear c3b1
      try clear c3b2
      obtain ⟨x5_1, rfl, HA, HK1, HB⟩ := hrel
      cases gk with
      | zero => exact absurd HA.out (by simp [juratref26_Same.l0])
      | succ k1 =>
        have H := HA.out
        clear HA
        simp only [juratref26_Same.l0] at H
        by_cases c4 : x5_1 < (l0.length : Int)
        · rw [if_pos c4] at H
          have c4b0 : decide (x5_1 < (l0.length : Int)) = true := decide_eq_true c4
          clear c4
          by_cases c5 : 0 ≤ x5_1
          · rw [if_pos c5] at H
            have c5b0 : decide (0 ≤ x5_1) = true := decide_eq_true c5
            clear c5
            by_cases c6 : x5_1 < (l1.length : Int)
            · rw [if_pos c6] at H
              have c6b0 : decide (x5_1 < (l1.length : Int)) = true := decide_eq_true c6
              clear c6
              replace H := Option.bind_eq_some_iff.mp H
              obtain ⟨t109, A70, H⟩ := H
              replace H : (if t109 = true then (juratref26_Same.l0 k1 l0 l1 (wrap64 (x5_1 + 1))) else (some false)) = some r := H
              have A7 := Aside0.mk A70
              clear A70
              by_cases c8 : t109 = true
              · subst c8
                have H1 : (juratref26_Same.l0 k1 l0 l1 (wrap64 (x5_1 + 1))) = some r := by rw [if_pos rfl] at H; exact H
                clear H
                have H := H1
                clear H1
                have H' := Aside0.mk H
                clear H
                try go_wp2
                (try (rw [drewN_self wr]; generalize hq_ : World.drewN wr _ = wr; have n0_ : Aside0 (Below w.heap.size w wr) := ⟨by rw [← hq_]; exact (by repeat (first | (with_reducible first | exact HB.out | apply below_alloc | apply pw_below_drewN | apply below_drew1) | exact HB.out))⟩; clear HB hq_; have HB := n0_; clear n0_))
                have n0_ := Aside0.mk (below_drew1 HB.out)
                clear HB
                have HB := n0_
                clear n0_
                have p107 : 0 ≤ (x5_1 : Int) := of_decide_eq_true (by first | (with_reducible assumption) | assumption)
                have q107 : x5_1 < (l0.length : Int) := of_decide_eq_true (by first | (with_reducible assumption) | assumption)
                obtain ⟨ad107, A107_3, c107_3, e107, hx107_0, hx107_1, hx107_2, hx107_3, hl107_3, hi107_3⟩ := at_T30 HR0.out x5_1 p107 q107
                have hw107_3 := hx107_3
                have hw107_2 := hx107_2
                have hw107_1 := hx107_1
                have hw107_0 := hx107_0
                cases e107
                replace hx107_0 := (HB.out.cell (World.block_lt_of_cell? w _ hx107_0)).trans hx107_0
                replace hx107_1 := (HB.out.cell (World.block_lt_of_cell? w _ hx107_1)).trans hx107_1
                replace hx107_2 := (HB.out.cell (World.block_lt_of_cell? w _ hx107_2)).trans hx107_2
                replace hx107_3 := (HB.out.cell (World.block_lt_of_cell? w _ hx107_3)).trans hx107_3
                have HR107_3 := Aside0.mk hi107_3
                have HC107_3 := Aside0.mk hl107_3
                clear hi107_3 hl107_3
                replace p107 := eq_true p107
                replace q107 := eq_true q107
                have p108 : 0 ≤ (x5_1 : Int) := of_decide_eq_true (by first | (with_reducible assumption) | assumption)
                have q108 : x5_1 < (l1.length : Int) := of_decide_eq_true (by first | (with_reducible assumption) | assumption)
                obtain ⟨ad108, A108_3, c108_3, e108, hx108_0, hx108_1, hx108_2, hx108_3, hl108_3, hi108_3⟩ := at_T30 HR1.out x5_1 p108 q108
                have hw108_3 := hx108_3
                have hw108_2 := hx108_2
                have hw108_1 := hx108_1
                have hw108_0 := hx108_0
                cases e108
                replace hx108_0 := (HB.out.cell (World.block_lt_of_cell? w _ hx108_0)).trans hx108_0
                replace hx108_1 := (HB.out.cell (World.block_lt_of_cell? w _ hx108_1)).trans hx108_1
                replace hx108_2 := (HB.out.cell (World.block_lt_of_cell? w _ hx108_2)).trans hx108_2
                replace hx108_3 := (HB.out.cell (World.block_lt_of_cell? w _ hx108_3)).trans hx108_3
                have HR108_3 := Aside0.mk hi108_3
                have HC108_3 := Aside0.mk hl108_3
                clear hi108_3 hl108_3
                replace p108 := eq_true p108
                replace q108 := eq_true q108
                refine start_ (n := 10) (S := fun w' => w'.cell? (ad107.add ((x5_1).toNat * 4)) = some (.int .i64 ((rd_T30 l0 x5_1).f0)) ∧ w'.cell? ⟨(ad107.add ((x5_1).toNat * 4)).block, (ad107.add ((x5_1).toNat * 4)).off + 1, none⟩ = some (.int .i64 ((rd_T30 l0 x5_1).f1)) ∧ w'.cell? ⟨(ad107.add ((x5_1).toNat * 4)).block, (ad107.add ((x5_1).toNat * 4)).off + 2, none⟩ = some (.int .i64 ((rd_T30 l0 x5_1).f2)) ∧ w'.cell? ⟨(ad107.add ((x5_1).toNat * 4)).block, (ad107.add ((x5_1).toNat * 4)).off + 3, none⟩ = some (.slice A107_3 ((rd_T30 l0 x5_1).f3).length c107_3) ∧ w'.cell? (ad108.add ((x5_1).toNat * 4)) = some (.int .i64 ((rd_T30 l1 x5_1).f0)) ∧ w'.cell? ⟨(ad108.add ((x5_1).toNat * 4)).block, (ad108.add ((x5_1).toNat * 4)).off + 1, none⟩ = some (.int .i64 ((rd_T30 l1 x5_1).f1)) ∧ w'.cell? ⟨(ad108.add ((x5_1).toNat * 4)).block, (ad108.add ((x5_1).toNat * 4)).off + 2, none⟩ = some (.int .i64 ((rd_T30 l1 x5_1).f2)) ∧ w'.cell? ⟨(ad108.add ((x5_1).toNat * 4)).block, (ad108.add ((x5_1).toNat * 4)).off + 3, none⟩ = some (.slice A108_3 ((rd_T30 l1 x5_1).f3).length c108_3)) (ds := []) #[false, false, false, false, false, false, false, false, false, false] (by kernel_rfl) rfl rfl ⟨((HB.out.cell (World.block_lt_of_cell? w _ hw107_0)).trans hw107_0), ((HB.out.cell (World.block_lt_of_cell? w _ hw107_1)).trans hw107_1), ((HB.out.cell (World.block_lt_of_cell? w _ hw107_2)).trans hw107_2), ((HB.out.cell (World.block_lt_of_cell? w _ hw107_3)).trans hw107_3), ((HB.out.cell (World.block_lt_of_cell? w _ hw108_0)).trans hw108_0), ((HB.out.cell (World.block_lt_of_cell? w _ hw108_1)).trans hw108_1), ((HB.out.cell (World.block_lt_of_cell? w _ hw108_2)).trans hw108_2), ((HB.out.cell (World.block_lt_of_cell? w _ hw108_3)).trans hw108_3)⟩ (fun hHeld => ?_); refine with_tabW juratref26_Same.tab6 juratref26_Same.bits6 (fun HT_ HW_ => ?_)
                generalize wr.drew = w9 at HB HR107_3 HR108_3 hx107_0 hx107_1 hx107_2 hx107_3 hx108_0 hx108_1 hx108_2 hx108_3 hHeld ⊢
                refine pure_ (i := 0) (N := some 17) (v := ?_) (a' := ?_) #[true, false, false, false, false, false, false, false, false, false] rfl rfl (any_of HT_.out (by kernel_rfl)) (fun _ _ _ h => h) (Or.inl ⟨by rfl, ?_⟩) ?_ ?_
                rotate_left
                · intro w'
                  go_simp
                  with_reducible rfl
                rotate_left
                · simp only [Act.put, List.setIfInBounds_toArray, List.set_cons_zero, List.set_cons_succ, i64_w, i32_w]
                  rfl
                refine pure_ (i := 1) (N := some 18) (v := ?_) (a' := ?_) #[true, true, false, false, false, false, false, false, false, false] rfl rfl (any_of HT_.out (by kernel_rfl)) (fun _ _ _ h => h) (Or.inl ⟨by rfl, ?_⟩) ?_ ?_
                rotate_left
                · intro w'
                  go_simp
                  with_reducible rfl
                rotate_left
                · simp only [Act.put, List.setIfInBounds_toArray, List.set_cons_zero, List.set_cons_succ, i64_w, i32_w]
                  rfl
                refine pure_ (i := 2) (N := some 19) (v := ?_) (a' := ?_) #[true, true, true, false, false, false, false, false, false, false] rfl rfl (any_of HT_.out (by kernel_rfl)) (fun _ _ _ h => h) (Or.inl ⟨by rfl, ?_⟩) ?_ ?_
                rotate_left
                · intro w'
                  go_simp
                  with_reducible rfl
                rotate_left
                · simp only [Act.put, List.setIfInBounds_toArray, List.set_cons_zero, List.set_cons_succ, i64_w, i32_w]
                  rfl
                refine pure_ (i := 4) (N := some 21) (v := ?_) (a' := ?_) #[true, true, true, false, true, false, false, false, false, false] rfl rfl (any_of HT_.out (by kernel_rfl)) (fun _ _ _ h => h) (Or.inl ⟨by rfl, ?_⟩) ?_ ?_
                rotate_left
                · intro w'
                  go_simp
                  with_reducible rfl
                rotate_left
                · simp only [Act.put, List.setIfInBounds_toArray, List.set_cons_zero, List.set_cons_succ, i64_w, i32_w]
                  rfl
                refine pure_ (i := 5) (N := some 22) (v := ?_) (a' := ?_) #[true, true, true, false, true, true, false, false, false, false] rfl rfl (any_of HT_.out (by kernel_rfl)) (fun _ _ _ h => h) (Or.inl ⟨by rfl, ?_⟩) ?_ ?_
                rotate_left
                · intro w'
                  go_simp
                  with_reducible rfl
                rotate_left
                · simp only [Act.put, List.setIfInBounds_toArray, List.set_cons_zero, List.set_cons_succ, i64_w, i32_w]
                  rfl
                refine pure_ (i := 6) (N := some 23) (v := ?_) (a' := ?_) #[true, true, true, false, true, true, true, false, false, false] rfl rfl (any_of HT_.out (by kernel_rfl)) (fun _ _ _ h => h) (Or.inl ⟨by rfl, ?_⟩) ?_ ?_
                rotate_left
                · intro w'
                  go_simp
                  with_reducible rfl
                rotate_left
                · simp only [Act.put, List.setIfInBounds_toArray, List.set_cons_zero, List.set_cons_succ, i64_w, i32_w]
                  rfl
                refine take_ (i := 3) (N := some 20) (v := ?_) (a' := ?_) #[true, true, true, true, true, true, true, false, false, false] rfl rfl (take_ofW HT_.out HW_.out (by kernel_rfl)) (fun _ _ _ h => h) (Or.inl ⟨by rfl, ?_⟩) hHeld ?_ ?_
                rotate_left
                · rintro w' ⟨s0, s1, s2, s3, s4, s5, s6, s7⟩
                  go_simp
                  with_reducible rfl
                rotate_left
                · simp only [Act.put, List.setIfInBounds_toArray, List.set_cons_zero, List.set_cons_succ, i64_w, i32_w]
                  rfl
                refine take_ (i := 7) (N := some 24) (v := ?_) (a' := ?_) #[true, true, true, true, true, true, true, true, false, false] rfl rfl (take_ofW HT_.out HW_.out (by kernel_rfl)) (fun _ _ _ h => h) (Or.inl ⟨by rfl, ?_⟩) hHeld ?_ ?_
                rotate_left
                · rintro w' ⟨s0, s1, s2, s3, s4, s5, s6, s7⟩
                  go_simp
                  with_reducible rfl
                rotate_left
                · simp only [Act.put, List.setIfInBounds_toArray, List.set_cons_zero, List.set_cons_succ, i64_w, i32_w]
                  rfl
                refine one_ (i := 8) (N := some 25) #[true, true, true, true, true, true, true, true, true, false] rfl rfl (one_of HT_.out (by kernel_rfl)) (by decide) (fun K hK => ?_)
                refine goes_ Try.func16 (by kernel_rfl) rfl #[.agg #[.int .i64 ((rd_T30 l0 x5_1).f0), .int .i64 ((rd_T30 l0 x5_1).f1), .int .i64 ((rd_T30 l0 x5_1).f2), .slice A107_3 ((rd_T30 l0 x5_1).f3).length c107_3], .agg #[.int .i64 ((rd_T30 l1 x5_1).f0), .int .i64 ((rd_T30 l1 x5_1).f1), .int .i64 ((rd_T30 l1 x5_1).f2), .slice A108_3 ((rd_T30 l1 x5_1).f3).length c108_3]] (by rfl) rfl rfl (by (try simp only [List.map_toArray, List.map_cons, List.map_nil]); first | done | rfl | (simp only [List.length_drop, List.length_take]; rfl)) ?_
                with_reducible refine (juratref24_Same.calls k1 ((rd_T30 l0 x5_1).f0) ((rd_T30 l0 x5_1).f1) ((rd_T30 l0 x5_1).f2) _ _ ((rd_T30 l0 x5_1).f3) ((rd_T30 l1 x5_1).f0) ((rd_T30 l1 x5_1).f1) ((rd_T30 l1 x5_1).f2) _ _ ((rd_T30 l1 x5_1).f3) true _ ?side1 ?side2 ?side3 ?side4 A7.out).mono ?_
                (case side1 => repeat (first | exact (Kd.C_below HR107_3.out HB.out) | (with_reducible refine Kd.C_alloc ?_ _) | (with_reducible refine Kd.C_drewN ?_ _) | (with_reducible refine Kd.C_drew ?_)))
                (case side2 => exact HC107_3.out)
                (case side3 => repeat (first | exact (Kd.C_below HR108_3.out HB.out) | (with_reducible refine Kd.C_alloc ?_ _) | (with_reducible refine Kd.C_drewN ?_ _) | (with_reducible refine Kd.C_drew ?_)))
                (case side4 => exact HC108_3.out)
                rintro e w10 ⟨rfl, hb⟩
                refine ⟨_, rfl, ?_⟩
                have n0_ := Aside0.mk (below_step (by repeat (first | (with_reducible first | exact HB.out | apply below_alloc | apply pw_below_drewN | apply below_drew1) | exact HB.out)) hb)
                clear HB
                have HB := n0_
                clear n0_
                (try clear hb)
                (try clear hb2)
                (try clear hk)
                (try clear hi)
                refine hK.out _ _ ⟨((HB.out.cell (World.block_lt_of_cell? w _ hw107_0)).trans hw107_0), ((HB.out.cell (World.block_lt_of_cell? w _ hw107_1)).trans hw107_1), ((HB.out.cell (World.block_lt_of_cell? w _ hw107_2)).trans hw107_2), ((HB.out.cell (World.block_lt_of_cell? w _ hw107_3)).trans hw107_3), ((HB.out.cell (World.block_lt_of_cell? w _ hw108_0)).trans hw108_0), ((HB.out.cell (World.block_lt_of_cell? w _ hw108_1)).trans hw108_1), ((HB.out.cell (World.block_lt_of_cell? w _ hw108_2)).trans hw108_2), ((HB.out.cell (World.block_lt_of_cell? w _ hw108_3)).trans hw108_3)⟩ (fun hHeld => ?_)
                clear hK K
                refine norm_ (a' := ?_) ?_ ?_
                rotate_left
                · show Act.put _ (some 25) _ = _
                  simp only [Act.put, List.setIfInBounds_toArray, List.set_cons_zero, List.set_cons_succ, i64_w, i32_w]
                  rfl
                refine pure_ (i := 9) (N := some 26) (v := ?_) (a' := ?_) #[true, true, true, true, true, true, true, true, true, true] rfl rfl (any_of HT_.out (by kernel_rfl)) (fun _ _ _ h => h) (Or.inl ⟨by rfl, ?_⟩) ?_ ?_
                rotate_left
                · intro w'
                  go_simp
                  with_reducible rfl
                rotate_left
                · simp only [Act.put, List.setIfInBounds_toArray, List.set_cons_zero, List.set_cons_succ, i64_w, i32_w]
                  rfl
                refine done_ (done_of HT_.out (by kernel_rfl)) ?_
                try go_wp2
                go_roundg k1
                case measure => have := HK1.out; omega
                case rel => exact ⟨(wrap64 (x5_1 + 1)), (by first | rfl | (simp; done) | (simp [*]; done)), H', ⟨by have := HK1.out; omega⟩, ⟨by repeat (first | (with_reducible first | exact HB.out | apply below_alloc | apply pw_below_drewN | apply below_drew1) | exact HB.out)⟩⟩
              · replace c8 := Bool.eq_false_iff.mpr c8
                subst c8
                have H1 : (some false) = some r := by rw [if_neg (show ¬ (false = true) by decide)] at H; exact H
                clear H
                have H := H1
                clear H1
                obtain rfl := Option.some.inj H
                try go_wp2
                (try (rw [drewN_self wr]; generalize hq_ : World.drewN wr _ = wr; have n0_ : Aside0 (Below w.heap.size w wr) := ⟨by rw [← hq_]; exact (by repeat (first | (with_reducible first | exact HB.out | apply below_alloc | apply pw_below_drewN | apply below_drew1) | exact HB.out))⟩; clear HB hq_; have HB := n0_; clear n0_))
                have n0_ := Aside0.mk (below_drew1 HB.out)
                clear HB
                have HB := n0_
                clear n0_
                have p107 : 0 ≤ (x5_1 : Int) := of_decide_eq_true (by first | (with_reducible assumption) | assumption)
                have q107 : x5_1 < (l0.length : Int) := of_decide_eq_true (by first | (with_reducible assumption) | assumption)
                obtain ⟨ad107, A107_3, c107_3, e107, hx107_0, hx107_1, hx107_2, hx107_3, hl107_3, hi107_3⟩ := at_T30 HR0.out x5_1 p107 q107
                have hw107_3 := hx107_3
                have hw107_2 := hx107_2
                have hw107_1 := hx107_1
                have hw107_0 := hx107_0
                cases e107
                replace hx107_0 := (HB.out.cell (World.block_lt_of_cell? w _ hx107_0)).trans hx107_0
                replace hx107_1 := (HB.out.cell (World.block_lt_of_cell? w _ hx107_1)).trans hx107_1
                replace hx107_2 := (HB.out.cell (World.block_lt_of_cell? w _ hx107_2)).trans hx107_2
                replace hx107_3 := (HB.out.cell (World.block_lt_of_cell? w _ hx107_3)).trans hx107_3
                have HR107_3 := Aside0.mk hi107_3
                have HC107_3 := Aside0.mk hl107_3
                clear hi107_3 hl107_3
                replace p107 := eq_true p107
                replace q107 := eq_true q107
                have p108 : 0 ≤ (x5_1 : Int) := of_decide_eq_true (by first | (with_reducible assumption) | assumption)
                have q108 : x5_1 < (l1.length : Int) := of_decide_eq_true (by first | (with_reducible assumption) | assumption)
                obtain ⟨ad108, A108_3, c108_3, e108, hx108_0, hx108_1, hx108_2, hx108_3, hl108_3, hi108_3⟩ := at_T30 HR1.out x5_1 p108 q108
                have hw108_3 := hx108_3
                have hw108_2 := hx108_2
                have hw108_1 := hx108_1
                have hw108_0 := hx108_0
                cases e108
                replace hx108_0 := (HB.out.cell (World.block_lt_of_cell? w _ hx108_0)).trans hx108_0
                replace hx108_1 := (HB.out.cell (World.block_lt_of_cell? w _ hx108_1)).trans hx108_1
                replace hx108_2 := (HB.out.cell (World.block_lt_of_cell? w _ hx108_2)).trans hx108_2
                replace hx108_3 := (HB.out.cell (World.block_lt_of_cell? w _ hx108_3)).trans hx108_3
                have HR108_3 := Aside0.mk hi108_3
                have HC108_3 := Aside0.mk hl108_3
                clear hi108_3 hl108_3
                replace p108 := eq_true p108
                replace q108 := eq_true q108
                refine start_ (n := 10) (S := fun w' => w'.cell? (ad107.add ((x5_1).toNat * 4)) = some (.int .i64 ((rd_T30 l0 x5_1).f0)) ∧ w'.cell? ⟨(ad107.add ((x5_1).toNat * 4)).block, (ad107.add ((x5_1).toNat * 4)).off + 1, none⟩ = some (.int .i64 ((rd_T30 l0 x5_1).f1)) ∧ w'.cell? ⟨(ad107.add ((x5_1).toNat * 4)).block, (ad107.add ((x5_1).toNat * 4)).off + 2, none⟩ = some (.int .i64 ((rd_T30 l0 x5_1).f2)) ∧ w'.cell? ⟨(ad107.add ((x5_1).toNat * 4)).block, (ad107.add ((x5_1).toNat * 4)).off + 3, none⟩ = some (.slice A107_3 ((rd_T30 l0 x5_1).f3).length c107_3) ∧ w'.cell? (ad108.add ((x5_1).toNat * 4)) = some (.int .i64 ((rd_T30 l1 x5_1).f0)) ∧ w'.cell? ⟨(ad108.add ((x5_1).toNat * 4)).block, (ad108.add ((x5_1).toNat * 4)).off + 1, none⟩ = some (.int .i64 ((rd_T30 l1 x5_1).f1)) ∧ w'.cell? ⟨(ad108.add ((x5_1).toNat * 4)).block, (ad108.add ((x5_1).toNat * 4)).off + 2, none⟩ = some (.int .i64 ((rd_T30 l1 x5_1).f2)) ∧ w'.cell? ⟨(ad108.add ((x5_1).toNat * 4)).block, (ad108.add ((x5_1).toNat * 4)).off + 3, none⟩ = some (.slice A108_3 ((rd_T30 l1 x5_1).f3).length c108_3)) (ds := []) #[false, false, false, false, false, false, false, false, false, false] (by kernel_rfl) rfl rfl ⟨((HB.out.cell (World.block_lt_of_cell? w _ hw107_0)).trans hw107_0), ((HB.out.cell (World.block_lt_of_cell? w _ hw107_1)).trans hw107_1), ((HB.out.cell (World.block_lt_of_cell? w _ hw107_2)).trans hw107_2), ((HB.out.cell (World.block_lt_of_cell? w _ hw107_3)).trans hw107_3), ((HB.out.cell (World.block_lt_of_cell? w _ hw108_0)).trans hw108_0), ((HB.out.cell (World.block_lt_of_cell? w _ hw108_1)).trans hw108_1), ((HB.out.cell (World.block_lt_of_cell? w _ hw108_2)).trans hw108_2), ((HB.out.cell (World.block_lt_of_cell? w _ hw108_3)).trans hw108_3)⟩ (fun hHeld => ?_); refine with_tabW juratref26_Same.tab6 juratref26_Same.bits6 (fun HT_ HW_ => ?_)
                generalize wr.drew = w11 at HB HR107_3 HR108_3 hx107_0 hx107_1 hx107_2 hx107_3 hx108_0 hx108_1 hx108_2 hx108_3 hHeld ⊢
                refine pure_ (i := 0) (N := some 17) (v := ?_) (a' := ?_) #[true, false, false, false, false, false, false, false, false, false] rfl rfl (any_of HT_.out (by kernel_rfl)) (fun _ _ _ h => h) (Or.inl ⟨by rfl, ?_⟩) ?_ ?_
                rotate_left
                · intro w'
                  go_simp
                  with_reducible rfl
                rotate_left
                · simp only [Act.put, List.setIfInBounds_toArray, List.set_cons_zero, List.set_cons_succ, i64_w, i32_w]
                  rfl
                refine pure_ (i := 1) (N := some 18) (v := ?_) (a' := ?_) #[true, true, false, false, false, false, false, false, false, false] rfl rfl (any_of HT_.out (by kernel_rfl)) (fun _ _ _ h => h) (Or.inl ⟨by rfl, ?_⟩) ?_ ?_
                rotate_left
                · intro w'
                  go_simp
                  with_reducible rfl
                rotate_left
                · simp only [Act.put, List.setIfInBounds_toArray, List.set_cons_zero, List.set_cons_succ, i64_w, i32_w]
                  rfl
                refine pure_ (i := 2) (N := some 19) (v := ?_) (a' := ?_) #[true, true, true, false, false, false, false, false, false, false] rfl rfl (any_of HT_.out (by kernel_rfl)) (fun _ _ _ h => h) (Or.inl ⟨by rfl, ?_⟩) ?_ ?_
                rotate_left
                · intro w'
                  go_simp
                  with_reducible rfl
                rotate_left
                · simp only [Act.put, List.setIfInBounds_toArray, List.set_cons_zero, List.set_cons_succ, i64_w, i32_w]
                  rfl
                refine pure_ (i := 4) (N := some 21) (v := ?_) (a' := ?_) #[true, true, true, false, true, false, false, false, false, false] rfl rfl (any_of HT_.out (by kernel_rfl)) (fun _ _ _ h => h) (Or.inl ⟨by rfl, ?_⟩) ?_ ?_
                rotate_left
                · intro w'
                  go_simp
                  with_reducible rfl
                rotate_left
                · simp only [Act.put, List.setIfInBounds_toArray, List.set_cons_zero, List.set_cons_succ, i64_w, i32_w]
                  rfl
                refine pure_ (i := 5) (N := some 22) (v := ?_) (a' := ?_) #[true, true, true, false, true, true, false, false, false, false] rfl rfl (any_of HT_.out (by kernel_rfl)) (fun _ _ _ h => h) (Or.inl ⟨by rfl, ?_⟩) ?_ ?_
                rotate_left
                · intro w'
                  go_simp
                  with_reducible rfl
                rotate_left
                · simp only [Act.put, List.setIfInBounds_toArray, List.set_cons_zero, List.set_cons_succ, i64_w, i32_w]
                  rfl
                refine pure_ (i := 6) (N := some 23) (v := ?_) (a' := ?_) #[true, true, true, false, true, true, true, false, false, false] rfl rfl (any_of HT_.out (by kernel_rfl)) (fun _ _ _ h => h) (Or.inl ⟨by rfl, ?_⟩) ?_ ?_
                rotate_left
                · intro w'
                  go_simp
                  with_reducible rfl
                rotate_left
                · simp only [Act.put, List.setIfInBounds_toArray, List.set_cons_zero, List.set_cons_succ, i64_w, i32_w]
                  rfl
                refine take_ (i := 3) (N := some 20) (v := ?_) (a' := ?_) #[true, true, true, true, true, true, true, false, false, false] rfl rfl (take_ofW HT_.out HW_.out (by kernel_rfl)) (fun _ _ _ h => h) (Or.inl ⟨by rfl, ?_⟩) hHeld ?_ ?_
                rotate_left
                · rintro w' ⟨s0, s1, s2, s3, s4, s5, s6, s7⟩
                  go_simp
                  with_reducible rfl
                rotate_left
                · simp only [Act.put, List.setIfInBounds_toArray, List.set_cons_zero, List.set_cons_succ, i64_w, i32_w]
                  rfl
                refine take_ (i := 7) (N := some 24) (v := ?_) (a' := ?_) #[true, true, true, true, true, true, true, true, false, false] rfl rfl (take_ofW HT_.out HW_.out (by kernel_rfl)) (fun _ _ _ h => h) (Or.inl ⟨by rfl, ?_⟩) hHeld ?_ ?_
                rotate_left
                · rintro w' ⟨s0, s1, s2, s3, s4, s5, s6, s7⟩
                  go_simp
                  with_reducible rfl
                rotate_left
                · simp only [Act.put, List.setIfInBounds_toArray, List.set_cons_zero, List.set_cons_succ, i64_w, i32_w]
                  rfl
                refine one_ (i := 8) (N := some 25) #[true, true, true, true, true, true, true, true, true, false] rfl rfl (one_of HT_.out (by kernel_rfl)) (by decide) (fun K hK => ?_)
                refine goes_ Try.func16 (by kernel_rfl) rfl #[.agg #[.int .i64 ((rd_T30 l0 x5_1).f0), .int .i64 ((rd_T30 l0 x5_1).f1), .int .i64 ((rd_T30 l0 x5_1).f2), .slice A107_3 ((rd_T30 l0 x5_1).f3).length c107_3], .agg #[.int .i64 ((rd_T30 l1 x5_1).f0), .int .i64 ((rd_T30 l1 x5_1).f1), .int .i64 ((rd_T30 l1 x5_1).f2), .slice A108_3 ((rd_T30 l1 x5_1).f3).length c108_3]] (by rfl) rfl rfl (by (try simp only [List.map_toArray, List.map_cons, List.map_nil]); first | done | rfl | (simp only [List.length_drop, List.length_take]; rfl)) ?_
                with_reducible refine (juratref24_Same.calls k1 ((rd_T30 l0 x5_1).f0) ((rd_T30 l0 x5_1).f1) ((rd_T30 l0 x5_1).f2) _ _ ((rd_T30 l0 x5_1).f3) ((rd_T30 l1 x5_1).f0) ((rd_T30 l1 x5_1).f1) ((rd_T30 l1 x5_1).f2) _ _ ((rd_T30 l1 x5_1).f3) false _ ?side1 ?side2 ?side3 ?side4 A7.out).mono ?_
                (case side1 => repeat (first | exact (Kd.C_below HR107_3.out HB.out) | (with_reducible refine Kd.C_alloc ?_ _) | (with_reducible refine Kd.C_drewN ?_ _) | (with_reducible refine Kd.C_drew ?_)))
                (case side2 => exact HC107_3.out)
                (case side3 => repeat (first | exact (Kd.C_below HR108_3.out HB.out) | (with_reducible refine Kd.C_alloc ?_ _) | (with_reducible refine Kd.C_drewN ?_ _) | (with_reducible refine Kd.C_drew ?_)))
                (case side4 => exact HC108_3.out)
                rintro e w12 ⟨rfl, hb⟩
                refine ⟨_, rfl, ?_⟩
                have n0_ := Aside0.mk (below_step (by repeat (first | (with_reducible first | exact HB.out | apply below_alloc | apply pw_below_drewN | apply below_drew1) | exact HB.out)) hb)
                clear HB
                have HB := n0_
                clear n0_
                (try clear hb)
                (try clear hb2)
                (try clear hk)
                (try clear hi)
                refine hK.out _ _ ⟨((HB.out.cell (World.block_lt_of_cell? w _ hw107_0)).trans hw107_0), ((HB.out.cell (World.block_lt_of_cell? w _ hw107_1)).trans hw107_1), ((HB.out.cell (World.block_lt_of_cell? w _ hw107_2)).trans hw107_2), ((HB.out.cell (World.block_lt_of_cell? w _ hw107_3)).trans hw107_3), ((HB.out.cell (World.block_lt_of_cell? w _ hw108_0)).trans hw108_0), ((HB.out.cell (World.block_lt_of_cell? w _ hw108_1)).trans hw108_1), ((HB.out.cell (World.block_lt_of_cell? w _ hw108_2)).trans hw108_2), ((HB.out.cell (World.block_lt_of_cell? w _ hw108_3)).trans hw108_3)⟩ (fun hHeld => ?_)
                clear hK K
                refine norm_ (a' := ?_) ?_ ?_
                rotate_left
                · show Act.put _ (some 25) _ = _
                  simp only [Act.put, List.setIfInBounds_toArray, List.set_cons_zero, List.set_cons_succ, i64_w, i32_w]
                  rfl
                refine pure_ (i := 9) (N := some 26) (v := ?_) (a' := ?_) #[true, true, true, true, true, true, true, true, true, true] rfl rfl (any_of HT_.out (by kernel_rfl)) (fun _ _ _ h => h) (Or.inl ⟨by rfl, ?_⟩) ?_ ?_
                rotate_left
                · intro w'
                  go_simp
                  with_reducible rfl
                rotate_left
                · simp only [Act.put, List.setIfInBounds_toArray, List.set_cons_zero, List.set_cons_succ, i64_w, i32_w]
                  rfl
                refine done_ (done_of HT_.out (by kernel_rfl)) ?_
                try go_wp2
                go_ret
                exact ⟨by first | rfl | (simp [errW_none, errW_some] <;> rfl) | (simp [*, errW_none, errW_some] <;> rfl), by repeat (first | (with_reducible first | exact HB.out | apply below_alloc | apply pw_below_drewN | apply below_drew1) | exact HB.out)⟩
            · rw [if_neg c6] at H
              exact absurd H (by simp)
          · rw [if_neg c5] at H
            exact absurd H (by simp)
        · rw [if_neg c4] at H
          have c4b0 : decide (x5_1 < (l0.length : Int)) = false := decide_eq_false c4
          clear c4
          obtain rfl := Option.some.inj H
          go_wp2
          go_ret
          exact ⟨by first | rfl | (simp [errW_none, errW_some] <;> rfl) | (simp [*, errW_none, errW_some] <;> rfl), by repeat (first | (with_reducible first | exact HB.out | apply below_alloc | apply pw_below_drewN | apply below_drew1) | exact HB.out)⟩
  · rw [if_neg c3] at H
    have c3b0 : ((l0.length : Int) == (l1.length : Int)) = false := beq_eq_false_iff_ne.mpr c3
    have c3b1 : ((l0.length : Int) != (l1.length : Int)) = true := bne_iff_ne.mpr c3
    have c3b2 : (l0.length == l1.length) = false := by first | simpa using c3 | (simp at c3 ⊢; omega)
    obtain rfl := Option.some.inj H
    go_enter Try.func11, Try.ntmps11
    go_wp2
    go_ret
    exact ⟨by first | rfl | (simp [errW_none, errW_some] <;> rfl) | (simp [*, errW_none, errW_some] <;> rfl), by repeat (first | (with_reducible first | exact HB.out | apply below_alloc | apply pw_below_drewN | apply below_drew1) | exact HB.out)⟩
def IsS61 (w0 W : World) (g : Nat) (f0 : ByteArray) (f1 : Int) (f2 : Int) (f3 : Int) (f4 : List Int) (f5 : Bool) (f6 : Bool) (f7 : Int) : Prop := ∃ A4 c4, W.heap[g]? = some (.cells #[.string f0, .int .i64 f1, .int .i64 f2, .int .i64 f3, .slice A4 f4.length c4, .bool f5, .bool f6, .int .i64 f7] 61 (0, 0)) ∧ w0.heap.size ≤ g ∧ Kd.C (Kd.int .i64) w0 A4 f4.length f4
theorem IsS61.grown {w0 W : World} {g : Nat} {f0 : ByteArray} {f1 : Int} {f2 : Int} {f3 : Int} {f4 : List Int} {f5 : Bool} {f6 : Bool} {f7 : Int} {W1 : World} {row : Option Nat} (h : IsS61 w0 W g f0 f1 f2 f3 f4 f5 f6 f7) (hw : W.grownBy W1 row) (hne : some g ≠ row) : IsS61 w0 W1 g f0 f1 f2 f3 f4 f5 f6 f7 := by
  obtain ⟨A4, c4, hb, hg, hr4⟩ := h
  exact ⟨A4, c4, blk_grown hb hw hne, hg, hr4⟩
theorem IsS61.kept {w0 W : World} {g : Nat} {f0 : ByteArray} {f1 : Int} {f2 : Int} {f3 : Int} {f4 : List Int} {f5 : Bool} {f6 : Bool} {f7 : Int} {W1 : World} {S : Nat → Prop} (h : IsS61 w0 W g f0 f1 f2 f3 f4 f5 f6 f7) (hk : Kept W W1 S) (hne : ¬ S g) : IsS61 w0 W1 g f0 f1 f2 f3 f4 f5 f6 f7 := by
  obtain ⟨A4, c4, hb, hg, hr4⟩ := h
  exact ⟨A4, c4, blk_kept hb hk hne, hg, hr4⟩
theorem IsS61.below {w0 W : World} {g : Nat} {f0 : ByteArray} {f1 : Int} {f2 : Int} {f3 : Int} {f4 : List Int} {f5 : Bool} {f6 : Bool} {f7 : Int} {W1 : World} (h : IsS61 w0 W g f0 f1 f2 f3 f4 f5 f6 f7) (hw : Below W.heap.size W W1) : IsS61 w0 W1 g f0 f1 f2 f3 f4 f5 f6 f7 := h.grown (grown_of_below hw none) (by simp)
theorem IsS61.alloc {w0 W : World} {g : Nat} {f0 : ByteArray} {f1 : Int} {f2 : Int} {f3 : Int} {f4 : List Int} {f5 : Bool} {f6 : Bool} {f7 : Int} (h : IsS61 w0 W g f0 f1 f2 f3 f4 f5 f6 f7) (o : Obj) : IsS61 w0 (W.alloc o) g f0 f1 f2 f3 f4 f5 f6 f7 := h.below (below_alloc (Below.refl _ _) o)
theorem IsS61.drewN {w0 W : World} {g : Nat} {f0 : ByteArray} {f1 : Int} {f2 : Int} {f3 : Int} {f4 : List Int} {f5 : Bool} {f6 : Bool} {f7 : Int} (h : IsS61 w0 W g f0 f1 f2 f3 f4 f5 f6 f7) (m : Nat) : IsS61 w0 (W.drewN m) g f0 f1 f2 f3 f4 f5 f6 f7 := h
theorem IsS61.drew {w0 W : World} {g : Nat} {f0 : ByteArray} {f1 : Int} {f2 : Int} {f3 : Int} {f4 : List Int} {f5 : Bool} {f6 : Bool} {f7 : Int} (h : IsS61 w0 W g f0 f1 f2 f3 f4 f5 f6 f7) : IsS61 w0 W.drew g f0 f1 f2 f3 f4 f5 f6 f7 := h
theorem IsS61.at_ {w0 W : World} {g : Nat} {f0 : ByteArray} {f1 : Int} {f2 : Int} {f3 : Int} {f4 : List Int} {f5 : Bool} {f6 : Bool} {f7 : Int} {w' : World} {m : Nat} (hq : W.drewN m = w') (h : IsS61 w0 W g f0 f1 f2 f3 f4 f5 f6 f7) : IsS61 w0 w' g f0 f1 f2 f3 f4 f5 f6 f7 := by subst hq; exact IsS61.drewN h m
theorem IsS61.apart {w0 W : World} {g : Nat} {f0 : ByteArray} {f1 : Int} {f2 : Int} {f3 : Int} {f4 : List Int} {f5 : Bool} {f6 : Bool} {f7 : Int} {α : Type} {d : Kd α} {e : Nat} {base : Nat} {ok : Nat → Prop} {v : Value} {xs : List α} (h : IsS61 w0 W g f0 f1 f2 f3 f4 f5 f6 f7) (ho : d.R e W base ok v xs) (ht : ∀ q, q ∈ e :: d.E → q ≠ 61) : d.R e W base (fun k => ok k ∧ k ≠ g) v xs := by
  obtain ⟨A4, c4, hb, hg, hr4⟩ := h
  exact Kd.R_types ho hb ht
theorem IsS61.own_ne {w0 W : World} {g : Nat} {f0 : ByteArray} {f1 : Int} {f2 : Int} {f3 : Int} {f4 : List Int} {f5 : Bool} {f6 : Bool} {f7 : Int} {α : Type} {d : Kd α} {e : Nat} {base : Nat} {ok : Nat → Prop} {v : Value} {xs : List α} (h : IsS61 w0 W g f0 f1 f2 f3 f4 f5 f6 f7) (ho : d.R e W base ok v xs) (ht : e ≠ 61) : some g ≠ v.ownBlock := by
  obtain ⟨A4, c4, hb, hg, hr4⟩ := h
  exact Kd.R_ne ho hb ht
theorem IsS61.ge {w0 W : World} {g : Nat} {f0 : ByteArray} {f1 : Int} {f2 : Int} {f3 : Int} {f4 : List Int} {f5 : Bool} {f6 : Bool} {f7 : Int} (h : IsS61 w0 W g f0 f1 f2 f3 f4 f5 f6 f7) : w0.heap.size ≤ g := by
  obtain ⟨A4, c4, hb, hg, hr4⟩ := h
  exact hg
theorem IsS61.set_0 {w0 W : World} {g : Nat} {f0 : ByteArray} {f1 : Int} {f2 : Int} {f3 : Int} {f4 : List Int} {f5 : Bool} {f6 : Bool} {f7 : Int} (h : IsS61 w0 W g f0 f1 f2 f3 f4 f5 f6 f7) (x : ByteArray) : IsS61 w0 (W.setCell ⟨g, 0, none⟩ (.string x)) g x f1 f2 f3 f4 f5 f6 f7 := by
  obtain ⟨A4, c4, hb, hg, hr4⟩ := h
  exact ⟨A4, c4, by simpa using blk_set hb 0 (.string x), hg, hr4⟩
theorem IsS61.set_1 {w0 W : World} {g : Nat} {f0 : ByteArray} {f1 : Int} {f2 : Int} {f3 : Int} {f4 : List Int} {f5 : Bool} {f6 : Bool} {f7 : Int} (h : IsS61 w0 W g f0 f1 f2 f3 f4 f5 f6 f7) (x : Int) : IsS61 w0 (W.setCell ⟨g, 1, none⟩ (.int .i64 x)) g f0 x f2 f3 f4 f5 f6 f7 := by
  obtain ⟨A4, c4, hb, hg, hr4⟩ := h
  exact ⟨A4, c4, by simpa using blk_set hb 1 (.int .i64 x), hg, hr4⟩
theorem IsS61.set_2 {w0 W : World} {g : Nat} {f0 : ByteArray} {f1 : Int} {f2 : Int} {f3 : Int} {f4 : List Int} {f5 : Bool} {f6 : Bool} {f7 : Int} (h : IsS61 w0 W g f0 f1 f2 f3 f4 f5 f6 f7) (x : Int) : IsS61 w0 (W.setCell ⟨g, 2, none⟩ (.int .i64 x)) g f0 f1 x f3 f4 f5 f6 f7 := by
  obtain ⟨A4, c4, hb, hg, hr4⟩ := h
  exact ⟨A4, c4, by simpa using blk_set hb 2 (.int .i64 x), hg, hr4⟩
end Go.Proofs.Ytejcopppchaneaa.PF
end
section
namespace Go.Proofs.Ytejcopppchaneaa.PF
open Go.RowKit Go.Proofs.YtejcopppchaneaaW.PrintWords Go.Proofs.YtejcopppchaneaaW.PrintLast Go.Proofs.YtejcopppchaneaaW.PrintMore
attribute [local go_sem] max2_int min2_int max_two min_two max_three min_three max_four min_four   -- for this text's walks alone
set_option linter.unusedVariables false
set_option linter.unusedSimpArgs false
def merge_runs.f (a0 : Int) : Option (Bool) := if a0 ≥ 1 then (some (decide (a0 ≤ 3))) else (some false)
set_option maxHeartbeats 8000000 in
set_option maxRecDepth 100000 in
theorem merge_runs.calls (a0 : Int) (r : Bool) (w : World) (h : merge_runs.f a0 = some r) :
    Calls Try.prog 73 #[.int .i64 a0] w fun e w' => e = .returned (.bool r) ∧ Drawn0 w w' := by
  have H : (if a0 ≥ 1 then (some (decide (a0 ≤ 3))) else (some false)) = some r := h
  clear h
  by_cases c2 : a0 ≥ 1
  · rw [if_pos c2] at H
    have c2b0 : decide (1 ≤ a0) = true := decide_eq_true c2
    clear c2
    obtain rfl := Option.some.inj H
    go_enter Try.func73, Try.ntmps73
    go_wp2
    go_ret
    exact ⟨by first | rfl | (simp; done) | (simp [*]; done), by repeat (first | exact Drawn0.refl _ | apply Drawn0.step)⟩
  · rw [if_neg c2] at H
    have c2b0 : decide (1 ≤ a0) = false := decide_eq_false c2
    clear c2
    obtain rfl := Option.some.inj H
    go_enter Try.func73, Try.ntmps73
    go_wp2
    go_ret
    exact ⟨by first | rfl | (simp; done) | (simp [*]; done), by repeat (first | exact Drawn0.refl _ | apply Drawn0.step)⟩
def reckon_all.l0 : Nat → List Int → Int → Int → Option (Bool)
  | 0, _, _, _ => none
  | k + 1, x5, x6, x7 => if x7 < x6 then (if 0 ≤ x7 then (if x7 < (x5.length : Int) then ((reckon_Is.f (rd x5 x7)).bind fun t157 => (if t157 = true then (reckon_all.l0 k x5 x6 (wrap64 (x7 + 1))) else (some false))) else (none)) else (none)) else (some true)
def reckon_all.f (k : Nat) (l0 : List Int) : Option (Bool) := reckon_all.l0 k l0 (l0.length : Int) 0
set_option maxHeartbeats 8000000 in
set_option maxRecDepth 100000 in
theorem reckon_all.calls (k : Nat) (A0 : Option Addr) (c0 : Nat) (l0 : List Int) (r : Bool) (w : World) (hr0 : Kd.C (Kd.int .i64) w A0 l0.length l0) (hc0 : l0.length ≤ c0) (h : reckon_all.f k l0 = some r) :
    Calls Try.prog 76 #[.slice A0 l0.length c0] w fun e w' => e = .returned (.bool r) ∧ Drawn0 w w' := by
  have HR0 := Aside0.mk hr0
  have HC0 := Aside0.mk hc0
  clear hr0 hc0
  have H : (reckon_all.l0 k l0 (l0.length : Int) 0) = some r := h
  clear h
  have H' := Aside0.mk H
  clear H
  go_enter Try.func76, Try.ntmps76
  go_wp2
  go_loopg [7] k (fun kq v7 w' => ∃ (x7_1 : Int), v7 = .int .i64 x7_1 ∧ Aside0 (reckon_all.l0 kq l0 (l0.length : Int) x7_1 = some r) ∧ Aside0 (kq ≤ k) ∧ Drawn0 w w')
  case atStart => exact ⟨(0), (by first | rfl | (simp; done) | (simp [*]; done)), H', ⟨Nat.le_refl _⟩, by repeat (first | exact Drawn0.refl _ | apply Drawn0.step)⟩
  case round =>
    clear H'
    obtain ⟨x7_1, rfl, HA, HK1, ⟨m1, rfl⟩⟩ := hrel
    cases gk with
    | zero => exact absurd HA.out (by simp [reckon_all.l0])
    | succ k1 =>
      have H := HA.out
      clear HA
      simp only [reckon_all.l0] at H
      by_cases c2 : x7_1 < (l0.length : Int)
      · rw [if_pos c2] at H
        have c2b0 : decide (x7_1 < (l0.length : Int)) = true := decide_eq_true c2
        clear c2
        by_cases c3 : 0 ≤ x7_1
        · rw [if_pos c3] at H
          have c3b0 : decide (0 ≤ x7_1) = true := decide_eq_true c3
          clear c3
          by_cases c4 : x7_1 < (l0.length : Int)
          · rw [if_pos c4] at H
            have c4b0 : decide (x7_1 < (l0.length : Int)) = true := decide_eq_true c4
            clear c4
            replace H := Option.bind_eq_some_iff.mp H
            obtain ⟨t157, A50, H⟩ := H
            replace H : (if t157 = true then (reckon_all.l0 k1 l0 (l0.length : Int) (wrap64 (x7_1 + 1))) else (some false)) = some r := H
            have A5 := Aside0.mk A50
            clear A50
            by_cases c6 : t157 = true
            · subst c6
              have H1 : (reckon_all.l0 k1 l0 (l0.length : Int) (wrap64 (x7_1 + 1))) = some r := by rw [if_pos rfl] at H; exact H
              clear H
              have H := H1
              clear H1
              have H' := Aside0.mk H
              clear H
              have p156 : 0 ≤ (x7_1 : Int) := of_decide_eq_true (by first | (with_reducible assumption) | assumption)
              have q156 : x7_1 < (l0.length : Int) := of_decide_eq_true (by first | (with_reducible assumption) | assumption)
              obtain ⟨ad156, e156, hx156_0⟩ := Kd.at_int HR0.out x7_1 p156 q156
              cases e156
              replace p156 := eq_true p156
              replace q156 := eq_true q156
              go_wp2_with (first | ((with_reducible refine gate_callee (f := 68) rfl ?_); refine goesL_ (some 12) rfl rfl Try.func68 (by kernel_rfl) rfl #[.int .i64 (rd l0 x7_1)] rfl (by (try simp only [List.map_toArray, List.map_cons, List.map_nil]); first | done | rfl | (simp only [List.length_drop, List.length_take]; rfl)) ?_; (with_reducible refine (reckon_Is.calls (rd l0 x7_1) true _ A5.out).mono ?_); rintro e w' ⟨rfl, ⟨nd, rfl⟩⟩; refine ⟨_, rfl, ?_⟩))
              go_roundg k1
              case measure => have := HK1.out; omega
              case rel => exact ⟨(wrap64 (x7_1 + 1)), (by first | rfl | (simp; done) | (simp [*]; done)), H', ⟨by have := HK1.out; omega⟩, by repeat (first | exact Drawn0.refl _ | apply Drawn0.step)⟩
            · replace c6 := Bool.eq_false_iff.mpr c6
              subst c6
              have H1 : (some false) = some r := by rw [if_neg (show ¬ (false = true) by decide)] at H; exact H
              clear H
              have H := H1
              clear H1
              obtain rfl := Option.some.inj H
              have p156 : 0 ≤ (x7_1 : Int) := of_decide_eq_true (by first | (with_reducible assumption) | assumption)
              have q156 : x7_1 < (l0.length : Int) := of_decide_eq_true (by first | (with_reducible assumption) | assumption)
              obtain ⟨ad156, e156, hx156_0⟩ := Kd.at_int HR0.out x7_1 p156 q156
              cases e156
              replace p156 := eq_true p156
              replace q156 := eq_true q156
              go_wp2_with (first | ((with_reducible refine gate_callee (f := 68) rfl ?_); refine goesL_ (some 12) rfl rfl Try.func68 (by kernel_rfl) rfl #[.int .i64 (rd l0 x7_1)] rfl (by (try simp only [List.map_toArray, List.map_cons, List.map_nil]); first | done | rfl | (simp only [List.length_drop, List.length_take]; rfl)) ?_; (with_reducible refine (reckon_Is.calls (rd l0 x7_1) false _ A5.out).mono ?_); rintro e w' ⟨rfl, ⟨nd, rfl⟩⟩; refine ⟨_, rfl, ?_⟩))
              go_ret
              exact ⟨by first | rfl | (simp; done) | (simp [*]; done), by repeat (first | exact Drawn0.refl _ | apply Drawn0.step)⟩
          · rw [if_neg c4] at H
            exact absurd H (by simp)
        · rw [if_neg c3] at H
          exact absurd H (by simp)
      · rw [if_neg c2] at H
        have c2b0 : decide (x7_1 < (l0.length : Int)) = false := decide_eq_false c2
        clear c2
        obtain rfl := Option.some.inj H
        go_wp2
        go_ret
        exact ⟨by first | rfl | (simp; done) | (simp [*]; done), by repeat (first | exact Drawn0.refl _ | apply Drawn0.step)⟩
def reckon_Add.f (k : Nat) (a0 : Int) (a1 : Int) : Option (Int × Int) := (reckon_all.f k (([a0, a1] : List Int))).bind fun t161 => (if t161 = true then (if a0 > (wrap64 (4611686018427387903 - a1)) then (some (0, 10)) else (some (wrap64 (a0 + a1), 0))) else (some (0, 2)))
set_option maxHeartbeats 8000000 in
set_option maxRecDepth 100000 in
theorem reckon_Add.calls (k : Nat) (a0 : Int) (a1 : Int) (r1 : Int) (r2 : Int) (w : World) (h : reckon_Add.f k a0 a1 = some (r1, r2)) :
    Calls Try.prog 74 #[.int .i64 a0, .int .i64 a1] w fun e w' => e = .returned (.tuple #[.int .i64 r1, .int .i64 r2]) ∧ Below w.heap.size w w' := by
  have HB := Aside0.mk (Below.refl w.heap.size w)
  have H : ((reckon_all.f k (([a0, a1] : List Int))).bind fun t161 => (if t161 = true then (if a0 > (wrap64 (4611686018427387903 - a1)) then (some (0, 10)) else (some (wrap64 (a0 + a1), 0))) else (some (0, 2)))) = some (r1, r2) := h
  clear h
  obtain ⟨y158, hy158⟩ : ∃ y_ : List Int, y_ = (([a0, a1] : List Int)) := ⟨_, rfl⟩
  replace H : ((reckon_all.f k y158).bind fun t161 => (if t161 = true then (if a0 > (wrap64 (4611686018427387903 - a1)) then (some (0, 10)) else (some (wrap64 (a0 + a1), 0))) else (some (0, 2)))) = some (r1, r2) := by first | (rw [hy158]; with_reducible exact H) | (have H2_ := (Option.bind_some _ _).symm.trans H; rw [hy158]; with_reducible exact H2_) | (have H2_ := (Option.bind_some _ _).symm.trans H; with_reducible exact H2_) | with_reducible exact H | (rw [hy158]; exact H) | exact H
  have Ny158 := Aside0.mk hy158
  clear hy158
  replace H := Option.bind_eq_some_iff.mp H
  obtain ⟨t161, A30, H⟩ := H
  replace H : (if t161 = true then (if a0 > (wrap64 (4611686018427387903 - a1)) then (some (0, 10)) else (some (wrap64 (a0 + a1), 0))) else (some (0, 2))) = some (r1, r2) := H
  have A3 := Aside0.mk A30
  clear A30
  by_cases c4 : t161 = true
  · subst c4
    have H1 : (if a0 > (wrap64 (4611686018427387903 - a1)) then (some (0, 10)) else (some (wrap64 (a0 + a1), 0))) = some (r1, r2) := by rw [if_pos rfl] at H; exact H
    clear H
    have H := H1
    clear H1
    by_cases c5 : a0 > (wrap64 (4611686018427387903 - a1))
    · rw [if_pos c5] at H
      have c5b0 : decide ((wrap64 (4611686018427387903 - a1)) < a0) = true := decide_eq_true c5
      clear c5
      simp only [Option.some.injEq, Prod.mk.injEq] at H
      obtain ⟨rfl, rfl⟩ := H
      go_enter Try.func74, Try.ntmps74
      go_wp2_with (first | ((with_reducible refine gate_dst (N := 9) rfl ?_); refine Kd.R_lit (Kd.int .i64) _ 3 ?hg (N := 9) ?hd (xs := ([a0, a1] : List Int)) (inner := [.int .i64 a0, .int .i64 a1]) (ok := fun _ => True) (okp := fun _ => True) ?hr ?hp (fun _ hk => hk) trivial (Below.refl _ _) (Nat.le_refl _) (by simp) ?_; (case hd => rfl); (case hg => rfl); (case hr => first | (go_simp; done) | (go_simp; rfl)); (case hp => exact (Reps.one (show Kd.M (Kd.int .i64) _ _ _ a0 [.int .i64 a0] from rfl) (Reps.one (show Kd.M (Kd.int .i64) _ _ _ a1 [.int .i64 a1] from rfl) (Reps.none _ _)))); intro v159 w6 ho7 hb hg_ hnew_; clear hg_ hnew_; (first | rw [← Ny158.out] at ho7 | (simp only [Int.reduceToNat] at ho7; rw [← Ny158.out] at ho7)); have n0_ := Aside0.mk (Kd.R_lower ho7 (below_size (by repeat (first | (with_reducible first | exact HB.out | apply below_alloc | apply pw_below_drewN | apply below_drew1) | exact HB.out)))); have n1_ := Aside0.mk (below_step (by repeat (first | (with_reducible first | exact HB.out | apply below_alloc | apply pw_below_drewN | apply below_drew1) | exact HB.out)) hb); clear HB; have HO160 := n0_; have HB := n1_; clear n0_ n1_; clear hb ho7; obtain ⟨Ao8, co8, eo8⟩ := Kd.R_slice HO160.out; subst eo8) | ((with_reducible refine gate_callee (f := 76) rfl ?_); refine goesL_ (some 10) rfl rfl Try.func76 (by kernel_rfl) rfl #[.slice Ao8 y158.length co8] rfl (by (try simp only [List.map_toArray, List.map_cons, List.map_nil]); first | done | rfl | (simp only [List.length_drop, List.length_take]; rfl)) ?_; (with_reducible refine (reckon_all.calls k _ _ y158 true _ ?side1 ?side2 A3.out).mono ?_); (case side1 => repeat (first | exact (Kd.R_reads' HO160.out).2.2 | (with_reducible refine Kd.C_alloc ?_ _) | (with_reducible refine Kd.C_drewN ?_ _) | (with_reducible refine Kd.C_drew ?_))); (case side2 => exact (Kd.R_reads' HO160.out).2.1); rintro e w' ⟨rfl, ⟨nd, rfl⟩⟩; refine ⟨_, rfl, ?_⟩))
      go_ret2
      exact ⟨by first | rfl | (simp [errW_none, errW_some] <;> rfl) | (simp [*, errW_none, errW_some] <;> rfl), by repeat (first | (with_reducible first | exact HB.out | apply below_alloc | apply pw_below_drewN | apply below_drew1) | exact HB.out)⟩
    · rw [if_neg c5] at H
      have c5b0 : decide ((wrap64 (4611686018427387903 - a1)) < a0) = false := decide_eq_false c5
      clear c5
      simp only [Option.some.injEq, Prod.mk.injEq] at H
      obtain ⟨rfl, rfl⟩ := H
      go_enter Try.func74, Try.ntmps74
      go_wp2_with (first | ((with_reducible refine gate_dst (N := 9) rfl ?_); refine Kd.R_lit (Kd.int .i64) _ 3 ?hg (N := 9) ?hd (xs := ([a0, a1] : List Int)) (inner := [.int .i64 a0, .int .i64 a1]) (ok := fun _ => True) (okp := fun _ => True) ?hr ?hp (fun _ hk => hk) trivial (Below.refl _ _) (Nat.le_refl _) (by simp) ?_; (case hd => rfl); (case hg => rfl); (case hr => first | (go_simp; done) | (go_simp; rfl)); (case hp => exact (Reps.one (show Kd.M (Kd.int .i64) _ _ _ a0 [.int .i64 a0] from rfl) (Reps.one (show Kd.M (Kd.int .i64) _ _ _ a1 [.int .i64 a1] from rfl) (Reps.none _ _)))); intro v159 w9 ho10 hb hg_ hnew_; clear hg_ hnew_; (first | rw [← Ny158.out] at ho10 | (simp only [Int.reduceToNat] at ho10; rw [← Ny158.out] at ho10)); have n0_ := Aside0.mk (Kd.R_lower ho10 (below_size (by repeat (first | (with_reducible first | exact HB.out | apply below_alloc | apply pw_below_drewN | apply below_drew1) | exact HB.out)))); have n1_ := Aside0.mk (below_step (by repeat (first | (with_reducible first | exact HB.out | apply below_alloc | apply pw_below_drewN | apply below_drew1) | exact HB.out)) hb); clear HB; have HO160 := n0_; have HB := n1_; clear n0_ n1_; clear hb ho10; obtain ⟨Ao11, co11, eo11⟩ := Kd.R_slice HO160.out; subst eo11) | ((with_reducible refine gate_callee (f := 76) rfl ?_); refine goesL_ (some 10) rfl rfl Try.func76 (by kernel_rfl) rfl #[.slice Ao11 y158.length co11] rfl (by (try simp only [List.map_toArray, List.map_cons, List.map_nil]); first | done | rfl | (simp only [List.length_drop, List.length_take]; rfl)) ?_; (with_reducible refine (reckon_all.calls k _ _ y158 true _ ?side1 ?side2 A3.out).mono ?_); (case side1 => repeat (first | exact (Kd.R_reads' HO160.out).2.2 | (with_reducible refine Kd.C_alloc ?_ _) | (with_reducible refine Kd.C_drewN ?_ _) | (with_reducible refine Kd.C_drew ?_))); (case side2 => exact (Kd.R_reads' HO160.out).2.1); rintro e w' ⟨rfl, ⟨nd, rfl⟩⟩; refine ⟨_, rfl, ?_⟩))
      go_ret2
      exact ⟨by first | rfl | (simp [errW_none, errW_some] <;> rfl) | (simp [*, errW_none, errW_some] <;> rfl), by repeat (first | (with_reducible first | exact HB.out | apply below_alloc | apply pw_below_drewN | apply below_drew1) | exact HB.out)⟩
  · replace c4 := Bool.eq_false_iff.mpr c4
    subst c4
    have H1 : (some (0, 2)) = some (r1, r2) := by rw [if_neg (show ¬ (false = true) by decide)] at H; exact H
    clear H
    have H := H1
    clear H1
    simp only [Option.some.injEq, Prod.mk.injEq] at H
    obtain ⟨rfl, rfl⟩ := H
    go_enter Try.func74, Try.ntmps74
    go_wp2_with (first | ((with_reducible refine gate_dst (N := 9) rfl ?_); refine Kd.R_lit (Kd.int .i64) _ 3 ?hg (N := 9) ?hd (xs := ([a0, a1] : List Int)) (inner := [.int .i64 a0, .int .i64 a1]) (ok := fun _ => True) (okp := fun _ => True) ?hr ?hp (fun _ hk => hk) trivial (Below.refl _ _) (Nat.le_refl _) (by simp) ?_; (case hd => rfl); (case hg => rfl); (case hr => first | (go_simp; done) | (go_simp; rfl)); (case hp => exact (Reps.one (show Kd.M (Kd.int .i64) _ _ _ a0 [.int .i64 a0] from rfl) (Reps.one (show Kd.M (Kd.int .i64) _ _ _ a1 [.int .i64 a1] from rfl) (Reps.none _ _)))); intro v159 w12 ho13 hb hg_ hnew_; clear hg_ hnew_; (first | rw [← Ny158.out] at ho13 | (simp only [Int.reduceToNat] at ho13; rw [← Ny158.out] at ho13)); have n0_ := Aside0.mk (Kd.R_lower ho13 (below_size (by repeat (first | (with_reducible first | exact HB.out | apply below_alloc | apply pw_below_drewN | apply below_drew1) | exact HB.out)))); have n1_ := Aside0.mk (below_step (by repeat (first | (with_reducible first | exact HB.out | apply below_alloc | apply pw_below_drewN | apply below_drew1) | exact HB.out)) hb); clear HB; have HO160 := n0_; have HB := n1_; clear n0_ n1_; clear hb ho13; obtain ⟨Ao14, co14, eo14⟩ := Kd.R_slice HO160.out; subst eo14) | ((with_reducible refine gate_callee (f := 76) rfl ?_); refine goesL_ (some 10) rfl rfl Try.func76 (by kernel_rfl) rfl #[.slice Ao14 y158.length co14] rfl (by (try simp only [List.map_toArray, List.map_cons, List.map_nil]); first | done | rfl | (simp only [List.length_drop, List.length_take]; rfl)) ?_; (with_reducible refine (reckon_all.calls k _ _ y158 false _ ?side1 ?side2 A3.out).mono ?_); (case side1 => repeat (first | exact (Kd.R_reads' HO160.out).2.2 | (with_reducible refine Kd.C_alloc ?_ _) | (with_reducible refine Kd.C_drewN ?_ _) | (with_reducible refine Kd.C_drew ?_))); (case side2 => exact (Kd.R_reads' HO160.out).2.1); rintro e w' ⟨rfl, ⟨nd, rfl⟩⟩; refine ⟨_, rfl, ?_⟩))
    go_ret2
    exact ⟨by first | rfl | (simp [errW_none, errW_some] <;> rfl) | (simp [*, errW_none, errW_some] <;> rfl), by repeat (first | (with_reducible first | exact HB.out | apply below_alloc | apply pw_below_drewN | apply below_drew1) | exact HB.out)⟩
def merge_Two.j0 : Nat → Bool → Int → Int → Int → List Int → Int → Int → Int → List Int → Option (Int × Int × Int × List Int × Bool)
  | 0, _, _, _, _, _, _, _, _, _ => none
  | k + 1, x45, x163000, x163001, x163002, x163003, x164000, x164001, x164002, x164003 => if x45 = true then (some (0, 0, 0, ([] : List Int), false)) else ((reckon_Add.f k x163002 x164002).bind fun bt166 => (if bt166.2 = 0 then (some (x163000, x163001, bt166.1, ([] : List Int), true)) else (some (0, 0, 0, ([] : List Int), false))))
def merge_Two.f (k : Nat) (a0_0 : Int) (a0_1 : Int) (a0_2 : Int) (l0_3 : List Int) (a1_0 : Int) (a1_1 : Int) (a1_2 : Int) (l1_3 : List Int) : Option (Int × Int × Int × List Int × Bool) := (merge_runs.f a0_0).bind fun t165 => (if t165 = true then (if a0_0 = a1_0 then (if a0_1 = a1_1 then (if (wrap64 ((l0_3.length : Int) + (l1_3.length : Int))) > 0 then (merge_Two.j0 k true a0_0 a0_1 a0_2 l0_3 a1_0 a1_1 a1_2 l1_3) else (if a0_2 < 1 then (merge_Two.j0 k true a0_0 a0_1 a0_2 l0_3 a1_0 a1_1 a1_2 l1_3) else (merge_Two.j0 k (decide (a1_2 < 1)) a0_0 a0_1 a0_2 l0_3 a1_0 a1_1 a1_2 l1_3))) else (merge_Two.j0 k true a0_0 a0_1 a0_2 l0_3 a1_0 a1_1 a1_2 l1_3)) else (merge_Two.j0 k true a0_0 a0_1 a0_2 l0_3 a1_0 a1_1 a1_2 l1_3)) else (merge_Two.j0 k true a0_0 a0_1 a0_2 l0_3 a1_0 a1_1 a1_2 l1_3))
set_option maxHeartbeats 8000000 in
set_option maxRecDepth 100000 in
theorem merge_Two.calls (k : Nat) (a0_0 : Int) (a0_1 : Int) (a0_2 : Int) (A0_3 : Option Addr) (c0_3 : Nat) (l0_3 : List Int) (a1_0 : Int) (a1_1 : Int) (a1_2 : Int) (A1_3 : Option Addr) (c1_3 : Nat) (l1_3 : List Int) (r1 : Int) (r2 : Int) (r3 : Int) (r4 : List Int) (r5 : Bool) (w : World) (hr0_3 : Kd.C (Kd.int .i64) w A0_3 l0_3.length l0_3) (hc0_3 : l0_3.length ≤ c0_3) (hr1_3 : Kd.C (Kd.int .i64) w A1_3 l1_3.length l1_3) (hc1_3 : l1_3.length ≤ c1_3) (h : merge_Two.f k a0_0 a0_1 a0_2 l0_3 a1_0 a1_1 a1_2 l1_3 = some (r1, r2, r3, r4, r5)) :
    Calls Try.prog 66 #[.agg #[.int .i64 a0_0, .int .i64 a0_1, .int .i64 a0_2, .slice A0_3 l0_3.length c0_3], .agg #[.int .i64 a1_0, .int .i64 a1_1, .int .i64 a1_2, .slice A1_3 l1_3.length c1_3]] w fun e w' => ∃ v3_ : Value, e = .returned (.tuple #[.agg #[.int .i64 r1, .int .i64 r2, .int .i64 r3, v3_], .bool r5]) ∧ Kd.R (Kd.int .i64) 3 w' w.heap.size (fun _ => True) v3_ r4 ∧ Below w.heap.size w w' := by
  have hu30 := Try.underlying30
  have HR0_3 := Aside0.mk hr0_3
  have HC0_3 := Aside0.mk hc0_3
  clear hr0_3 hc0_3
  have HR1_3 := Aside0.mk hr1_3
  have HC1_3 := Aside0.mk hc1_3
  clear hr1_3 hc1_3
  have HB := Aside0.mk (Below.refl w.heap.size w)
  have H : ((merge_runs.f a0_0).bind fun t165 => (if t165 = true then (if a0_0 = a1_0 then (if a0_1 = a1_1 then (if (wrap64 ((l0_3.length : Int) + (l1_3.length : Int))) > 0 then (merge_Two.j0 k true a0_0 a0_1 a0_2 l0_3 a1_0 a1_1 a1_2 l1_3) else (if a0_2 < 1 then (merge_Two.j0 k true a0_0 a0_1 a0_2 l0_3 a1_0 a1_1 a1_2 l1_3) else (merge_Two.j0 k (decide (a1_2 < 1)) a0_0 a0_1 a0_2 l0_3 a1_0 a1_1 a1_2 l1_3))) else (merge_Two.j0 k true a0_0 a0_1 a0_2 l0_3 a1_0 a1_1 a1_2 l1_3)) else (merge_Two.j0 k true a0_0 a0_1 a0_2 l0_3 a1_0 a1_1 a1_2 l1_3)) else (merge_Two.j0 k true a0_0 a0_1 a0_2 l0_3 a1_0 a1_1 a1_2 l1_3))) = some (r1, r2, r3, r4, r5) := h
  clear h
  have HC3 := Aside0.mk H
  clear H
  go_enter Try.func66, Try.ntmps66
  go_upto_region 1 with (first | ((with_reducible refine gate_dst (N := 2) rfl ?_); (try (refine gate_guard (by rfl) ?_; dsimp only)); refine box_event ?hg (N := 2) ?hd (cs := #[.int .i64 a0_0, .int .i64 a0_1, .int .i64 a0_2, .slice A0_3 l0_3.length c0_3]) (t := 30) ?hr ?_; (case hd => rfl); (case hg => rfl); (case hr => first | (go_simp; done) | (go_simp; rfl)); intro gb162 hg w4 hbox hb; have n0_ := Aside0.mk (below_step (by repeat (first | (with_reducible first | exact HB.out | apply below_alloc | apply pw_below_drewN | apply below_drew1) | exact HB.out)) hb); have n1_ := Aside0.mk (hbox); have n2_ := Aside0.mk ((by rw [hg]; exact (below_size (by repeat (first | (with_reducible first | exact HB.out | apply below_alloc | apply pw_below_drewN | apply below_drew1) | exact HB.out))) : w.heap.size ≤ gb162)); have n3_ := Aside0.mk ((by rw [hg]; exact (below_size (by repeat (first | (with_reducible first | exact HB.out | apply below_alloc | apply pw_below_drewN | apply below_drew1) | exact HB.out))) : w.heap.size ≤ gb162)); clear HB; have HB := n0_; have BK162 := n1_; have GW162 := n2_; have GE162 := n3_; clear n0_ n1_ n2_ n3_; clear hb hbox hg) | ((with_reducible refine gate_dst (N := 3) rfl ?_); (try (refine gate_guard (by rfl) ?_; dsimp only)); refine box_event ?hg (N := 3) ?hd (cs := #[.int .i64 a1_0, .int .i64 a1_1, .int .i64 a1_2, .slice A1_3 l1_3.length c1_3]) (t := 30) ?hr ?_; (case hd => rfl); (case hg => rfl); (case hr => first | (go_simp; done) | (go_simp; rfl)); intro gb163 hg w5 hbox hb; have n0_ := Aside0.mk (blk_below (g := gb162) (o := .cells #[.int .i64 a0_0, .int .i64 a0_1, .int .i64 a0_2, .slice A0_3 l0_3.length c0_3] 30 (0, 0)) (by (with_reducible repeat (first | refine blk_drewN ?_ _ | refine blk_drew ?_ | refine blk_alloc ?_ _)); exact BK162.out) hb); have n1_ := Aside0.mk (below_step (by repeat (first | (with_reducible first | exact HB.out | apply below_alloc | apply pw_below_drewN | apply below_drew1 | refine below_set ?_ GE162.out) | exact HB.out)) hb); have n2_ := Aside0.mk (hbox); have n3_ := Aside0.mk ((by rw [hg]; exact (below_size (by repeat (first | (with_reducible first | exact HB.out | apply below_alloc | apply pw_below_drewN | apply below_drew1 | refine below_set ?_ GE162.out) | exact HB.out))) : w.heap.size ≤ gb163)); have n4_ := Aside0.mk ((by rw [hg]; exact (below_size (by repeat (first | (with_reducible first | exact HB.out | apply below_alloc | apply pw_below_drewN | apply below_drew1 | refine below_set ?_ GE162.out) | exact HB.out))) : w.heap.size ≤ gb163)); have n5_ := Aside0.mk ((by rw [hg]; exact Nat.ne_of_lt (blk_lt (g := gb162) (o := .cells #[.int .i64 a0_0, .int .i64 a0_1, .int .i64 a0_2, .slice A0_3 l0_3.length c0_3] 30 (0, 0)) (by (with_reducible repeat (first | refine blk_drewN ?_ _ | refine blk_drew ?_ | refine blk_alloc ?_ _)); exact BK162.out)) : gb162 ≠ gb163)); have n6_ := Aside0.mk ((by rw [hg]; exact Nat.ne_of_gt (blk_lt (g := gb162) (o := .cells #[.int .i64 a0_0, .int .i64 a0_1, .int .i64 a0_2, .slice A0_3 l0_3.length c0_3] 30 (0, 0)) (by (with_reducible repeat (first | refine blk_drewN ?_ _ | refine blk_drew ?_ | refine blk_alloc ?_ _)); exact BK162.out)) : gb163 ≠ gb162)); clear BK162; clear HB; have BK162 := n0_; have HB := n1_; have BK163 := n2_; have GW163 := n3_; have GE163 := n4_; have NB162_163 := n5_; have NB163_162 := n6_; clear n0_ n1_ n2_ n3_ n4_ n5_ n6_; clear hb hbox hg) | ((with_reducible refine gate_dst (N := 4) rfl ?_); (try (refine gate_guard (by rfl) ?_; dsimp only)); refine box_event ?hg (N := 4) ?hd (cs := #[.int .i64 0, .int .i64 0, .int .i64 0, .slice none 0 0]) (t := 30) ?hr ?_; (case hd => rfl); (case hg => rfl); (case hr => first | (go_simp; done) | (go_simp; rfl)); intro gb164 hg w6 hbox hb; have n0_ := Aside0.mk (blk_below (g := gb162) (o := .cells #[.int .i64 a0_0, .int .i64 a0_1, .int .i64 a0_2, .slice A0_3 l0_3.length c0_3] 30 (0, 0)) (by (with_reducible repeat (first | refine blk_drewN ?_ _ | refine blk_drew ?_ | refine blk_alloc ?_ _)); exact BK162.out) hb); have n1_ := Aside0.mk (blk_below (g := gb163) (o := .cells #[.int .i64 a1_0, .int .i64 a1_1, .int .i64 a1_2, .slice A1_3 l1_3.length c1_3] 30 (0, 0)) (by (with_reducible repeat (first | refine blk_drewN ?_ _ | refine blk_drew ?_ | refine blk_alloc ?_ _)); exact BK163.out) hb); have n2_ := Aside0.mk (below_step (by repeat (first | (with_reducible first | exact HB.out | apply below_alloc | apply pw_below_drewN | apply below_drew1 | refine below_set ?_ GE162.out | refine below_set ?_ GE163.out) | exact HB.out)) hb); have n3_ := Aside0.mk (hbox); have n4_ := Aside0.mk ((by rw [hg]; exact (below_size (by repeat (first | (with_reducible first | exact HB.out | apply below_alloc | apply pw_below_drewN | apply below_drew1 | refine below_set ?_ GE162.out | refine below_set ?_ GE163.out) | exact HB.out))) : w.heap.size ≤ gb164)); have n5_ := Aside0.mk ((by rw [hg]; exact (below_size (by repeat (first | (with_reducible first | exact HB.out | apply below_alloc | apply pw_below_drewN | apply below_drew1 | refine below_set ?_ GE162.out | refine below_set ?_ GE163.out) | exact HB.out))) : w.heap.size ≤ gb164)); have n6_ := Aside0.mk ((by rw [hg]; exact Nat.ne_of_lt (blk_lt (g := gb162) (o := .cells #[.int .i64 a0_0, .int .i64 a0_1, .int .i64 a0_2, .slice A0_3 l0_3.length c0_3] 30 (0, 0)) (by (with_reducible repeat (first | refine blk_drewN ?_ _ | refine blk_drew ?_ | refine blk_alloc ?_ _)); exact BK162.out)) : gb162 ≠ gb164)); have n7_ := Aside0.mk ((by rw [hg]; exact Nat.ne_of_gt (blk_lt (g := gb162) (o := .cells #[.int .i64 a0_0, .int .i64 a0_1, .int .i64 a0_2, .slice A0_3 l0_3.length c0_3] 30 (0, 0)) (by (with_reducible repeat (first | refine blk_drewN ?_ _ | refine blk_drew ?_ | refine blk_alloc ?_ _)); exact BK162.out)) : gb164 ≠ gb162)); have n8_ := Aside0.mk ((by rw [hg]; exact Nat.ne_of_lt (blk_lt (g := gb163) (o := .cells #[.int .i64 a1_0, .int .i64 a1_1, .int .i64 a1_2, .slice A1_3 l1_3.length c1_3] 30 (0, 0)) (by (with_reducible repeat (first | refine blk_drewN ?_ _ | refine blk_drew ?_ | refine blk_alloc ?_ _)); exact BK163.out)) : gb163 ≠ gb164)); have n9_ := Aside0.mk ((by rw [hg]; exact Nat.ne_of_gt (blk_lt (g := gb163) (o := .cells #[.int .i64 a1_0, .int .i64 a1_1, .int .i64 a1_2, .slice A1_3 l1_3.length c1_3] 30 (0, 0)) (by (with_reducible repeat (first | refine blk_drewN ?_ _ | refine blk_drew ?_ | refine blk_alloc ?_ _)); exact BK163.out)) : gb164 ≠ gb163)); clear BK162; clear BK163; clear HB; have BK162 := n0_; have BK163 := n1_; have HB := n2_; have BK164 := n3_; have GW164 := n4_; have GE164 := n5_; have NB162_164 := n6_; have NB164_162 := n7_; have NB163_164 := n8_; have NB164_163 := n9_; clear n0_ n1_ n2_ n3_ n4_ n5_ n6_ n7_ n8_ n9_; clear hb hbox hg))
  (try simp only [Act.put, List.setIfInBounds_toArray, List.set_cons_zero, List.set_cons_succ])
  go_cut [45] (fun v45 wc => ∃ (kq : Nat) (x45_2 : Bool), v45 = .bool x45_2 ∧ Aside0 (merge_Two.j0 kq x45_2 a0_0 a0_1 a0_2 l0_3 a1_0 a1_1 a1_2 l1_3 = some (r1, r2, r3, r4, r5)) ∧ Aside0 (kq ≤ k) ∧ Aside0 (wc.heap[gb162]? = some (.cells #[.int .i64 a0_0, .int .i64 a0_1, .int .i64 a0_2, (.slice A0_3 l0_3.length c0_3)] 30 (0, 0))) ∧ Aside0 (wc.heap[gb163]? = some (.cells #[.int .i64 a1_0, .int .i64 a1_1, .int .i64 a1_2, (.slice A1_3 l1_3.length c1_3)] 30 (0, 0))) ∧ Aside0 (wc.heap[gb164]? = some (.cells #[.int .i64 0, .int .i64 0, .int .i64 0, (.slice none 0 0)] 30 (0, 0))) ∧ Aside0 (Below w.heap.size w wc))
  case first =>
    have H := HC3.out
    clear HC3
    replace H := Option.bind_eq_some_iff.mp H
    obtain ⟨t165, A70, H⟩ := H
    replace H : (if t165 = true then (if a0_0 = a1_0 then (if a0_1 = a1_1 then (if (wrap64 ((l0_3.length : Int) + (l1_3.length : Int))) > 0 then (merge_Two.j0 k true a0_0 a0_1 a0_2 l0_3 a1_0 a1_1 a1_2 l1_3) else (if a0_2 < 1 then (merge_Two.j0 k true a0_0 a0_1 a0_2 l0_3 a1_0 a1_1 a1_2 l1_3) else (merge_Two.j0 k (decide (a1_2 < 1)) a0_0 a0_1 a0_2 l0_3 a1_0 a1_1 a1_2 l1_3))) else (merge_Two.j0 k true a0_0 a0_1 a0_2 l0_3 a1_0 a1_1 a1_2 l1_3)) else (merge_Two.j0 k true a0_0 a0_1 a0_2 l0_3 a1_0 a1_1 a1_2 l1_3)) else (merge_Two.j0 k true a0_0 a0_1 a0_2 l0_3 a1_0 a1_1 a1_2 l1_3)) = some (r1, r2, r3, r4, r5) := H
    have A7 := Aside0.mk A70
    clear A70
    by_cases c8 : t165 = true
    · subst c8
      have H1 : (if a0_0 = a1_0 then (if a0_1 = a1_1 then (if (wrap64 ((l0_3.length : Int) + (l1_3.length : Int))) > 0 then (merge_Two.j0 k true a0_0 a0_1 a0_2 l0_3 a1_0 a1_1 a1_2 l1_3) else (if a0_2 < 1 then (merge_Two.j0 k true a0_0 a0_1 a0_2 l0_3 a1_0 a1_1 a1_2 l1_3) else (merge_Two.j0 k (decide (a1_2 < 1)) a0_0 a0_1 a0_2 l0_3 a1_0 a1_1 a1_2 l1_3))) else (merge_Two.j0 k true a0_0 a0_1 a0_2 l0_3 a1_0 a1_1 a1_2 l1_3)) else (merge_Two.j0 k true a0_0 a0_1 a0_2 l0_3 a1_0 a1_1 a1_2 l1_3)) = some (r1, r2, r3, r4, r5) := by rw [if_pos rfl] at H; exact H
      clear H
      have H := H1
      clear H1
      by_cases c9 : a0_0 = a1_0
      · rw [if_pos c9] at H
        have c9b0 : (a0_0 == a1_0) = true := beq_iff_eq.mpr c9
        have c9b1 : (a0_0 != a1_0) = false := bne_eq_false_iff_eq.mpr c9
        clear c9
        (first | rw [c9b0] | (simp only [i64_w, i32_w]; rw [c9b0]) | skip)
        by_cases c10 : a0_1 = a1_1
        · rw [if_pos c10] at H
          have c10b0 : (a0_1 == a1_1) = true := beq_iff_eq.mpr c10
          have c10b1 : (a0_1 != a1_1) = false := bne_eq_false_iff_eq.mpr c10
          clear c10
          by_cases c11 : (wrap64 ((l0_3.length : Int) + (l1_3.length : Int))) > 0
          · rw [if_pos c11] at H
            have c11b0 : decide (0 < (wrap64 ((l0_3.length : Int) + (l1_3.length : Int)))) = true := decide_eq_true c11
            clear c11
            have H' := Aside0.mk H
            clear H
            have hnb12 := NB162_163.out
            have hnc12 := NB163_162.out
            have hnb13 := NB162_164.out
            have hnc13 := NB164_162.out
            have hcz14_0 : w6.cell? ⟨gb162, 0, none⟩ = some (.int .i64 a0_0) := (blk_cell BK162.out 0).trans rfl
            have hcz14_1 : w6.cell? ⟨gb162, 1, none⟩ = some (.int .i64 a0_1) := (blk_cell BK162.out 1).trans rfl
            have hcz14_2 : w6.cell? ⟨gb162, 2, none⟩ = some (.int .i64 a0_2) := (blk_cell BK162.out 2).trans rfl
            have hcz14_3 : w6.cell? ⟨gb162, 3, none⟩ = some (.slice A0_3 l0_3.length c0_3) := (blk_cell BK162.out 3).trans rfl
            have hfz14_0 := blk_frozen BK162.out 0
            have hfz14_1 := blk_frozen BK162.out 1
            have hfz14_2 := blk_frozen BK162.out 2
            have hfz14_3 := blk_frozen BK162.out 3
            go_wp2_with (first | ((with_reducible refine gate_callee (f := 73) rfl ?_); refine goesL_ (some 10) rfl rfl Try.func73 (by kernel_rfl) rfl #[.int .i64 a0_0] rfl (by (try simp only [List.map_toArray, List.map_cons, List.map_nil]); first | done | rfl | (simp only [List.length_drop, List.length_take]; rfl)) ?_; (with_reducible refine (merge_runs.calls a0_0 true _ A7.out).mono ?_); rintro e w' ⟨rfl, ⟨nd, rfl⟩⟩; refine ⟨_, rfl, ?_⟩; have hnb15 := NB163_164.out; have hnc15 := NB164_163.out; have hcz16_0 : w6.cell? ⟨gb163, 0, none⟩ = some (.int .i64 a1_0) := (blk_cell BK163.out 0).trans rfl; have hcz16_1 : w6.cell? ⟨gb163, 1, none⟩ = some (.int .i64 a1_1) := (blk_cell BK163.out 1).trans rfl; have hcz16_2 : w6.cell? ⟨gb163, 2, none⟩ = some (.int .i64 a1_2) := (blk_cell BK163.out 2).trans rfl; have hcz16_3 : w6.cell? ⟨gb163, 3, none⟩ = some (.slice A1_3 l1_3.length c1_3) := (blk_cell BK163.out 3).trans rfl; have hfz16_0 := blk_frozen BK163.out 0; have hfz16_1 := blk_frozen BK163.out 1; have hfz16_2 := blk_frozen BK163.out 2; have hfz16_3 := blk_frozen BK163.out 3))
            go_meet
            case rel => exact ⟨_, (true), (by first | rfl | (simp; done) | (simp [*]; done)), H', ⟨by first | omega | exact Nat.le_refl _⟩, ⟨by (with_reducible repeat (first | refine blk_drewN ?_ _ | refine blk_drew ?_ | refine blk_alloc ?_ _)); exact BK162.out⟩, ⟨by (with_reducible repeat (first | refine blk_drewN ?_ _ | refine blk_drew ?_ | refine blk_alloc ?_ _)); exact BK163.out⟩, ⟨by (with_reducible repeat (first | refine blk_drewN ?_ _ | refine blk_drew ?_ | refine blk_alloc ?_ _)); exact BK164.out⟩, ⟨by repeat (first | (with_reducible first | exact HB.out | apply below_alloc | apply pw_below_drewN | apply below_drew1 | refine below_set ?_ GE162.out | refine below_set ?_ GE163.out | refine below_set ?_ GE164.out) | exact HB.out)⟩⟩
          · rw [if_neg c11] at H
            have c11b0 : decide (0 < (wrap64 ((l0_3.length : Int) + (l1_3.length : Int)))) = false := decide_eq_false c11
            clear c11
            by_cases c17 : a0_2 < 1
            · rw [if_pos c17] at H
              have c17b0 : decide (a0_2 < 1) = true := decide_eq_true c17
              clear c17
              have H' := Aside0.mk H
              clear H
              have hnb18 := NB162_163.out
              have hnc18 := NB163_162.out
              have hnb19 := NB162_164.out
              have hnc19 := NB164_162.out
              have hcz20_0 : w6.cell? ⟨gb162, 0, none⟩ = some (.int .i64 a0_0) := (blk_cell BK162.out 0).trans rfl
              have hcz20_1 : w6.cell? ⟨gb162, 1, none⟩ = some (.int .i64 a0_1) := (blk_cell BK162.out 1).trans rfl
              have hcz20_2 : w6.cell? ⟨gb162, 2, none⟩ = some (.int .i64 a0_2) := (blk_cell BK162.out 2).trans rfl
              have hcz20_3 : w6.cell? ⟨gb162, 3, none⟩ = some (.slice A0_3 l0_3.length c0_3) := (blk_cell BK162.out 3).trans rfl
              have hfz20_0 := blk_frozen BK162.out 0
              have hfz20_1 := blk_frozen BK162.out 1
              have hfz20_2 := blk_frozen BK162.out 2
              have hfz20_3 := blk_frozen BK162.out 3
              go_wp2_with (first | ((with_reducible refine gate_callee (f := 73) rfl ?_); refine goesL_ (some 10) rfl rfl Try.func73 (by kernel_rfl) rfl #[.int .i64 a0_0] rfl (by (try simp only [List.map_toArray, List.map_cons, List.map_nil]); first | done | rfl | (simp only [List.length_drop, List.length_take]; rfl)) ?_; (with_reducible refine (merge_runs.calls a0_0 true _ A7.out).mono ?_); rintro e w' ⟨rfl, ⟨nd, rfl⟩⟩; refine ⟨_, rfl, ?_⟩; have hnb21 := NB163_164.out; have hnc21 := NB164_163.out; have hcz22_0 : w6.cell? ⟨gb163, 0, none⟩ = some (.int .i64 a1_0) := (blk_cell BK163.out 0).trans rfl; have hcz22_1 : w6.cell? ⟨gb163, 1, none⟩ = some (.int .i64 a1_1) := (blk_cell BK163.out 1).trans rfl; have hcz22_2 : w6.cell? ⟨gb163, 2, none⟩ = some (.int .i64 a1_2) := (blk_cell BK163.out 2).trans rfl; have hcz22_3 : w6.cell? ⟨gb163, 3, none⟩ = some (.slice A1_3 l1_3.length c1_3) := (blk_cell BK163.out 3).trans rfl; have hfz22_0 := blk_frozen BK163.out 0; have hfz22_1 := blk_frozen BK163.out 1; have hfz22_2 := blk_frozen BK163.out 2; have hfz22_3 := blk_frozen BK163.out 3))
              go_meet
              case rel => exact ⟨_, (true), (by first | rfl | (simp; done) | (simp [*]; done)), H', ⟨by first | omega | exact Nat.le_refl _⟩, ⟨by (with_reducible repeat (first | refine blk_drewN ?_ _ | refine blk_drew ?_ | refine blk_alloc ?_ _)); exact BK162.out⟩, ⟨by (with_reducible repeat (first | refine blk_drewN ?_ _ | refine blk_drew ?_ | refine blk_alloc ?_ _)); exact BK163.out⟩, ⟨by (with_reducible repeat (first | refine blk_drewN ?_ _ | refine blk_drew ?_ | refine blk_alloc ?_ _)); exact BK164.out⟩, ⟨by repeat (first | (with_reducible first | exact HB.out | apply below_alloc | apply pw_below_drewN | apply below_drew1 | refine below_set ?_ GE162.out | refine below_set ?_ GE163.out | refine below_set ?_ GE164.out) | exact HB.out)⟩⟩
            · rw [if_neg c17] at H
              have c17b0 : decide (a0_2 < 1) = false := decide_eq_false c17
              clear c17
              have H' := Aside0.mk H
              clear H
              have hnb23 := NB162_163.out
              have hnc23 := NB163_162.out
              have hnb24 := NB162_164.out
              have hnc24 := NB164_162.out
              have hcz25_0 : w6.cell? ⟨gb162, 0, none⟩ = some (.int .i64 a0_0) := (blk_cell BK162.out 0).trans rfl
              have hcz25_1 : w6.cell? ⟨gb162, 1, none⟩ = some (.int .i64 a0_1) := (blk_cell BK162.out 1).trans rfl
              have hcz25_2 : w6.cell? ⟨gb162, 2, none⟩ = some (.int .i64 a0_2) := (blk_cell BK162.out 2).trans rfl
              have hcz25_3 : w6.cell? ⟨gb162, 3, none⟩ = some (.slice A0_3 l0_3.length c0_3) := (blk_cell BK162.out 3).trans rfl
              have hfz25_0 := blk_frozen BK162.out 0
              have hfz25_1 := blk_frozen BK162.out 1
              have hfz25_2 := blk_frozen BK162.out 2
              have hfz25_3 := blk_frozen BK162.out 3
              go_wp2_with (first | ((with_reducible refine gate_callee (f := 73) rfl ?_); refine goesL_ (some 10) rfl rfl Try.func73 (by kernel_rfl) rfl #[.int .i64 a0_0] rfl (by (try simp only [List.map_toArray, List.map_cons, List.map_nil]); first | done | rfl | (simp only [List.length_drop, List.length_take]; rfl)) ?_; (with_reducible refine (merge_runs.calls a0_0 true _ A7.out).mono ?_); rintro e w' ⟨rfl, ⟨nd, rfl⟩⟩; refine ⟨_, rfl, ?_⟩; have hnb26 := NB163_164.out; have hnc26 := NB164_163.out; have hcz27_0 : w6.cell? ⟨gb163, 0, none⟩ = some (.int .i64 a1_0) := (blk_cell BK163.out 0).trans rfl; have hcz27_1 : w6.cell? ⟨gb163, 1, none⟩ = some (.int .i64 a1_1) := (blk_cell BK163.out 1).trans rfl; have hcz27_2 : w6.cell? ⟨gb163, 2, none⟩ = some (.int .i64 a1_2) := (blk_cell BK163.out 2).trans rfl; have hcz27_3 : w6.cell? ⟨gb163, 3, none⟩ = some (.slice A1_3 l1_3.length c1_3) := (blk_cell BK163.out 3).trans rfl; have hfz27_0 := blk_frozen BK163.out 0; have hfz27_1 := blk_frozen BK163.out 1; have hfz27_2 := blk_frozen BK163.out 2; have hfz27_3 := blk_frozen BK163.out 3))
              go_meet
              case rel => exact ⟨_, (decide (a1_2 < 1)), (by first | rfl | (simp; done) | (simp [*]; done)), H', ⟨by first | omega | exact Nat.le_refl _⟩, ⟨by (with_reducible repeat (first | refine blk_drewN ?_ _ | refine blk_drew ?_ | refine blk_alloc ?_ _)); exact BK162.out⟩, ⟨by (with_reducible repeat (first | refine blk_drewN ?_ _ | refine blk_drew ?_ | refine blk_alloc ?_ _)); exact BK163.out⟩, ⟨by (with_reducible repeat (first | refine blk_drewN ?_ _ | refine blk_drew ?_ | refine blk_alloc ?_ _)); exact BK164.out⟩, ⟨by repeat (first | (with_reducible first | exact HB.out | apply below_alloc | apply pw_below_drewN | apply below_drew1 | refine below_set ?_ GE162.out | refine below_set ?_ GE163.out | refine below_set ?_ GE164.out) | exact HB.out)⟩⟩
        · rw [if_neg c10] at H
          have c10b0 : (a0_1 == a1_1) = false := beq_eq_false_iff_ne.mpr c10
          have c10b1 : (a0_1 != a1_1) = true := bne_iff_ne.mpr c10
          have H' := Aside0.mk H
          clear H
          have hnb28 := NB162_163.out
          have hnc28 := NB163_162.out
          have hnb29 := NB162_164.out
          have hnc29 := NB164_162.out
          have hcz30_0 : w6.cell? ⟨gb162, 0, none⟩ = some (.int .i64 a0_0) := (blk_cell BK162.out 0).trans rfl
          have hcz30_1 : w6.cell? ⟨gb162, 1, none⟩ = some (.int .i64 a0_1) := (blk_cell BK162.out 1).trans rfl
          have hcz30_2 : w6.cell? ⟨gb162, 2, none⟩ = some (.int .i64 a0_2) := (blk_cell BK162.out 2).trans rfl
          have hcz30_3 : w6.cell? ⟨gb162, 3, none⟩ = some (.slice A0_3 l0_3.length c0_3) := (blk_cell BK162.out 3).trans rfl
          have hfz30_0 := blk_frozen BK162.out 0
          have hfz30_1 := blk_frozen BK162.out 1
          have hfz30_2 := blk_frozen BK162.out 2
          have hfz30_3 := blk_frozen BK162.out 3
          go_wp2_with (first | ((with_reducible refine gate_callee (f := 73) rfl ?_); refine goesL_ (some 10) rfl rfl Try.func73 (by kernel_rfl) rfl #[.int .i64 a0_0] rfl (by (try simp only [List.map_toArray, List.map_cons, List.map_nil]); first | done | rfl | (simp only [List.length_drop, List.length_take]; rfl)) ?_; (with_reducible refine (merge_runs.calls a0_0 true _ A7.out).mono ?_); rintro e w' ⟨rfl, ⟨nd, rfl⟩⟩; refine ⟨_, rfl, ?_⟩; have hnb31 := NB163_164.out; have hnc31 := NB164_163.out; have hcz32_0 : w6.cell? ⟨gb163, 0, none⟩ = some (.int .i64 a1_0) := (blk_cell BK163.out 0).trans rfl; have hcz32_1 : w6.cell? ⟨gb163, 1, none⟩ = some (.int .i64 a1_1) := (blk_cell BK163.out 1).trans rfl; have hcz32_2 : w6.cell? ⟨gb163, 2, none⟩ = some (.int .i64 a1_2) := (blk_cell BK163.out 2).trans rfl; have hcz32_3 : w6.cell? ⟨gb163, 3, none⟩ = some (.slice A1_3 l1_3.length c1_3) := (blk_cell BK163.out 3).trans rfl; have hfz32_0 := blk_frozen BK163.out 0; have hfz32_1 := blk_frozen BK163.out 1; have hfz32_2 := blk_frozen BK163.out 2; have hfz32_3 := blk_frozen BK163.out 3))
          go_meet
          case rel => exact ⟨_, (true), (by first | rfl | (simp; done) | (simp [*]; done)), H', ⟨by first | omega | exact Nat.le_refl _⟩, ⟨by (with_reducible repeat (first | refine blk_drewN ?_ _ | refine blk_drew ?_ | refine blk_alloc ?_ _)); exact BK162.out⟩, ⟨by (with_reducible repeat (first | refine blk_drewN ?_ _ | refine blk_drew ?_ | refine blk_alloc ?_ _)); exact BK163.out⟩, ⟨by (with_reducible repeat (first | refine blk_drewN ?_ _ | refine blk_drew ?_ | refine blk_alloc ?_ _)); exact BK164.out⟩, ⟨by repeat (first | (with_reducible first | exact HB.out | apply below_alloc | apply pw_below_drewN | apply below_drew1 | refine below_set ?_ GE162.out | refine below_set ?_ GE163.out | refine below_set ?_ GE164.out) | exact HB.out)⟩⟩
      · rw [if_neg c9] at H
        have c9b0 : (a0_0 == a1_0) = false := beq_eq_false_iff_ne.mpr c9
        have c9b1 : (a0_0 != a1_0) = true := bne_iff_ne.mpr c9
        (first | rw [c9b0] | (simp only [i64_w, i32_w]; rw [c9b0]) | skip)
        have H' := Aside0.mk H
        clear H
        have hnb33 := NB162_163.out
        have hnc33 := NB163_162.out
        have hnb34 := NB162_164.out
        have hnc34 := NB164_162.out
        have hcz35_0 : w6.cell? ⟨gb162, 0, none⟩ = some (.int .i64 a0_0) := (blk_cell BK162.out 0).trans rfl
        have hcz35_1 : w6.cell? ⟨gb162, 1, none⟩ = some (.int .i64 a0_1) := (blk_cell BK162.out 1).trans rfl
        have hcz35_2 : w6.cell? ⟨gb162, 2, none⟩ = some (.int .i64 a0_2) := (blk_cell BK162.out 2).trans rfl
        have hcz35_3 : w6.cell? ⟨gb162, 3, none⟩ = some (.slice A0_3 l0_3.length c0_3) := (blk_cell BK162.out 3).trans rfl
        have hfz35_0 := blk_frozen BK162.out 0
        have hfz35_1 := blk_frozen BK162.out 1
        have hfz35_2 := blk_frozen BK162.out 2
        have hfz35_3 := blk_frozen BK162.out 3
        go_wp2_with (first | ((with_reducible refine gate_callee (f := 73) rfl ?_); refine goesL_ (some 10) rfl rfl Try.func73 (by kernel_rfl) rfl #[.int .i64 a0_0] rfl (by (try simp only [List.map_toArray, List.map_cons, List.map_nil]); first | done | rfl | (simp only [List.length_drop, List.length_take]; rfl)) ?_; (with_reducible refine (merge_runs.calls a0_0 true _ A7.out).mono ?_); rintro e w' ⟨rfl, ⟨nd, rfl⟩⟩; refine ⟨_, rfl, ?_⟩; have hnb36 := NB163_164.out; have hnc36 := NB164_163.out; have hcz37_0 : w6.cell? ⟨gb163, 0, none⟩ = some (.int .i64 a1_0) := (blk_cell BK163.out 0).trans rfl; have hcz37_1 : w6.cell? ⟨gb163, 1, none⟩ = some (.int .i64 a1_1) := (blk_cell BK163.out 1).trans rfl; have hcz37_2 : w6.cell? ⟨gb163, 2, none⟩ = some (.int .i64 a1_2) := (blk_cell BK163.out 2).trans rfl; have hcz37_3 : w6.cell? ⟨gb163, 3, none⟩ = some (.slice A1_3 l1_3.length c1_3) := (blk_cell BK163.out 3).trans rfl; have hfz37_0 := blk_frozen BK163.out 0; have hfz37_1 := blk_frozen BK163.out 1; have hfz37_2 := blk_frozen BK163.out 2; have hfz37_3 := blk_frozen BK163.out 3))
        go_meet
        case rel => exact ⟨_, (true), (by first | rfl | (simp; done) | (simp [*]; done)), H', ⟨by first | omega | exact Nat.le_refl _⟩, ⟨by (with_reducible repeat (first | refine blk_drewN ?_ _ | refine blk_drew ?_ | refine blk_alloc ?_ _)); exact BK162.out⟩, ⟨by (with_reducible repeat (first | refine blk_drewN ?_ _ | refine blk_drew ?_ | refine blk_alloc ?_ _)); exact BK163.out⟩, ⟨by (with_reducible repeat (first | refine blk_drewN ?_ _ | refine blk_drew ?_ | refine blk_alloc ?_ _)); exact BK164.out⟩, ⟨by repeat (first | (with_reducible first | exact HB.out | apply below_alloc | apply pw_below_drewN | apply below_drew1 | refine below_set ?_ GE162.out | refine below_set ?_ GE163.out | refine below_set ?_ GE164.out) | exact HB.out)⟩⟩
    · replace c8 := Bool.eq_false_iff.mpr c8
      subst c8
      have H1 : (merge_Two.j0 k true a0_0 a0_1 a0_2 l0_3 a1_0 a1_1 a1_2 l1_3) = some (r1, r2, r3, r4, r5) := by rw [if_neg (show ¬ (false = true) by decide)] at H; exact H
      clear H
      have H := H1
      clear H1
      have H' := Aside0.mk H
      clear H
      have hnb38 := NB162_163.out
      have hnc38 := NB163_162.out
      have hnb39 := NB162_164.out
      have hnc39 := NB164_162.out
      have hcz40_0 : w6.cell? ⟨gb162, 0, none⟩ = some (.int .i64 a0_0) := (blk_cell BK162.out 0).trans rfl
      have hcz40_1 : w6.cell? ⟨gb162, 1, none⟩ = some (.int .i64 a0_1) := (blk_cell BK162.out 1).trans rfl
      have hcz40_2 : w6.cell? ⟨gb162, 2, none⟩ = some (.int .i64 a0_2) := (blk_cell BK162.out 2).trans rfl
      have hcz40_3 : w6.cell? ⟨gb162, 3, none⟩ = some (.slice A0_3 l0_3.length c0_3) := (blk_cell BK162.out 3).trans rfl
      have hfz40_0 := blk_frozen BK162.out 0
      have hfz40_1 := blk_frozen BK162.out 1
      have hfz40_2 := blk_frozen BK162.out 2
      have hfz40_3 := blk_frozen BK162.out 3
      go_wp2_with (first | ((with_reducible refine gate_callee (f := 73) rfl ?_); refine goesL_ (some 10) rfl rfl Try.func73 (by kernel_rfl) rfl #[.int .i64 a0_0] rfl (by (try simp only [List.map_toArray, List.map_cons, List.map_nil]); first | done | rfl | (simp only [List.length_drop, List.length_take]; rfl)) ?_; (with_reducible refine (merge_runs.calls a0_0 false _ A7.out).mono ?_); rintro e w' ⟨rfl, ⟨nd, rfl⟩⟩; refine ⟨_, rfl, ?_⟩))
      go_meet
      case rel => exact ⟨_, (true), (by first | rfl | (simp; done) | (simp [*]; done)), H', ⟨by first | omega | exact Nat.le_refl _⟩, ⟨by (with_reducible repeat (first | refine blk_drewN ?_ _ | refine blk_drew ?_ | refine blk_alloc ?_ _)); exact BK162.out⟩, ⟨by (with_reducible repeat (first | refine blk_drewN ?_ _ | refine blk_drew ?_ | refine blk_alloc ?_ _)); exact BK163.out⟩, ⟨by (with_reducible repeat (first | refine blk_drewN ?_ _ | refine blk_drew ?_ | refine blk_alloc ?_ _)); exact BK164.out⟩, ⟨by repeat (first | (with_reducible first | exact HB.out | apply below_alloc | apply pw_below_drewN | apply below_drew1 | refine below_set ?_ GE162.out | refine below_set ?_ GE163.out | refine below_set ?_ GE164.out) | exact HB.out)⟩⟩
  case rest =>
    clear HC3
    try clear c1
    try clear c2
    try clear p2
    try clear c3
    try clear c6
    try clear p6
    try clear c7
    try clear c8
    try clear c9
    try clear c9b0
    try clear c9b1
    try clear c10
    try clear c10b0
    try clear c10b1
    try clear c11
    try clear c11b0
    try clear c12
    try clear c13
    try clear c15
    try clear c17
    try clear c17b0
    try clear c18
    try clear c19
    try clear c21
    try clear c23
    try clear c24
    try clear c26
    try clear c28
    try clear c29
    try clear c31
    try clear c33
    try clear c34
    try clear c36
    try clear c38
    try clear c39
    try clear hcz14_0
    try clear hcz14_1
    try clear hcz14_2
    try clear hcz14_3
    try clear hcz16_0
    try clear hcz16_1
    try clear hcz16_2
    try clear hcz16_3
    try clear hcz20_0
    try clear hcz20_1
    try clear hcz20_2
    try clear hcz20_3
    try clear hcz22_0
    try clear hcz22_1
    try clear hcz22_2
    try clear hcz22_3
    try clear hcz25_0
    try clear hcz25_1
    try clear hcz25_2
    try clear hcz25_3
    try clear hcz27_0
    try clear hcz27_1
    try clear hcz27_2
    try clear hcz27_3
    try clear hcz30_0
    try clear hcz30_1
    try clear hcz30_2
    try clear hcz30_3
    try clear hcz32_0
    try clear hcz32_1
    try clear hcz32_2
    try clear hcz32_3
    try clear hcz35_0
    try clear hcz35_1
    try clear hcz35_2
    try clear hcz35_3
    try clear hcz37_0
    try clear hcz37_1
    try clear hcz37_2
    try clear hcz37_3
    try clear hcz40_0
    try clear hcz40_1
    try clear hcz40_2
    try clear hcz40_3
    try clear hfz14_0
    try clear hfz14_1
    try clear hfz14_2
    try clear hfz14_3
    try clear hfz16_0
    try clear hfz16_1
    try clear hfz16_2
    try clear hfz16_3
    try clear hfz20_0
    try clear hfz20_1
    try clear hfz20_2
    try clear hfz20_3
    try clear hfz22_0
    try clear hfz22_1
    try clear hfz22_2
    try clear hfz22_3
    try clear hfz25_0
    try clear hfz25_1
    try clear hfz25_2
    try clear hfz25_3
    try clear hfz27_0
    try clear hfz27_1
    try clear hfz27_2
    try clear hfz27_3
    try clear hfz30_0
    try clear hfz30_1
    try clear hfz30_2
    try clear hfz30_3
    try clear hfz32_0
    try clear hfz32_1
    try clear hfz32_2
    try clear hfz32_3
    try clear hfz35_0
    try clear hfz35_1
    try clear hfz35_2
    try clear hfz35_3
    try clear hfz37_0
    try clear hfz37_1
    try clear hfz37_2
    try clear hfz37_3
    try clear hfz40_0
    try clear hfz40_1
    try clear hfz40_2
    try clear hfz40_3
    obtain ⟨kq, x45_2, rfl, HA, HJ2, BK162, BK163, BK164, HB⟩ := hcut
    cases kq with
    | zero => exact absurd HA.out (by simp [merge_Two.j0])
    | succ kj2 =>
      have H := HA.out
      clear HA
      simp only [merge_Two.j0] at H
      by_cases c41 : x45_2 = true
      · subst c41
        have H1 : (some (0, 0, 0, ([] : List Int), false)) = some (r1, r2, r3, r4, r5) := by rw [if_pos rfl] at H; exact H
        clear H
        have H := H1
        clear H1
        simp only [Option.some.injEq, Prod.mk.injEq] at H
        obtain ⟨rfl, rfl, rfl, rfl, rfl⟩ := H
        have hnb42 := NB164_162.out
        have hnc42 := NB162_164.out
        have hnb43 := NB164_163.out
        have hnc43 := NB163_164.out
        have hcz44_0 : wc.cell? ⟨gb164, 0, none⟩ = some (.int .i64 0) := (blk_cell BK164.out 0).trans rfl
        have hcz44_1 : wc.cell? ⟨gb164, 1, none⟩ = some (.int .i64 0) := (blk_cell BK164.out 1).trans rfl
        have hcz44_2 : wc.cell? ⟨gb164, 2, none⟩ = some (.int .i64 0) := (blk_cell BK164.out 2).trans rfl
        have hcz44_3 : wc.cell? ⟨gb164, 3, none⟩ = some (.slice none 0 0) := (blk_cell BK164.out 3).trans rfl
        have hfz44_0 := blk_frozen BK164.out 0
        have hfz44_1 := blk_frozen BK164.out 1
        have hfz44_2 := blk_frozen BK164.out 2
        have hfz44_3 := blk_frozen BK164.out 3
        go_wp2
        refine bodyPost_ret (results_ct rfl _ _ gb164 30 #[.int .i64 0, .int .i64 0, .int .i64 0, .slice none 0 0] (0, 0) _ rfl (by (with_reducible repeat (first | refine blk_drewN ?_ _ | refine blk_drew ?_ | refine blk_alloc ?_ _)); refine blk_put (cs := #[.int .i64 0, .int .i64 0, .int .i64 0, .slice none 0 0]) ?_ 3 _ rfl; (with_reducible repeat (first | refine blk_drewN ?_ _ | refine blk_drew ?_ | refine blk_alloc ?_ _)); refine blk_put (cs := #[.int .i64 0, .int .i64 0, .int .i64 0, .slice none 0 0]) ?_ 2 _ rfl; (with_reducible repeat (first | refine blk_drewN ?_ _ | refine blk_drew ?_ | refine blk_alloc ?_ _)); refine blk_put (cs := #[.int .i64 0, .int .i64 0, .int .i64 0, .slice none 0 0]) ?_ 1 _ rfl; (with_reducible repeat (first | refine blk_drewN ?_ _ | refine blk_drew ?_ | refine blk_alloc ?_ _)); refine blk_put (cs := #[.int .i64 0, .int .i64 0, .int .i64 0, .slice none 0 0]) ?_ 0 _ rfl; (with_reducible repeat (first | refine blk_drewN ?_ _ | refine blk_drew ?_ | refine blk_alloc ?_ _)); exact BK164.out) Try.underlying30 rfl (by kernel_rfl)) rfl ?_
        exact ⟨_, by first | rfl | (simp [errW_none, errW_some] <;> rfl) | (simp [*, errW_none, errW_some] <;> rfl), by first | exact Kd.R_nil _ _ _ _ _ | exact Kd.N_nil _ _ _ _ _ | exact Kd.V_nil _ _ _ _ _ | exact Kd.Q_nil _ _ _ _ _ | exact Kd.S_nil _ _ _ _ _, by repeat (first | (with_reducible first | exact HB.out | apply below_alloc | apply pw_below_drewN | apply below_drew1 | refine below_set ?_ GE162.out | refine below_set ?_ GE163.out | refine below_set ?_ GE164.out) | exact HB.out)⟩
      · replace c41 := Bool.eq_false_iff.mpr c41
        subst c41
        have H1 : ((reckon_Add.f kj2 a0_2 a1_2).bind fun bt166 => (if bt166.2 = 0 then (some (a0_0, a0_1, bt166.1, ([] : List Int), true)) else (some (0, 0, 0, ([] : List Int), false)))) = some (r1, r2, r3, r4, r5) := by rw [if_neg (show ¬ (false = true) by decide)] at H; exact H
        clear H
        have H := H1
        clear H1
        replace H := Option.bind_eq_some_iff.mp H
        obtain ⟨⟨t166, t167⟩, A450, H⟩ := H
        replace H : (if t167 = 0 then (some (a0_0, a0_1, t166, ([] : List Int), true)) else (some (0, 0, 0, ([] : List Int), false))) = some (r1, r2, r3, r4, r5) := H
        have A45 := Aside0.mk A450
        clear A450
        by_cases c46 : t167 = 0
        · rw [if_pos c46] at H
          have c46b0 : (t167 == 0) = true := beq_iff_eq.mpr c46
          have c46b1 : (t167 != 0) = false := bne_eq_false_iff_eq.mpr c46
          clear c46
          simp only [Option.some.injEq, Prod.mk.injEq] at H
          obtain ⟨rfl, rfl, rfl, rfl, rfl⟩ := H
          have hnb47 := NB162_163.out
          have hnc47 := NB163_162.out
          have hnb48 := NB162_164.out
          have hnc48 := NB164_162.out
          have hcz49_0 : wc.cell? ⟨gb162, 0, none⟩ = some (.int .i64 a0_0) := (blk_cell BK162.out 0).trans rfl
          have hcz49_1 : wc.cell? ⟨gb162, 1, none⟩ = some (.int .i64 a0_1) := (blk_cell BK162.out 1).trans rfl
          have hcz49_2 : wc.cell? ⟨gb162, 2, none⟩ = some (.int .i64 a0_2) := (blk_cell BK162.out 2).trans rfl
          have hcz49_3 : wc.cell? ⟨gb162, 3, none⟩ = some (.slice A0_3 l0_3.length c0_3) := (blk_cell BK162.out 3).trans rfl
          have hfz49_0 := blk_frozen BK162.out 0
          have hfz49_1 := blk_frozen BK162.out 1
          have hfz49_2 := blk_frozen BK162.out 2
          have hfz49_3 := blk_frozen BK162.out 3
          have hnb50 := NB163_164.out
          have hnc50 := NB164_163.out
          have hcz51_0 : wc.cell? ⟨gb163, 0, none⟩ = some (.int .i64 a1_0) := (blk_cell BK163.out 0).trans rfl
          have hcz51_1 : wc.cell? ⟨gb163, 1, none⟩ = some (.int .i64 a1_1) := (blk_cell BK163.out 1).trans rfl
          have hcz51_2 : wc.cell? ⟨gb163, 2, none⟩ = some (.int .i64 a1_2) := (blk_cell BK163.out 2).trans rfl
          have hcz51_3 : wc.cell? ⟨gb163, 3, none⟩ = some (.slice A1_3 l1_3.length c1_3) := (blk_cell BK163.out 3).trans rfl
          have hfz51_0 := blk_frozen BK163.out 0
          have hfz51_1 := blk_frozen BK163.out 1
          have hfz51_2 := blk_frozen BK163.out 2
          have hfz51_3 := blk_frozen BK163.out 3
          go_wp2_with (first | ((with_reducible refine gate_callee (f := 74) rfl ?_); refine goesL_ (some 52) rfl rfl Try.func74 (by kernel_rfl) rfl #[.int .i64 a0_2, .int .i64 a1_2] rfl (by (try simp only [List.map_toArray, List.map_cons, List.map_nil]); first | done | rfl | (simp only [List.length_drop, List.length_take]; rfl)) ?_; (with_reducible refine (reckon_Add.calls kj2 a0_2 a1_2 t166 t167 _ A45.out).mono ?_); rintro e w52 ⟨rfl, hb⟩; refine ⟨_, rfl, ?_⟩; have n0_ := Aside0.mk (blk_below (g := gb162) (o := .cells #[.int .i64 a0_0, .int .i64 a0_1, .int .i64 a0_2, .slice A0_3 l0_3.length c0_3] 30 (0, 0)) (by (with_reducible repeat (first | refine blk_drewN ?_ _ | refine blk_drew ?_ | refine blk_alloc ?_ _)); exact BK162.out) hb); have n1_ := Aside0.mk (blk_below (g := gb163) (o := .cells #[.int .i64 a1_0, .int .i64 a1_1, .int .i64 a1_2, .slice A1_3 l1_3.length c1_3] 30 (0, 0)) (by (with_reducible repeat (first | refine blk_drewN ?_ _ | refine blk_drew ?_ | refine blk_alloc ?_ _)); exact BK163.out) hb); have n2_ := Aside0.mk (blk_below (g := gb164) (o := .cells #[.int .i64 0, .int .i64 0, .int .i64 0, .slice none 0 0] 30 (0, 0)) (by (with_reducible repeat (first | refine blk_drewN ?_ _ | refine blk_drew ?_ | refine blk_alloc ?_ _)); exact BK164.out) hb); have n3_ := Aside0.mk (below_step (by repeat (first | (with_reducible first | exact HB.out | apply below_alloc | apply pw_below_drewN | apply below_drew1 | refine below_set ?_ GE162.out | refine below_set ?_ GE163.out | refine below_set ?_ GE164.out) | exact HB.out)) hb); clear BK162; clear BK163; clear BK164; clear HB; have BK162 := n0_; have BK163 := n1_; have BK164 := n2_; have HB := n3_; clear n0_ n1_ n2_ n3_; (try clear hb); (try clear hb2); (try clear hk); (try clear hi); have hcz53_0 : w52.cell? ⟨gb162, 0, none⟩ = some (.int .i64 a0_0) := (blk_cell BK162.out 0).trans rfl; have hcz53_1 : w52.cell? ⟨gb162, 1, none⟩ = some (.int .i64 a0_1) := (blk_cell BK162.out 1).trans rfl; have hcz53_2 : w52.cell? ⟨gb162, 2, none⟩ = some (.int .i64 a0_2) := (blk_cell BK162.out 2).trans rfl; have hcz53_3 : w52.cell? ⟨gb162, 3, none⟩ = some (.slice A0_3 l0_3.length c0_3) := (blk_cell BK162.out 3).trans rfl; have hfz53_0 := blk_frozen BK162.out 0; have hfz53_1 := blk_frozen BK162.out 1; have hfz53_2 := blk_frozen BK162.out 2; have hfz53_3 := blk_frozen BK162.out 3; have hcz54_0 : w52.cell? ⟨gb164, 0, none⟩ = some (.int .i64 0) := (blk_cell BK164.out 0).trans rfl; have hcz54_1 : w52.cell? ⟨gb164, 1, none⟩ = some (.int .i64 0) := (blk_cell BK164.out 1).trans rfl; have hcz54_2 : w52.cell? ⟨gb164, 2, none⟩ = some (.int .i64 0) := (blk_cell BK164.out 2).trans rfl; have hcz54_3 : w52.cell? ⟨gb164, 3, none⟩ = some (.slice none 0 0) := (blk_cell BK164.out 3).trans rfl; have hfz54_0 := blk_frozen BK164.out 0; have hfz54_1 := blk_frozen BK164.out 1; have hfz54_2 := blk_frozen BK164.out 2; have hfz54_3 := blk_frozen BK164.out 3))
          refine bodyPost_ret (results_ct rfl _ _ gb164 30 #[.int .i64 a0_0, .int .i64 a0_1, .int .i64 t166, .slice none 0 0] (0, 0) _ rfl (by (with_reducible repeat (first | refine blk_drewN ?_ _ | refine blk_drew ?_ | refine blk_alloc ?_ _)); refine blk_put (cs := #[.int .i64 a0_0, .int .i64 a0_1, .int .i64 t166, .slice none 0 0]) ?_ 3 _ rfl; (with_reducible repeat (first | refine blk_drewN ?_ _ | refine blk_drew ?_ | refine blk_alloc ?_ _)); refine blk_put (cs := #[.int .i64 a0_0, .int .i64 a0_1, .int .i64 0, .slice none 0 0]) ?_ 2 _ rfl; (with_reducible repeat (first | refine blk_drewN ?_ _ | refine blk_drew ?_ | refine blk_alloc ?_ _)); refine blk_put (cs := #[.int .i64 a0_0, .int .i64 0, .int .i64 0, .slice none 0 0]) ?_ 1 _ rfl; (with_reducible repeat (first | refine blk_drewN ?_ _ | refine blk_drew ?_ | refine blk_alloc ?_ _)); refine blk_put (cs := #[.int .i64 0, .int .i64 0, .int .i64 0, .slice none 0 0]) ?_ 0 _ rfl; (with_reducible repeat (first | refine blk_drewN ?_ _ | refine blk_drew ?_ | refine blk_alloc ?_ _)); exact BK164.out) Try.underlying30 rfl (by kernel_rfl)) rfl ?_
          exact ⟨_, by first | rfl | (simp [errW_none, errW_some] <;> rfl) | (simp [*, errW_none, errW_some] <;> rfl), by first | exact Kd.R_nil _ _ _ _ _ | exact Kd.N_nil _ _ _ _ _ | exact Kd.V_nil _ _ _ _ _ | exact Kd.Q_nil _ _ _ _ _ | exact Kd.S_nil _ _ _ _ _, by repeat (first | (with_reducible first | exact HB.out | apply below_alloc | apply pw_below_drewN | apply below_drew1 | refine below_set ?_ GE162.out | refine below_set ?_ GE163.out | refine below_set ?_ GE164.out) | exact HB.out)⟩
        · rw [if_neg c46] at H
          have c46b0 : (t167 == 0) = false := beq_eq_false_iff_ne.mpr c46
          have c46b1 : (t167 != 0) = true := bne_iff_ne.mpr c46
          simp only [Option.some.injEq, Prod.mk.injEq] at H
          obtain ⟨rfl, rfl, rfl, rfl, rfl⟩ := H
          have hnb55 := NB162_163.out
          have hnc55 := NB163_162.out
          have hnb56 := NB162_164.out
          have hnc56 := NB164_162.out
          have hcz57_0 : wc.cell? ⟨gb162, 0, none⟩ = some (.int .i64 a0_0) := (blk_cell BK162.out 0).trans rfl
          have hcz57_1 : wc.cell? ⟨gb162, 1, none⟩ = some (.int .i64 a0_1) := (blk_cell BK162.out 1).trans rfl
          have hcz57_2 : wc.cell? ⟨gb162, 2, none⟩ = some (.int .i64 a0_2) := (blk_cell BK162.out 2).trans rfl
          have hcz57_3 : wc.cell? ⟨gb162, 3, none⟩ = some (.slice A0_3 l0_3.length c0_3) := (blk_cell BK162.out 3).trans rfl
          have hfz57_0 := blk_frozen BK162.out 0
          have hfz57_1 := blk_frozen BK162.out 1
          have hfz57_2 := blk_frozen BK162.out 2
          have hfz57_3 := blk_frozen BK162.out 3
          have hnb58 := NB163_164.out
          have hnc58 := NB164_163.out
          have hcz59_0 : wc.cell? ⟨gb163, 0, none⟩ = some (.int .i64 a1_0) := (blk_cell BK163.out 0).trans rfl
          have hcz59_1 : wc.cell? ⟨gb163, 1, none⟩ = some (.int .i64 a1_1) := (blk_cell BK163.out 1).trans rfl
          have hcz59_2 : wc.cell? ⟨gb163, 2, none⟩ = some (.int .i64 a1_2) := (blk_cell BK163.out 2).trans rfl
          have hcz59_3 : wc.cell? ⟨gb163, 3, none⟩ = some (.slice A1_3 l1_3.length c1_3) := (blk_cell BK163.out 3).trans rfl
          have hfz59_0 := blk_frozen BK163.out 0
          have hfz59_1 := blk_frozen BK163.out 1
          have hfz59_2 := blk_frozen BK163.out 2
          have hfz59_3 := blk_frozen BK163.out 3
          go_wp2_with (first | ((with_reducible refine gate_callee (f := 74) rfl ?_); refine goesL_ (some 52) rfl rfl Try.func74 (by kernel_rfl) rfl #[.int .i64 a0_2, .int .i64 a1_2] rfl (by (try simp only [List.map_toArray, List.map_cons, List.map_nil]); first | done | rfl | (simp only [List.length_drop, List.length_take]; rfl)) ?_; (with_reducible refine (reckon_Add.calls kj2 a0_2 a1_2 t166 t167 _ A45.out).mono ?_); rintro e w60 ⟨rfl, hb⟩; refine ⟨_, rfl, ?_⟩; have n0_ := Aside0.mk (blk_below (g := gb162) (o := .cells #[.int .i64 a0_0, .int .i64 a0_1, .int .i64 a0_2, .slice A0_3 l0_3.length c0_3] 30 (0, 0)) (by (with_reducible repeat (first | refine blk_drewN ?_ _ | refine blk_drew ?_ | refine blk_alloc ?_ _)); exact BK162.out) hb); have n1_ := Aside0.mk (blk_below (g := gb163) (o := .cells #[.int .i64 a1_0, .int .i64 a1_1, .int .i64 a1_2, .slice A1_3 l1_3.length c1_3] 30 (0, 0)) (by (with_reducible repeat (first | refine blk_drewN ?_ _ | refine blk_drew ?_ | refine blk_alloc ?_ _)); exact BK163.out) hb); have n2_ := Aside0.mk (blk_below (g := gb164) (o := .cells #[.int .i64 0, .int .i64 0, .int .i64 0, .slice none 0 0] 30 (0, 0)) (by (with_reducible repeat (first | refine blk_drewN ?_ _ | refine blk_drew ?_ | refine blk_alloc ?_ _)); exact BK164.out) hb); have n3_ := Aside0.mk (below_step (by repeat (first | (with_reducible first | exact HB.out | apply below_alloc | apply pw_below_drewN | apply below_drew1 | refine below_set ?_ GE162.out | refine below_set ?_ GE163.out | refine below_set ?_ GE164.out) | exact HB.out)) hb); clear BK162; clear BK163; clear BK164; clear HB; have BK162 := n0_; have BK163 := n1_; have BK164 := n2_; have HB := n3_; clear n0_ n1_ n2_ n3_; (try clear hb); (try clear hb2); (try clear hk); (try clear hi); have hcz61_0 : w60.cell? ⟨gb164, 0, none⟩ = some (.int .i64 0) := (blk_cell BK164.out 0).trans rfl; have hcz61_1 : w60.cell? ⟨gb164, 1, none⟩ = some (.int .i64 0) := (blk_cell BK164.out 1).trans rfl; have hcz61_2 : w60.cell? ⟨gb164, 2, none⟩ = some (.int .i64 0) := (blk_cell BK164.out 2).trans rfl; have hcz61_3 : w60.cell? ⟨gb164, 3, none⟩ = some (.slice none 0 0) := (blk_cell BK164.out 3).trans rfl; have hfz61_0 := blk_frozen BK164.out 0; have hfz61_1 := blk_frozen BK164.out 1; have hfz61_2 := blk_frozen BK164.out 2; have hfz61_3 := blk_frozen BK164.out 3))
          refine bodyPost_ret (results_ct rfl _ _ gb164 30 #[.int .i64 0, .int .i64 0, .int .i64 0, .slice none 0 0] (0, 0) _ rfl (by (with_reducible repeat (first | refine blk_drewN ?_ _ | refine blk_drew ?_ | refine blk_alloc ?_ _)); refine blk_put (cs := #[.int .i64 0, .int .i64 0, .int .i64 0, .slice none 0 0]) ?_ 3 _ rfl; (with_reducible repeat (first | refine blk_drewN ?_ _ | refine blk_drew ?_ | refine blk_alloc ?_ _)); refine blk_put (cs := #[.int .i64 0, .int .i64 0, .int .i64 0, .slice none 0 0]) ?_ 2 _ rfl; (with_reducible repeat (first | refine blk_drewN ?_ _ | refine blk_drew ?_ | refine blk_alloc ?_ _)); refine blk_put (cs := #[.int .i64 0, .int .i64 0, .int .i64 0, .slice none 0 0]) ?_ 1 _ rfl; (with_reducible repeat (first | refine blk_drewN ?_ _ | refine blk_drew ?_ | refine blk_alloc ?_ _)); refine blk_put (cs := #[.int .i64 0, .int .i64 0, .int .i64 0, .slice none 0 0]) ?_ 0 _ rfl; (with_reducible repeat (first | refine blk_drewN ?_ _ | refine blk_drew ?_ | refine blk_alloc ?_ _)); exact BK164.out) Try.underlying30 rfl (by kernel_rfl)) rfl ?_
          exact ⟨_, by first | rfl | (simp [errW_none, errW_some] <;> rfl) | (simp [*, errW_none, errW_some] <;> rfl), by first | exact Kd.R_nil _ _ _ _ _ | exact Kd.N_nil _ _ _ _ _ | exact Kd.V_nil _ _ _ _ _ | exact Kd.Q_nil _ _ _ _ _ | exact Kd.S_nil _ _ _ _ _, by repeat (first | (with_reducible first | exact HB.out | apply below_alloc | apply pw_below_drewN | apply below_drew1 | refine below_set ?_ GE162.out | refine below_set ?_ GE163.out | refine below_set ?_ GE164.out) | exact HB.out)⟩
end Go.Proofs.Ytejcopppchaneaa.PF
end
section
namespace Go.Proofs.Ytejcopppchaneaa.Pure
open Go.RowKit Go.Proofs.YtejcopppchaneaaW.PrintWords Go.Proofs.YtejcopppchaneaaW.PrintLast Go.Proofs.YtejcopppchaneaaW.PrintMore Go.Proofs.Ytejcopppchaneaa.PF
abbrev In (n : Int) : Prop := 0 ≤ n ∧ n ≤ 4611686018427387903
def addS (a b : Int) : Int × Int := if In a ∧ In b then (if 4611686018427387903 < a + b then (0, 10) else (a + b, 0)) else (0, 2)
theorem is_eq (n : Int) : reckon_Is.f n = some (decide (In n)) := by
  unfold reckon_Is.f
  by_cases h : n ≥ 0
  · rw [if_pos h]; congr 1; rw [decide_eq_decide]; omega
  · rw [if_neg h]; congr 1; symm; rw [decide_eq_false_iff_not]; omega
theorem all_go (l : List Int) (hl : l.length ≤ 1000) : ∀ (d k i : Nat), i + d = l.length → d < k → reckon_all.l0 k l l.length i = some ((l.drop i).all fun n => decide (In n)) := by
  intro d
  induction d with
  | zero =>
    intro k i h hk
    obtain ⟨k, rfl⟩ : ∃ m, k = m + 1 := ⟨k - 1, by omega⟩
    simp only [reckon_all.l0]
    rw [if_neg (by omega), List.drop_eq_nil_of_le (by omega)]; rfl
  | succ d ih =>
    intro k i h hk
    obtain ⟨k, rfl⟩ : ∃ m, k = m + 1 := ⟨k - 1, by omega⟩
    simp only [reckon_all.l0]
    rw [if_pos (by omega), if_pos (by omega), if_pos (by omega), is_eq]
    simp only [Option.bind_some]
    have hi : i < l.length := by omega
    have e : rd l (i : Int) = l[i] := by simp [rd, List.getD_eq_getElem?_getD, List.getElem?_eq_getElem hi]
    rw [List.drop_eq_getElem_cons hi, List.all_cons, e]
    by_cases hc : In l[i]
    · rw [decide_eq_true hc, if_pos rfl, jw64 (by omega) (by omega), Bool.true_and]
      have := ih k (i + 1) (by omega) (by omega)
      rw [← this]; congr 1
    · rw [decide_eq_false hc, if_neg (by decide), Bool.false_and]
theorem all_ev (l : List Int) (hl : l.length ≤ 1000) : Ev (fun k => reckon_all.f k l) (l.all fun n => decide (In n)) :=
  ⟨l.length + 1, fun k hk => by have := all_go l hl l.length k 0 (by omega) (by omega); rw [List.drop_zero] at this; exact this⟩
theorem all2 (a b : Int) : Ev (fun k => reckon_all.f k [a, b]) (decide (In a ∧ In b)) := by
  have := all_ev [a, b] (by simp)
  simpa using this
theorem add_ev (a b : Int) : Ev (fun k => reckon_Add.f k a b) (addS a b) := by
  refine Ev.bind (all2 a b) ⟨0, fun k _ => ?_⟩
  unfold addS
  by_cases h : In a ∧ In b
  · rw [decide_eq_true h, if_pos rfl, if_pos h]
    rw [jw64 (by omega) (by omega)]
    by_cases h2 : 4611686018427387903 < a + b
    · rw [if_pos (by omega), if_pos h2]
    · rw [if_neg (by omega), if_neg h2, jw64 (by omega) (by omega)]
  · rw [decide_eq_false h, if_neg (by decide), if_neg h]
def cmb (a b : S30) : Bool := decide (1 ≤ a.f0 ∧ a.f0 ≤ 3 ∧ a.f0 = b.f0 ∧ a.f1 = b.f1 ∧ a.f3 = [] ∧ b.f3 = [] ∧ 1 ≤ a.f2 ∧ 1 ≤ b.f2 ∧ a.f2 + b.f2 ≤ 4611686018427387903)
def jn2 (a b : S30) : S30 := ⟨a.f0, a.f1, a.f2 + b.f2, []⟩
def twoS (a b : S30) : Int × Int × Int × List Int × Bool := if cmb a b = true then (a.f0, a.f1, a.f2 + b.f2, [], true) else (0, 0, 0, [], false)
def okR (x : S30) : Prop := (-9223372036854775808 ≤ x.f0 ∧ x.f0 < 9223372036854775808) ∧ (-9223372036854775808 ≤ x.f1 ∧ x.f1 < 9223372036854775808) ∧ (-9223372036854775808 ≤ x.f2 ∧ x.f2 < 9223372036854775808) ∧ x.f3.length ≤ 100000
theorem rdT_get (l : List S30) (i : Nat) (h : i < l.length) : rd_T30 l (i : Int) = l[i] := by simp [rd_T30, List.getD_eq_getElem?_getD, List.getElem?_eq_getElem h]
theorem nil_len {l : List Int} (h : ¬ (0 < (l.length : Int))) : l = [] := List.eq_nil_of_length_eq_zero (by omega)
theorem two_false (k : Nat) (a b c : Int) (d : List Int) (a' b' c' : Int) (d' : List Int) : merge_Two.j0 (k + 1) true a b c d a' b' c' d' = some (0, 0, 0, [], false) := by rw [merge_Two.j0, if_pos rfl]
theorem runs27_is (n : Int) : merge_runs.f n = some (decide (1 ≤ n ∧ n ≤ 3)) := by
  unfold merge_runs.f
  by_cases h : n ≥ 1
  · rw [if_pos h]; congr 1; rw [decide_eq_decide]; omega
  · rw [if_neg h]; congr 1; symm; rw [decide_eq_false_iff_not]; omega
theorem two_ev (a b : S30) (ha : okR a) (hb : okR b) : Ev (fun k => merge_Two.f k a.f0 a.f1 a.f2 a.f3 b.f0 b.f1 b.f2 b.f3) (twoS a b) := by
  obtain ⟨_, _, h2, h3⟩ := ha
  obtain ⟨_, _, g2, g3⟩ := hb
  unfold merge_Two.f
  refine Ev.congr (fun k => by rw [runs27_is, Option.bind_some]) ?_
  have neg : cmb a b = false → twoS a b = (0, 0, 0, [], false) := fun h => by unfold twoS; rw [if_neg (by rw [h]; decide)]
  have hw : wrap64 ((a.f3.length : Int) + (b.f3.length : Int)) = (a.f3.length : Int) + (b.f3.length : Int) := jw64 (by omega) (by omega)
  by_cases c1 : 1 ≤ a.f0 ∧ a.f0 ≤ 3
  · refine Ev.congr (fun k => by rw [decide_eq_true c1, if_pos rfl]) ?_
    by_cases c2 : a.f0 = b.f0
    · refine Ev.congr (fun k => by rw [if_pos c2]) ?_
      by_cases c3 : a.f1 = b.f1
      · refine Ev.congr (fun k => by rw [if_pos c3, hw]) ?_
        by_cases c4 : (a.f3.length : Int) + (b.f3.length : Int) > 0
        · rw [neg (by unfold cmb; rw [decide_eq_false_iff_not]; rintro ⟨_, _, _, _, e1, e2, _⟩; rw [e1, e2] at c4; simp at c4)]
          refine Ev.congr (fun k => by rw [if_pos c4]) (ev_add 1 (fun k => two_false ..))
        · refine Ev.congr (fun k => by rw [if_neg c4]) ?_
          have e1 : a.f3 = [] := nil_len (by omega)
          have e2 : b.f3 = [] := nil_len (by omega)
          by_cases c5 : a.f2 < 1
          · rw [neg (by unfold cmb; rw [decide_eq_false_iff_not]; omega)]
            exact Ev.congr (fun k => by rw [if_pos c5]) (ev_add 1 (fun k => two_false ..))
          · refine Ev.congr (fun k => by rw [if_neg c5]) ?_
            by_cases c6 : b.f2 < 1
            · rw [neg (by unfold cmb; rw [decide_eq_false_iff_not]; omega)]
              refine Ev.congr (fun k => by rw [decide_eq_true c6]) (ev_add 1 (fun k => two_false ..))
            · refine Ev.congr (fun k => by rw [decide_eq_false c6]) ?_
              refine Ev.step (fun k => by rw [merge_Two.j0, if_neg (by decide)]) ?_
              refine Ev.bind (add_ev _ _) ?_
              unfold twoS
              by_cases c7 : a.f2 + b.f2 ≤ 4611686018427387903
              · have hc : cmb a b = true := by unfold cmb; rw [decide_eq_true_iff]; exact ⟨c1.1, c1.2, c2, c3, e1, e2, by omega, by omega, c7⟩
                have ha : addS a.f2 b.f2 = (a.f2 + b.f2, 0) := by unfold addS; rw [if_pos (show In a.f2 ∧ In b.f2 by constructor <;> constructor <;> omega), if_neg (by omega)]
                rw [if_pos hc, ha]
                exact ⟨0, fun k _ => by rw [if_pos rfl]⟩
              · have hc : cmb a b = false := by unfold cmb; rw [decide_eq_false_iff_not]; omega
                have ha : (addS a.f2 b.f2).2 ≠ 0 := by
                  unfold addS
                  split
                  · rw [if_pos (by omega)]; decide
                  · decide
                refine Ev.congr (fun k => by rw [if_neg ha]) ?_
                rw [hc]
                exact Ev.now _
      · rw [neg (by unfold cmb; rw [decide_eq_false_iff_not]; rintro ⟨_, _, _, h, _⟩; exact c3 h)]
        exact Ev.congr (fun k => by rw [if_neg c3]) (ev_add 1 (fun k => two_false ..))
    · rw [neg (by unfold cmb; rw [decide_eq_false_iff_not]; rintro ⟨_, _, h, _⟩; exact c2 h)]
      exact Ev.congr (fun k => by rw [if_neg c2]) (ev_add 1 (fun k => two_false ..))
  · rw [neg (by unfold cmb; rw [decide_eq_false_iff_not]; rintro ⟨h1, h2, _⟩; exact c1 ⟨h1, h2⟩)]
    refine Ev.congr (fun k => by rw [decide_eq_false c1, if_neg (by decide)]) (ev_add 1 (fun k => two_false ..))
end Go.Proofs.Ytejcopppchaneaa.Pure
end
section
set_option linter.unusedVariables false
set_option linter.unusedSimpArgs false
namespace Go.Proofs.Ytejcopppchaneaa.PF
open Go.RowKit Go.Proofs.YtejcopppchaneaaW.PrintWords Go.Proofs.YtejcopppchaneaaW.PrintLast Go.Proofs.YtejcopppchaneaaW.PrintMore Go.Proofs.Ytejcopppchaneaa.Pure
structure LS where
  rest : ByteArray
  k : Int
  n : Int
  r : Int
  closed : Bool
  ended : Bool
  e : Int
def LAt (W : World) (g : Nat) (s : LS) : Prop := W.heap[g]? = some (.cells #[.string s.rest, .int .i64 s.k, .int .i64 s.n, .int .i64 s.r, .slice none 0 0, .bool s.closed, .bool s.ended, .int .i64 s.e] 61 (0, 0))
theorem cell8 {w : World} {g : Nat} {a b c d e f h i : Value} {t : TypeId} (hb : w.heap[g]? = some (.cells #[a, b, c, d, e, f, h, i] t (0, 0))) : (w.cell? ⟨g, 0, none⟩ = some a ∧ w.cell? ⟨g, 1, none⟩ = some b ∧ w.cell? ⟨g, 2, none⟩ = some c ∧ w.cell? ⟨g, 3, none⟩ = some d ∧ w.cell? ⟨g, 4, none⟩ = some e ∧ w.cell? ⟨g, 5, none⟩ = some f ∧ w.cell? ⟨g, 6, none⟩ = some h ∧ w.cell? ⟨g, 7, none⟩ = some i) ∧ w.frozen? ⟨g, 0, none⟩ = false ∧ w.frozen? ⟨g, 1, none⟩ = false ∧ w.frozen? ⟨g, 2, none⟩ = false ∧ w.frozen? ⟨g, 3, none⟩ = false ∧ w.frozen? ⟨g, 4, none⟩ = false ∧ w.frozen? ⟨g, 5, none⟩ = false ∧ w.frozen? ⟨g, 6, none⟩ = false ∧ w.frozen? ⟨g, 7, none⟩ = false :=
  ⟨⟨(blk_cell hb 0).trans rfl, (blk_cell hb 1).trans rfl, (blk_cell hb 2).trans rfl, (blk_cell hb 3).trans rfl, (blk_cell hb 4).trans rfl, (blk_cell hb 5).trans rfl, (blk_cell hb 6).trans rfl, (blk_cell hb 7).trans rfl⟩, blk_frozen hb 0, blk_frozen hb 1, blk_frozen hb 2, blk_frozen hb 3, blk_frozen hb 4, blk_frozen hb 5, blk_frozen hb 6, blk_frozen hb 7⟩
def lastR (s : LS) : S30 := ⟨s.k, s.n, s.r, []⟩
def fitsB (s : LS) (x : S30) : Bool := !(twoS (lastR s) x).2.2.2.2 && ((x.f0 != 5) || ((s.k != 5) && (s.k != 0)))
def fitsR1.T : Bool × List (List Nat × List Nat) := (true, [([], []), ([0], [0]), ([1], [1]), ([2], [2]), ([], []), ([3, 4], [3, 4]), ([5], [5]), ([6], [6]), ([6], [6]), ([], []), ([9, 7, 5, 0, 1, 2, 3, 4, 5, 6, 7, 9], [7, 9]), ([8, 10, 0, 1, 2, 3, 4, 5, 6, 7, 8, 9, 10], [8])])
def fitsR1.B : List Nat := [0, 1, 3, 7, 0, 31, 63, 127, 127, 0, 767, 2047]
theorem fitsR1.tab : rtab .any (opsOf Try.f51 1) = fitsR1.T := by kernel_rfl
theorem fitsR1.bits : waitsOk fitsR1.T.2 fitsR1.B = true := by kernel_rfl
theorem kept4 (W : World) (b : Nat) (a' b' c' d' : Value) : Kept W ((((W.setCell ⟨b, 0, none⟩ a').setCell ⟨b, 1, none⟩ b').setCell ⟨b, 2, none⟩ c').setCell ⟨b, 3, none⟩ d') (fun k => k = b) := ((((Kept.refl W (fun k => k = b)).setCell (.inl rfl) _).setCell (.inl rfl) _).setCell (.inl rfl) _).setCell (.inl rfl) _
set_option maxHeartbeats 16000000 in
set_option maxRecDepth 100000 in
theorem lens_fits.calls_ (g : Nat) (s : LS) (x : S30) (A : Option Addr) (c : Nat) (w : World) (hL : LAt w g s) (hr : Kd.C (Kd.int .i64) w A x.f3.length x.f3) (hc : x.f3.length ≤ c) (h1 : okR (lastR s)) (h2 : okR x) :
    Calls Try.prog 51 #[.pointer (some ⟨g, 0, none⟩), .agg #[.int .i64 x.f0, .int .i64 x.f1, .int .i64 x.f2, .slice A x.f3.length c]] w fun e w' => e = .returned (.bool (fitsB s x)) ∧ Below w.heap.size w w' := by
  obtain ⟨kk, hk2⟩ := (two_ev (lastR s) x h1 h2).rounds
  unfold fitsB
  obtain ⟨⟨t1, t2, t3, t4, t5⟩, ht⟩ : ∃ q, twoS (lastR s) x = q := ⟨_, rfl⟩
  rw [ht] at hk2 ⊢
  have TW : Aside0 (merge_Two.f kk s.k s.n s.r [] x.f0 x.f1 x.f2 x.f3 = some (t1, t2, t3, t4, t5)) := ⟨hk2⟩
  have HX := Aside0.mk hr
  have HC := Aside0.mk hc
  have hu30 := Try.underlying30
  have hu61 := Try.underlying61
  have GL := Aside0.mk (blk_lt hL)
  have L0 : Aside0 (LAt w g s) := ⟨hL⟩
  clear hk2 ht hr hc hL h1 h2
  simp only
  go_enter Try.func51, Try.ntmps51
  go_upto_region 1 with fail
  have L := Aside0.mk (blk_below L0.out (below_alloc (Below.refl _ _) (.cells #[.int .i64 x.f0, .int .i64 x.f1, .int .i64 x.f2, .slice A x.f3.length c] 30)))
  have K3 := Aside0.mk (blk_new w (.cells #[.int .i64 x.f0, .int .i64 x.f1, .int .i64 x.f2, .slice A x.f3.length c] 30))
  have B := Aside0.mk (below_alloc (Below.refl w.heap.size w) (.cells #[.int .i64 x.f0, .int .i64 x.f1, .int .i64 x.f2, .slice A x.f3.length c] 30))
  have N3 := Aside0.mk (show w.heap.size ≠ g from by have h := GL.out; omega)
  clear L0
  generalize w.alloc (.cells #[.int .i64 x.f0, .int .i64 x.f1, .int .i64 x.f2, .slice A x.f3.length c] 30) = w1 at L K3 B ⊢
  obtain ⟨b3, hb3⟩ : ∃ b3, w.heap.size = b3 := ⟨_, rfl⟩
  rw [hb3] at K3 N3
  have HB3 := Aside0.mk hb3
  (try rw [hb3])
  clear hb3
  obtain ⟨⟨i0, i1, i2, i3, i4, i5, i6, i7⟩, u0, u1, u2, u3, u4, u5, u6, u7⟩ := cell8 L.out; obtain ⟨⟨k0, k1, k2, k3⟩, v0, v1, v2, v3⟩ := cell4 K3.out
  go_cut [6] (fun v6 wx => v6 = .bool t5 ∧ Aside0 (LAt wx g s) ∧ Aside0 (wx.heap[b3]? = some (.cells #[.int .i64 x.f0, .int .i64 x.f1, .int .i64 x.f2, .slice A x.f3.length c] 30 (0, 0))) ∧ Aside0 (Below w.heap.size w wx))
  case first =>
    refine start_ (n := 12) (S := (fun w' => w'.cell? ⟨g, 1, none⟩ = some (.int .i64 s.k) ∧ w'.cell? ⟨g, 2, none⟩ = some (.int .i64 s.n) ∧ w'.cell? ⟨g, 3, none⟩ = some (.int .i64 s.r) ∧ w'.cell? ⟨g, 4, none⟩ = some (.slice none 0 0) ∧ w'.cell? ⟨b3, 0, none⟩ = some (.int .i64 x.f0) ∧ w'.cell? ⟨b3, 1, none⟩ = some (.int .i64 x.f1) ∧ w'.cell? ⟨b3, 2, none⟩ = some (.int .i64 x.f2) ∧ w'.cell? ⟨b3, 3, none⟩ = some (.slice A x.f3.length c))) (ds := [10]) #[false, false, false, false, false, false, false, false, false, false, false, false] (by kernel_rfl) rfl rfl ⟨i1, i2, i3, i4, k0, k1, k2, k3⟩ (fun hHeld => ?_); refine with_tabW fitsR1.tab fitsR1.bits (fun HT_ HW_ => ?_)
    have hb := below_drew1 (Below.refl w1.heap.size w1)
    have LN := Aside0.mk (blk_below L.out hb); have KN := Aside0.mk (blk_below K3.out hb); have BN := Aside0.mk (below_step B.out hb); clear L K3 B; have L := LN; have K3 := KN; have B := BN; clear LN KN BN
    clear hb
    clear i0 i1 i2 i3 i4 i5 i6 i7 u0 u1 u2 u3 u4 u5 u6 u7 k0 k1 k2 k3 v0 v1 v2 v3
    generalize w1.drew = w4 at L K3 B hHeld ⊢
    obtain ⟨⟨i0, i1, i2, i3, i4, i5, i6, i7⟩, u0, u1, u2, u3, u4, u5, u6, u7⟩ := cell8 L.out; obtain ⟨⟨k0, k1, k2, k3⟩, v0, v1, v2, v3⟩ := cell4 K3.out
    refine pure_ (i := 0) (N := some 8) (v := ?_) (a' := ?_) #[true, false, false, false, false, false, false, false, false, false, false, false] rfl rfl (any_of HT_.out (by kernel_rfl)) (fun _ _ _ h => h) (Or.inl ⟨by rfl, ?_⟩) ?_ ?_
    rotate_left
    · intro w'
      go_simp
      with_reducible rfl
    rotate_left
    · simp only [Act.put, List.setIfInBounds_toArray, List.set_cons_zero, List.set_cons_succ, i64_w, i32_w]
      rfl
    refine pure_ (i := 1) (N := some 9) (v := ?_) (a' := ?_) #[true, true, false, false, false, false, false, false, false, false, false, false] rfl rfl (any_of HT_.out (by kernel_rfl)) (fun _ _ _ h => h) (Or.inl ⟨by rfl, ?_⟩) ?_ ?_
    rotate_left
    · intro w'
      go_simp
      with_reducible rfl
    rotate_left
    · simp only [Act.put, List.setIfInBounds_toArray, List.set_cons_zero, List.set_cons_succ, i64_w, i32_w]
      rfl
    refine pure_ (i := 2) (N := some 10) (v := ?_) (a' := ?_) #[true, true, true, false, false, false, false, false, false, false, false, false] rfl rfl (any_of HT_.out (by kernel_rfl)) (fun _ _ _ h => h) (Or.inl ⟨by rfl, ?_⟩) ?_ ?_
    rotate_left
    · intro w'
      go_simp
      with_reducible rfl
    rotate_left
    · simp only [Act.put, List.setIfInBounds_toArray, List.set_cons_zero, List.set_cons_succ, i64_w, i32_w]
      rfl
    refine take_ (i := 3) (N := some 11) (v := ?_) (a' := ?_) #[true, true, true, true, false, false, false, false, false, false, false, false] rfl rfl (take_ofW HT_.out HW_.out (by kernel_rfl)) (fun _ _ _ h => h) (Or.inl ⟨by rfl, ?_⟩) hHeld ?_ ?_
    rotate_left
    · rintro w' ⟨s0, s1, s2, s3, s4, s5, s6, s7⟩
      go_simp
      with_reducible rfl
    rotate_left
    · simp only [Act.put, List.setIfInBounds_toArray, List.set_cons_zero, List.set_cons_succ, i64_w, i32_w]
      rfl
    refine take_ (i := 4) (N := some 12) (v := ?_) (a' := ?_) #[true, true, true, true, true, false, false, false, false, false, false, false] rfl rfl (take_ofW HT_.out HW_.out (by kernel_rfl)) (fun _ _ _ h => h) (Or.inl ⟨by rfl, ?_⟩) hHeld ?_ ?_
    rotate_left
    · rintro w' ⟨s0, s1, s2, s3, s4, s5, s6, s7⟩
      go_simp
      with_reducible rfl
    rotate_left
    · simp only [Act.put, List.setIfInBounds_toArray, List.set_cons_zero, List.set_cons_succ, i64_w, i32_w]
      rfl
    refine two_ (i := 5) (j := 9) (Ni := some 13) (Nj := some 5) #[true, true, true, true, true, true, false, false, false, false, false, false] #[true, true, true, true, true, false, false, false, false, true, false, false] rfl rfl rfl rfl (two_of HT_.out (by kernel_rfl)) (by decide) (by decide) (fun K hK => ?_) (fun K hK => ?_)
    · skip
      refine goes_ Try.func66 (by kernel_rfl) rfl #[.agg #[.int .i64 s.k, .int .i64 s.n, .int .i64 s.r, .slice none ([] : List Int).length 0], .agg #[.int .i64 x.f0, .int .i64 x.f1, .int .i64 x.f2, .slice A x.f3.length c]] (by rfl) rfl rfl (by (try simp only [List.map_toArray, List.map_cons, List.map_nil]); first | done | rfl) ?_
      refine (merge_Two.calls kk s.k s.n s.r none 0 [] x.f0 x.f1 x.f2 A c x.f3 t1 t2 t3 t4 t5 _ (Kd.C_nil _ _) (Nat.le_refl _) (Kd.C_below HX.out B.out) HC.out TW.out).mono ?_
      rintro e w5 ⟨v5, rfl, hR, hb⟩
      refine ⟨_, rfl, ?_⟩
      obtain ⟨A5, c5, rfl⟩ := Kd.R_slice hR
      have LN := Aside0.mk (blk_below L.out hb); have KN := Aside0.mk (blk_below K3.out hb); have BN := Aside0.mk (below_step B.out hb); clear L K3 B; have L := LN; have K3 := KN; have B := BN; clear LN KN BN
      (try (have K5N := Aside0.mk (blk_below K5.out hb); clear K5; have K5 := K5N; clear K5N))
      clear hb hR
      clear i0 i1 i2 i3 i4 i5 i6 i7 u0 u1 u2 u3 u4 u5 u6 u7 k0 k1 k2 k3 v0 v1 v2 v3
      obtain ⟨⟨i0, i1, i2, i3, i4, i5, i6, i7⟩, u0, u1, u2, u3, u4, u5, u6, u7⟩ := cell8 L.out; obtain ⟨⟨k0, k1, k2, k3⟩, v0, v1, v2, v3⟩ := cell4 K3.out
      refine hK.out _ _ ⟨i1, i2, i3, i4, k0, k1, k2, k3⟩ (fun hHeld => ?_)
      clear hK K
      refine norm_ (a' := ?_) ?_ ?_
      rotate_left
      · show Act.put _ (some 13) _ = _
        simp only [Act.put, List.setIfInBounds_toArray, List.set_cons_zero, List.set_cons_succ, i64_w, i32_w]
        rfl
      refine pure_ (i := 6) (N := some 7) (v := ?_) (a' := ?_) #[true, true, true, true, true, true, true, false, false, false, false, false] rfl rfl (any_of HT_.out (by kernel_rfl)) (fun _ _ _ h => h) (Or.inl ⟨by rfl, ?_⟩) ?_ ?_
      rotate_left
      · intro w'
        go_simp
        with_reducible rfl
      rotate_left
      · simp only [Act.put, List.setIfInBounds_toArray, List.set_cons_zero, List.set_cons_succ, i64_w, i32_w]
        rfl
      refine pure_ (i := 7) (N := some 14) (v := ?_) (a' := ?_) #[true, true, true, true, true, true, true, true, false, false, false, false] rfl rfl (any_of HT_.out (by kernel_rfl)) (fun _ _ _ h => h) (Or.inl ⟨by rfl, ?_⟩) ?_ ?_
      rotate_left
      · intro w'
        go_simp
        with_reducible rfl
      rotate_left
      · simp only [Act.put, List.setIfInBounds_toArray, List.set_cons_zero, List.set_cons_succ, i64_w, i32_w]
        rfl
      refine pure_ (i := 8) (N := some 15) (v := ?_) (a' := ?_) #[true, true, true, true, true, true, true, true, true, false, false, false] rfl rfl (any_of HT_.out (by kernel_rfl)) (fun _ _ _ h => h) (Or.inl ⟨by rfl, ?_⟩) ?_ ?_
      rotate_left
      · intro w'
        go_simp
        with_reducible rfl
      rotate_left
      · simp only [Act.put, List.setIfInBounds_toArray, List.set_cons_zero, List.set_cons_succ, i64_w, i32_w]
        rfl
      refine one_ (i := 9) (N := some 5) #[true, true, true, true, true, true, true, true, true, true, false, false] rfl rfl (one_of HT_.out (by kernel_rfl)) (by decide) (fun K hK => ?_)
      refine box_step ?hg (N := 5) ?hd (cs := #[.int .i64 0, .int .i64 0, .int .i64 0, .slice none 0 0]) (t := 30) ?hr ?_; (case hd => rfl); (case hg => rfl); (case hr => first | (go_simp; done) | (go_simp; rfl))
      intro b5 hg5 w9 hbox hb
      have N5 := Aside0.mk (show w.heap.size ≤ b5 ∧ b5 ≠ g ∧ b5 ≠ b3 from by have h1 := blk_lt L.out; have h2 := blk_lt K3.out; have h3 := B.out.size; exact ⟨by omega, by omega, by omega⟩)
      have K5 := Aside0.mk hbox
      have LN := Aside0.mk (blk_below L.out hb); have KN := Aside0.mk (blk_below K3.out hb); have BN := Aside0.mk (below_step B.out hb); clear L K3 B; have L := LN; have K3 := KN; have B := BN; clear LN KN BN
      clear hb hbox hg5
      clear i0 i1 i2 i3 i4 i5 i6 i7 u0 u1 u2 u3 u4 u5 u6 u7 k0 k1 k2 k3 v0 v1 v2 v3
      obtain ⟨⟨i0, i1, i2, i3, i4, i5, i6, i7⟩, u0, u1, u2, u3, u4, u5, u6, u7⟩ := cell8 L.out; obtain ⟨⟨k0, k1, k2, k3⟩, v0, v1, v2, v3⟩ := cell4 K3.out
      refine hK.out _ _ ⟨i1, i2, i3, i4, k0, k1, k2, k3⟩ (fun hHeld => ?_)
      clear hK K
      refine norm_ (a' := ?_) ?_ ?_
      rotate_left
      · show Act.put _ (some 5) _ = _
        simp only [Act.put, List.setIfInBounds_toArray, List.set_cons_zero, List.set_cons_succ, i64_w, i32_w]
        rfl
      refine last_ (i := 10) (N := none) #[true, true, true, true, true, true, true, true, true, true, true, false] rfl rfl (one_of HT_.out (by kernel_rfl)) (by decide) (fun K hK => ?_)
      obtain ⟨⟨e0, e1, e2, e3⟩, f0, f1, f2, f3⟩ := cell4 K5.out
      refine skip_ (w1 := ?_) (by rfl) rfl ?_ ?_
      rotate_left
      · go_simp
        rfl
      refine hK.out _ _ ?_
      clear hK K
      refine pure_ (i := 11) (N := some 6) (v := ?_) (a' := ?_) #[true, true, true, true, true, true, true, true, true, true, true, true] rfl rfl (any_of HT_.out (by kernel_rfl)) (fun _ _ _ h => h) (Or.inl ⟨by rfl, ?_⟩) ?_ ?_
      rotate_left
      · intro w'
        go_simp
        with_reducible rfl
      rotate_left
      · simp only [Act.put, List.setIfInBounds_toArray, List.set_cons_zero, List.set_cons_succ, i64_w, i32_w]
        rfl
      refine done_ (done_of HT_.out (by kernel_rfl)) ?_
      go_wp2_with fail
      go_meet
      exact ⟨rfl, ⟨blk_kept L.out (kept4 _ b5 _ _ _ _) (Ne.symm N5.out.2.1)⟩, ⟨blk_kept K3.out (kept4 _ b5 _ _ _ _) (Ne.symm N5.out.2.2)⟩, ⟨below4_put B.out N5.out.1⟩⟩
    · skip
      refine box_step ?hg (N := 5) ?hd (cs := #[.int .i64 0, .int .i64 0, .int .i64 0, .slice none 0 0]) (t := 30) ?hr ?_; (case hd => rfl); (case hg => rfl); (case hr => first | (go_simp; done) | (go_simp; rfl))
      intro b5 hg5 w9 hbox hb
      have N5 := Aside0.mk (show w.heap.size ≤ b5 ∧ b5 ≠ g ∧ b5 ≠ b3 from by have h1 := blk_lt L.out; have h2 := blk_lt K3.out; have h3 := B.out.size; exact ⟨by omega, by omega, by omega⟩)
      have K5 := Aside0.mk hbox
      have LN := Aside0.mk (blk_below L.out hb); have KN := Aside0.mk (blk_below K3.out hb); have BN := Aside0.mk (below_step B.out hb); clear L K3 B; have L := LN; have K3 := KN; have B := BN; clear LN KN BN
      clear hb hbox hg5
      clear i0 i1 i2 i3 i4 i5 i6 i7 u0 u1 u2 u3 u4 u5 u6 u7 k0 k1 k2 k3 v0 v1 v2 v3
      obtain ⟨⟨i0, i1, i2, i3, i4, i5, i6, i7⟩, u0, u1, u2, u3, u4, u5, u6, u7⟩ := cell8 L.out; obtain ⟨⟨k0, k1, k2, k3⟩, v0, v1, v2, v3⟩ := cell4 K3.out
      refine hK.out _ _ ⟨i1, i2, i3, i4, k0, k1, k2, k3⟩ (fun hHeld => ?_)
      clear hK K
      refine norm_ (a' := ?_) ?_ ?_
      rotate_left
      · show Act.put _ (some 5) _ = _
        simp only [Act.put, List.setIfInBounds_toArray, List.set_cons_zero, List.set_cons_succ, i64_w, i32_w]
        rfl
      refine one_ (i := 5) (N := some 13) #[true, true, true, true, true, true, false, false, false, true, false, false] rfl rfl (one_of HT_.out (by kernel_rfl)) (by decide) (fun K hK => ?_)
      refine goes_ Try.func66 (by kernel_rfl) rfl #[.agg #[.int .i64 s.k, .int .i64 s.n, .int .i64 s.r, .slice none ([] : List Int).length 0], .agg #[.int .i64 x.f0, .int .i64 x.f1, .int .i64 x.f2, .slice A x.f3.length c]] (by rfl) rfl rfl (by (try simp only [List.map_toArray, List.map_cons, List.map_nil]); first | done | rfl) ?_
      refine (merge_Two.calls kk s.k s.n s.r none 0 [] x.f0 x.f1 x.f2 A c x.f3 t1 t2 t3 t4 t5 _ (Kd.C_nil _ _) (Nat.le_refl _) (Kd.C_below HX.out B.out) HC.out TW.out).mono ?_
      rintro e w5 ⟨v5, rfl, hR, hb⟩
      refine ⟨_, rfl, ?_⟩
      obtain ⟨A5, c5, rfl⟩ := Kd.R_slice hR
      have LN := Aside0.mk (blk_below L.out hb); have KN := Aside0.mk (blk_below K3.out hb); have BN := Aside0.mk (below_step B.out hb); clear L K3 B; have L := LN; have K3 := KN; have B := BN; clear LN KN BN
      (try (have K5N := Aside0.mk (blk_below K5.out hb); clear K5; have K5 := K5N; clear K5N))
      clear hb hR
      clear i0 i1 i2 i3 i4 i5 i6 i7 u0 u1 u2 u3 u4 u5 u6 u7 k0 k1 k2 k3 v0 v1 v2 v3
      obtain ⟨⟨i0, i1, i2, i3, i4, i5, i6, i7⟩, u0, u1, u2, u3, u4, u5, u6, u7⟩ := cell8 L.out; obtain ⟨⟨k0, k1, k2, k3⟩, v0, v1, v2, v3⟩ := cell4 K3.out
      refine hK.out _ _ ⟨i1, i2, i3, i4, k0, k1, k2, k3⟩ (fun hHeld => ?_)
      clear hK K
      refine norm_ (a' := ?_) ?_ ?_
      rotate_left
      · show Act.put _ (some 13) _ = _
        simp only [Act.put, List.setIfInBounds_toArray, List.set_cons_zero, List.set_cons_succ, i64_w, i32_w]
        rfl
      refine pure_ (i := 6) (N := some 7) (v := ?_) (a' := ?_) #[true, true, true, true, true, true, true, false, false, true, false, false] rfl rfl (any_of HT_.out (by kernel_rfl)) (fun _ _ _ h => h) (Or.inl ⟨by rfl, ?_⟩) ?_ ?_
      rotate_left
      · intro w'
        go_simp
        with_reducible rfl
      rotate_left
      · simp only [Act.put, List.setIfInBounds_toArray, List.set_cons_zero, List.set_cons_succ, i64_w, i32_w]
        rfl
      refine pure_ (i := 7) (N := some 14) (v := ?_) (a' := ?_) #[true, true, true, true, true, true, true, true, false, true, false, false] rfl rfl (any_of HT_.out (by kernel_rfl)) (fun _ _ _ h => h) (Or.inl ⟨by rfl, ?_⟩) ?_ ?_
      rotate_left
      · intro w'
        go_simp
        with_reducible rfl
      rotate_left
      · simp only [Act.put, List.setIfInBounds_toArray, List.set_cons_zero, List.set_cons_succ, i64_w, i32_w]
        rfl
      refine pure_ (i := 8) (N := some 15) (v := ?_) (a' := ?_) #[true, true, true, true, true, true, true, true, true, true, false, false] rfl rfl (any_of HT_.out (by kernel_rfl)) (fun _ _ _ h => h) (Or.inl ⟨by rfl, ?_⟩) ?_ ?_
      rotate_left
      · intro w'
        go_simp
        with_reducible rfl
      rotate_left
      · simp only [Act.put, List.setIfInBounds_toArray, List.set_cons_zero, List.set_cons_succ, i64_w, i32_w]
        rfl
      refine last_ (i := 10) (N := none) #[true, true, true, true, true, true, true, true, true, true, true, false] rfl rfl (one_of HT_.out (by kernel_rfl)) (by decide) (fun K hK => ?_)
      obtain ⟨⟨e0, e1, e2, e3⟩, f0, f1, f2, f3⟩ := cell4 K5.out
      refine skip_ (w1 := ?_) (by rfl) rfl ?_ ?_
      rotate_left
      · go_simp
        rfl
      refine hK.out _ _ ?_
      clear hK K
      refine pure_ (i := 11) (N := some 6) (v := ?_) (a' := ?_) #[true, true, true, true, true, true, true, true, true, true, true, true] rfl rfl (any_of HT_.out (by kernel_rfl)) (fun _ _ _ h => h) (Or.inl ⟨by rfl, ?_⟩) ?_ ?_
      rotate_left
      · intro w'
        go_simp
        with_reducible rfl
      rotate_left
      · simp only [Act.put, List.setIfInBounds_toArray, List.set_cons_zero, List.set_cons_succ, i64_w, i32_w]
        rfl
      refine done_ (done_of HT_.out (by kernel_rfl)) ?_
      go_wp2_with fail
      go_meet
      exact ⟨rfl, ⟨blk_kept L.out (kept4 _ b5 _ _ _ _) (Ne.symm N5.out.2.1)⟩, ⟨blk_kept K3.out (kept4 _ b5 _ _ _ _) (Ne.symm N5.out.2.2)⟩, ⟨below4_put B.out N5.out.1⟩⟩
  case rest =>
    obtain ⟨rfl, L, K3, B⟩ := hcut
    obtain ⟨⟨i0, i1, i2, i3, i4, i5, i6, i7⟩, u0, u1, u2, u3, u4, u5, u6, u7⟩ := cell8 L.out; obtain ⟨⟨k0, k1, k2, k3⟩, v0, v1, v2, v3⟩ := cell4 K3.out
    cases t5 with
    | true =>
      go_wp2
      go_ret
      exact ⟨by first | rfl | (simp [*]; done), B.out⟩
    | false =>
      by_cases h5 : x.f0 = 5
      · have e5 : (x.f0 != 5) = false := bne_eq_false_iff_eq.mpr h5
        by_cases h6 : s.k = 5
        · have e6 : (s.k != 5) = false := bne_eq_false_iff_eq.mpr h6
          go_wp2
          go_ret
          exact ⟨by first | rfl | (simp [*]; done), B.out⟩
        · have e6 : (s.k != 5) = true := bne_iff_ne.mpr h6
          by_cases h7 : s.k = 0
          · have e7 : (s.k != 0) = false := bne_eq_false_iff_eq.mpr h7
            go_wp2
            go_ret
            exact ⟨by first | rfl | (simp [*]; done), B.out⟩
          · have e7 : (s.k != 0) = true := bne_iff_ne.mpr h7
            go_wp2
            go_ret
            exact ⟨by first | rfl | (simp [*]; done), B.out⟩
      · have e5 : (x.f0 != 5) = true := bne_iff_ne.mpr h5
        go_wp2
        go_ret
        exact ⟨by first | rfl | (simp [*]; done), B.out⟩
end Go.Proofs.Ytejcopppchaneaa.PF
end
section
set_option linter.unusedVariables false
set_option linter.unusedSimpArgs false
namespace Go.Proofs.Ytejcopppchaneaa.PF
open Go.RowKit Go.Proofs.YtejcopppchaneaaW.PrintWords Go.Proofs.YtejcopppchaneaaW.PrintLast Go.Proofs.YtejcopppchaneaaW.PrintMore Go.Proofs.Ytejcopppchaneaa.Pure
def xOf (p : RT) : S30 := ⟨p.1, p.2.1, p.2.2.1, p.2.2.2.1⟩
def takeQ (closed fit : Bool) (q : RT) : RT := if (q.2.2.2.2.2 == 4 && !closed) = true then er 0 else if (q.2.2.2.2.2 == 0 && !fit) = true then er 9 else q
def takeS (s : LS) : RT :=
  if s.e ≠ 0 then er s.e
  else if s.ended = true then (if s.rest.size = 0 then er 0 else er 20)
  else takeQ s.closed (fitsB s (xOf (rt s.rest))) (rt s.rest)
set_option maxHeartbeats 16000000 in
set_option maxRecDepth 100000 in
theorem lens_take.calls_ (g : Nat) (rest : ByteArray) (k n r : Int) (closed ended : Bool) (e0 : Int) (p : RT) (w : World) (hL : LAt w g ⟨rest, k, n, r, closed, ended, e0⟩) (hz : rest.size ≤ 60000) (h1 : okR (lastR ⟨rest, k, n, r, closed, ended, e0⟩)) (h2 : (rt rest).2.2.2.2.2 = 0 → okR (xOf (rt rest))) (hp : takeS ⟨rest, k, n, r, closed, ended, e0⟩ = p) :
    Calls Try.prog 34 #[.pointer (some ⟨g, 0, none⟩)] w fun e w' => ∃ v : Value, e = .returned (.tuple #[.agg #[.int .i64 p.1, .int .i64 p.2.1, .int .i64 p.2.2.1, v], .int .i64 p.2.2.2.2.1, .int .i64 p.2.2.2.2.2]) ∧ Kd.R (Kd.int .i64) 3 w' w.heap.size (fun _ => True) v p.2.2.2.1 ∧ Below w.heap.size w w' := by
  have hu30 := Try.underlying30
  have hu61 := Try.underlying61
  have L : Aside0 (w.heap[g]? = some (.cells #[.string rest, .int .i64 k, .int .i64 n, .int .i64 r, .slice none 0 0, .bool closed, .bool ended, .int .i64 e0] 61 (0, 0))) := ⟨hL⟩
  have H1 := Aside0.mk h1
  have H2 := Aside0.mk h2
  have HZ := Aside0.mk hz
  have HP := Aside0.mk hp
  clear hL h1 h2 hz hp
  go_enter Try.func34, Try.ntmps34
  go_upto_region 1 with (first | ((with_reducible refine gate_dst (N := 2) rfl ?_); refine box_event ?hg (N := 2) ?hd (cs := #[.int .i64 0, .int .i64 0, .int .i64 0, .slice none 0 0]) (t := 30) ?hr ?_; (case hd => rfl); (case hg => rfl); (case hr => first | (go_simp; done) | (go_simp; rfl)); intro gr hg_ w1 hbox hb; have GR := Aside0.mk (show w.heap.size ≤ gr by omega); clear hg_; have BR := Aside0.mk hbox; have LN := Aside0.mk (blk_below L.out hb); clear L; have L := LN; clear LN; have HB := Aside0.mk hb; clear hbox hb; obtain ⟨⟨i0, i1, i2, i3, i4, i5, i6, i7⟩, u0, u1, u2, u3, u4, u5, u6, u7⟩ := cell8 L.out; obtain ⟨⟨k0, k1, k2, k3⟩, z0, z1, z2, z3⟩ := cell4 BR.out) | fail)
  by_cases he : e0 = 0
  · have e1 : (e0 != 0) = false := bne_eq_false_iff_eq.mpr he
    cases ended with
    | true =>
      by_cases hr : rest.size = 0
      · have hp := HP.out
        rw [takeS, if_neg (by simp [he]), if_pos rfl, if_pos hr] at hp
        subst hp
        have er1 : rest.toList.isEmpty = true := by rw [toList_empty]; exact decide_eq_true (by omega)
        go_wp2
        ((try simp only [Exit.inBlock, Exit.then]); refine bodyPost_ret (results_ctt rfl _ _ gr 30 #[.int .i64 0, .int .i64 0, .int .i64 0, .slice none 0 0] (0, 0) _ rfl (by exact blk4_put BR.out) Try.underlying30 rfl (by kernel_rfl)) rfl ?_)
        exact ⟨_, rfl, Kd.R_nil _ _ _ _ _, below4_put HB.out GR.out⟩
      · have hp := HP.out
        rw [takeS, if_neg (by simp [he]), if_pos rfl, if_neg hr] at hp
        subst hp
        have er1 : rest.toList.isEmpty = false := by rw [toList_empty]; exact decide_eq_false (by omega)
        go_wp2
        ((try simp only [Exit.inBlock, Exit.then]); refine bodyPost_ret (results_ctt rfl _ _ gr 30 #[.int .i64 0, .int .i64 0, .int .i64 0, .slice none 0 0] (0, 0) _ rfl (by exact blk4_put BR.out) Try.underlying30 rfl (by kernel_rfl)) rfl ?_)
        exact ⟨_, rfl, Kd.R_nil _ _ _ _ _, below4_put HB.out GR.out⟩
    | false =>
      obtain ⟨kk, hk⟩ := (rec_take_ev rest (by have := HZ.out; omega)).rounds
      have hp := HP.out
      rw [takeS, if_neg (by simp [he]), if_neg (by simp)] at hp
      simp only at hp
      have h2 := H2.out
      obtain ⟨⟨q1, q2, q3, q4, q5, q6⟩, hq⟩ : ∃ q, rt rest = q := ⟨_, rfl⟩
      rw [hq] at hk hp h2
      simp only [xOf] at hp h2
      have RTK := Aside0.mk hk
      have H2 := Aside0.mk h2
      clear HP
      have HP := Aside0.mk hp
      clear hk hp hq h2
      go_upto_region 8 with (first | (go_at_call 50; (with_reducible refine (record_Take.calls kk rest q1 q2 q3 q4 q5 q6 _ RTK.out).mono ?_); rintro e w2 ⟨v, rfl, hR, hb⟩; obtain ⟨A, c, rfl⟩ := Kd.R_slice hR; have HR := Aside0.mk (Kd.R_lower hR HB.out.size); have LN := Aside0.mk (blk_below L.out hb); have KN := Aside0.mk (blk_below BR.out hb); have BN := Aside0.mk (below_step HB.out hb); clear L BR HB i0 i1 i2 i3 i4 i5 i6 i7 u0 u1 u2 u3 u4 u5 u6 u7 k0 k1 k2 k3 z0 z1 z2 z3; have L := LN; have BR := KN; have HB := BN; clear LN KN BN; obtain ⟨⟨i0, i1, i2, i3, i4, i5, i6, i7⟩, u0, u1, u2, u3, u4, u5, u6, u7⟩ := cell8 L.out; obtain ⟨⟨k0, k1, k2, k3⟩, z0, z1, z2, z3⟩ := cell4 BR.out; clear hb hR) | ((with_reducible refine gate_dst (N := 5) rfl ?_); refine box_event ?hg (N := 5) ?hd (cs := #[.int .i64 0, .int .i64 0, .int .i64 0, .slice none 0 0]) (t := 30) ?hr ?_; (case hd => rfl); (case hg => rfl); (case hr => first | (go_simp; done) | (go_simp; rfl)); intro gx hg_ w3 hbox hb; have NX := Aside0.mk (show gx ≠ g ∧ gx ≠ gr ∧ w.heap.size ≤ gx from by have h1 := blk_lt L.out; have h2 := blk_lt BR.out; have h3 := HB.out.size; exact ⟨by omega, by omega, by omega⟩); clear hg_; have BX := Aside0.mk hbox; have LN := Aside0.mk (blk_below L.out hb); have KN := Aside0.mk (blk_below BR.out hb); have RN := Aside0.mk (Kd.R_below HR.out hb); have BN := Aside0.mk (below_step HB.out hb); clear L BR HR HB i0 i1 i2 i3 i4 i5 i6 i7 u0 u1 u2 u3 u4 u5 u6 u7 k0 k1 k2 k3 z0 z1 z2 z3; have L := LN; have BR := KN; have HR := RN; have HB := BN; clear LN KN RN BN; clear hbox hb; obtain ⟨⟨i0, i1, i2, i3, i4, i5, i6, i7⟩, u0, u1, u2, u3, u4, u5, u6, u7⟩ := cell8 L.out; obtain ⟨⟨k0, k1, k2, k3⟩, z0, z1, z2, z3⟩ := cell4 BR.out; obtain ⟨⟨l0, l1, l2, l3⟩, m0, m1, m2, m3⟩ := cell4 BX.out) | fail)
      have HR3 := Aside0.mk (row4_put (a' := .int .i64 q1) (b' := .int .i64 q2) (c' := .int .i64 q3) (d' := .slice A q4.length c) BX.out HR.out)
      have L3 := Aside0.mk (blk_kept L.out (kept4 _ gx (.int .i64 q1) (.int .i64 q2) (.int .i64 q3) (.slice A q4.length c)) (Ne.symm NX.out.1))
      have BR3 := Aside0.mk (blk_kept BR.out (kept4 _ gx (.int .i64 q1) (.int .i64 q2) (.int .i64 q3) (.slice A q4.length c)) (Ne.symm NX.out.2.1))
      have HB3 := Aside0.mk (below4_put (a' := .int .i64 q1) (b' := .int .i64 q2) (c' := .int .i64 q3) (d' := .slice A q4.length c) HB.out NX.out.2.2)
      have BX3 := Aside0.mk (blk4_put (a' := .int .i64 q1) (b' := .int .i64 q2) (c' := .int .i64 q3) (d' := .slice A q4.length c) BX.out)
      clear L BR HB HR BX i0 i1 i2 i3 i4 i5 i6 i7 u0 u1 u2 u3 u4 u5 u6 u7 k0 k1 k2 k3 z0 z1 z2 z3 l0 l1 l2 l3 m0 m1 m2 m3
      generalize ((((w3.setCell ⟨gx, 0, none⟩ (.int .i64 q1)).setCell ⟨gx, 1, none⟩ (.int .i64 q2)).setCell ⟨gx, 2, none⟩ (.int .i64 q3)).setCell ⟨gx, 3, none⟩ (.slice A q4.length c)) = w4 at L3 BR3 HB3 BX3 HR3 ⊢
      obtain ⟨⟨i0, i1, i2, i3, i4, i5, i6, i7⟩, u0, u1, u2, u3, u4, u5, u6, u7⟩ := cell8 L3.out
      obtain ⟨⟨k0, k1, k2, k3⟩, z0, z1, z2, z3⟩ := cell4 BR3.out
      obtain ⟨⟨l0, l1, l2, l3⟩, m0, m1, m2, m3⟩ := cell4 BX3.out
      have fin : ∀ (w5 : World), w5.heap[gr]? = some (.cells #[.int .i64 0, .int .i64 0, .int .i64 0, .slice none 0 0] 30 (0, 0)) → True := fun _ _ => trivial
      by_cases h4 : q6 = 4
      · have e4 : (q6 == 4) = true := beq_iff_eq.mpr h4
        have e5 : (q6 == 0) = false := beq_eq_false_iff_ne.mpr (by omega)
        cases closed with
        | false =>
          have hp := HP.out
          rw [show takeQ false _ (q1, q2, q3, q4, q5, q6) = er 0 from by simp [takeQ, e4]] at hp
          subst hp
          go_wp2
          ((try simp only [Exit.inBlock, Exit.then]); refine bodyPost_ret (results_ctt rfl _ _ gr 30 #[.int .i64 0, .int .i64 0, .int .i64 0, .slice none 0 0] (0, 0) _ rfl (by exact blk4_put BR3.out) Try.underlying30 rfl (by kernel_rfl)) rfl ?_)
          exact ⟨_, rfl, Kd.R_nil _ _ _ _ _, below4_put HB3.out GR.out⟩
        | true =>
          have hp := HP.out
          rw [show takeQ true _ (q1, q2, q3, q4, q5, q6) = (q1, q2, q3, q4, q5, q6) from by simp [takeQ, e4, e5]] at hp
          subst hp
          go_wp2
          ((try simp only [Exit.inBlock, Exit.then]); refine bodyPost_ret (results_ctt rfl _ _ gr 30 #[.int .i64 q1, .int .i64 q2, .int .i64 q3, .slice A q4.length c] (0, 0) _ rfl (by exact blk4_put BR3.out) Try.underlying30 rfl (by kernel_rfl)) rfl ?_)
          exact ⟨_, rfl, row4_put BR3.out HR3.out, below4_put HB3.out GR.out⟩
      · have e4 : (q6 == 4) = false := beq_eq_false_iff_ne.mpr h4
        have hp := HP.out
        by_cases h5 : q6 = 0
        · have e5 : (q6 == 0) = true := beq_iff_eq.mpr h5
          have HC := Aside0.mk (Kd.R_reads' HR3.out).2.2
          have HL := Aside0.mk (Kd.R_reads' HR3.out).2.1
          have HF := Aside0.mk (H2.out h5)
          have FF : Calls Try.prog 51 #[.pointer (some ⟨g, 0, none⟩), .agg #[.int .i64 q1, .int .i64 q2, .int .i64 q3, .slice A q4.length c]] w4 fun e w' => e = .returned (.bool (fitsB ⟨rest, k, n, r, closed, false, e0⟩ ⟨q1, q2, q3, q4⟩)) ∧ Below w4.heap.size w4 w' := lens_fits.calls_ g ⟨rest, k, n, r, closed, false, e0⟩ ⟨q1, q2, q3, q4⟩ A c w4 L3.out HC.out HL.out H1.out HF.out
          have FF := Aside0.mk FF
          cases hf : fitsB ⟨rest, k, n, r, closed, false, e0⟩ ⟨q1, q2, q3, q4⟩ with
          | false =>
            rw [show takeQ closed _ (q1, q2, q3, q4, q5, q6) = er 9 from by simp [takeQ, e4, e5, hf]] at hp
            subst hp
            have HFB := Aside0.mk hf
            clear hf
            go_wp2_with (first | (go_at_call 51; (with_reducible refine FF.out.mono ?_); rintro e w5 ⟨he5, hb⟩; rw [HFB.out] at he5; subst he5; have LN := Aside0.mk (blk_below L3.out hb); have KN := Aside0.mk (blk_below BR3.out hb); have XN := Aside0.mk (blk_below BX3.out hb); have BN := Aside0.mk (below_step HB3.out hb); have RN := Aside0.mk (Kd.R_below HR3.out hb); clear L3 BR3 BX3 HB3 HC HL HR3 i0 i1 i2 i3 i4 i5 i6 i7 u0 u1 u2 u3 u4 u5 u6 u7 k0 k1 k2 k3 z0 z1 z2 z3 l0 l1 l2 l3 m0 m1 m2 m3; have L3 := LN; have BR3 := KN; have BX3 := XN; have HB3 := BN; have HR3 := RN; clear LN KN BN XN RN; obtain ⟨⟨i0, i1, i2, i3, i4, i5, i6, i7⟩, u0, u1, u2, u3, u4, u5, u6, u7⟩ := cell8 L3.out; obtain ⟨⟨k0, k1, k2, k3⟩, z0, z1, z2, z3⟩ := cell4 BR3.out; obtain ⟨⟨l0, l1, l2, l3⟩, m0, m1, m2, m3⟩ := cell4 BX3.out; clear hb) | fail)
            ((try simp only [Exit.inBlock, Exit.then]); refine bodyPost_ret (results_ctt rfl _ _ gr 30 #[.int .i64 0, .int .i64 0, .int .i64 0, .slice none 0 0] (0, 0) _ rfl (by exact blk4_put BR3.out) Try.underlying30 rfl (by kernel_rfl)) rfl ?_)
            exact ⟨_, rfl, Kd.R_nil _ _ _ _ _, below4_put HB3.out GR.out⟩
          | true =>
            rw [show takeQ closed _ (q1, q2, q3, q4, q5, q6) = (q1, q2, q3, q4, q5, q6) from by simp [takeQ, e4, e5, hf]] at hp
            subst hp
            have HFB := Aside0.mk hf
            clear hf
            go_wp2_with (first | (go_at_call 51; (with_reducible refine FF.out.mono ?_); rintro e w5 ⟨he5, hb⟩; rw [HFB.out] at he5; subst he5; have LN := Aside0.mk (blk_below L3.out hb); have KN := Aside0.mk (blk_below BR3.out hb); have XN := Aside0.mk (blk_below BX3.out hb); have BN := Aside0.mk (below_step HB3.out hb); have RN := Aside0.mk (Kd.R_below HR3.out hb); clear L3 BR3 BX3 HB3 HC HL HR3 i0 i1 i2 i3 i4 i5 i6 i7 u0 u1 u2 u3 u4 u5 u6 u7 k0 k1 k2 k3 z0 z1 z2 z3 l0 l1 l2 l3 m0 m1 m2 m3; have L3 := LN; have BR3 := KN; have BX3 := XN; have HB3 := BN; have HR3 := RN; clear LN KN BN XN RN; obtain ⟨⟨i0, i1, i2, i3, i4, i5, i6, i7⟩, u0, u1, u2, u3, u4, u5, u6, u7⟩ := cell8 L3.out; obtain ⟨⟨k0, k1, k2, k3⟩, z0, z1, z2, z3⟩ := cell4 BR3.out; obtain ⟨⟨l0, l1, l2, l3⟩, m0, m1, m2, m3⟩ := cell4 BX3.out; clear hb) | fail)
            ((try simp only [Exit.inBlock, Exit.then]); refine bodyPost_ret (results_ctt rfl _ _ gr 30 #[.int .i64 q1, .int .i64 q2, .int .i64 q3, .slice A q4.length c] (0, 0) _ rfl (by exact blk4_put BR3.out) Try.underlying30 rfl (by kernel_rfl)) rfl ?_)
            exact ⟨_, rfl, row4_put BR3.out HR3.out, below4_put HB3.out GR.out⟩
        · have e5 : (q6 == 0) = false := beq_eq_false_iff_ne.mpr h5
          rw [show takeQ closed _ (q1, q2, q3, q4, q5, q6) = (q1, q2, q3, q4, q5, q6) from by simp [takeQ, e4, e5]] at hp
          subst hp
          go_wp2
          ((try simp only [Exit.inBlock, Exit.then]); refine bodyPost_ret (results_ctt rfl _ _ gr 30 #[.int .i64 q1, .int .i64 q2, .int .i64 q3, .slice A q4.length c] (0, 0) _ rfl (by exact blk4_put BR3.out) Try.underlying30 rfl (by kernel_rfl)) rfl ?_)
          exact ⟨_, rfl, row4_put BR3.out HR3.out, below4_put HB3.out GR.out⟩
  · have e1 : (e0 != 0) = true := bne_iff_ne.mpr he
    have hp := HP.out
    rw [takeS, if_pos he] at hp
    subst hp
    go_wp2
    go_region
    all_goals go_wp2
    all_goals ((try simp only [Exit.inBlock, Exit.then]); refine bodyPost_ret (results_ctt rfl _ _ gr 30 #[.int .i64 0, .int .i64 0, .int .i64 0, .slice none 0 0] (0, 0) _ rfl (by refine blk_drew ?_; exact blk4_put BR.out) Try.underlying30 rfl (by kernel_rfl)) rfl ?_)
    all_goals exact ⟨_, rfl, Kd.R_nil _ _ _ _ _, below_drew (below4_put HB.out GR.out)⟩
end Go.Proofs.Ytejcopppchaneaa.PF
end
section
set_option linter.unusedVariables false
set_option linter.unusedSimpArgs false
namespace Go.Proofs.Ytejcopppchaneaa.PF
open Go.RowKit Go.Proofs.YtejcopppchaneaaW.PrintWords Go.Proofs.YtejcopppchaneaaW.PrintLast Go.Proofs.YtejcopppchaneaaW.PrintMore Go.Proofs.Ytejcopppchaneaa.Pure
theorem far8 {w : World} {g b : Nat} {o : Obj} (h : w.heap[b]? = some o) (hn : b ≠ g) (j : Nat) (u : Value) : (w.setCell ⟨g, j, none⟩ u).heap[b]? = some o := (Below.heap_setCell w ⟨g, j, none⟩ u b hn).trans h
theorem blk4_far {w : World} {g g2 : Nat} {cs : Array Value} {a' b' c' d' : Value} {t : TypeId} (h : w.heap[g2]? = some (.cells cs t (0, 0))) (hne : g2 ≠ g) : ((((w.setCell ⟨g, 0, none⟩ a').setCell ⟨g, 1, none⟩ b').setCell ⟨g, 2, none⟩ c').setCell ⟨g, 3, none⟩ d').heap[g2]? = some (.cells cs t (0, 0)) :=
  blk_far (p := ⟨g, 3, none⟩) (blk_far (p := ⟨g, 2, none⟩) (blk_far (p := ⟨g, 1, none⟩) (blk_far (p := ⟨g, 0, none⟩) h hne a') hne b') hne c') hne d'
theorem keep4_far {w W : World} {g r : Nat} {a' b' c' d' : Value} (h : KeepBut w W g none) (hr : w.heap.size ≤ r) : KeepBut w ((((W.setCell ⟨r, 0, none⟩ a').setCell ⟨r, 1, none⟩ b').setCell ⟨r, 2, none⟩ c').setCell ⟨r, 3, none⟩ d') g none :=
  keep_far (p := ⟨r, 3, none⟩) (keep_far (p := ⟨r, 2, none⟩) (keep_far (p := ⟨r, 1, none⟩) (keep_far (p := ⟨r, 0, none⟩) h hr a') hr b') hr c') hr d'
set_option maxHeartbeats 16000000 in
set_option maxRecDepth 100000 in
theorem lens_Next.stop (base g : Nat) (rest : ByteArray) (k n r : Int) (closed ended : Bool) (e0 q1 q2 q3 : Int) (q4 : List Int) (q5 q6 : Int) (w : World) (hL : LAt w g ⟨rest, k, n, r, closed, ended, e0⟩) (hbg : base ≤ g) (hbw : base ≤ w.heap.size) (hz : rest.size ≤ 60000) (h1 : okR (lastR ⟨rest, k, n, r, closed, ended, e0⟩)) (h2 : (rt rest).2.2.2.2.2 = 0 → okR (xOf (rt rest))) (hp : takeS ⟨rest, k, n, r, closed, ended, e0⟩ = (q1, q2, q3, q4, q5, q6)) (hq : q6 ≠ 0 ∨ q5 = 0) :
    Calls Try.prog 15 #[.pointer (some ⟨g, 0, none⟩)] w fun e w' => ∃ v : Value, e = .returned (.tuple #[.agg #[.int .i64 0, .int .i64 0, .int .i64 0, v], .bool false, .int .i64 q6]) ∧ Kd.R (Kd.int .i64) 3 w' w.heap.size (fun _ => True) v [] ∧ LAt w' g ⟨rest, k, n, r, closed, ended, q6⟩ ∧ KeepBut w w' g none ∧ Below base w w' := by
  have hu30 := Try.underlying30
  have hu61 := Try.underlying61
  have TK : ∀ w1 : World, Below w.heap.size w w1 → Calls Try.prog 34 #[.pointer (some ⟨g, 0, none⟩)] w1 fun e w' => ∃ v : Value, e = .returned (.tuple #[.agg #[.int .i64 q1, .int .i64 q2, .int .i64 q3, v], .int .i64 q5, .int .i64 q6]) ∧ Kd.R (Kd.int .i64) 3 w' w1.heap.size (fun _ => True) v q4 ∧ Below w1.heap.size w1 w' := fun w1 hb => lens_take.calls_ g rest k n r closed ended e0 _ w1 (blk_below hL hb) hz h1 h2 hp
  have TK := Aside0.mk TK
  have L : Aside0 (w.heap[g]? = some (.cells #[.string rest, .int .i64 k, .int .i64 n, .int .i64 r, .slice none 0 0, .bool closed, .bool ended, .int .i64 e0] 61 (0, 0))) := ⟨hL⟩
  have NG := Aside0.mk (blk_lt L.out)
  have GB := Aside0.mk hbg
  have WB := Aside0.mk hbw
  clear hL hbg hbw hz h1 h2 hp
  go_enter Try.func15, Try.ntmps15
  go_upto_region 1 with (first | ((with_reducible refine gate_dst (N := 2) rfl ?_); refine box_event ?hg (N := 2) ?hd (cs := #[.int .i64 0, .int .i64 0, .int .i64 0, .slice none 0 0]) (t := 30) ?hr ?_; (case hd => rfl); (case hg => rfl); (case hr => first | (go_simp; done) | (go_simp; rfl)); intro gr hg_ w1 hbox hb; have GR := Aside0.mk (show w.heap.size ≤ gr by omega); clear hg_; have BR := Aside0.mk hbox; have LN := Aside0.mk (blk_below L.out hb); clear L; have L := LN; clear LN; have HB := Aside0.mk hb; clear hbox hb; obtain ⟨⟨i0, i1, i2, i3, i4, i5, i6, i7⟩, u0, u1, u2, u3, u4, u5, u6, u7⟩ := cell8 L.out; obtain ⟨⟨k0, k1, k2, k3⟩, z0, z1, z2, z3⟩ := cell4 BR.out) | fail)
  have TK1 := Aside0.mk (TK.out w1 HB.out)
  clear TK
  have TK := TK1
  clear TK1
  go_upto_region 4 with (first | (go_at_call 34; (with_reducible refine TK.out.mono ?_); rintro e w2 ⟨v, rfl, hR, hb⟩; obtain ⟨A, c, rfl⟩ := Kd.R_slice hR; have HR := Aside0.mk (Kd.R_lower hR HB.out.size); have LN := Aside0.mk (blk_below L.out hb); have KN := Aside0.mk (blk_below BR.out hb); have BN := Aside0.mk (below_step HB.out hb); clear L BR HB i0 i1 i2 i3 i4 i5 i6 i7 u0 u1 u2 u3 u4 u5 u6 u7 k0 k1 k2 k3 z0 z1 z2 z3; have L := LN; have BR := KN; have HB := BN; clear LN KN BN; obtain ⟨⟨i0, i1, i2, i3, i4, i5, i6, i7⟩, u0, u1, u2, u3, u4, u5, u6, u7⟩ := cell8 L.out; obtain ⟨⟨k0, k1, k2, k3⟩, z0, z1, z2, z3⟩ := cell4 BR.out; clear hb hR) | ((with_reducible refine gate_dst (N := 5) rfl ?_); refine box_event ?hg (N := 5) ?hd (cs := #[.int .i64 0, .int .i64 0, .int .i64 0, .slice none 0 0]) (t := 30) ?hr ?_; (case hd => rfl); (case hg => rfl); (case hr => first | (go_simp; done) | (go_simp; rfl)); intro gx hg_ w3 hbox hb; have NX := Aside0.mk (show gx ≠ g ∧ gx ≠ gr ∧ w.heap.size ≤ gx from by have h1 := blk_lt L.out; have h2 := blk_lt BR.out; have h3 := HB.out.size; exact ⟨by omega, by omega, by omega⟩); clear hg_; have BX := Aside0.mk hbox; have LN := Aside0.mk (blk_below L.out hb); have KN := Aside0.mk (blk_below BR.out hb); have RN := Aside0.mk (Kd.R_below HR.out hb); have BN := Aside0.mk (below_step HB.out hb); clear L BR HR HB i0 i1 i2 i3 i4 i5 i6 i7 u0 u1 u2 u3 u4 u5 u6 u7 k0 k1 k2 k3 z0 z1 z2 z3; have L := LN; have BR := KN; have HR := RN; have HB := BN; clear LN KN RN BN; clear hbox hb; obtain ⟨⟨i0, i1, i2, i3, i4, i5, i6, i7⟩, u0, u1, u2, u3, u4, u5, u6, u7⟩ := cell8 L.out; obtain ⟨⟨k0, k1, k2, k3⟩, z0, z1, z2, z3⟩ := cell4 BR.out; obtain ⟨⟨l0, l1, l2, l3⟩, m0, m1, m2, m3⟩ := cell4 BX.out) | fail)
  have HR3 := Aside0.mk (row4_put (a' := .int .i64 q1) (b' := .int .i64 q2) (c' := .int .i64 q3) (d' := .slice A q4.length c) BX.out HR.out)
  have L3 := Aside0.mk (blk_kept L.out (kept4 _ gx (.int .i64 q1) (.int .i64 q2) (.int .i64 q3) (.slice A q4.length c)) (Ne.symm NX.out.1))
  have BR3 := Aside0.mk (blk_kept BR.out (kept4 _ gx (.int .i64 q1) (.int .i64 q2) (.int .i64 q3) (.slice A q4.length c)) (Ne.symm NX.out.2.1))
  have HB3 := Aside0.mk (below4_put (a' := .int .i64 q1) (b' := .int .i64 q2) (c' := .int .i64 q3) (d' := .slice A q4.length c) HB.out NX.out.2.2)
  have BX3 := Aside0.mk (blk4_put (a' := .int .i64 q1) (b' := .int .i64 q2) (c' := .int .i64 q3) (d' := .slice A q4.length c) BX.out)
  clear L BR HB HR BX TK i0 i1 i2 i3 i4 i5 i6 i7 u0 u1 u2 u3 u4 u5 u6 u7 k0 k1 k2 k3 z0 z1 z2 z3 l0 l1 l2 l3 m0 m1 m2 m3
  have hGR := GR.out
  have hgr : gr ≠ g := by have := NX.out; have h1 := GR.out; intro h; subst h; exact absurd (NG.out) (by omega)
  generalize ((((w3.setCell ⟨gx, 0, none⟩ (.int .i64 q1)).setCell ⟨gx, 1, none⟩ (.int .i64 q2)).setCell ⟨gx, 2, none⟩ (.int .i64 q3)).setCell ⟨gx, 3, none⟩ (.slice A q4.length c)) = w4 at L3 BR3 HB3 BX3 HR3 ⊢
  have hxg := NX.out.1
  have hxr := NX.out.2.1
  clear hGR
  obtain ⟨⟨i0, i1, i2, i3, i4, i5, i6, i7⟩, u0, u1, u2, u3, u4, u5, u6, u7⟩ := cell8 L3.out
  obtain ⟨⟨k0, k1, k2, k3⟩, z0, z1, z2, z3⟩ := cell4 BR3.out
  obtain ⟨⟨l0, l1, l2, l3⟩, m0, m1, m2, m3⟩ := cell4 BX3.out

  by_cases h6 : q6 = 0
  · have e6 : (q6 != 0) = false := bne_eq_false_iff_eq.mpr h6
    have h5 : q5 = 0 := by rcases hq with h | h; exact absurd h6 h; exact h
    have e5 : (q5 == 0) = true := beq_iff_eq.mpr h5
    clear h6 h5 hq
    go_wp2
    (try simp only [Exit.inBlock, Exit.then])
    refine bodyPost_ret (results_ctt rfl _ _ gr 30 #[.int .i64 0, .int .i64 0, .int .i64 0, .slice none 0 0] (0, 0) _ rfl (by exact blk4_put (far8 (BR3.out) hgr 7 (.int .i64 q6))) Try.underlying30 rfl (by kernel_rfl)) rfl ?_
    have hL5 := blk4_far (g := gr) (a' := .int .i64 0) (b' := .int .i64 0) (c' := .int .i64 0) (d' := .slice none 0 0) (blk_put (cs' := #[.string rest, .int .i64 k, .int .i64 n, .int .i64 r, .slice none 0 0, .bool closed, .bool ended, .int .i64 q6]) (L3.out) 7 (.int .i64 q6) rfl) (Ne.symm hgr)
    exact ⟨_, rfl, Kd.R_nil _ _ _ _ _, hL5, keep4_far ((KeepBut.of_below HB3.out g none).set_ 7 (.int .i64 q6)) GR.out, below4_put ((HB3.out.mono WB.out).setCell (p := ⟨g, 7, none⟩) GB.out (.int .i64 q6)) (Nat.le_trans WB.out GR.out)⟩
  · have e6 : (q6 != 0) = true := bne_iff_ne.mpr h6
    clear h6 hq
    go_wp2
    (try simp only [Exit.inBlock, Exit.then])
    refine bodyPost_ret (results_ctt rfl _ _ gr 30 #[.int .i64 0, .int .i64 0, .int .i64 0, .slice none 0 0] (0, 0) _ rfl (by exact blk4_put (far8 (BR3.out) hgr 7 (.int .i64 q6))) Try.underlying30 rfl (by kernel_rfl)) rfl ?_
    have hL5 := blk4_far (g := gr) (a' := .int .i64 0) (b' := .int .i64 0) (c' := .int .i64 0) (d' := .slice none 0 0) (blk_put (cs' := #[.string rest, .int .i64 k, .int .i64 n, .int .i64 r, .slice none 0 0, .bool closed, .bool ended, .int .i64 q6]) (L3.out) 7 (.int .i64 q6) rfl) (Ne.symm hgr)
    exact ⟨_, rfl, Kd.R_nil _ _ _ _ _, hL5, keep4_far ((KeepBut.of_below HB3.out g none).set_ 7 (.int .i64 q6)) GR.out, below4_put ((HB3.out.mono WB.out).setCell (p := ⟨g, 7, none⟩) GB.out (.int .i64 q6)) (Nat.le_trans WB.out GR.out)⟩
set_option maxHeartbeats 16000000 in
set_option maxRecDepth 100000 in
theorem lens_Next.go_ (base g : Nat) (rest : ByteArray) (k n r : Int) (closed ended : Bool) (e0 q1 q2 q3 : Int) (q4 : List Int) (q5 q6 : Int) (w : World) (hL : LAt w g ⟨rest, k, n, r, closed, ended, e0⟩) (hbg : base ≤ g) (hbw : base ≤ w.heap.size) (hz : rest.size ≤ 60000) (h1 : okR (lastR ⟨rest, k, n, r, closed, ended, e0⟩)) (h2 : (rt rest).2.2.2.2.2 = 0 → okR (xOf (rt rest))) (hp : takeS ⟨rest, k, n, r, closed, ended, e0⟩ = (q1, q2, q3, q4, q5, q6)) (h6 : q6 = 0) (hq1 : 1 ≤ q5) (hq2 : q5 ≤ rest.size) :
    Calls Try.prog 15 #[.pointer (some ⟨g, 0, none⟩)] w fun e w' => ∃ v : Value, e = .returned (.tuple #[.agg #[.int .i64 q1, .int .i64 q2, .int .i64 q3, v], .bool true, .int .i64 0]) ∧ Kd.R (Kd.int .i64) 3 w' w.heap.size (fun _ => True) v q4 ∧ LAt w' g ⟨rest.extract q5.toNat rest.size, q1, q2, q3, closed, q1 == 6, 0⟩ ∧ KeepBut w w' g none ∧ Below base w w' := by
  have hu30 := Try.underlying30
  have hu61 := Try.underlying61
  have TK : ∀ w1 : World, Below w.heap.size w w1 → Calls Try.prog 34 #[.pointer (some ⟨g, 0, none⟩)] w1 fun e w' => ∃ v : Value, e = .returned (.tuple #[.agg #[.int .i64 q1, .int .i64 q2, .int .i64 q3, v], .int .i64 q5, .int .i64 q6]) ∧ Kd.R (Kd.int .i64) 3 w' w1.heap.size (fun _ => True) v q4 ∧ Below w1.heap.size w1 w' := fun w1 hb => lens_take.calls_ g rest k n r closed ended e0 _ w1 (blk_below hL hb) hz h1 h2 hp
  have TK := Aside0.mk TK
  have L : Aside0 (w.heap[g]? = some (.cells #[.string rest, .int .i64 k, .int .i64 n, .int .i64 r, .slice none 0 0, .bool closed, .bool ended, .int .i64 e0] 61 (0, 0))) := ⟨hL⟩
  have NG := Aside0.mk (blk_lt L.out)
  have GB := Aside0.mk hbg
  have WB := Aside0.mk hbw
  clear hL hbg hbw hz h1 h2 hp
  go_enter Try.func15, Try.ntmps15
  go_upto_region 1 with (first | ((with_reducible refine gate_dst (N := 2) rfl ?_); refine box_event ?hg (N := 2) ?hd (cs := #[.int .i64 0, .int .i64 0, .int .i64 0, .slice none 0 0]) (t := 30) ?hr ?_; (case hd => rfl); (case hg => rfl); (case hr => first | (go_simp; done) | (go_simp; rfl)); intro gr hg_ w1 hbox hb; have GR := Aside0.mk (show w.heap.size ≤ gr by omega); clear hg_; have BR := Aside0.mk hbox; have LN := Aside0.mk (blk_below L.out hb); clear L; have L := LN; clear LN; have HB := Aside0.mk hb; clear hbox hb; obtain ⟨⟨i0, i1, i2, i3, i4, i5, i6, i7⟩, u0, u1, u2, u3, u4, u5, u6, u7⟩ := cell8 L.out; obtain ⟨⟨k0, k1, k2, k3⟩, z0, z1, z2, z3⟩ := cell4 BR.out) | fail)
  have TK1 := Aside0.mk (TK.out w1 HB.out)
  clear TK
  have TK := TK1
  clear TK1
  go_upto_region 4 with (first | (go_at_call 34; (with_reducible refine TK.out.mono ?_); rintro e w2 ⟨v, rfl, hR, hb⟩; obtain ⟨A, c, rfl⟩ := Kd.R_slice hR; have HR := Aside0.mk (Kd.R_lower hR HB.out.size); have LN := Aside0.mk (blk_below L.out hb); have KN := Aside0.mk (blk_below BR.out hb); have BN := Aside0.mk (below_step HB.out hb); clear L BR HB i0 i1 i2 i3 i4 i5 i6 i7 u0 u1 u2 u3 u4 u5 u6 u7 k0 k1 k2 k3 z0 z1 z2 z3; have L := LN; have BR := KN; have HB := BN; clear LN KN BN; obtain ⟨⟨i0, i1, i2, i3, i4, i5, i6, i7⟩, u0, u1, u2, u3, u4, u5, u6, u7⟩ := cell8 L.out; obtain ⟨⟨k0, k1, k2, k3⟩, z0, z1, z2, z3⟩ := cell4 BR.out; clear hb hR) | ((with_reducible refine gate_dst (N := 5) rfl ?_); refine box_event ?hg (N := 5) ?hd (cs := #[.int .i64 0, .int .i64 0, .int .i64 0, .slice none 0 0]) (t := 30) ?hr ?_; (case hd => rfl); (case hg => rfl); (case hr => first | (go_simp; done) | (go_simp; rfl)); intro gx hg_ w3 hbox hb; have NX := Aside0.mk (show gx ≠ g ∧ gx ≠ gr ∧ w.heap.size ≤ gx from by have h1 := blk_lt L.out; have h2 := blk_lt BR.out; have h3 := HB.out.size; exact ⟨by omega, by omega, by omega⟩); clear hg_; have BX := Aside0.mk hbox; have LN := Aside0.mk (blk_below L.out hb); have KN := Aside0.mk (blk_below BR.out hb); have RN := Aside0.mk (Kd.R_below HR.out hb); have BN := Aside0.mk (below_step HB.out hb); clear L BR HR HB i0 i1 i2 i3 i4 i5 i6 i7 u0 u1 u2 u3 u4 u5 u6 u7 k0 k1 k2 k3 z0 z1 z2 z3; have L := LN; have BR := KN; have HR := RN; have HB := BN; clear LN KN RN BN; clear hbox hb; obtain ⟨⟨i0, i1, i2, i3, i4, i5, i6, i7⟩, u0, u1, u2, u3, u4, u5, u6, u7⟩ := cell8 L.out; obtain ⟨⟨k0, k1, k2, k3⟩, z0, z1, z2, z3⟩ := cell4 BR.out; obtain ⟨⟨l0, l1, l2, l3⟩, m0, m1, m2, m3⟩ := cell4 BX.out) | fail)
  have HR3 := Aside0.mk (row4_put (a' := .int .i64 q1) (b' := .int .i64 q2) (c' := .int .i64 q3) (d' := .slice A q4.length c) BX.out HR.out)
  have L3 := Aside0.mk (blk_kept L.out (kept4 _ gx (.int .i64 q1) (.int .i64 q2) (.int .i64 q3) (.slice A q4.length c)) (Ne.symm NX.out.1))
  have BR3 := Aside0.mk (blk_kept BR.out (kept4 _ gx (.int .i64 q1) (.int .i64 q2) (.int .i64 q3) (.slice A q4.length c)) (Ne.symm NX.out.2.1))
  have HB3 := Aside0.mk (below4_put (a' := .int .i64 q1) (b' := .int .i64 q2) (c' := .int .i64 q3) (d' := .slice A q4.length c) HB.out NX.out.2.2)
  have BX3 := Aside0.mk (blk4_put (a' := .int .i64 q1) (b' := .int .i64 q2) (c' := .int .i64 q3) (d' := .slice A q4.length c) BX.out)
  clear L BR HB HR BX TK i0 i1 i2 i3 i4 i5 i6 i7 u0 u1 u2 u3 u4 u5 u6 u7 k0 k1 k2 k3 z0 z1 z2 z3 l0 l1 l2 l3 m0 m1 m2 m3
  have hGR := GR.out
  have hgr : gr ≠ g := by have := NX.out; have h1 := GR.out; intro h; subst h; exact absurd (NG.out) (by omega)
  generalize ((((w3.setCell ⟨gx, 0, none⟩ (.int .i64 q1)).setCell ⟨gx, 1, none⟩ (.int .i64 q2)).setCell ⟨gx, 2, none⟩ (.int .i64 q3)).setCell ⟨gx, 3, none⟩ (.slice A q4.length c)) = w4 at L3 BR3 HB3 BX3 HR3 ⊢
  have hxg := NX.out.1
  have hxr := NX.out.2.1
  clear hGR
  obtain ⟨⟨i0, i1, i2, i3, i4, i5, i6, i7⟩, u0, u1, u2, u3, u4, u5, u6, u7⟩ := cell8 L3.out
  obtain ⟨⟨k0, k1, k2, k3⟩, z0, z1, z2, z3⟩ := cell4 BR3.out
  obtain ⟨⟨l0, l1, l2, l3⟩, m0, m1, m2, m3⟩ := cell4 BX3.out
  subst h6
  have e5 : (q5 == 0) = false := beq_eq_false_iff_ne.mpr (by omega)
  have d1 : decide (0 ≤ q5) = true := decide_eq_true (by omega)
  have d2 : decide (q5 ≤ (rest.size : Int)) = true := decide_eq_true hq2
  have d3 := eq_true (show 0 ≤ q5 by omega)
  have d4 := eq_true hq2
  clear hq1 hq2
  go_wp2
  (try simp only [Exit.inBlock, Exit.then])
  refine bodyPost_ret (results_ctt rfl _ _ gr 30 #[.int .i64 q1, .int .i64 q2, .int .i64 q3, .slice A q4.length c] (0, 0) _ rfl (by exact blk4_put (far8 (far8 (far8 (far8 (far8 (far8 (far8 (BR3.out) hgr 7 (.int .i64 0)) hgr 0 (.string (rest.extract q5.toNat rest.size))) hgr 1 (.int .i64 q1)) hgr 2 (.int .i64 q2)) hgr 3 (.int .i64 q3)) hgr 4 (.slice none 0 0)) hgr 6 (.bool (q1 == 6)))) Try.underlying30 rfl (by kernel_rfl)) rfl ?_
  have hL5 := blk4_far (g := gr) (a' := .int .i64 q1) (b' := .int .i64 q2) (c' := .int .i64 q3) (d' := .slice A q4.length c) (blk_put (cs' := #[.string (rest.extract q5.toNat rest.size), .int .i64 q1, .int .i64 q2, .int .i64 q3, .slice none 0 0, .bool closed, .bool (q1 == 6), .int .i64 0]) (blk_put (cs' := #[.string (rest.extract q5.toNat rest.size), .int .i64 q1, .int .i64 q2, .int .i64 q3, .slice none 0 0, .bool closed, .bool ended, .int .i64 0]) (blk_put (cs' := #[.string (rest.extract q5.toNat rest.size), .int .i64 q1, .int .i64 q2, .int .i64 q3, .slice none 0 0, .bool closed, .bool ended, .int .i64 0]) (blk_put (cs' := #[.string (rest.extract q5.toNat rest.size), .int .i64 q1, .int .i64 q2, .int .i64 r, .slice none 0 0, .bool closed, .bool ended, .int .i64 0]) (blk_put (cs' := #[.string (rest.extract q5.toNat rest.size), .int .i64 q1, .int .i64 n, .int .i64 r, .slice none 0 0, .bool closed, .bool ended, .int .i64 0]) (blk_put (cs' := #[.string (rest.extract q5.toNat rest.size), .int .i64 k, .int .i64 n, .int .i64 r, .slice none 0 0, .bool closed, .bool ended, .int .i64 0]) (blk_put (cs' := #[.string rest, .int .i64 k, .int .i64 n, .int .i64 r, .slice none 0 0, .bool closed, .bool ended, .int .i64 0]) (L3.out) 7 (.int .i64 0) rfl) 0 (.string (rest.extract q5.toNat rest.size)) rfl) 1 (.int .i64 q1) rfl) 2 (.int .i64 q2) rfl) 3 (.int .i64 q3) rfl) 4 (.slice none 0 0) rfl) 6 (.bool (q1 == 6)) rfl) (Ne.symm hgr)
  exact ⟨_, rfl, row4_put (far8 (far8 (far8 (far8 (far8 (far8 (far8 (BR3.out) hgr 7 (.int .i64 0)) hgr 0 (.string (rest.extract q5.toNat rest.size))) hgr 1 (.int .i64 q1)) hgr 2 (.int .i64 q2)) hgr 3 (.int .i64 q3)) hgr 4 (.slice none 0 0)) hgr 6 (.bool (q1 == 6))) (Kd.R_set (Kd.R_set (Kd.R_set (Kd.R_set (Kd.R_set (Kd.R_set (Kd.R_set (HR3.out) (L3.out) (by decide) 7 (.int .i64 0)) (blk_put (cs' := #[.string rest, .int .i64 k, .int .i64 n, .int .i64 r, .slice none 0 0, .bool closed, .bool ended, .int .i64 0]) (L3.out) 7 (.int .i64 0) rfl) (by decide) 0 (.string (rest.extract q5.toNat rest.size))) (blk_put (cs' := #[.string (rest.extract q5.toNat rest.size), .int .i64 k, .int .i64 n, .int .i64 r, .slice none 0 0, .bool closed, .bool ended, .int .i64 0]) (blk_put (cs' := #[.string rest, .int .i64 k, .int .i64 n, .int .i64 r, .slice none 0 0, .bool closed, .bool ended, .int .i64 0]) (L3.out) 7 (.int .i64 0) rfl) 0 (.string (rest.extract q5.toNat rest.size)) rfl) (by decide) 1 (.int .i64 q1)) (blk_put (cs' := #[.string (rest.extract q5.toNat rest.size), .int .i64 q1, .int .i64 n, .int .i64 r, .slice none 0 0, .bool closed, .bool ended, .int .i64 0]) (blk_put (cs' := #[.string (rest.extract q5.toNat rest.size), .int .i64 k, .int .i64 n, .int .i64 r, .slice none 0 0, .bool closed, .bool ended, .int .i64 0]) (blk_put (cs' := #[.string rest, .int .i64 k, .int .i64 n, .int .i64 r, .slice none 0 0, .bool closed, .bool ended, .int .i64 0]) (L3.out) 7 (.int .i64 0) rfl) 0 (.string (rest.extract q5.toNat rest.size)) rfl) 1 (.int .i64 q1) rfl) (by decide) 2 (.int .i64 q2)) (blk_put (cs' := #[.string (rest.extract q5.toNat rest.size), .int .i64 q1, .int .i64 q2, .int .i64 r, .slice none 0 0, .bool closed, .bool ended, .int .i64 0]) (blk_put (cs' := #[.string (rest.extract q5.toNat rest.size), .int .i64 q1, .int .i64 n, .int .i64 r, .slice none 0 0, .bool closed, .bool ended, .int .i64 0]) (blk_put (cs' := #[.string (rest.extract q5.toNat rest.size), .int .i64 k, .int .i64 n, .int .i64 r, .slice none 0 0, .bool closed, .bool ended, .int .i64 0]) (blk_put (cs' := #[.string rest, .int .i64 k, .int .i64 n, .int .i64 r, .slice none 0 0, .bool closed, .bool ended, .int .i64 0]) (L3.out) 7 (.int .i64 0) rfl) 0 (.string (rest.extract q5.toNat rest.size)) rfl) 1 (.int .i64 q1) rfl) 2 (.int .i64 q2) rfl) (by decide) 3 (.int .i64 q3)) (blk_put (cs' := #[.string (rest.extract q5.toNat rest.size), .int .i64 q1, .int .i64 q2, .int .i64 q3, .slice none 0 0, .bool closed, .bool ended, .int .i64 0]) (blk_put (cs' := #[.string (rest.extract q5.toNat rest.size), .int .i64 q1, .int .i64 q2, .int .i64 r, .slice none 0 0, .bool closed, .bool ended, .int .i64 0]) (blk_put (cs' := #[.string (rest.extract q5.toNat rest.size), .int .i64 q1, .int .i64 n, .int .i64 r, .slice none 0 0, .bool closed, .bool ended, .int .i64 0]) (blk_put (cs' := #[.string (rest.extract q5.toNat rest.size), .int .i64 k, .int .i64 n, .int .i64 r, .slice none 0 0, .bool closed, .bool ended, .int .i64 0]) (blk_put (cs' := #[.string rest, .int .i64 k, .int .i64 n, .int .i64 r, .slice none 0 0, .bool closed, .bool ended, .int .i64 0]) (L3.out) 7 (.int .i64 0) rfl) 0 (.string (rest.extract q5.toNat rest.size)) rfl) 1 (.int .i64 q1) rfl) 2 (.int .i64 q2) rfl) 3 (.int .i64 q3) rfl) (by decide) 4 (.slice none 0 0)) (blk_put (cs' := #[.string (rest.extract q5.toNat rest.size), .int .i64 q1, .int .i64 q2, .int .i64 q3, .slice none 0 0, .bool closed, .bool ended, .int .i64 0]) (blk_put (cs' := #[.string (rest.extract q5.toNat rest.size), .int .i64 q1, .int .i64 q2, .int .i64 q3, .slice none 0 0, .bool closed, .bool ended, .int .i64 0]) (blk_put (cs' := #[.string (rest.extract q5.toNat rest.size), .int .i64 q1, .int .i64 q2, .int .i64 r, .slice none 0 0, .bool closed, .bool ended, .int .i64 0]) (blk_put (cs' := #[.string (rest.extract q5.toNat rest.size), .int .i64 q1, .int .i64 n, .int .i64 r, .slice none 0 0, .bool closed, .bool ended, .int .i64 0]) (blk_put (cs' := #[.string (rest.extract q5.toNat rest.size), .int .i64 k, .int .i64 n, .int .i64 r, .slice none 0 0, .bool closed, .bool ended, .int .i64 0]) (blk_put (cs' := #[.string rest, .int .i64 k, .int .i64 n, .int .i64 r, .slice none 0 0, .bool closed, .bool ended, .int .i64 0]) (L3.out) 7 (.int .i64 0) rfl) 0 (.string (rest.extract q5.toNat rest.size)) rfl) 1 (.int .i64 q1) rfl) 2 (.int .i64 q2) rfl) 3 (.int .i64 q3) rfl) 4 (.slice none 0 0) rfl) (by decide) 6 (.bool (q1 == 6))), hL5, keep4_far ((((((((KeepBut.of_below HB3.out g none).set_ 7 (.int .i64 0)).set_ 0 (.string (rest.extract q5.toNat rest.size))).set_ 1 (.int .i64 q1)).set_ 2 (.int .i64 q2)).set_ 3 (.int .i64 q3)).set_ 4 (.slice none 0 0)).set_ 6 (.bool (q1 == 6))) GR.out, below4_put ((((((((HB3.out.mono WB.out).setCell (p := ⟨g, 7, none⟩) GB.out (.int .i64 0)).setCell (p := ⟨g, 0, none⟩) GB.out (.string (rest.extract q5.toNat rest.size))).setCell (p := ⟨g, 1, none⟩) GB.out (.int .i64 q1)).setCell (p := ⟨g, 2, none⟩) GB.out (.int .i64 q2)).setCell (p := ⟨g, 3, none⟩) GB.out (.int .i64 q3)).setCell (p := ⟨g, 4, none⟩) GB.out (.slice none 0 0)).setCell (p := ⟨g, 6, none⟩) GB.out (.bool (q1 == 6))) (Nat.le_trans WB.out GR.out)⟩
end Go.Proofs.Ytejcopppchaneaa.PF
end
section
set_option linter.unusedVariables false
set_option linter.unusedSimpArgs false
namespace Go.Proofs.Ytejcopppchaneaa.PF
open Go.RowKit Go.Proofs.YtejcopppchaneaaW.PrintWords Go.Proofs.YtejcopppchaneaaW.PrintLast Go.Proofs.YtejcopppchaneaaW.PrintMore Go.Proofs.Ytejcopppchaneaa.Pure
set_option maxHeartbeats 16000000 in
set_option maxRecDepth 100000 in
theorem lens_Feed.nil (x : ByteArray) (w : World) : Calls Try.prog 13 #[.pointer none, .string x] w fun e w' => e = .returned (.int .i64 1) ∧ w = w' := by
  go_enter Try.func13, Try.ntmps13
  go_wp2
  go_ret
  exact ⟨rfl, rfl⟩
set_option maxHeartbeats 16000000 in
set_option maxRecDepth 100000 in
theorem lens_Close.nil (w : World) : Calls Try.prog 14 #[.pointer none] w fun e w' => e = .returned (.tuple #[]) ∧ w = w' := by
  go_enter Try.func14, Try.ntmps14
  go_wp2
  go_end0
  exact ⟨rfl, rfl⟩
set_option maxHeartbeats 16000000 in
set_option maxRecDepth 100000 in
theorem lens_Ended.nil (w : World) : Calls Try.prog 17 #[.pointer none] w fun e w' => e = .returned (.bool false) ∧ w = w' := by
  go_enter Try.func17, Try.ntmps17
  go_wp2
  go_ret
  exact ⟨rfl, rfl⟩
set_option maxHeartbeats 16000000 in
set_option maxRecDepth 100000 in
theorem lens_Held.nil (w : World) : Calls Try.prog 18 #[.pointer none] w fun e w' => e = .returned (.int .i64 0) ∧ w = w' := by
  go_enter Try.func18, Try.ntmps18
  go_wp2
  go_ret
  exact ⟨rfl, rfl⟩
set_option maxHeartbeats 16000000 in
set_option maxRecDepth 100000 in
theorem lens_Next.nil (w : World) : Calls Try.prog 15 #[.pointer none] w fun e w' => e = .returned (.tuple #[.agg #[.int .i64 0, .int .i64 0, .int .i64 0, .slice none 0 0], .bool false, .int .i64 1]) ∧ Below w.heap.size w w' := by
  have hu30 := Try.underlying30
  go_enter Try.func15, Try.ntmps15
  go_upto_region 1 with (first | ((with_reducible refine gate_dst (N := 2) rfl ?_); refine box_event ?hg (N := 2) ?hd (cs := #[.int .i64 0, .int .i64 0, .int .i64 0, .slice none 0 0]) (t := 30) ?hr ?_; (case hd => rfl); (case hg => rfl); (case hr => first | (go_simp; done) | (go_simp; rfl)); intro gr hg_ w1 hbox hb; have GR := Aside0.mk (show w.heap.size ≤ gr by omega); have BR := Aside0.mk hbox; have HB := Aside0.mk hb; clear hg_ hbox hb; obtain ⟨⟨k0, k1, k2, k3⟩, z0, z1, z2, z3⟩ := cell4 BR.out) | fail)
  go_wp2
  (try simp only [Exit.inBlock, Exit.then])
  refine bodyPost_ret (results_ctt rfl _ _ gr 30 #[.int .i64 0, .int .i64 0, .int .i64 0, .slice none 0 0] (0, 0) _ rfl (by exact blk4_put BR.out) Try.underlying30 rfl (by kernel_rfl)) rfl ?_
  exact ⟨rfl, below4_put HB.out GR.out⟩
section
variable (g : Nat) (s : LS) (w : World) (hL : LAt w g s)
include hL
set_option maxHeartbeats 16000000 in
set_option maxRecDepth 100000 in
theorem lens_Feed.ok (base : Nat) (hbg : base ≤ g) (x : ByteArray) (hz : s.rest.size + x.size ≤ 9223372036854775807) (hc : s.closed = false) : Calls Try.prog 13 #[.pointer (some ⟨g, 0, none⟩), .string x] w fun e w' => e = .returned (.int .i64 0) ∧ LAt w' g { s with rest := s.rest ++ x } ∧ KeepBut w w' g none ∧ Below base w w' := by
  have hu61 := Try.underlying61
  obtain ⟨⟨i0, i1, i2, i3, i4, i5, i6, i7⟩, u0, u1, u2, u3, u4, u5, u6, u7⟩ := cell8 hL
  rw [hc] at i5
  have hzz := eq_false (show ¬ 9223372036854775807 < s.rest.size + x.size by omega)
  go_enter Try.func13, Try.ntmps13
  go_wp2
  go_ret
  exact ⟨rfl, blk_put (cs' := #[.string (s.rest ++ x), .int .i64 s.k, .int .i64 s.n, .int .i64 s.r, .slice none 0 0, .bool s.closed, .bool s.ended, .int .i64 s.e]) hL 0 _ rfl, (KeepBut.refl w g none).set_ 0 _, (Below.refl base w).setCell (p := ⟨g, 0, none⟩) hbg _⟩
set_option maxHeartbeats 16000000 in
set_option maxRecDepth 100000 in
theorem lens_Close.calls_ (base : Nat) (hbg : base ≤ g) : Calls Try.prog 14 #[.pointer (some ⟨g, 0, none⟩)] w fun e w' => e = .returned (.tuple #[]) ∧ LAt w' g { s with closed := true } ∧ KeepBut w w' g none ∧ Below base w w' := by
  have hu61 := Try.underlying61
  obtain ⟨⟨i0, i1, i2, i3, i4, i5, i6, i7⟩, u0, u1, u2, u3, u4, u5, u6, u7⟩ := cell8 hL
  go_enter Try.func14, Try.ntmps14
  go_wp2
  go_end0
  exact ⟨rfl, blk_put (cs' := #[.string s.rest, .int .i64 s.k, .int .i64 s.n, .int .i64 s.r, .slice none 0 0, .bool true, .bool s.ended, .int .i64 s.e]) hL 5 _ rfl, (KeepBut.refl w g none).set_ 5 _, (Below.refl base w).setCell (p := ⟨g, 5, none⟩) hbg _⟩
set_option maxHeartbeats 16000000 in
set_option maxRecDepth 100000 in
theorem lens_Ended.calls_ : Calls Try.prog 17 #[.pointer (some ⟨g, 0, none⟩)] w fun e w' => e = .returned (.bool s.ended) ∧ w = w' := by
  have hu61 := Try.underlying61
  obtain ⟨⟨i0, i1, i2, i3, i4, i5, i6, i7⟩, u0, u1, u2, u3, u4, u5, u6, u7⟩ := cell8 hL
  clear hL
  go_enter Try.func17, Try.ntmps17
  go_wp2
  go_ret
  exact ⟨rfl, rfl⟩
set_option maxHeartbeats 16000000 in
set_option maxRecDepth 100000 in
theorem lens_Held.calls_ : Calls Try.prog 18 #[.pointer (some ⟨g, 0, none⟩)] w fun e w' => e = .returned (.int .i64 (s.rest.size : Int)) ∧ w = w' := by
  have hu61 := Try.underlying61
  obtain ⟨⟨i0, i1, i2, i3, i4, i5, i6, i7⟩, u0, u1, u2, u3, u4, u5, u6, u7⟩ := cell8 hL
  clear hL
  go_enter Try.func18, Try.ntmps18
  go_wp2
  go_ret
  exact ⟨rfl, rfl⟩
end
end Go.Proofs.Ytejcopppchaneaa.PF
end
section
set_option linter.unusedVariables false
set_option linter.unusedSimpArgs false
namespace Go.Proofs.Ytejcopppchaneaa.PF
open Go.RowKit Go.Proofs.YtejcopppchaneaaW.PrintWords Go.Proofs.YtejcopppchaneaaW.PrintLast Go.Proofs.YtejcopppchaneaaW.PrintMore Go.Proofs.Ytejcopppchaneaa.Pure
theorem idsL_short : ∀ (m : Nat) (ah : Int) (b : Bool) (l : List Int), IsB l → (idsL m ah b l).2.2 = 0 → ((idsL m ah b l).1.length : Int) ≤ (idsL m ah b l).2.1 ∧ (idsL m ah b l).2.1 ≤ l.length := by
  intro m
  induction m with
  | zero => intro ah b l _ _; simp [idsL]
  | succ m ih =>
    intro ah b l hB h
    unfold idsL at h ⊢
    by_cases hv : (vt 9 l).2.2 = 0
    · rw [if_pos hv] at h ⊢
      have hk := vt_ok 9 l hB hv
      by_cases h1 : (vt 9 l).1 = 0 ∧ b = false
      · rw [if_pos h1] at h; exact absurd h (by decide)
      · rw [if_neg h1] at h ⊢
        by_cases h2 : 65534 - ah < (vt 9 l).1
        · rw [if_pos h2] at h; exact absurd h (by decide)
        · rw [if_neg h2] at h ⊢
          by_cases h3 : (idsL m (ah + (vt 9 l).1) false (l.drop (vt 9 l).2.1.toNat)).2.2 = 0
          · rw [if_pos h3] at h ⊢
            have hi := ih (ah + (vt 9 l).1) false _ (isB_drop hB (vt 9 l).2.1.toNat) h3
            rw [List.length_drop] at hi
            simp only [List.length_cons]
            omega
          · rw [if_neg h3] at h; exact absurd h h3
    · rw [if_neg hv] at h; exact absurd h hv
theorem okR_small {a b c : Int} {l : List Int} (ha : 0 ≤ a ∧ a < 9223372036854775808) (hb : 0 ≤ b ∧ b < 9223372036854775808) (hc : 0 ≤ c ∧ c < 9223372036854775808) (hl : l.length ≤ 100000) : okR ⟨a, b, c, l⟩ := ⟨⟨by simp only; omega, ha.2⟩, ⟨by simp only; omega, hb.2⟩, ⟨by simp only; omega, hc.2⟩, hl⟩
theorem rt_good (s : ByteArray) (hs : s.size ≤ 90000) (h : (rt s).2.2.2.2.2 = 0) : okR (xOf (rt s)) ∧ 1 ≤ (rt s).2.2.2.2.1 ∧ (rt s).2.2.2.2.1 ≤ s.size := by
  unfold rt at h ⊢
  by_cases h0 : s.size = 0
  · rw [if_pos h0] at h; exact absurd h (by decide)
  · rw [if_neg h0] at h ⊢
    by_cases h1 : bt s 0 < 1 ∨ 6 < bt s 0
    · rw [if_pos h1] at h; exact absurd h (by decide)
    · rw [if_neg h1] at h ⊢
      have hB := isB_drop (isB_bytesOf s) 1
      have hl : ((bytesOf s).drop 1).length = s.size - 1 := by rw [List.length_drop, bytesOf_length]
      generalize (bytesOf s).drop 1 = r at h hB hl ⊢
      by_cases h4 : bt s 0 = 4
      · rw [if_pos h4] at h ⊢
        unfold rtI at h ⊢
        by_cases hv : (vt 9 r).2.2 = 0
        · rw [if_pos hv] at h ⊢
          have hk := vt_ok 9 r hB hv
          by_cases h2 : 65535 < (vt 9 r).1
          · rw [if_pos h2] at h; exact absurd h (by decide)
          · rw [if_neg h2] at h ⊢
            by_cases h3 : (idsL (vt 9 r).1.toNat 0 true (r.drop (vt 9 r).2.1.toNat)).2.2 = 0
            · rw [if_pos h3] at h ⊢
              have hi := idsL_short _ 0 true _ (isB_drop hB (vt 9 r).2.1.toNat) h3
              rw [List.length_drop] at hi
              refine ⟨okR_small (by simp only; omega) (by simp only; omega) (by simp only; omega) (by simp only; omega), ?_⟩
              simp only
              omega
            · rw [if_neg h3] at h; exact absurd h h3
        · rw [if_neg hv] at h; exact absurd h hv
      · rw [if_neg h4] at h ⊢
        unfold rtN at h ⊢
        by_cases hv : (vt 9 r).2.2 = 0
        · rw [if_pos hv] at h ⊢
          have hk := vt_ok 9 r hB hv
          by_cases hg : goodN (bt s 0) (vt 9 r).1 = true
          · rw [if_pos hg] at h ⊢
            by_cases hv2 : (vt 9 (r.drop (vt 9 r).2.1.toNat)).2.2 = 0
            · rw [if_pos hv2] at h ⊢
              have hk2 := vt_ok 9 _ (isB_drop hB (vt 9 r).2.1.toNat) hv2
              rw [List.length_drop] at hk2
              by_cases hg2 : goodN (bt s 0) (vt 9 (r.drop (vt 9 r).2.1.toNat)).1 = true
              · rw [if_pos hg2] at h ⊢
                have h9 : (128 : Int) ^ 9 = 9223372036854775808 := by decide
                rw [h9] at hk hk2
                refine ⟨okR_small (by simp only; omega) (by simp only; omega) (by simp only; omega) (by simp), ?_⟩
                simp only
                omega
              · rw [if_neg hg2] at h; exact absurd h (by decide)
            · rw [if_neg hv2] at h; exact absurd h hv2
          · rw [if_neg hg] at h; exact absurd h (by decide)
        · rw [if_neg hv] at h; exact absurd h hv
theorem takeS_good (s : LS) (h : (takeS s).2.2.2.2.2 = 0) (hn : (takeS s).2.2.2.2.1 ≠ 0) : takeS s = rt s.rest ∧ (rt s.rest).2.2.2.2.2 = 0 := by
  unfold takeS at h hn ⊢
  by_cases h0 : s.e ≠ 0
  · rw [if_pos h0] at h; exact absurd h h0
  · rw [if_neg h0] at h hn ⊢
    by_cases h1 : s.ended = true
    · rw [if_pos h1] at h hn
      exfalso
      by_cases h2 : s.rest.size = 0
      · rw [if_pos h2] at hn; exact hn rfl
      · rw [if_neg h2] at hn; exact hn rfl
    · rw [if_neg h1] at h hn ⊢
      unfold takeQ at h hn ⊢
      by_cases h2 : ((rt s.rest).2.2.2.2.2 == 4 && !s.closed) = true
      · rw [if_pos h2] at hn; exact absurd rfl hn
      · rw [if_neg h2] at h hn ⊢
        by_cases h3 : ((rt s.rest).2.2.2.2.2 == 0 && !fitsB s (xOf (rt s.rest))) = true
        · rw [if_pos h3] at hn; exact absurd rfl hn
        · rw [if_neg h3] at h hn ⊢
          exact ⟨rfl, h⟩
def nextL (s : LS) : LS := ⟨s.rest.extract (rt s.rest).2.2.2.2.1.toNat s.rest.size, (rt s.rest).1, (rt s.rest).2.1, (rt s.rest).2.2.1, s.closed, (rt s.rest).1 == 6, 0⟩
def LOk (s : LS) : Prop := s.rest.size ≤ 60000 ∧ okR (lastR s)
theorem nextL_ok (s : LS) (h : LOk s) (he : (takeS s).2.2.2.2.2 = 0) (hn : (takeS s).2.2.2.2.1 ≠ 0) : LOk (nextL s) ∧ (nextL s).rest.size < s.rest.size ∧ 1 ≤ (rt s.rest).2.2.2.2.1 ∧ (rt s.rest).2.2.2.2.1 ≤ s.rest.size := by
  obtain ⟨_, h0⟩ := takeS_good s he hn
  obtain ⟨hk, h1, h2⟩ := rt_good s.rest (by have := h.1; omega) h0
  have hz : (nextL s).rest.size = s.rest.size - (rt s.rest).2.2.2.2.1.toNat := by
    show (s.rest.extract _ _).size = _
    rw [ByteArray.size_extract]
    omega
  refine ⟨⟨by rw [hz]; have := h.1; omega, hk.1, hk.2.1, hk.2.2.1, by simp [lastR]⟩, by rw [hz]; omega, h1, h2⟩
def allL : Nat → LS → List S30 → List S30 × Int
  | 0, _, acc => (acc, 0)
  | f + 1, s, acc => if (takeS s).2.2.2.2.2 ≠ 0 then ([], (takeS s).2.2.2.2.2) else if (takeS s).2.2.2.2.1 = 0 then (acc, 0) else allL f (nextL s) (acc ++ [xOf (rt s.rest)])
def allS (s : ByteArray) : List S30 × Int := allL (s.size + 1) ⟨s, 0, 0, 0, true, false, 0⟩ []
end Go.Proofs.Ytejcopppchaneaa.PF
end
