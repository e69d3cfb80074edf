/- record.Take over this seat's program, by walking its text. -/
import Derived.Test.YtejcopppchaneaaPFx2
import Derived.RegionTactic
import Derived.Lib.Builder
import Derived.Lib.Bytes
import Derived.Lib.Strings
namespace Go.Proofs.Ytejcopppchaneaa.PF
open Go.RowKit Go.Proofs.YtejcopppchaneaaW.PrintWords Go.Proofs.YtejcopppchaneaaW.PrintLast Go.Proofs.YtejcopppchaneaaW.PrintMore
set_option linter.unusedVariables false
set_option linter.unusedSimpArgs false
def record_Take.fin (c a b : Int) (l : List Int) (at_ e : Int) : Option (Int × Int × Int × List Int × Int × Int) := if e = 0 then some (c, a, b, l, at_, 0) else some (0, 0, 0, [], 0, e)
def record_Take.f (k : Nat) (a0 : ByteArray) : Option (Int × Int × Int × List Int × Int × Int) :=
  if (a0.size : Int) = 0 then some (0, 0, 0, [], 0, 4)
  else if wrap64 (bt a0 0) < 1 then some (0, 0, 0, [], 0, 3)
  else if wrap64 (bt a0 0) > 6 then some (0, 0, 0, [], 0, 3)
  else if wrap64 (bt a0 0) = 4 then (record_taker_list.f k a0 1 0).bind fun p => record_Take.fin (wrap64 (bt a0 0)) 0 0 p.1 p.2.2.1 p.2.2.2
  else (record_runs.f (wrap64 (bt a0 0))).bind fun t => if t = true then
      (record_taker_offset.f k a0 1 0 1).bind fun p => (record_taker_offset.f k p.2.1 p.2.2.1 p.2.2.2 1).bind fun q => record_Take.fin (wrap64 (bt a0 0)) p.1 q.1 [] q.2.2.1 q.2.2.2
    else (record_taker_offset.f k a0 1 0 0).bind fun p => (record_taker_offset.f k p.2.1 p.2.2.1 p.2.2.2 0).bind fun q => record_Take.fin (wrap64 (bt a0 0)) p.1 q.1 [] q.2.2.1 q.2.2.2
theorem record_Take.mono : ∀ a0 k, LeO (record_Take.f k a0) (record_Take.f (k + 1) a0) := fun a0 k =>
  LeO.ite (LeO.refl _) (LeO.ite (LeO.refl _) (LeO.ite (LeO.refl _) (LeO.ite (LeO.bind (record_taker_list.mono _ _ _ _) (fun _ => LeO.refl _))
    (LeO.bind (LeO.refl _) (fun t => LeO.ite (LeO.bind (record_taker_offset.mono _ _ _ _ _) (fun p => LeO.bind (record_taker_offset.mono _ _ _ _ _) (fun _ => LeO.refl _)))
      (LeO.bind (record_taker_offset.mono _ _ _ _ _) (fun p => LeO.bind (record_taker_offset.mono _ _ _ _ _) (fun _ => LeO.refl _))))))))
theorem toList_empty (s : ByteArray) : s.toList.isEmpty = decide ((s.size : Int) = 0) := by
  rw [Lib.toList_data]
  have h : s.data.toList.length = s.size := by rw [Array.length_toList]; rfl
  cases hl : s.data.toList with
  | nil => rw [hl] at h; simp at h; simp [← h]
  | cons x r => rw [hl, List.length_cons] at h; exact (decide_eq_false (by omega)).symm
theorem cell4 {w : World} {g : Nat} {a b c d : Value} {t : TypeId} (h : w.heap[g]? = some (.cells #[a, b, c, d] t (0, 0))) : (w.cell? ⟨g, 0, none⟩ = some a ∧ w.cell? ⟨g, 1, none⟩ = some b ∧ w.cell? ⟨g, 2, none⟩ = some c ∧ w.cell? ⟨g, 3, none⟩ = some d) ∧ w.frozen? ⟨g, 0, none⟩ = false ∧ w.frozen? ⟨g, 1, none⟩ = false ∧ w.frozen? ⟨g, 2, none⟩ = false ∧ w.frozen? ⟨g, 3, none⟩ = false :=
  ⟨⟨(blk_cell h 0).trans rfl, (blk_cell h 1).trans rfl, (blk_cell h 2).trans rfl, (blk_cell h 3).trans rfl⟩, blk_frozen h 0, blk_frozen h 1, blk_frozen h 2, blk_frozen h 3⟩
theorem cell3 {w : World} {g : Nat} {a b c : Value} {t : TypeId} (h : w.heap[g]? = some (.cells #[a, b, c] t (0, 0))) : (w.cell? ⟨g, 0, none⟩ = some a ∧ w.cell? ⟨g, 1, none⟩ = some b ∧ w.cell? ⟨g, 2, none⟩ = some c) ∧ w.frozen? ⟨g, 0, none⟩ = false ∧ w.frozen? ⟨g, 1, none⟩ = false ∧ w.frozen? ⟨g, 2, none⟩ = false :=
  ⟨⟨(blk_cell h 0).trans rfl, (blk_cell h 1).trans rfl, (blk_cell h 2).trans rfl⟩, blk_frozen h 0, blk_frozen h 1, blk_frozen h 2⟩
theorem blk4_put {w : World} {g : Nat} {a b c d a' b' c' d' : Value} {t : TypeId} (h : w.heap[g]? = some (.cells #[a, b, c, d] t (0, 0))) : ((((w.setCell ⟨g, 0, none⟩ a').setCell ⟨g, 1, none⟩ b').setCell ⟨g, 2, none⟩ c').setCell ⟨g, 3, none⟩ d').heap[g]? = some (.cells #[a', b', c', d'] t (0, 0)) :=
  blk_put (cs := #[a', b', c', d]) (blk_put (cs := #[a', b', c, d]) (blk_put (cs := #[a', b, c, d]) (blk_put (cs := #[a, b, c, d]) h 0 a' rfl) 1 b' rfl) 2 c' rfl) 3 d' rfl
theorem below4_put {b0 : Nat} {w0 w : World} {g : Nat} {a' b' c' d' : Value} (h : Below b0 w0 w) (hg : b0 ≤ g) : Below b0 w0 ((((w.setCell ⟨g, 0, none⟩ a').setCell ⟨g, 1, none⟩ b').setCell ⟨g, 2, none⟩ c').setCell ⟨g, 3, none⟩ d') :=
  (((h.setCell (p := ⟨g, 0, none⟩) hg _).setCell (p := ⟨g, 1, none⟩) hg _).setCell (p := ⟨g, 2, none⟩) hg _).setCell (p := ⟨g, 3, none⟩) hg _
theorem row4_put {w : World} {g base : Nat} {ok : Nat → Prop} {v : Value} {xs : List Int} {a b c d a' b' c' d' : Value} (h : w.heap[g]? = some (.cells #[a, b, c, d] 30 (0, 0))) (hr : Kd.R (Kd.int .i64) 3 w base ok v xs) : Kd.R (Kd.int .i64) 3 ((((w.setCell ⟨g, 0, none⟩ a').setCell ⟨g, 1, none⟩ b').setCell ⟨g, 2, none⟩ c').setCell ⟨g, 3, none⟩ d') base ok v xs :=
  Kd.R_set (Kd.R_set (Kd.R_set (Kd.R_set hr h (by decide) 0 a') (blk_put (cs' := #[a', b, c, d]) h 0 a' rfl) (by decide) 1 b') (blk_put (cs' := #[a', b', c, d]) (blk_put (cs' := #[a', b, c, d]) h 0 a' rfl) 1 b' rfl) (by decide) 2 c') (blk_put (cs' := #[a', b', c', d]) (blk_put (cs' := #[a', b', c, d]) (blk_put (cs' := #[a', b, c, d]) h 0 a' rfl) 1 b' rfl) 2 c' rfl) (by decide) 3 d'
set_option maxHeartbeats 8000000 in
set_option maxRecDepth 100000 in
theorem record_Take.empty_ (a0 : ByteArray) (w : World) (h : (a0.size : Int) = 0) :
    Calls Try.prog 50 #[.string a0] w fun e w' => ∃ v3_ : Value, e = .returned (.tuple #[.agg #[.int .i64 0, .int .i64 0, .int .i64 0, v3_], .int .i64 0, .int .i64 4]) ∧ Kd.R (Kd.int .i64) 3 w' w.heap.size (fun _ => True) v3_ [] ∧ Below w.heap.size w w' := by
  have hu24 := Try.underlying30
  have he : a0.toList.isEmpty = true := by rw [toList_empty]; exact decide_eq_true h
  go_enter Try.func50, Try.ntmps50
  go_wp2_with (first | ((with_reducible refine gate_dst (N := 2) rfl ?_); refine box_event ?hg (N := 2) ?hd (cs := #[.int .i64 0, .int .i64 0, .int .i64 0, .slice none 0 0]) (t := 30) ?hr ?_; (case hd => rfl); (case hg => rfl); (case hr => first | (go_simp; done) | (go_simp; rfl)); intro gr hgr w1 hbox hb; have GR := Aside0.mk (show w.heap.size ≤ gr by omega); clear hgr; have HB1 := Aside0.mk hb; clear hb; have BR := Aside0.mk hbox; clear hbox; obtain ⟨⟨k0, k1, k2, k3⟩, z0, z1, z2, z3⟩ := cell4 BR.out) | fail)
  refine bodyPost_ret (results_ctt rfl _ _ gr 30 #[.int .i64 0, .int .i64 0, .int .i64 0, .slice none 0 0] (0, 0) _ rfl (by exact blk4_put BR.out) Try.underlying30 rfl (by kernel_rfl)) rfl ?_
  exact ⟨_, rfl, Kd.R_nil _ _ _ _ _, below4_put HB1.out GR.out⟩
set_option maxHeartbeats 16000000 in
set_option maxRecDepth 100000 in
theorem record_Take.calls (k : Nat) (a0 : ByteArray) (r1 : Int) (r2 : Int) (r3 : Int) (r4 : List Int) (r5 : Int) (r6 : Int) (w : World) (h : record_Take.f k a0 = some (r1, r2, r3, r4, r5, r6)) :
    Calls Try.prog 50 #[.string a0] w fun e w' => ∃ v3_ : Value, e = .returned (.tuple #[.agg #[.int .i64 r1, .int .i64 r2, .int .i64 r3, v3_], .int .i64 r5, .int .i64 r6]) ∧ Kd.R (Kd.int .i64) 3 w' w.heap.size (fun _ => True) v3_ r4 ∧ Below w.heap.size w w' := by
  have H := h
  clear h
  unfold record_Take.f at H
  by_cases h : (a0.size : Int) = 0
  · rw [if_pos h] at H
    simp only [Option.some.injEq, Prod.mk.injEq] at H
    obtain ⟨rfl, rfl, rfl, rfl, rfl, rfl⟩ := H
    exact record_Take.empty_ a0 w h
  · rw [if_neg h] at H
    have HC := Aside0.mk H
    clear H
    have hu24 := Try.underlying30
    have he : a0.toList.isEmpty = false := by rw [toList_empty]; exact decide_eq_false h
    have c5b0 : decide (0 < (a0.size : Int)) = true := decide_eq_true (by omega)
    have c5b1 : decide (0 < a0.size) = true := decide_eq_true (by omega)
    go_enter Try.func50, Try.ntmps50
    go_upto_region 7 with (first | ((with_reducible refine gate_dst (N := 2) rfl ?_); refine box_event ?hg (N := 2) ?hd (cs := #[.int .i64 0, .int .i64 0, .int .i64 0, .slice none 0 0]) (t := 30) ?hr ?_; (case hd => rfl); (case hg => rfl); (case hr => first | (go_simp; done) | (go_simp; rfl)); intro gr hgr w1 hbox hb; have GR := Aside0.mk (show w.heap.size ≤ gr by omega); clear hgr; have HB1 := Aside0.mk hb; clear hb; have BR := Aside0.mk hbox; clear hbox; obtain ⟨⟨k0, k1, k2, k3⟩, z0, z1, z2, z3⟩ := cell4 BR.out) | ((with_reducible refine gate_dst (N := 11) rfl ?_); refine box_event ?hg (N := 11) ?hd (cs := #[.string a0, .int .i64 1, .int .i64 0]) (t := 105) ?hr ?_; (case hd => rfl); (case hg => rfl); (case hr => first | (go_simp; done) | (go_simp; rfl)); intro gt hgt w2 hbt hb2; have hne : gr ≠ gt := (by have := blk_lt BR.out; omega); have GT := Aside0.mk (show w.heap.size ≤ gt by have := HB1.out.size; omega); clear hgt; have HB2 := Aside0.mk (below_step HB1.out hb2); have BR2 := Aside0.mk (blk_below BR.out hb2); have BT := Aside0.mk hbt; clear hbt hb2 HB1 BR k0 k1 k2 k3 z0 z1 z2 z3; obtain ⟨⟨k0, k1, k2, k3⟩, z0, z1, z2, z3⟩ := cell4 BR2.out) | fail)
    have e0 : ∀ h : 0 < a0.size, ((a0[0]'h).toNat : Int) = bt a0 0 := bt_at a0 0
    rw [e0]
    clear e0
    have BR3 := Aside0.mk (blk_put (cs' := #[.int .i64 (wrap64 (bt a0 0)), .int .i64 0, .int .i64 0, .slice none 0 0]) BR2.out 0 (.int .i64 (wrap64 (bt a0 0))) rfl)
    have BT3 := Aside0.mk (blk_far BT.out (p := ⟨gr, 0, none⟩) (Ne.symm hne) (.int .i64 (wrap64 (bt a0 0))))
    have HB3 := Aside0.mk (HB2.out.setCell (p := ⟨gr, 0, none⟩) GR.out (.int .i64 (wrap64 (bt a0 0))))
    clear BR2 BT HB2 k0 k1 k2 k3 z0 z1 z2 z3
    generalize w2.setCell ⟨gr, 0, none⟩ (.int .i64 (wrap64 (bt a0 0))) = w3 at BR3 BT3 HB3 ⊢
    have H := HC.out
    clear HC
    generalize wrap64 (bt a0 0) = c at H BR3 ⊢
    obtain ⟨⟨k0, k1, k2, k3⟩, z0, z1, z2, z3⟩ := cell4 BR3.out
    obtain ⟨⟨j0, j1, j2⟩, y0, y1, y2⟩ := cell3 BT3.out
    by_cases h1 : c < 1
    · rw [if_pos h1] at H
      simp only [Option.some.injEq, Prod.mk.injEq] at H
      obtain ⟨rfl, rfl, rfl, rfl, rfl, rfl⟩ := H
      have d1 : decide (c < 1) = true := decide_eq_true h1
      clear h1
      go_wp2
      go_region
      all_goals go_wp2
      all_goals (refine bodyPost_ret (results_ctt rfl _ _ gr 30 #[.int .i64 0, .int .i64 0, .int .i64 0, .slice none 0 0] (0, 0) _ rfl (by refine blk_drew ?_; exact blk4_put (blk_far BR3.out (p := ⟨gt, 2, none⟩) hne _)) Try.underlying30 rfl (by kernel_rfl)) rfl ?_)
      all_goals exact ⟨_, rfl, Kd.R_nil _ _ _ _ _, below_drew (below4_put (HB3.out.setCell (p := ⟨gt, 2, none⟩) GT.out _) GR.out)⟩
    · rw [if_neg h1] at H
      have d1 : decide (c < 1) = false := decide_eq_false h1
      clear h1
      by_cases h2 : c > 6
      · rw [if_pos h2] at H
        simp only [Option.some.injEq, Prod.mk.injEq] at H
        obtain ⟨rfl, rfl, rfl, rfl, rfl, rfl⟩ := H
        have d2 : decide (c > 6) = true := decide_eq_true h2
        have d2' : decide (6 < c) = true := decide_eq_true h2
        clear h2
        go_wp2
        go_region
        all_goals go_wp2
        all_goals (refine bodyPost_ret (results_ctt rfl _ _ gr 30 #[.int .i64 0, .int .i64 0, .int .i64 0, .slice none 0 0] (0, 0) _ rfl (by refine blk_drew ?_; exact blk4_put (blk_far BR3.out (p := ⟨gt, 2, none⟩) hne _)) Try.underlying30 rfl (by kernel_rfl)) rfl ?_)
        all_goals exact ⟨_, rfl, Kd.R_nil _ _ _ _ _, below_drew (below4_put (HB3.out.setCell (p := ⟨gt, 2, none⟩) GT.out _) GR.out)⟩
      · rw [if_neg h2] at H
        have d2 : decide (c > 6) = false := decide_eq_false h2
        have d2' : decide (6 < c) = false := decide_eq_false h2
        clear h2
        by_cases h3 : c = 4
        · rw [if_pos h3] at H
          have d3 : (c == 4) = true := beq_iff_eq.mpr h3
          clear h3
          obtain ⟨⟨p1, p2, p3, p4⟩, A1, H⟩ := Option.bind_eq_some_iff.mp H
          simp only at H
          have HA1 := Aside0.mk A1
          have HH := Aside0.mk H
          clear A1 H
          have HI3 := Aside0.mk (show IsS105 w w3 gt a0 1 0 from ⟨BT3.out, GT.out⟩)
          go_upto_region 14 with (first | (go_at_call 63; (with_reducible refine (record_taker_list.calls k gt a0 1 0 p1 p2 p3 p4 w _ HI3.out HB3.out HA1.out).mono ?_); rintro e w4 ⟨v, rfl, hR, hI, hB4, hK⟩; obtain ⟨A, cp, rfl⟩ := Kd.R_slice hR; have HR4 := Aside0.mk (Kd.R_lower hR HB3.out.size); have BR4 := Aside0.mk (KeepBut.blk hK BR3.out hne (by simp)); have HB4 := Aside0.mk hB4; have BT4 := Aside0.mk hI.1; clear hR hI hB4 hK k0 k1 k2 k3 z0 z1 z2 z3 j0 j1 j2 y0 y1 y2; obtain ⟨⟨k0, k1, k2, k3⟩, z0, z1, z2, z3⟩ := cell4 BR4.out) | fail)
          have BR6 := Aside0.mk (blk_put (cs' := #[.int .i64 c, .int .i64 0, .int .i64 0, .slice A p1.length cp]) BR4.out 3 (.slice A p1.length cp) rfl)
          have BT6 := Aside0.mk (blk_far BT4.out (p := ⟨gr, 3, none⟩) (Ne.symm hne) (.slice A p1.length cp))
          have HB6 := Aside0.mk (HB4.out.setCell (p := ⟨gr, 3, none⟩) GR.out (.slice A p1.length cp))
          have HR6 := Aside0.mk (Kd.R_set HR4.out BR4.out (by decide) 3 (.slice A p1.length cp))
          clear BR4 BT4 HB4 HR4 k0 k1 k2 k3 z0 z1 z2 z3
          generalize w4.setCell ⟨gr, 3, none⟩ (.slice A p1.length cp) = w6 at BR6 BT6 HB6 HR6 ⊢
          have H := HH.out
          clear HH
          obtain ⟨⟨k0, k1, k2, k3⟩, z0, z1, z2, z3⟩ := cell4 BR6.out
          obtain ⟨⟨j0, j1, j2⟩, y0, y1, y2⟩ := cell3 BT6.out
          unfold record_Take.fin at H
          by_cases he0 : p4 = 0
          · rw [if_pos he0] at H
            simp only [Option.some.injEq, Prod.mk.injEq] at H
            obtain ⟨rfl, rfl, rfl, rfl, rfl, rfl⟩ := H
            have b0 : (p4 == 0) = true := beq_iff_eq.mpr he0
            have b1 : (p4 != 0) = false := bne_eq_false_iff_eq.mpr he0
            clear he0
            go_wp2
            go_region
            all_goals go_wp2
            all_goals (refine bodyPost_ret (results_ctt rfl _ _ gr 30 #[.int .i64 c, .int .i64 0, .int .i64 0, (.slice A p1.length cp)] (0, 0) _ rfl (by refine blk_drew ?_; exact blk4_put BR6.out) Try.underlying30 rfl (by kernel_rfl)) rfl ?_)
            all_goals exact ⟨_, rfl, Kd.R_drew (row4_put BR6.out HR6.out), below_drew (below4_put HB6.out GR.out)⟩
          · rw [if_neg he0] at H
            simp only [Option.some.injEq, Prod.mk.injEq] at H
            obtain ⟨rfl, rfl, rfl, rfl, rfl, rfl⟩ := H
            have b0 : (p4 == 0) = false := beq_eq_false_iff_ne.mpr he0
            have b1 : (p4 != 0) = true := bne_iff_ne.mpr he0
            clear he0
            go_wp2
            go_region
            all_goals go_wp2
            all_goals (refine bodyPost_ret (results_ctt rfl _ _ gr 30 #[.int .i64 0, .int .i64 0, .int .i64 0, .slice none 0 0] (0, 0) _ rfl (by refine blk_drew ?_; exact blk4_put BR6.out) Try.underlying30 rfl (by kernel_rfl)) rfl ?_)
            all_goals exact ⟨_, rfl, Kd.R_nil _ _ _ _ _, below_drew (below4_put HB6.out GR.out)⟩
        · rw [if_neg h3] at H
          have d3 : (c == 4) = false := beq_eq_false_iff_ne.mpr h3
          clear h3
          obtain ⟨t, AR0, H⟩ := Option.bind_eq_some_iff.mp H
          have AR := Aside0.mk AR0
          clear AR0
          by_cases ht : t = true
          · subst ht
            rw [if_pos rfl] at H
            obtain ⟨⟨p1, p2, p3, p4⟩, A1, H⟩ := Option.bind_eq_some_iff.mp H
            obtain ⟨⟨q1, q2, q3, q4⟩, A2, H⟩ := Option.bind_eq_some_iff.mp H
            simp only at A2 H
            have HA1 := Aside0.mk A1
            have HA2 := Aside0.mk A2
            have HH := Aside0.mk H
            clear A1 A2 H
            have HI3 := Aside0.mk (show IsS105 w w3 gt a0 1 0 from ⟨BT3.out, GT.out⟩)
            go_upto_region 13 with (first | (go_at_call 64; (with_reducible refine (record_runs.calls c _ _ AR.out).mono ?_); rintro e wr ⟨rfl, hdr⟩; obtain ⟨mr, hmr⟩ := hdr; subst hmr) | (go_at_call 65; (with_reducible refine (record_taker_offset.calls k gt a0 1 0 1 p1 p2 p3 p4 w _ (IsS105.drewN HI3.out mr) (pw_below_drewN HB3.out mr) HA1.out).mono ?_); rintro e w4 ⟨rfl, hI, hB4, hK⟩; have BR4 := Aside0.mk (KeepBut.blk hK (blk_drewN BR3.out mr) hne (by simp)); have HB4 := Aside0.mk hB4; have BT4 := Aside0.mk hI.1; clear hI hB4 hK k0 k1 k2 k3 z0 z1 z2 z3 j0 j1 j2 y0 y1 y2; obtain ⟨⟨k0, k1, k2, k3⟩, z0, z1, z2, z3⟩ := cell4 BR4.out) | fail)
            have BR5 := Aside0.mk (blk_put (cs' := #[.int .i64 c, .int .i64 p1, .int .i64 0, .slice none 0 0]) BR4.out 1 (.int .i64 p1) rfl)
            have BT5 := Aside0.mk (blk_far BT4.out (p := ⟨gr, 1, none⟩) (Ne.symm hne) (.int .i64 p1))
            have HB5 := Aside0.mk (HB4.out.setCell (p := ⟨gr, 1, none⟩) GR.out (.int .i64 p1))
            clear BR4 BT4 HB4 k0 k1 k2 k3 z0 z1 z2 z3
            generalize w4.setCell ⟨gr, 1, none⟩ (.int .i64 p1) = w5 at BR5 BT5 HB5 ⊢
            obtain ⟨⟨k0, k1, k2, k3⟩, z0, z1, z2, z3⟩ := cell4 BR5.out
            obtain ⟨⟨j0, j1, j2⟩, y0, y1, y2⟩ := cell3 BT5.out
            have HI5 := Aside0.mk (show IsS105 w w5 gt p2 p3 p4 from ⟨BT5.out, GT.out⟩)
            go_upto_region 14 with (first | (go_at_call 65; (with_reducible refine (record_taker_offset.calls k gt p2 p3 p4 1 q1 q2 q3 q4 w _ HI5.out HB5.out HA2.out).mono ?_); rintro e w7 ⟨rfl, hI, hB7, hK⟩; have BR7 := Aside0.mk (KeepBut.blk hK BR5.out hne (by simp)); have HB7 := Aside0.mk hB7; have BT7 := Aside0.mk hI.1; clear hI hB7 hK k0 k1 k2 k3 z0 z1 z2 z3 j0 j1 j2 y0 y1 y2; obtain ⟨⟨k0, k1, k2, k3⟩, z0, z1, z2, z3⟩ := cell4 BR7.out) | fail)
            have BR6 := Aside0.mk (blk_put (cs' := #[.int .i64 c, .int .i64 p1, .int .i64 q1, .slice none 0 0]) BR7.out 2 (.int .i64 q1) rfl)
            have BT6 := Aside0.mk (blk_far BT7.out (p := ⟨gr, 2, none⟩) (Ne.symm hne) (.int .i64 q1))
            have HB6 := Aside0.mk (HB7.out.setCell (p := ⟨gr, 2, none⟩) GR.out (.int .i64 q1))
            clear BR7 BT7 HB7 k0 k1 k2 k3 z0 z1 z2 z3
            generalize w7.setCell ⟨gr, 2, none⟩ (.int .i64 q1) = w6 at BR6 BT6 HB6 ⊢
            have H := HH.out
            clear HH
            obtain ⟨⟨k0, k1, k2, k3⟩, z0, z1, z2, z3⟩ := cell4 BR6.out
            obtain ⟨⟨j0, j1, j2⟩, y0, y1, y2⟩ := cell3 BT6.out
            unfold record_Take.fin at H
            by_cases he0 : q4 = 0
            · rw [if_pos he0] at H
              simp only [Option.some.injEq, Prod.mk.injEq] at H
              obtain ⟨rfl, rfl, rfl, rfl, rfl, rfl⟩ := H
              have b0 : (q4 == 0) = true := beq_iff_eq.mpr he0
              have b1 : (q4 != 0) = false := bne_eq_false_iff_eq.mpr he0
              clear he0
              go_wp2
              go_region
              all_goals go_wp2
              all_goals (refine bodyPost_ret (results_ctt rfl _ _ gr 30 #[.int .i64 c, .int .i64 p1, .int .i64 q1, .slice none 0 0] (0, 0) _ rfl (by refine blk_drew ?_; exact blk4_put BR6.out) Try.underlying30 rfl (by kernel_rfl)) rfl ?_)
              all_goals exact ⟨_, rfl, Kd.R_nil _ _ _ _ _, below_drew (below4_put HB6.out GR.out)⟩
            · rw [if_neg he0] at H
              simp only [Option.some.injEq, Prod.mk.injEq] at H
              obtain ⟨rfl, rfl, rfl, rfl, rfl, rfl⟩ := H
              have b0 : (q4 == 0) = false := beq_eq_false_iff_ne.mpr he0
              have b1 : (q4 != 0) = true := bne_iff_ne.mpr he0
              clear he0
              go_wp2
              go_region
              all_goals go_wp2
              all_goals (refine bodyPost_ret (results_ctt rfl _ _ gr 30 #[.int .i64 0, .int .i64 0, .int .i64 0, .slice none 0 0] (0, 0) _ rfl (by refine blk_drew ?_; exact blk4_put BR6.out) Try.underlying30 rfl (by kernel_rfl)) rfl ?_)
              all_goals exact ⟨_, rfl, Kd.R_nil _ _ _ _ _, below_drew (below4_put HB6.out GR.out)⟩
          · rw [if_neg ht] at H
            obtain rfl : t = false := by simpa using ht
            clear ht
            obtain ⟨⟨p1, p2, p3, p4⟩, A1, H⟩ := Option.bind_eq_some_iff.mp H
            obtain ⟨⟨q1, q2, q3, q4⟩, A2, H⟩ := Option.bind_eq_some_iff.mp H
            simp only at A2 H
            have HA1 := Aside0.mk A1
            have HA2 := Aside0.mk A2
            have HH := Aside0.mk H
            clear A1 A2 H
            have HI3 := Aside0.mk (show IsS105 w w3 gt a0 1 0 from ⟨BT3.out, GT.out⟩)
            go_upto_region 6 with (first | (go_at_call 64; (with_reducible refine (record_runs.calls c _ _ AR.out).mono ?_); rintro e wr ⟨rfl, hdr⟩; obtain ⟨mr, hmr⟩ := hdr; subst hmr) | (go_at_call 65; (with_reducible refine (record_taker_offset.calls k gt a0 1 0 0 p1 p2 p3 p4 w _ (IsS105.drewN HI3.out mr) (pw_below_drewN HB3.out mr) HA1.out).mono ?_); rintro e w4 ⟨rfl, hI, hB4, hK⟩; have BR4 := Aside0.mk (KeepBut.blk hK (blk_drewN BR3.out mr) hne (by simp)); have HB4 := Aside0.mk hB4; have BT4 := Aside0.mk hI.1; clear hI hB4 hK k0 k1 k2 k3 z0 z1 z2 z3 j0 j1 j2 y0 y1 y2; obtain ⟨⟨k0, k1, k2, k3⟩, z0, z1, z2, z3⟩ := cell4 BR4.out) | fail)
            have BR5 := Aside0.mk (blk_put (cs' := #[.int .i64 c, .int .i64 p1, .int .i64 0, .slice none 0 0]) BR4.out 1 (.int .i64 p1) rfl)
            have BT5 := Aside0.mk (blk_far BT4.out (p := ⟨gr, 1, none⟩) (Ne.symm hne) (.int .i64 p1))
            have HB5 := Aside0.mk (HB4.out.setCell (p := ⟨gr, 1, none⟩) GR.out (.int .i64 p1))
            clear BR4 BT4 HB4 k0 k1 k2 k3 z0 z1 z2 z3
            generalize w4.setCell ⟨gr, 1, none⟩ (.int .i64 p1) = w5 at BR5 BT5 HB5 ⊢
            obtain ⟨⟨k0, k1, k2, k3⟩, z0, z1, z2, z3⟩ := cell4 BR5.out
            obtain ⟨⟨j0, j1, j2⟩, y0, y1, y2⟩ := cell3 BT5.out
            have HI5 := Aside0.mk (show IsS105 w w5 gt p2 p3 p4 from ⟨BT5.out, GT.out⟩)
            go_upto_region 14 with (first | (go_at_call 65; (with_reducible refine (record_taker_offset.calls k gt p2 p3 p4 0 q1 q2 q3 q4 w _ HI5.out HB5.out HA2.out).mono ?_); rintro e w7 ⟨rfl, hI, hB7, hK⟩; have BR7 := Aside0.mk (KeepBut.blk hK BR5.out hne (by simp)); have HB7 := Aside0.mk hB7; have BT7 := Aside0.mk hI.1; clear hI hB7 hK k0 k1 k2 k3 z0 z1 z2 z3 j0 j1 j2 y0 y1 y2; obtain ⟨⟨k0, k1, k2, k3⟩, z0, z1, z2, z3⟩ := cell4 BR7.out) | fail)
            have BR6 := Aside0.mk (blk_put (cs' := #[.int .i64 c, .int .i64 p1, .int .i64 q1, .slice none 0 0]) BR7.out 2 (.int .i64 q1) rfl)
            have BT6 := Aside0.mk (blk_far BT7.out (p := ⟨gr, 2, none⟩) (Ne.symm hne) (.int .i64 q1))
            have HB6 := Aside0.mk (HB7.out.setCell (p := ⟨gr, 2, none⟩) GR.out (.int .i64 q1))
            clear BR7 BT7 HB7 k0 k1 k2 k3 z0 z1 z2 z3
            generalize w7.setCell ⟨gr, 2, none⟩ (.int .i64 q1) = w6 at BR6 BT6 HB6 ⊢
            have H := HH.out
            clear HH
            obtain ⟨⟨k0, k1, k2, k3⟩, z0, z1, z2, z3⟩ := cell4 BR6.out
            obtain ⟨⟨j0, j1, j2⟩, y0, y1, y2⟩ := cell3 BT6.out
            unfold record_Take.fin at H
            by_cases he0 : q4 = 0
            · rw [if_pos he0] at H
              simp only [Option.some.injEq, Prod.mk.injEq] at H
              obtain ⟨rfl, rfl, rfl, rfl, rfl, rfl⟩ := H
              have b0 : (q4 == 0) = true := beq_iff_eq.mpr he0
              have b1 : (q4 != 0) = false := bne_eq_false_iff_eq.mpr he0
              clear he0
              go_wp2
              go_region
              all_goals go_wp2
              all_goals (refine bodyPost_ret (results_ctt rfl _ _ gr 30 #[.int .i64 c, .int .i64 p1, .int .i64 q1, .slice none 0 0] (0, 0) _ rfl (by refine blk_drew ?_; exact blk4_put BR6.out) Try.underlying30 rfl (by kernel_rfl)) rfl ?_)
              all_goals exact ⟨_, rfl, Kd.R_nil _ _ _ _ _, below_drew (below4_put HB6.out GR.out)⟩
            · rw [if_neg he0] at H
              simp only [Option.some.injEq, Prod.mk.injEq] at H
              obtain ⟨rfl, rfl, rfl, rfl, rfl, rfl⟩ := H
              have b0 : (q4 == 0) = false := beq_eq_false_iff_ne.mpr he0
              have b1 : (q4 != 0) = true := bne_iff_ne.mpr he0
              clear he0
              go_wp2
              go_region
              all_goals go_wp2
              all_goals (refine bodyPost_ret (results_ctt rfl _ _ gr 30 #[.int .i64 0, .int .i64 0, .int .i64 0, .slice none 0 0] (0, 0) _ rfl (by refine blk_drew ?_; exact blk4_put BR6.out) Try.underlying30 rfl (by kernel_rfl)) rfl ?_)
              all_goals exact ⟨_, rfl, Kd.R_nil _ _ _ _ _, below_drew (below4_put HB6.out GR.out)⟩
end Go.Proofs.Ytejcopppchaneaa.PF
