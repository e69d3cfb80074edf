/- merge.All over this seat's program, by walking its text. -/
import Derived.Test.YtaihieglailmcaaMerger
namespace Go.Proofs.Ytaihieglailmcaa.PG
open Go.RowKit Go.Proofs.YtaihieglailmcaaW.PrintWords Go.Proofs.YtaihieglailmcaaW.PrintLast Go.Proofs.YtaihieglailmcaaW.PrintMore
set_option linter.unusedVariables false
set_option linter.unusedSimpArgs false
def merge_All.go (k : Nat) : List S28 → S28 → Bool → List S28 → Option (List S28)
  | [], m, has, acc => if has = true then (if acc.length < 2932031007402 then some (acc ++ [m]) else none) else some acc
  | r :: rs, m, has, acc => (merge_Add.f k m has r).bind fun p => if p.2.1 = true then (if acc.length < 2932031007402 then merge_All.go k rs p.2.2.1 p.2.2.2 (acc ++ [p.1]) else none) else merge_All.go k rs p.2.2.1 p.2.2.2 acc
def merge_All.f (k : Nat) (l0 : List S28) : Option (List S28) := merge_All.go k l0 z28 false []
theorem merge_Add.mono : ∀ m has r k, LeO (merge_Add.f k m has r) (merge_Add.f (k + 1) m has r) := fun m has r k => by
  unfold merge_Add.f
  exact LeO.ite (LeO.refl _) (LeO.bind (merge_Two.mono _ _ _ _ _ _ _ _ _) (fun p => LeO.refl _))
theorem merge_All.mono_go (k : Nat) : ∀ (l : List S28) (m : S28) (has : Bool) (acc : List S28), LeO (merge_All.go k l m has acc) (merge_All.go (k + 1) l m has acc)
  | [], _, _, _ => LeO.refl _
  | r :: rs, m, has, acc => LeO.bind (merge_Add.mono _ _ _ _) (fun p => LeO.ite (LeO.ite (merge_All.mono_go k rs _ _ _) (LeO.none _)) (merge_All.mono_go k rs _ _ _))
theorem merge_All.mono : ∀ l k, LeO (merge_All.f k l) (merge_All.f (k + 1) l) := fun l k => merge_All.mono_go k l _ _ _
theorem MAt.below {w w' : World} {base g : Nat} {m : S28} {has : Bool} (h : MAt w base g m has) (hb : Below w.heap.size w w') : MAt w' base g m has := by
  obtain ⟨hg, v, hbk, hR⟩ := h
  exact ⟨hg, v, blk_below hbk hb, Kd.R_below hR hb⟩
theorem MAt.over {w w' : World} {base g : Nat} {m : S28} {has : Bool} {u : Value} {ys : List S28} {ok : Nat → Prop} {b' : Nat} (h : MAt w base g m has) (hv : Kd.R k28 28 w b' ok u ys) (hg : w.grownBy w' u.ownBlock) : MAt w' base g m has := by
  obtain ⟨hge, v, hbk, hR⟩ := h
  exact ⟨hge, v, blk_grown hbk hg (Kd.R_ne hv hbk (by decide)), Kd.R_over hR (Kd.R_lower hv (Nat.zero_le _)) (by decide) hg⟩
theorem MAt.rkeep {α : Type} {d : Kd α} {w w' : World} {base b e g : Nat} {m : S28} {has : Bool} {v : Value} {xs : List α} (hM : MAt w b g m has) (h : d.R e w base (fun _ => True) v xs) (ht : ∀ q, q ∈ e :: d.E → q ≠ 30) (hK : KeepBut w w' g none) : d.R e w' base (fun _ => True) v xs := by
  obtain ⟨_, _, hbk, _⟩ := hM
  exact Kd.R_mono (Kd.R_keep (Kd.R_types h hbk ht) hK (fun _ hk => hk.2)) (fun _ _ => trivial)
set_option maxHeartbeats 8000000 in
set_option maxRecDepth 100000 in
theorem merge_All.calls (k : Nat) (A0 : Option Addr) (c0 : Nat) (l0 : List S28) (r : List S28) (w : World) (hr0 : Kd.C k28 w A0 l0.length l0) (hc0 : l0.length ≤ c0) (h : merge_All.f k l0 = some r) :
    Calls Try.prog 22 #[.slice A0 l0.length c0] w fun e w' => ∃ v0_ : Value, e = .returned (v0_) ∧ Kd.R k28 28 w' w.heap.size (fun _ => True) v0_ r ∧ Below w.heap.size w w' := by
  have hu := Try.underlying28
  have HR0 := Aside0.mk hr0
  have H' := Aside0.mk (show merge_All.go k (l0.drop 0) z28 false [] = some r from h)
  have hm0 : l0.length ≤ 9223372036854775807 := hr0.2.1
  clear hr0 h
  go_enter Try.func22, Try.ntmps22
  go_wp2
  go_loopw [13, 4] (fun i v4 wr => ∃ (j : Nat) (m : S28) (has : Bool) (acc : List S28), j ≤ l0.length ∧ i = .int .i64 (j : Int) ∧ Aside0 (merge_All.go k (l0.drop j) m has acc = some r) ∧ Aside0 (MAt wr w.heap.size w.heap.size m has) ∧ Aside0 (Kd.R k28 28 wr w.heap.size (fun _ => True) v4 acc) ∧ Aside0 (Below w.heap.size w wr)) (fun i _ _ => l0.length - (intOf i).toNat)
  case atStart => exact ⟨0, z28, false, [], Nat.zero_le _, rfl, H', ⟨⟨Nat.le_refl _, _, blk_new _ _, Kd.R_nil _ _ _ _ _⟩⟩, ⟨Kd.R_nil _ _ _ _ _⟩, ⟨below_alloc (Below.refl _ _) _⟩⟩
  case round =>
    obtain ⟨j, m, has, acc, hj, rfl, HA, HM, HO, HB⟩ := hrel
    by_cases hlt : j < l0.length
    · obtain ⟨ad, A3, c3, eA, hx0, hx1, hx2, hx3, hl3, hi3⟩ := at_T28 (Kd.C_below HR0.out HB.out) (j : Int) (by omega) (by omega)
      subst eA
      simp only [Int.toNat_natCast] at hx0 hx1 hx2 hx3
      have H := HA.out
      clear HA
      rw [List.drop_eq_getElem_cons hlt] at H
      have hrd : rd_T28 l0 (j : Int) = l0[j] := by simp [rd_T28, List.getD_eq_getElem?_getD, List.getElem?_eq_getElem hlt]
      rw [hrd] at hx0 hx1 hx2 hx3 hl3 hi3
      clear hrd
      generalize l0[j] = y at H hx0 hx1 hx2 hx3 hl3 hi3
      simp only [merge_All.go] at H
      obtain ⟨⟨o, ok, m', has'⟩, A1, H⟩ := Option.bind_eq_some_iff.mp H
      have HA1 := Aside0.mk A1
      have HH := Aside0.mk H
      have HL3 := Aside0.mk hl3
      have HI3 := Aside0.mk hi3
      clear A1 H hl3 hi3
      obtain ⟨Ao, co, rfl⟩ := Kd.R_slice HO.out
      go_upto_region 7 with (first | (go_at_call 11; (refine (merge_Add.calls k w.heap.size w.heap.size m y has A3 c3 o ok m' has' _ (HM.out.below (below_alloc (Below.refl _ _) _)) (below_alloc HB.out _).size (Kd.C_alloc HI3.out _) HL3.out HA1.out).mono ?_); rintro e w3 ⟨v, rfl, hRv, hM3, hK3, hB3⟩; obtain ⟨Av, cv, rfl⟩ := Kd.R_slice hRv) | fail)
      have HB3 := Aside0.mk ((below_alloc HB.out _).trans hB3)
      have HM3 := Aside0.mk hM3
      have HV3 := Aside0.mk hRv
      have HO3 := Aside0.mk (MAt.rkeep (HM.out.below (below_alloc (Below.refl _ _) _)) (Kd.R_alloc HO.out _) (by decide) hK3)
      clear HM HO hM3 hRv hK3 hB3 HB hx0 hx1 hx2 hx3 HA1 HL3 HI3
      cases ok with
      | true =>
        have H := HH.out
        rw [if_pos rfl] at H
        by_cases hlim : acc.length < 2932031007402
        · rw [if_pos hlim] at H
          have HG := Aside0.mk H
          have HLM := Aside0.mk hlim
          clear H hlim HH
          go_wp2_with (first | (at_builtin; refine Kd.R_append k28 (w0 := w) w.heap.size rfl (.tmp 23) (.tmp 25) 22 28 (.agg #[(.int .i64 0), (.int .i64 0), (.int .i64 0), (.slice none 0 0)]) 48 rfl Try.underlying22 info28 rfl (by decide) (by omega) (.slice Ao acc.length co) acc o [.int .i64 o.f0, .int .i64 o.f1, .int .i64 o.f2, .slice Av o.f3.length cv] (fun _ => True) (fun k_ => True ∧ some k_ ≠ (Value.slice Ao acc.length co).ownBlock) rfl ?aX ?aP (fun _ hk => hk) (fun _ _ => trivial) ?aO ?aB ?aS ?aL ?_; (case aX => first | (go_simp; done) | (go_simp; rfl)); (case aP => exact k28_mkM _ _ _ o (Kd.R_apartR (Kd.R_alloc HV3.out _) (Kd.R_alloc HO3.out _) (by decide))); (case aO => exact Kd.R_alloc HO3.out _); (case aB => exact below_alloc HB3.out _); (case aS => exact (below_alloc HB3.out _).size); (case aL => have := HLM.out; omega); intro v1 w4 ho4 hb4 hg4 hat4; have HO4 := Aside0.mk ho4; have HG4 := Aside0.mk hg4; have HB4 := Aside0.mk hb4; obtain ⟨A4, c4, rfl⟩ := Kd.R_slice ho4; clear hat4 hg4 ho4 hb4) | fail)
          rw [List.length_append, List.length_singleton] at HO4
          have HM4 := Aside0.mk ((HM3.out.below (below_alloc (Below.refl _ _) _)).over (Kd.R_alloc HO3.out _) HG4.out)
          exact ⟨⟨j + 1, m', has', acc ++ [o], by omega, by go_num, HG, HM4, HO4, HB4⟩, by simp [intOf]; omega⟩
        · rw [if_neg hlim] at H; cases H
      | false =>
        have H := HH.out
        rw [if_neg (by decide)] at H
        have HH := Aside0.mk H
        clear H
        go_wp2
        exact ⟨⟨j + 1, m', has', acc, by omega, by go_num, HH, ⟨HM3.out.below (below_alloc (Below.refl _ _) _)⟩, ⟨Kd.R_alloc HO3.out _⟩, ⟨below_alloc HB3.out _⟩⟩, by simp [intOf]; omega⟩
    · have H := HA.out
      rw [List.drop_eq_nil_of_le (by omega)] at H
      simp only [merge_All.go] at H
      have HH := Aside0.mk H
      clear HA H
      obtain ⟨Ao, co, rfl⟩ := Kd.R_slice HO.out
      cases has with
      | true =>
        have H := HH.out
        rw [if_pos rfl] at H
        by_cases hlim : acc.length < 2932031007402
        · rw [if_pos hlim] at H
          injection H with H
          subst H
          have HLM := Aside0.mk hlim
          clear hlim HH
          go_upto_region 11 with (first | (go_at_call 14; (refine (merge_Flush.calls w.heap.size w.heap.size m true m true z28 false _ HM.out HB.out.size rfl).mono ?_); rintro e w3 ⟨v, rfl, hRv, hM3, hK3, hB3⟩; obtain ⟨Av, cv, rfl⟩ := Kd.R_slice hRv) | fail)
          have HB3 := Aside0.mk (HB.out.trans hB3)
          have HV3 := Aside0.mk hRv
          have HO3 := Aside0.mk (MAt.rkeep HM.out HO.out (by decide) hK3)
          clear HM HO hM3 hRv hK3 hB3 HB
          go_wp2_with (first | (at_builtin; refine Kd.R_append k28 (w0 := w) w.heap.size rfl (.tmp 33) (.tmp 35) 22 28 (.agg #[(.int .i64 0), (.int .i64 0), (.int .i64 0), (.slice none 0 0)]) 48 rfl Try.underlying22 info28 rfl (by decide) (by omega) (.slice Ao acc.length co) acc m [.int .i64 m.f0, .int .i64 m.f1, .int .i64 m.f2, .slice Av m.f3.length cv] (fun _ => True) (fun k_ => True ∧ some k_ ≠ (Value.slice Ao acc.length co).ownBlock) rfl ?aX ?aP (fun _ hk => hk) (fun _ _ => trivial) ?aO ?aB ?aS ?aL ?_; (case aX => first | (go_simp; done) | (go_simp; rfl)); (case aP => exact k28_mkM _ _ _ m (Kd.R_apartR (Kd.R_alloc HV3.out _) (Kd.R_alloc HO3.out _) (by decide))); (case aO => exact Kd.R_alloc HO3.out _); (case aB => exact below_alloc HB3.out _); (case aS => exact (below_alloc HB3.out _).size); (case aL => have := HLM.out; omega); intro v1 w4 ho4 hb4 hg4 hat4; have HO4 := Aside0.mk ho4; have HG4 := Aside0.mk hg4; have HB4 := Aside0.mk hb4; obtain ⟨A4, c4, rfl⟩ := Kd.R_slice ho4; clear hat4 hg4 ho4 hb4) | fail)
          rw [List.length_append, List.length_singleton] at HO4
          go_ret
          exact ⟨_, rfl, HO4.out, HB4.out⟩
        · rw [if_neg hlim] at H; cases H
      | false =>
        have H := HH.out
        rw [if_neg (by decide)] at H
        injection H with H
        subst H
        clear HH
        go_upto_region 11 with (first | (go_at_call 14; (refine (merge_Flush.calls w.heap.size w.heap.size m false z28 false m false _ HM.out HB.out.size rfl).mono ?_); rintro e w3 ⟨v, rfl, hRv, hM3, hK3, hB3⟩; obtain ⟨Av, cv, rfl⟩ := Kd.R_slice hRv) | fail)
        have HB3 := Aside0.mk (HB.out.trans hB3)
        have HO3 := Aside0.mk (MAt.rkeep HM.out HO.out (by decide) hK3)
        clear HM HO hM3 hRv hK3 hB3 HB
        go_wp2
        go_ret
        exact ⟨_, rfl, Kd.R_alloc HO3.out _, below_alloc HB3.out _⟩
end Go.Proofs.Ytaihieglailmcaa.PG
