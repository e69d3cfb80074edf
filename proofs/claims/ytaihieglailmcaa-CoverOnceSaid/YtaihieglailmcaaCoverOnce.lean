/- CoverOnce over this seat's program, by walking its text: it returns true. -/
import Derived.Test.YtaihieglailmcaaCoverAll
import Derived.Test.YtaihieglailmcaaCOnce
import Derived.Test.YtaihieglailmcaaPCx6
import Derived.Test.YtaihieglailmcaaPCx3
import Derived.Test.YtaihieglailmcaaOpensC
import Derived.Outline
set_option linter.unusedVariables false
set_option linter.unusedSimpArgs false
namespace Go.Proofs.Ytaihieglailmcaa.PC
open Go.RowKit Go.Proofs.YtaihieglailmcaaW.PrintWords Go.Proofs.YtaihieglailmcaaW.PrintLast Go.Proofs.YtaihieglailmcaaW.PrintMore Go.Proofs.Ytaihieglailmcaa.Pure
theorem CSt.lower {W : World} {base base' g : Nat} {s : CS} (hc : CSt W base g s) (h : base' ≤ base) : CSt W base' g s := by
  obtain ⟨h1, v, h2, h3⟩ := hc
  exact ⟨Nat.le_trans h h1, v, h2, Kd.R_lower h3 h⟩
theorem cover_Pass.zb (base g : Nat) (a h : Int) (r : S28) (ended : Bool) (w : World) (hC : CAt w base g a h r 0 ended) : Calls Try.prog 30 #[.pointer (some ⟨g, 0, none⟩)] w fun e w' => e = .returned (.tuple #[.slice none 0 0, .int .i64 12]) ∧ Below w.heap.size w w' :=
  (cover_Pass.zero base g a h r ended w hC).mono (fun e w' h => ⟨h.1, by rw [h.2]; exact Below.refl _ _⟩)
theorem cover_At.b (base g : Nat) (s : CS) (w : World) (hC : CSt w base g s) : Calls Try.prog 34 #[.pointer (some ⟨g, 0, none⟩)] w fun e w' => e = .returned (.int .i64 s.a) ∧ Below w.heap.size w w' :=
  (cover_At.calls_ base g _ _ _ _ _ w hC).mono (fun e w' h => ⟨h.1, by rw [h.2]; exact Below.refl _ _⟩)
theorem cover_Hits.b (base g : Nat) (s : CS) (w : World) (hC : CSt w base g s) : Calls Try.prog 38 #[.pointer (some ⟨g, 0, none⟩)] w fun e w' => e = .returned (.int .i64 s.h) ∧ Below w.heap.size w w' :=
  (cover_Hits.calls_ base g _ _ _ _ _ w hC).mono (fun e w' h => ⟨h.1, by rw [h.2]; exact Below.refl _ _⟩)
theorem CSt.over {W W' : World} {base base' g : Nat} {s : CS} {ok : Nat → Prop} {v : Value} {xs : List S76} (hc : CSt W base g s) (hr : Kd.R k76 76 W base' ok v xs) (hg : W.grownBy W' v.ownBlock) : CSt W' base g s := by
  obtain ⟨h1, u, h2, h3⟩ := hc
  refine ⟨h1, u, (hg.block g (blk_lt h2) (Kd.R_ne hr h2 (by decide))).trans h2, ?_⟩
  refine Kd.R_mono (Kd.R_grown (Kd.R_bound h3) hg (fun k hk e => ?_)) (fun _ _ => trivial)
  obtain ⟨_, _, _, q, hq, cells, hc⟩ := hk
  have := Kd.R_ne hr hc (by rw [List.mem_singleton.1 hq]; decide)
  exact this e
def onceR16.T : Bool × List (List Nat × List Nat) := (true, [([], []), ([0], [0]), ([1], [1]), ([1], [1]), ([2, 3, 1], [1, 2, 3]), ([4, 1], [1, 4]), ([5, 1], [1, 5]), ([1], [1]), ([7, 1], [1, 7]), ([6, 8, 1], [1, 6, 8]), ([9, 1], [1, 9]), ([1], [1]), ([1], [1]), ([11, 12, 1], [1, 11, 12]), ([13, 1], [1, 13]), ([14, 1], [1, 14]), ([1], [1]), ([15, 16, 1], [1, 15, 16]), ([17, 1], [1, 17]), ([10, 18, 1], [1, 10, 18]), ([1, 19], [1, 19]), ([20, 1, 0, 1, 2, 3, 4, 5, 6, 7, 8, 9, 10, 11, 12, 13, 14, 15, 16, 17, 18, 19, 20], [0, 20])])
def onceR16.B : List Nat := [0, 1, 3, 3, 15, 31, 63, 3, 131, 511, 1023, 3, 3, 6147, 14339, 30723, 3, 129027, 260099, 524287, 1048575, 2097151]
theorem onceR16.tab : rtab .any (opsOf Try.f7 16) = onceR16.T := by kernel_rfl
theorem onceR16.bits : waitsOk onceR16.T.2 onceR16.B = true := by kernel_rfl
def onceR24.T : Bool × List (List Nat × List Nat) := (true, [([], []), ([], []), ([1], [1]), ([0, 2], [0, 2]), ([3], [3]), ([4], [4]), ([5, 4, 4], [4, 5]), ([6], [6]), ([6], [6]), ([8, 6], [6, 8]), ([7, 9, 6], [6, 7, 9]), ([10, 6, 6], [6, 10]), ([11], [11]), ([12, 11, 11], [11, 12]), ([11], [11]), ([11], [11]), ([15, 13, 11], [11, 15]), ([14, 16, 11], [11, 14, 16]), ([13, 17, 11], [11, 13, 17]), ([11, 18, 6], [6, 11, 18]), ([6, 19, 4], [4, 6, 19]), ([4, 20], [4, 20]), ([21, 16], [21]), ([22], [22]), ([23, 22], [22, 23]), ([24, 22, 22], [22, 24]), ([25], [25]), ([26, 25, 25], [25, 26]), ([25], [25]), ([27, 28, 25], [25, 27, 28]), ([25, 29, 22], [22, 25, 29]), ([22, 30], [22, 30])])
def onceR24.B : List Nat := [0, 0, 2, 7, 15, 31, 63, 127, 127, 383, 1023, 2047, 4095, 8191, 4095, 4095, 49151, 131071, 262143, 524287, 1048575, 2097151, 4194303, 8388607, 16777215, 33554431, 67108863, 134217727, 67108863, 536870911, 1073741823, 2147483647]
theorem onceR24.tab : rtab .any (opsOf Try.f7 24) = onceR24.T := by kernel_rfl
theorem onceR24.bits : waitsOk onceR24.T.2 onceR24.B = true := by kernel_rfl
set_option maxHeartbeats 16000000 in
set_option maxRecDepth 100000 in
theorem once_few (l : List S28) (C : Option Addr) (cl : Nat) (w : World) (hC : Kd.C k28 w C l.length l) (hcl : l.length ≤ cl) (k1 : Nat) (h1 : juratref27_Few.f k1 l 15 = some false) :
    Calls Try.prog 7 #[.slice C l.length cl] w fun e w' => e = .returned (.bool true) ∧ Below w.heap.size w w' := by
  have H1 := Aside0.mk h1
  have HC := Aside0.mk hC
  clear h1 hC
  go_enter Try.func7, Try.ntmps7
  go_wp2_with (first | (go_at_call 9; (refine (juratref27_Few.calls k1 C cl l 15 false _ HC.out hcl H1.out).mono ?_); rintro e w3 ⟨rfl, hd3⟩; have HB3 := Aside0.mk hd3.below; clear hd3) | (go_at_call 25; (refine (juratlaw37_awake.calls_ _).mono ?_); rintro e w4 ⟨rfl, hb4⟩; have HB4 := Aside0.mk hb4; clear hb4) | fail)
  go_ret
  exact ⟨rfl, below_step HB3.out HB4.out⟩
set_option maxHeartbeats 16000000 in
set_option maxRecDepth 100000 in
theorem once_main (l : List S28) (C : Option Addr) (cl : Nat) (w : World) (hC : Kd.C k28 w C l.length l) (hcl : l.length ≤ cl) (k1 : Nat) (h1 : juratref27_Few.f k1 l 15 = some true) (hln : l.length ≤ 15) (hids : ∀ x ∈ l, x.f3.length ≤ 30) :
    Calls Try.prog 7 #[.slice C l.length cl] w fun e w' => e = .returned (.bool true) ∧ Below w.heap.size w w' := by
  have hu := Try.underlying28
  have H1 := Aside0.mk h1
  have HC := Aside0.mk hC
  have HIDS := Aside0.mk hids
  clear h1 hC hids
  go_enter Try.func7, Try.ntmps7
  go_upto_region 7 with (first | (go_at_call 9; (refine (juratref27_Few.calls k1 C cl l 15 true _ HC.out hcl H1.out).mono ?_); rintro e w3 ⟨rfl, hd3⟩; have B := Aside0.mk hd3.below; clear hd3) | (go_at_call 26; (refine (cover_New.calls_ _).mono ?_); rintro e w4 ⟨g, rfl, hM, hb4⟩; have BN := Aside0.mk (below_step B.out hb4); have M : Aside0 (CSt w4 w.heap.size g ⟨0, 0, z28, 0, false⟩) := ⟨CSt.lower hM B.out.size⟩; clear hM hb4 B; have B := BN; clear BN) | fail)
  go_loopw [6, 5, 4] (fun v6 v5 v4 wr => ∃ (j : Nat) (s : CS) (all : List S76) (b : Bool), j ≤ l.length ∧ v6 = .int .i64 (j : Int) ∧ v5 = .bool b ∧ Aside0 (OInv (5 * j) s all b) ∧ Aside0 (CSt wr w.heap.size g s) ∧ Aside0 (Kd.R k76 76 wr w.heap.size (fun k => k ≠ g) v4 all) ∧ Aside0 (Below w.heap.size w wr)) (fun i _ _ _ => l.length - (intOf i).toNat)
  case atStart => exact ⟨0, _, [], true, Nat.zero_le _, rfl, rfl, ⟨once_start⟩, M, ⟨Kd.R_nil _ _ _ _ _⟩, B⟩
  case round =>
    obtain ⟨j, s, all, b, hj, rfl, rfl, HI, HM, HO, HB⟩ := hrel
    clear M B
    obtain ⟨Ao, co, rfl⟩ := Kd.R_slice HO.out
    by_cases hlt : j < l.length
    · obtain ⟨ad, A3, c3, eA, hx0, hx1, hx2, hx3, hl3, hi3⟩ := at_T28 HC.out (j : Int) (by omega) (by omega)
      subst eA
      simp only [Int.toNat_natCast] at hx0 hx1 hx2 hx3
      have hrd : rd_T28 l (j : Int) = l[j] := by simp [rd_T28, List.getD_eq_getElem?_getD, List.getElem?_eq_getElem hlt]
      rw [hrd] at hx0 hx1 hx2 hx3 hl3 hi3
      have HY := Aside0.mk (HIDS.out l[j] (List.getElem_mem hlt))
      clear hrd
      generalize l[j] = y at HY hx0 hx1 hx2 hx3 hl3 hi3
      have W0 := Aside0.mk hx0
      have W1 := Aside0.mk hx1
      have W2 := Aside0.mk hx2
      have W3 := Aside0.mk hx3
      have HL3 := Aside0.mk hl3
      have HI3 := Aside0.mk hi3
      clear hx0 hx1 hx2 hx3 hl3 hi3
      have hx0 := pw_cell_below HB.out W0.out
      have hx1 := pw_cell_below HB.out W1.out
      have hx2 := pw_cell_below HB.out W2.out
      have hx3 := pw_cell_below HB.out W3.out
      go_upto_region 11 with (first | (go_at_call 33; (refine (cover_Ended.calls_ w.heap.size g _ _ _ _ _ _ HM.out).mono ?_); rintro e w4 ⟨rfl, rfl⟩) | (go_at_call 28; (refine (cover_Begin.all w g s y A3 c3 _ HB.out HM.out HI3.out HL3.out HI.out.1.2.1.1 (Nat.le_trans HY.out (by omega))).mono ?_); rintro e w5 ⟨rfl, hM5, hK5, hB5⟩; have HO5 := Aside0.mk (CSt.rkeep HM.out HO.out (by decide) hK5); have HM5 := Aside0.mk hM5; have HB5 := Aside0.mk hB5; clear hM5 hK5 hB5 HO HM HB hx0 hx1 hx2 hx3) | fail)
      have HOV := Aside0.mk (begin_over s y)
      generalize s.ended = ov at HOV ⊢
      generalize (beginS s y).2 = e5 at HOV ⊢
      go_cut [40] (fun v40 wx => v40 = .bool false ∧ Aside0 (Below w5.heap.size w5 wx))
      case first =>
        cases ov with
        | true =>
          have h := HOV.out rfl
          subst h
          go_wp2_with fail
          go_meet
          exact ⟨rfl, ⟨Below.refl _ _⟩⟩
        | false =>
          go_wp2_with fail
          go_meet
          exact ⟨rfl, ⟨Below.refl _ _⟩⟩
      case rest =>
        obtain ⟨rfl, HBC⟩ := hcut
        clear HOV
        go_upto_region 14 with fail
        go_loopw [9, 5] (fun v9 v5 wr => ∃ (z : Int) (b2 : Bool), v9 = .int .i64 z ∧ v5 = .bool b2 ∧ 1 ≤ z ∧ z ≤ 31 ∧ Aside0 (b2 = true → b = true ∧ ∀ i (h : i + 1 < y.f3.length), (i : Int) + 1 < z → (y.f3[i]'(by omega)) < y.f3[i + 1]) ∧ Aside0 (Below w5.heap.size w5 wr)) (fun i _ _ => (32 - (intOf i)).toNat)
        case atStart => exact ⟨1, b, rfl, rfl, by omega, by omega, ⟨fun h => ⟨h, fun i hi hz => by omega⟩⟩, HBC⟩
        case round =>
          obtain ⟨z, b2, rfl, rfl, hz1, hz2, HA, HBr⟩ := hrel
          have hx0 := pw_cell_below (below_step HB5.out HBr.out) W0.out
          have hx3 := pw_cell_below (below_step HB5.out HBr.out) W3.out
          have hly := HY.out
          by_cases hzl : z < (y.f3.length : Int)
          · obtain ⟨zp, hzp⟩ : ∃ zp, wrap64 (z - 1) = zp := ⟨_, rfl⟩
            have hzq : zp = z - 1 := by rw [← hzp]; unfold wrap64; omega
            have hzn : wrap64 (z + 1) = z + 1 := by unfold wrap64; omega
            have ZP := Aside0.mk hzq
            cases b2 with
            | false =>
              clear hzq
              go_upto_region 16 with fail
              refine start_ (n := 22) (S := fun _ => True) (ds := []) #[false, false, false, false, false, false, false, false, false, false, false, false, false, false, false, false, false, false, false, false, false, false] (by kernel_rfl) rfl rfl trivial (fun hHeld => ?_); refine with_tabW onceR16.tab onceR16.bits (fun HT_ HW_ => ?_)
              have HBd := Aside0.mk (below_drew1 HBr.out)
              clear HBr
              generalize wr.drew = wd at HBd hHeld ⊢
              refine pure_ (i := 0) (N := some 51) (v := ?_) (a' := ?_) #[true, false, false, false, false, false, false, false, false, false, false, false, false, false, false, false, false, false, false, false, false, false] rfl rfl (any_of HT_.out (by kernel_rfl)) (fun _ _ _ h => h) (Or.inl ⟨by rfl, ?_⟩) ?_ ?_
              rotate_left
              · intro w'
                go_simp
                with_reducible rfl
              rotate_left
              · simp only [Act.put, List.setIfInBounds_toArray, List.set_cons_zero, List.set_cons_succ, i64_w, i32_w]
                rfl
              refine pure_ (i := 1) (N := some 52) (v := ?_) (a' := ?_) #[true, true, false, false, false, false, false, false, false, false, false, false, false, false, false, false, false, false, false, false, false, false] rfl rfl (any_of HT_.out (by kernel_rfl)) (fun _ _ _ h => h) (Or.inl ⟨by rfl, ?_⟩) ?_ ?_
              rotate_left
              · intro w'
                go_simp
                with_reducible rfl
              rotate_left
              · simp only [Act.put, List.setIfInBounds_toArray, List.set_cons_zero, List.set_cons_succ, i64_w, i32_w]
                rfl
              refine pure_ (i := 2) (N := some 53) (v := undef) (a' := ?_) #[true, true, true, false, false, false, false, false, false, false, false, false, false, false, false, false, false, false, false, false, false, false] rfl rfl (any_of HT_.out (by kernel_rfl)) (fun _ _ _ h => h) (Or.inr ⟨by rfl, rfl⟩) ?_ ?_
              rotate_left
              · simp only [Act.put, List.setIfInBounds_toArray, List.set_cons_zero, List.set_cons_succ, i64_w, i32_w]
                rfl
              refine pure_ (i := 3) (N := some 54) (v := undef) (a' := ?_) #[true, true, true, true, false, false, false, false, false, false, false, false, false, false, false, false, false, false, false, false, false, false] rfl rfl (any_of HT_.out (by kernel_rfl)) (fun _ _ _ h => h) (Or.inr ⟨by rfl, rfl⟩) ?_ ?_
              rotate_left
              · simp only [Act.put, List.setIfInBounds_toArray, List.set_cons_zero, List.set_cons_succ, i64_w, i32_w]
                rfl
              refine pure_ (i := 4) (N := some 55) (v := undef) (a' := ?_) #[true, true, true, true, true, false, false, false, false, false, false, false, false, false, false, false, false, false, false, false, false, false] rfl rfl (any_of HT_.out (by kernel_rfl)) (fun _ _ _ h => h) (Or.inr ⟨by rfl, rfl⟩) ?_ ?_
              rotate_left
              · simp only [Act.put, List.setIfInBounds_toArray, List.set_cons_zero, List.set_cons_succ, i64_w, i32_w]
                rfl
              refine pure_ (i := 5) (N := some 56) (v := undef) (a' := ?_) #[true, true, true, true, true, true, false, false, false, false, false, false, false, false, false, false, false, false, false, false, false, false] rfl rfl (any_of HT_.out (by kernel_rfl)) (fun _ _ _ h => h) (Or.inr ⟨by rfl, rfl⟩) ?_ ?_
              rotate_left
              · simp only [Act.put, List.setIfInBounds_toArray, List.set_cons_zero, List.set_cons_succ, i64_w, i32_w]
                rfl
              refine pure_ (i := 6) (N := some 57) (v := undef) (a' := ?_) #[true, true, true, true, true, true, true, false, false, false, false, false, false, false, false, false, false, false, false, false, false, false] rfl rfl (any_of HT_.out (by kernel_rfl)) (fun _ _ _ h => h) (Or.inr ⟨by rfl, rfl⟩) ?_ ?_
              rotate_left
              · simp only [Act.put, List.setIfInBounds_toArray, List.set_cons_zero, List.set_cons_succ, i64_w, i32_w]
                rfl
              refine pure_ (i := 7) (N := some 58) (v := undef) (a' := ?_) #[true, true, true, true, true, true, true, true, false, false, false, false, false, false, false, false, false, false, false, false, false, false] rfl rfl (any_of HT_.out (by kernel_rfl)) (fun _ _ _ h => h) (Or.inr ⟨by rfl, rfl⟩) ?_ ?_
              rotate_left
              · simp only [Act.put, List.setIfInBounds_toArray, List.set_cons_zero, List.set_cons_succ, i64_w, i32_w]
                rfl
              refine pure_ (i := 8) (N := some 59) (v := undef) (a' := ?_) #[true, true, true, true, true, true, true, true, true, false, false, false, false, false, false, false, false, false, false, false, false, false] rfl rfl (any_of HT_.out (by kernel_rfl)) (fun _ _ _ h => h) (Or.inr ⟨by rfl, rfl⟩) ?_ ?_
              rotate_left
              · simp only [Act.put, List.setIfInBounds_toArray, List.set_cons_zero, List.set_cons_succ, i64_w, i32_w]
                rfl
              refine pure_ (i := 9) (N := some 60) (v := undef) (a' := ?_) #[true, true, true, true, true, true, true, true, true, true, false, false, false, false, false, false, false, false, false, false, false, false] rfl rfl (any_of HT_.out (by kernel_rfl)) (fun _ _ _ h => h) (Or.inr ⟨by rfl, rfl⟩) ?_ ?_
              rotate_left
              · simp only [Act.put, List.setIfInBounds_toArray, List.set_cons_zero, List.set_cons_succ, i64_w, i32_w]
                rfl
              refine pure_ (i := 10) (N := some 61) (v := undef) (a' := ?_) #[true, true, true, true, true, true, true, true, true, true, true, false, false, false, false, false, false, false, false, false, false, false] rfl rfl (any_of HT_.out (by kernel_rfl)) (fun _ _ _ h => h) (Or.inr ⟨by rfl, rfl⟩) ?_ ?_
              rotate_left
              · simp only [Act.put, List.setIfInBounds_toArray, List.set_cons_zero, List.set_cons_succ, i64_w, i32_w]
                rfl
              refine pure_ (i := 11) (N := some 62) (v := undef) (a' := ?_) #[true, true, true, true, true, true, true, true, true, true, true, true, false, false, false, false, false, false, false, false, false, false] rfl rfl (any_of HT_.out (by kernel_rfl)) (fun _ _ _ h => h) (Or.inr ⟨by rfl, rfl⟩) ?_ ?_
              rotate_left
              · simp only [Act.put, List.setIfInBounds_toArray, List.set_cons_zero, List.set_cons_succ, i64_w, i32_w]
                rfl
              refine pure_ (i := 12) (N := some 63) (v := undef) (a' := ?_) #[true, true, true, true, true, true, true, true, true, true, true, true, true, false, false, false, false, false, false, false, false, false] rfl rfl (any_of HT_.out (by kernel_rfl)) (fun _ _ _ h => h) (Or.inr ⟨by rfl, rfl⟩) ?_ ?_
              rotate_left
              · simp only [Act.put, List.setIfInBounds_toArray, List.set_cons_zero, List.set_cons_succ, i64_w, i32_w]
                rfl
              refine pure_ (i := 13) (N := some 64) (v := undef) (a' := ?_) #[true, true, true, true, true, true, true, true, true, true, true, true, true, true, false, false, false, false, false, false, false, false] rfl rfl (any_of HT_.out (by kernel_rfl)) (fun _ _ _ h => h) (Or.inr ⟨by rfl, rfl⟩) ?_ ?_
              rotate_left
              · simp only [Act.put, List.setIfInBounds_toArray, List.set_cons_zero, List.set_cons_succ, i64_w, i32_w]
                rfl
              refine pure_ (i := 14) (N := some 65) (v := undef) (a' := ?_) #[true, true, true, true, true, true, true, true, true, true, true, true, true, true, true, false, false, false, false, false, false, false] rfl rfl (any_of HT_.out (by kernel_rfl)) (fun _ _ _ h => h) (Or.inr ⟨by rfl, rfl⟩) ?_ ?_
              rotate_left
              · simp only [Act.put, List.setIfInBounds_toArray, List.set_cons_zero, List.set_cons_succ, i64_w, i32_w]
                rfl
              refine pure_ (i := 15) (N := some 66) (v := undef) (a' := ?_) #[true, true, true, true, true, true, true, true, true, true, true, true, true, true, true, true, false, false, false, false, false, false] rfl rfl (any_of HT_.out (by kernel_rfl)) (fun _ _ _ h => h) (Or.inr ⟨by rfl, rfl⟩) ?_ ?_
              rotate_left
              · simp only [Act.put, List.setIfInBounds_toArray, List.set_cons_zero, List.set_cons_succ, i64_w, i32_w]
                rfl
              refine pure_ (i := 16) (N := some 67) (v := undef) (a' := ?_) #[true, true, true, true, true, true, true, true, true, true, true, true, true, true, true, true, true, false, false, false, false, false] rfl rfl (any_of HT_.out (by kernel_rfl)) (fun _ _ _ h => h) (Or.inr ⟨by rfl, rfl⟩) ?_ ?_
              rotate_left
              · simp only [Act.put, List.setIfInBounds_toArray, List.set_cons_zero, List.set_cons_succ, i64_w, i32_w]
                rfl
              refine pure_ (i := 17) (N := some 68) (v := undef) (a' := ?_) #[true, true, true, true, true, true, true, true, true, true, true, true, true, true, true, true, true, true, false, false, false, false] rfl rfl (any_of HT_.out (by kernel_rfl)) (fun _ _ _ h => h) (Or.inr ⟨by rfl, rfl⟩) ?_ ?_
              rotate_left
              · simp only [Act.put, List.setIfInBounds_toArray, List.set_cons_zero, List.set_cons_succ, i64_w, i32_w]
                rfl
              refine pure_ (i := 18) (N := some 69) (v := undef) (a' := ?_) #[true, true, true, true, true, true, true, true, true, true, true, true, true, true, true, true, true, true, true, false, false, false] rfl rfl (any_of HT_.out (by kernel_rfl)) (fun _ _ _ h => h) (Or.inr ⟨by rfl, rfl⟩) ?_ ?_
              rotate_left
              · simp only [Act.put, List.setIfInBounds_toArray, List.set_cons_zero, List.set_cons_succ, i64_w, i32_w]
                rfl
              refine pure_ (i := 19) (N := some 70) (v := undef) (a' := ?_) #[true, true, true, true, true, true, true, true, true, true, true, true, true, true, true, true, true, true, true, true, false, false] rfl rfl (any_of HT_.out (by kernel_rfl)) (fun _ _ _ h => h) (Or.inr ⟨by rfl, rfl⟩) ?_ ?_
              rotate_left
              · simp only [Act.put, List.setIfInBounds_toArray, List.set_cons_zero, List.set_cons_succ, i64_w, i32_w]
                rfl
              refine pure_ (i := 20) (N := some 71) (v := ?_) (a' := ?_) #[true, true, true, true, true, true, true, true, true, true, true, true, true, true, true, true, true, true, true, true, true, false] rfl rfl (any_of HT_.out (by kernel_rfl)) (fun _ _ _ h => h) (Or.inl ⟨by rfl, ?_⟩) ?_ ?_
              rotate_left
              · intro w'
                go_simp
                with_reducible rfl
              rotate_left
              · simp only [Act.put, List.setIfInBounds_toArray, List.set_cons_zero, List.set_cons_succ, i64_w, i32_w]
                rfl
              refine pure_ (i := 21) (N := some 5) (v := ?_) (a' := ?_) #[true, true, true, true, true, true, true, true, true, true, true, true, true, true, true, true, true, true, true, true, true, true] rfl rfl (any_of HT_.out (by kernel_rfl)) (fun _ _ _ h => h) (Or.inl ⟨by rfl, ?_⟩) ?_ ?_
              rotate_left
              · intro w'
                go_simp
                with_reducible rfl
              rotate_left
              · simp only [Act.put, List.setIfInBounds_toArray, List.set_cons_zero, List.set_cons_succ, i64_w, i32_w]
                rfl
              refine done_ (done_of HT_.out (by kernel_rfl)) ?_
              go_wp2_with fail
              exact ⟨⟨z + 1, false, by first | rfl | rw [hzn], rfl, by omega, by omega, ⟨fun h => by cases h⟩, HBd⟩, by simp [intOf]; omega⟩
            | true =>
              obtain ⟨ad3, eA3, hu0⟩ := Kd.at_int HI3.out zp (by omega) (by omega)
              subst eA3
              obtain ⟨ad4, eA4, hu1⟩ := Kd.at_int HI3.out z (by omega) (by omega)
              injection eA4 with eA4
              subst eA4
              have P0 := Aside0.mk (show ∃ h : zp.toNat < y.f3.length, rd y.f3 zp = y.f3[zp.toNat] from ⟨by omega, by rw [rd, List.getD_eq_getElem?_getD, List.getElem?_eq_getElem (by omega)]; rfl⟩)
              have P1 := Aside0.mk (show ∃ h : z.toNat < y.f3.length, rd y.f3 z = y.f3[z.toNat] from ⟨by omega, by rw [rd, List.getD_eq_getElem?_getD, List.getElem?_eq_getElem (by omega)]; rfl⟩)
              generalize rd y.f3 zp = p0 at hu0 P0
              generalize rd y.f3 z = p1 at hu1 P1
              have q0 := eq_true (show 0 ≤ zp by omega)
              have q1 := eq_true (show zp < (y.f3.length : Int) by omega)
              have q2 := eq_true (show 0 ≤ z by omega)
              have q3 := eq_true hzl
              clear hzq
              replace hu0 := pw_cell_below (below_step HB5.out HBr.out) hu0
              replace hu1 := pw_cell_below (below_step HB5.out HBr.out) hu1
              go_upto_region 16 with fail
              refine start_ (n := 22) (S := (fun w' => w'.cell? ⟨(ad.add (j * 4)).block, (ad.add (j * 4)).off + 3, none⟩ = some (.slice (some ad3) y.f3.length c3) ∧ w'.cell? (ad3.add zp.toNat) = some (.int .i64 p0) ∧ w'.cell? (ad3.add z.toNat) = some (.int .i64 p1))) (ds := []) #[false, false, false, false, false, false, false, false, false, false, false, false, false, false, false, false, false, false, false, false, false, false] (by kernel_rfl) rfl rfl ⟨hx3, hu0, hu1⟩ (fun hHeld => ?_); refine with_tabW onceR16.tab onceR16.bits (fun HT_ HW_ => ?_)
              clear hx0 hx3 hu0 hu1
              have HBd := Aside0.mk (below_drew1 HBr.out)
              clear HBr
              generalize wr.drew = wd at HBd hHeld ⊢
              refine pure_ (i := 0) (N := some 51) (v := ?_) (a' := ?_) #[true, false, false, false, false, false, false, false, false, false, false, false, false, false, false, false, false, false, false, false, false, false] rfl rfl (any_of HT_.out (by kernel_rfl)) (fun _ _ _ h => h) (Or.inl ⟨by rfl, ?_⟩) ?_ ?_
              rotate_left
              · intro w'
                go_simp
                with_reducible rfl
              rotate_left
              · simp only [Act.put, List.setIfInBounds_toArray, List.set_cons_zero, List.set_cons_succ, i64_w, i32_w]
                rfl
              refine pure_ (i := 1) (N := some 52) (v := ?_) (a' := ?_) #[true, true, false, false, false, false, false, false, false, false, false, false, false, false, false, false, false, false, false, false, false, false] rfl rfl (any_of HT_.out (by kernel_rfl)) (fun _ _ _ h => h) (Or.inl ⟨by rfl, ?_⟩) ?_ ?_
              rotate_left
              · intro w'
                go_simp
                with_reducible rfl
              rotate_left
              · simp only [Act.put, List.setIfInBounds_toArray, List.set_cons_zero, List.set_cons_succ, i64_w, i32_w]
                rfl
              refine pure_ (i := 2) (N := some 53) (v := ?_) (a' := ?_) #[true, true, true, false, false, false, false, false, false, false, false, false, false, false, false, false, false, false, false, false, false, false] rfl rfl (any_of HT_.out (by kernel_rfl)) (fun _ _ _ h => h) (Or.inl ⟨by rfl, ?_⟩) ?_ ?_
              rotate_left
              · intro w'
                go_simp
                with_reducible rfl
              rotate_left
              · simp only [Act.put, List.setIfInBounds_toArray, List.set_cons_zero, List.set_cons_succ, i64_w, i32_w]
                rfl
              refine pure_ (i := 3) (N := some 54) (v := ?_) (a' := ?_) #[true, true, true, true, false, false, false, false, false, false, false, false, false, false, false, false, false, false, false, false, false, false] rfl rfl (any_of HT_.out (by kernel_rfl)) (fun _ _ _ h => h) (Or.inl ⟨by rfl, ?_⟩) ?_ ?_
              rotate_left
              · intro w'
                go_simp
                with_reducible rfl
              rotate_left
              · simp only [Act.put, List.setIfInBounds_toArray, List.set_cons_zero, List.set_cons_succ, i64_w, i32_w]
                rfl
              refine pure_ (i := 4) (N := some 55) (v := ?_) (a' := ?_) #[true, true, true, true, true, false, false, false, false, false, false, false, false, false, false, false, false, false, false, false, false, false] rfl rfl (any_of HT_.out (by kernel_rfl)) (fun _ _ _ h => h) (Or.inl ⟨by rfl, ?_⟩) ?_ ?_
              rotate_left
              · intro w'
                go_simp
                with_reducible rfl
              rotate_left
              · simp only [Act.put, List.setIfInBounds_toArray, List.set_cons_zero, List.set_cons_succ, i64_w, i32_w]
                rfl
              refine pure_ (i := 5) (N := some 56) (v := ?_) (a' := ?_) #[true, true, true, true, true, true, false, false, false, false, false, false, false, false, false, false, false, false, false, false, false, false] rfl rfl (any_of HT_.out (by kernel_rfl)) (fun _ _ _ h => h) (Or.inl ⟨by rfl, ?_⟩) ?_ ?_
              rotate_left
              · intro w'
                go_simp
                with_reducible rfl
              rotate_left
              · simp only [Act.put, List.setIfInBounds_toArray, List.set_cons_zero, List.set_cons_succ, i64_w, i32_w]
                rfl
              refine take_ (i := 6) (N := some 57) (v := ?_) (a' := ?_) #[true, true, true, true, true, true, true, false, false, false, false, false, false, false, false, false, false, false, false, false, false, false] rfl rfl (take_ofW HT_.out HW_.out (by kernel_rfl)) (fun _ _ _ h => h) (Or.inl ⟨by rfl, ?_⟩) hHeld ?_ ?_
              rotate_left
              · rintro w' ⟨s0, s1, s2⟩
                go_simp
                with_reducible rfl
              rotate_left
              · simp only [Act.put, List.setIfInBounds_toArray, List.set_cons_zero, List.set_cons_succ, i64_w, i32_w]
                rfl
              refine pure_ (i := 7) (N := some 58) (v := ?_) (a' := ?_) #[true, true, true, true, true, true, true, true, false, false, false, false, false, false, false, false, false, false, false, false, false, false] rfl rfl (any_of HT_.out (by kernel_rfl)) (fun _ _ _ h => h) (Or.inl ⟨by rfl, ?_⟩) ?_ ?_
              rotate_left
              · intro w'
                go_simp
                with_reducible rfl
              rotate_left
              · simp only [Act.put, List.setIfInBounds_toArray, List.set_cons_zero, List.set_cons_succ, i64_w, i32_w]
                rfl
              refine pure_ (i := 8) (N := some 59) (v := ?_) (a' := ?_) #[true, true, true, true, true, true, true, true, true, false, false, false, false, false, false, false, false, false, false, false, false, false] rfl rfl (any_of HT_.out (by kernel_rfl)) (fun _ _ _ h => h) (Or.inl ⟨by rfl, ?_⟩) ?_ ?_
              rotate_left
              · intro w'
                go_simp
                with_reducible rfl
              rotate_left
              · simp only [Act.put, List.setIfInBounds_toArray, List.set_cons_zero, List.set_cons_succ, i64_w, i32_w]
                rfl
              refine pure_ (i := 9) (N := some 60) (v := ?_) (a' := ?_) #[true, true, true, true, true, true, true, true, true, true, false, false, false, false, false, false, false, false, false, false, false, false] rfl rfl (any_of HT_.out (by kernel_rfl)) (fun _ _ _ h => h) (Or.inl ⟨by rfl, ?_⟩) ?_ ?_
              rotate_left
              · intro w'
                go_simp
                with_reducible rfl
              rotate_left
              · simp only [Act.put, List.setIfInBounds_toArray, List.set_cons_zero, List.set_cons_succ, i64_w, i32_w]
                rfl
              refine take_ (i := 10) (N := some 61) (v := ?_) (a' := ?_) #[true, true, true, true, true, true, true, true, true, true, true, false, false, false, false, false, false, false, false, false, false, false] rfl rfl (take_ofW HT_.out HW_.out (by kernel_rfl)) (fun _ _ _ h => h) (Or.inl ⟨by rfl, ?_⟩) hHeld ?_ ?_
              rotate_left
              · rintro w' ⟨s0, s1, s2⟩
                go_simp
                with_reducible rfl
              rotate_left
              · simp only [Act.put, List.setIfInBounds_toArray, List.set_cons_zero, List.set_cons_succ, i64_w, i32_w]
                rfl
              refine pure_ (i := 11) (N := some 62) (v := ?_) (a' := ?_) #[true, true, true, true, true, true, true, true, true, true, true, true, false, false, false, false, false, false, false, false, false, false] rfl rfl (any_of HT_.out (by kernel_rfl)) (fun _ _ _ h => h) (Or.inl ⟨by rfl, ?_⟩) ?_ ?_
              rotate_left
              · intro w'
                go_simp
                with_reducible rfl
              rotate_left
              · simp only [Act.put, List.setIfInBounds_toArray, List.set_cons_zero, List.set_cons_succ, i64_w, i32_w]
                rfl
              refine pure_ (i := 12) (N := some 63) (v := ?_) (a' := ?_) #[true, true, true, true, true, true, true, true, true, true, true, true, true, false, false, false, false, false, false, false, false, false] rfl rfl (any_of HT_.out (by kernel_rfl)) (fun _ _ _ h => h) (Or.inl ⟨by rfl, ?_⟩) ?_ ?_
              rotate_left
              · intro w'
                go_simp
                with_reducible rfl
              rotate_left
              · simp only [Act.put, List.setIfInBounds_toArray, List.set_cons_zero, List.set_cons_succ, i64_w, i32_w]
                rfl
              refine pure_ (i := 13) (N := some 64) (v := ?_) (a' := ?_) #[true, true, true, true, true, true, true, true, true, true, true, true, true, true, false, false, false, false, false, false, false, false] rfl rfl (any_of HT_.out (by kernel_rfl)) (fun _ _ _ h => h) (Or.inl ⟨by rfl, ?_⟩) ?_ ?_
              rotate_left
              · intro w'
                go_simp
                with_reducible rfl
              rotate_left
              · simp only [Act.put, List.setIfInBounds_toArray, List.set_cons_zero, List.set_cons_succ, i64_w, i32_w]
                rfl
              refine pure_ (i := 14) (N := some 65) (v := ?_) (a' := ?_) #[true, true, true, true, true, true, true, true, true, true, true, true, true, true, true, false, false, false, false, false, false, false] rfl rfl (any_of HT_.out (by kernel_rfl)) (fun _ _ _ h => h) (Or.inl ⟨by rfl, ?_⟩) ?_ ?_
              rotate_left
              · intro w'
                go_simp
                with_reducible rfl
              rotate_left
              · simp only [Act.put, List.setIfInBounds_toArray, List.set_cons_zero, List.set_cons_succ, i64_w, i32_w]
                rfl
              refine take_ (i := 15) (N := some 66) (v := ?_) (a' := ?_) #[true, true, true, true, true, true, true, true, true, true, true, true, true, true, true, true, false, false, false, false, false, false] rfl rfl (take_ofW HT_.out HW_.out (by kernel_rfl)) (fun _ _ _ h => h) (Or.inl ⟨by rfl, ?_⟩) hHeld ?_ ?_
              rotate_left
              · rintro w' ⟨s0, s1, s2⟩
                go_simp
                with_reducible rfl
              rotate_left
              · simp only [Act.put, List.setIfInBounds_toArray, List.set_cons_zero, List.set_cons_succ, i64_w, i32_w]
                rfl
              refine pure_ (i := 16) (N := some 67) (v := ?_) (a' := ?_) #[true, true, true, true, true, true, true, true, true, true, true, true, true, true, true, true, true, false, false, false, false, false] rfl rfl (any_of HT_.out (by kernel_rfl)) (fun _ _ _ h => h) (Or.inl ⟨by rfl, ?_⟩) ?_ ?_
              rotate_left
              · intro w'
                go_simp
                with_reducible rfl
              rotate_left
              · simp only [Act.put, List.setIfInBounds_toArray, List.set_cons_zero, List.set_cons_succ, i64_w, i32_w]
                rfl
              refine pure_ (i := 17) (N := some 68) (v := ?_) (a' := ?_) #[true, true, true, true, true, true, true, true, true, true, true, true, true, true, true, true, true, true, false, false, false, false] rfl rfl (any_of HT_.out (by kernel_rfl)) (fun _ _ _ h => h) (Or.inl ⟨by rfl, ?_⟩) ?_ ?_
              rotate_left
              · intro w'
                go_simp
                with_reducible rfl
              rotate_left
              · simp only [Act.put, List.setIfInBounds_toArray, List.set_cons_zero, List.set_cons_succ, i64_w, i32_w]
                rfl
              refine take_ (i := 18) (N := some 69) (v := ?_) (a' := ?_) #[true, true, true, true, true, true, true, true, true, true, true, true, true, true, true, true, true, true, true, false, false, false] rfl rfl (take_ofW HT_.out HW_.out (by kernel_rfl)) (fun _ _ _ h => h) (Or.inl ⟨by rfl, ?_⟩) hHeld ?_ ?_
              rotate_left
              · rintro w' ⟨s0, s1, s2⟩
                go_simp
                with_reducible rfl
              rotate_left
              · simp only [Act.put, List.setIfInBounds_toArray, List.set_cons_zero, List.set_cons_succ, i64_w, i32_w]
                rfl
              refine pure_ (i := 19) (N := some 70) (v := ?_) (a' := ?_) #[true, true, true, true, true, true, true, true, true, true, true, true, true, true, true, true, true, true, true, true, false, false] rfl rfl (any_of HT_.out (by kernel_rfl)) (fun _ _ _ h => h) (Or.inl ⟨by rfl, ?_⟩) ?_ ?_
              rotate_left
              · intro w'
                go_simp
                with_reducible rfl
              rotate_left
              · simp only [Act.put, List.setIfInBounds_toArray, List.set_cons_zero, List.set_cons_succ, i64_w, i32_w]
                rfl
              refine pure_ (i := 20) (N := some 71) (v := ?_) (a' := ?_) #[true, true, true, true, true, true, true, true, true, true, true, true, true, true, true, true, true, true, true, true, true, false] rfl rfl (any_of HT_.out (by kernel_rfl)) (fun _ _ _ h => h) (Or.inl ⟨by rfl, ?_⟩) ?_ ?_
              rotate_left
              · intro w'
                go_simp
                with_reducible rfl
              rotate_left
              · simp only [Act.put, List.setIfInBounds_toArray, List.set_cons_zero, List.set_cons_succ, i64_w, i32_w]
                rfl
              refine pure_ (i := 21) (N := some 5) (v := ?_) (a' := ?_) #[true, true, true, true, true, true, true, true, true, true, true, true, true, true, true, true, true, true, true, true, true, true] rfl rfl (any_of HT_.out (by kernel_rfl)) (fun _ _ _ h => h) (Or.inl ⟨by rfl, ?_⟩) ?_ ?_
              rotate_left
              · intro w'
                go_simp
                with_reducible rfl
              rotate_left
              · simp only [Act.put, List.setIfInBounds_toArray, List.set_cons_zero, List.set_cons_succ, i64_w, i32_w]
                rfl
              refine done_ (done_of HT_.out (by kernel_rfl)) ?_
              go_wp2_with fail
              exact ⟨⟨z + 1, decide (p0 < p1), by first | rfl | rw [hzn], rfl, by omega, by omega, ⟨fun h => ⟨(HA.out rfl).1, fun i hi hiz => by
                by_cases h9 : (i : Int) + 1 < z
                · exact (HA.out rfl).2 i hi h9
                · have e1 := ZP.out
                  have e2 : zp.toNat = i := by omega
                  have e3 : z.toNat = i + 1 := by omega
                  have h8 : p0 < p1 := of_decide_eq_true h
                  obtain ⟨_, r0⟩ := P0.out
                  obtain ⟨_, r1⟩ := P1.out
                  rw [r0, r1] at h8
                  simpa [e2, e3] using h8⟩⟩, HBd⟩, by simp [intOf]; omega⟩
          · have HA2 : Aside0 (b2 = true → b = true ∧ ascP y.f3) := ⟨fun h => ⟨(HA.out h).1, fun i hi => (HA.out h).2 i hi (by omega)⟩⟩
            clear HA
            go_upto_region 17 with fail
            go_cut [5] (fun v5 wx => ∃ b3 : Bool, v5 = .bool b3 ∧ Aside0 (b3 = true → b = true ∧ ascP y.f3) ∧ Aside0 (Below w5.heap.size w5 wx))
            case first =>
              cases b2 with
              | false =>
                go_wp2_with fail
                go_meet
                exact ⟨false, rfl, ⟨fun h => by cases h⟩, HBr⟩
              | true =>
                by_cases h4 : y.f0 = 4
                · have h4' : (y.f0 == 4) = true := beq_iff_eq.2 h4
                  clear h4
                  go_wp2_with fail
                  go_meet
                  exact ⟨true, rfl, ⟨fun _ => HA2.out (by first | rfl | trivial)⟩, HBr⟩
                · have h4' : (y.f0 == 4) = false := beq_false_of_ne h4
                  clear h4
                  go_wp2_with fail
                  go_meet
                  exact ⟨_, rfl, ⟨fun _ => HA2.out (by first | rfl | trivial)⟩, HBr⟩
            case rest =>
              obtain ⟨b3, rfl, HA3, HBc⟩ := hcut
              clear HA2 HBr HBC hx0 hx3 hzl
              have HI6 := Aside0.mk (once_begin HI.out HY.out HA3.out)
              have HM6 := Aside0.mk (HM5.out.below HBc.out)
              have HO6 := Aside0.mk (Kd.R_below HO5.out HBc.out)
              have HB6 := Aside0.mk (below_step HB5.out HBc.out)
              clear HI HM5 HO5 HB5 HBc
              generalize (beginS s y).1 = s1 at HI6 HM6
              go_upto_region 19 with fail
              go_loopw [10, 4] (fun v10 v4 wr => ∃ (q : Nat) (s3 : CS) (all3 : List S76), q ≤ 5 ∧ v10 = .int .i64 (q : Int) ∧ Aside0 (OInv (5 * j + q) s3 all3 b3) ∧ Aside0 (CSt wr w.heap.size g s3) ∧ Aside0 (Kd.R k76 76 wr w.heap.size (fun k => k ≠ g) v4 all3) ∧ Aside0 (Below w.heap.size w wr)) (fun i _ _ => 5 - (intOf i).toNat)
              case atStart => exact ⟨0, s1, all, by omega, rfl, HI6, HM6, HO6, HB6⟩
              case round =>
                obtain ⟨q, s3, all3, hq, rfl, V, M, O, B⟩ := hrel
                clear HI6 HM6 HO6 HB6 HA3
                obtain ⟨Ap, cp, rfl⟩ := Kd.R_slice O.out
                have LN := Aside0.mk (show all3.length ≤ 3000 by have := V.out.2.2.1; omega)
                by_cases hq5 : q < 5
                · have hqn : wrap64 ((q : Int) + 1) = ((q + 1 : Nat) : Int) := by unfold wrap64; omega
                  have QN := Aside0.mk hqn
                  clear hqn
                  by_cases h0 : s3.left = 0
                  · have MZ : Aside0 (CAt wr w.heap.size g s3.a s3.h s3.R 0 s3.ended) := ⟨by have h := M.out; unfold CSt at h; rw [h0] at h; exact h⟩
                    go_upto_region 23 with (first | (go_at_call 34; (refine (cover_At.b w.heap.size g s3 _ M.out).mono ?_); rintro e w7 ⟨rfl, hb7⟩; have MN := Aside0.mk (M.out.below hb7); have ON := Aside0.mk (Kd.R_below O.out hb7); have BN := Aside0.mk (below_step B.out hb7); have MZN := Aside0.mk (CAt.below MZ.out hb7); clear M O B MZ; have M := MN; have O := ON; have B := BN; have MZ := MZN; clear MN ON BN MZN; clear hb7) | (go_at_call 35; (refine (cover_Next.zero w.heap.size g s3.a s3.h s3.R s3.ended _ MZ.out).mono ?_); rintro e w8 ⟨rfl, hb8⟩; have MN := Aside0.mk (M.out.below hb8); have ON := Aside0.mk (Kd.R_below O.out hb8); have BN := Aside0.mk (below_step B.out hb8); have MZN := Aside0.mk (CAt.below MZ.out hb8); clear M O B MZ; have M := MN; have O := ON; have B := BN; have MZ := MZN; clear MN ON BN MZN; clear hb8) | fail)
                    have hba := below_alloc (Below.refl w8.heap.size w8) (Obj.cells #[.int .i64 0, .int .i64 0, .int .i64 0, .slice none 0 0] 28)
                    have MN := Aside0.mk (M.out.below hba); have ON := Aside0.mk (Kd.R_below O.out hba); have BN := Aside0.mk (below_step B.out hba); have MZN := Aside0.mk (CAt.below MZ.out hba); clear M O B MZ; have M := MN; have O := ON; have B := BN; have MZ := MZN; clear MN ON BN MZN
                    clear hba
                    generalize w8.alloc (Obj.cells #[.int .i64 0, .int .i64 0, .int .i64 0, .slice none 0 0] 28) = w9 at M MZ O B ⊢
                    go_upto_region 24 with (first | (go_at_call 30; (refine (cover_Pass.zb w.heap.size g s3.a s3.h s3.R s3.ended _ MZ.out).mono ?_); rintro e w10 ⟨rfl, hb10⟩; have MN := Aside0.mk (M.out.below hb10); have ON := Aside0.mk (Kd.R_below O.out hb10); have BN := Aside0.mk (below_step B.out hb10); have MZN := Aside0.mk (CAt.below MZ.out hb10); clear M O B MZ; have M := MN; have O := ON; have B := BN; have MZ := MZN; clear MN ON BN MZN; clear hb10) | fail)
                    clear MZ
                    have LH := Aside0.mk (show (0 : Nat) ≤ 30 by omega)
                    refine start_ (n := 32) (S := fun _ => True) (ds := [27]) #[false, false, false, false, false, false, false, false, false, false, false, false, false, false, false, false, false, false, false, false, false, false, false, false, false, false, false, false, false, false, false, false] (by kernel_rfl) rfl rfl trivial (fun hHeld => ?_); refine with_tabW onceR24.tab onceR24.bits (fun HT_ HW_ => ?_)
                    have hdr := below_drew1 (Below.refl w10.heap.size w10)
                    have MN := Aside0.mk (M.out.below hdr)
                    have ON := Aside0.mk (Kd.R_below O.out hdr)
                    have BN := Aside0.mk (below_step B.out hdr)
                    clear M O B
                    have M := MN
                    have O := ON
                    have B := BN
                    clear MN ON BN
                    clear hdr
                    generalize w10.drew = w11 at M O B ⊢
                    refine pure_ (i := 0) (N := some 107) (v := ?_) (a' := ?_) #[true, false, false, false, false, false, false, false, false, false, false, false, false, false, false, false, false, false, false, false, false, false, false, false, false, false, false, false, false, false, false, false] rfl rfl (any_of HT_.out (by kernel_rfl)) (fun _ _ _ h => h) (Or.inl ⟨by rfl, ?_⟩) ?_ ?_
                    rotate_left
                    · intro w'
                      go_simp
                      with_reducible rfl
                    rotate_left
                    · simp only [Act.put, List.setIfInBounds_toArray, List.set_cons_zero, List.set_cons_succ, i64_w, i32_w]
                      rfl
                    refine pure_ (i := 1) (N := some 108) (v := ?_) (a' := ?_) #[true, true, false, false, false, false, false, false, false, false, false, false, false, false, false, false, false, false, false, false, false, false, false, false, false, false, false, false, false, false, false, false] rfl rfl (any_of HT_.out (by kernel_rfl)) (fun _ _ _ h => h) (Or.inl ⟨by rfl, ?_⟩) ?_ ?_
                    rotate_left
                    · intro w'
                      go_simp
                      with_reducible rfl
                    rotate_left
                    · simp only [Act.put, List.setIfInBounds_toArray, List.set_cons_zero, List.set_cons_succ, i64_w, i32_w]
                      rfl
                    refine pure_ (i := 2) (N := some 109) (v := ?_) (a' := ?_) #[true, true, true, false, false, false, false, false, false, false, false, false, false, false, false, false, false, false, false, false, false, false, false, false, false, false, false, false, false, false, false, false] rfl rfl (any_of HT_.out (by kernel_rfl)) (fun _ _ _ h => h) (Or.inl ⟨by rfl, ?_⟩) ?_ ?_
                    rotate_left
                    · intro w'
                      go_simp
                      with_reducible rfl
                    rotate_left
                    · simp only [Act.put, List.setIfInBounds_toArray, List.set_cons_zero, List.set_cons_succ, i64_w, i32_w]
                      rfl
                    refine pure_ (i := 3) (N := some 110) (v := ?_) (a' := ?_) #[true, true, true, true, false, false, false, false, false, false, false, false, false, false, false, false, false, false, false, false, false, false, false, false, false, false, false, false, false, false, false, false] rfl rfl (any_of HT_.out (by kernel_rfl)) (fun _ _ _ h => h) (Or.inl ⟨by rfl, ?_⟩) ?_ ?_
                    rotate_left
                    · intro w'
                      go_simp
                      with_reducible rfl
                    rotate_left
                    · simp only [Act.put, List.setIfInBounds_toArray, List.set_cons_zero, List.set_cons_succ, i64_w, i32_w]
                      rfl
                    refine pure_ (i := 4) (N := some 111) (v := ?_) (a' := ?_) #[true, true, true, true, true, false, false, false, false, false, false, false, false, false, false, false, false, false, false, false, false, false, false, false, false, false, false, false, false, false, false, false] rfl rfl (any_of HT_.out (by kernel_rfl)) (fun _ _ _ h => h) (Or.inl ⟨by rfl, ?_⟩) ?_ ?_
                    rotate_left
                    · intro w'
                      go_simp
                      with_reducible rfl
                    rotate_left
                    · simp only [Act.put, List.setIfInBounds_toArray, List.set_cons_zero, List.set_cons_succ, i64_w, i32_w]
                      rfl
                    refine pure_ (i := 5) (N := some 112) (v := ?_) (a' := ?_) #[true, true, true, true, true, true, false, false, false, false, false, false, false, false, false, false, false, false, false, false, false, false, false, false, false, false, false, false, false, false, false, false] rfl rfl (any_of HT_.out (by kernel_rfl)) (fun _ _ _ h => h) (Or.inl ⟨by rfl, ?_⟩) ?_ ?_
                    rotate_left
                    · intro w'
                      go_simp
                      with_reducible rfl
                    rotate_left
                    · simp only [Act.put, List.setIfInBounds_toArray, List.set_cons_zero, List.set_cons_succ, i64_w, i32_w]
                      rfl
                    refine pure_ (i := 6) (N := some 113) (v := ?_) (a' := ?_) #[true, true, true, true, true, true, true, false, false, false, false, false, false, false, false, false, false, false, false, false, false, false, false, false, false, false, false, false, false, false, false, false] rfl rfl (any_of HT_.out (by kernel_rfl)) (fun _ _ _ h => h) (Or.inl ⟨by rfl, ?_⟩) ?_ ?_
                    rotate_left
                    · intro w'
                      go_simp
                      with_reducible rfl
                    rotate_left
                    · simp only [Act.put, List.setIfInBounds_toArray, List.set_cons_zero, List.set_cons_succ, i64_w, i32_w]
                      rfl
                    refine pure_ (i := 7) (N := some 114) (v := undef) (a' := ?_) #[true, true, true, true, true, true, true, true, false, false, false, false, false, false, false, false, false, false, false, false, false, false, false, false, false, false, false, false, false, false, false, false] rfl rfl (any_of HT_.out (by kernel_rfl)) (fun _ _ _ h => h) (Or.inr ⟨by rfl, rfl⟩) ?_ ?_
                    rotate_left
                    · simp only [Act.put, List.setIfInBounds_toArray, List.set_cons_zero, List.set_cons_succ, i64_w, i32_w]
                      rfl
                    refine pure_ (i := 8) (N := some 115) (v := undef) (a' := ?_) #[true, true, true, true, true, true, true, true, true, false, false, false, false, false, false, false, false, false, false, false, false, false, false, false, false, false, false, false, false, false, false, false] rfl rfl (any_of HT_.out (by kernel_rfl)) (fun _ _ _ h => h) (Or.inr ⟨by rfl, rfl⟩) ?_ ?_
                    rotate_left
                    · simp only [Act.put, List.setIfInBounds_toArray, List.set_cons_zero, List.set_cons_succ, i64_w, i32_w]
                      rfl
                    refine pure_ (i := 9) (N := some 116) (v := undef) (a' := ?_) #[true, true, true, true, true, true, true, true, true, true, false, false, false, false, false, false, false, false, false, false, false, false, false, false, false, false, false, false, false, false, false, false] rfl rfl (any_of HT_.out (by kernel_rfl)) (fun _ _ _ h => h) (Or.inr ⟨by rfl, rfl⟩) ?_ ?_
                    rotate_left
                    · simp only [Act.put, List.setIfInBounds_toArray, List.set_cons_zero, List.set_cons_succ, i64_w, i32_w]
                      rfl
                    refine pure_ (i := 10) (N := some 117) (v := undef) (a' := ?_) #[true, true, true, true, true, true, true, true, true, true, true, false, false, false, false, false, false, false, false, false, false, false, false, false, false, false, false, false, false, false, false, false] rfl rfl (any_of HT_.out (by kernel_rfl)) (fun _ _ _ h => h) (Or.inr ⟨by rfl, rfl⟩) ?_ ?_
                    rotate_left
                    · simp only [Act.put, List.setIfInBounds_toArray, List.set_cons_zero, List.set_cons_succ, i64_w, i32_w]
                      rfl
                    refine pure_ (i := 11) (N := some 118) (v := undef) (a' := ?_) #[true, true, true, true, true, true, true, true, true, true, true, true, false, false, false, false, false, false, false, false, false, false, false, false, false, false, false, false, false, false, false, false] rfl rfl (any_of HT_.out (by kernel_rfl)) (fun _ _ _ h => h) (Or.inr ⟨by rfl, rfl⟩) ?_ ?_
                    rotate_left
                    · simp only [Act.put, List.setIfInBounds_toArray, List.set_cons_zero, List.set_cons_succ, i64_w, i32_w]
                      rfl
                    refine pure_ (i := 12) (N := some 119) (v := undef) (a' := ?_) #[true, true, true, true, true, true, true, true, true, true, true, true, true, false, false, false, false, false, false, false, false, false, false, false, false, false, false, false, false, false, false, false] rfl rfl (any_of HT_.out (by kernel_rfl)) (fun _ _ _ h => h) (Or.inr ⟨by rfl, rfl⟩) ?_ ?_
                    rotate_left
                    · simp only [Act.put, List.setIfInBounds_toArray, List.set_cons_zero, List.set_cons_succ, i64_w, i32_w]
                      rfl
                    refine pure_ (i := 13) (N := some 120) (v := undef) (a' := ?_) #[true, true, true, true, true, true, true, true, true, true, true, true, true, true, false, false, false, false, false, false, false, false, false, false, false, false, false, false, false, false, false, false] rfl rfl (any_of HT_.out (by kernel_rfl)) (fun _ _ _ h => h) (Or.inr ⟨by rfl, rfl⟩) ?_ ?_
                    rotate_left
                    · simp only [Act.put, List.setIfInBounds_toArray, List.set_cons_zero, List.set_cons_succ, i64_w, i32_w]
                      rfl
                    refine pure_ (i := 14) (N := some 121) (v := undef) (a' := ?_) #[true, true, true, true, true, true, true, true, true, true, true, true, true, true, true, false, false, false, false, false, false, false, false, false, false, false, false, false, false, false, false, false] rfl rfl (any_of HT_.out (by kernel_rfl)) (fun _ _ _ h => h) (Or.inr ⟨by rfl, rfl⟩) ?_ ?_
                    rotate_left
                    · simp only [Act.put, List.setIfInBounds_toArray, List.set_cons_zero, List.set_cons_succ, i64_w, i32_w]
                      rfl
                    refine pure_ (i := 15) (N := some 122) (v := undef) (a' := ?_) #[true, true, true, true, true, true, true, true, true, true, true, true, true, true, true, true, false, false, false, false, false, false, false, false, false, false, false, false, false, false, false, false] rfl rfl (any_of HT_.out (by kernel_rfl)) (fun _ _ _ h => h) (Or.inr ⟨by rfl, rfl⟩) ?_ ?_
                    rotate_left
                    · simp only [Act.put, List.setIfInBounds_toArray, List.set_cons_zero, List.set_cons_succ, i64_w, i32_w]
                      rfl
                    refine pure_ (i := 16) (N := some 123) (v := undef) (a' := ?_) #[true, true, true, true, true, true, true, true, true, true, true, true, true, true, true, true, true, false, false, false, false, false, false, false, false, false, false, false, false, false, false, false] rfl rfl (any_of HT_.out (by kernel_rfl)) (fun _ _ _ h => h) (Or.inr ⟨by rfl, rfl⟩) ?_ ?_
                    rotate_left
                    · simp only [Act.put, List.setIfInBounds_toArray, List.set_cons_zero, List.set_cons_succ, i64_w, i32_w]
                      rfl
                    refine pure_ (i := 17) (N := some 124) (v := undef) (a' := ?_) #[true, true, true, true, true, true, true, true, true, true, true, true, true, true, true, true, true, true, false, false, false, false, false, false, false, false, false, false, false, false, false, false] rfl rfl (any_of HT_.out (by kernel_rfl)) (fun _ _ _ h => h) (Or.inr ⟨by rfl, rfl⟩) ?_ ?_
                    rotate_left
                    · simp only [Act.put, List.setIfInBounds_toArray, List.set_cons_zero, List.set_cons_succ, i64_w, i32_w]
                      rfl
                    refine pure_ (i := 18) (N := some 125) (v := undef) (a' := ?_) #[true, true, true, true, true, true, true, true, true, true, true, true, true, true, true, true, true, true, true, false, false, false, false, false, false, false, false, false, false, false, false, false] rfl rfl (any_of HT_.out (by kernel_rfl)) (fun _ _ _ h => h) (Or.inr ⟨by rfl, rfl⟩) ?_ ?_
                    rotate_left
                    · simp only [Act.put, List.setIfInBounds_toArray, List.set_cons_zero, List.set_cons_succ, i64_w, i32_w]
                      rfl
                    refine pure_ (i := 19) (N := some 126) (v := undef) (a' := ?_) #[true, true, true, true, true, true, true, true, true, true, true, true, true, true, true, true, true, true, true, true, false, false, false, false, false, false, false, false, false, false, false, false] rfl rfl (any_of HT_.out (by kernel_rfl)) (fun _ _ _ h => h) (Or.inr ⟨by rfl, rfl⟩) ?_ ?_
                    rotate_left
                    · simp only [Act.put, List.setIfInBounds_toArray, List.set_cons_zero, List.set_cons_succ, i64_w, i32_w]
                      rfl
                    refine pure_ (i := 20) (N := some 127) (v := ?_) (a' := ?_) #[true, true, true, true, true, true, true, true, true, true, true, true, true, true, true, true, true, true, true, true, true, false, false, false, false, false, false, false, false, false, false, false] rfl rfl (any_of HT_.out (by kernel_rfl)) (fun _ _ _ h => h) (Or.inl ⟨by rfl, ?_⟩) ?_ ?_
                    rotate_left
                    · intro w'
                      go_simp
                      with_reducible rfl
                    rotate_left
                    · simp only [Act.put, List.setIfInBounds_toArray, List.set_cons_zero, List.set_cons_succ, i64_w, i32_w]
                      rfl
                    refine pure_ (i := 21) (N := some 128) (v := ?_) (a' := ?_) #[true, true, true, true, true, true, true, true, true, true, true, true, true, true, true, true, true, true, true, true, true, true, false, false, false, false, false, false, false, false, false, false] rfl rfl (any_of HT_.out (by kernel_rfl)) (fun _ _ _ h => h) (Or.inl ⟨by rfl, ?_⟩) ?_ ?_
                    rotate_left
                    · intro w'
                      go_simp
                      with_reducible rfl
                    rotate_left
                    · simp only [Act.put, List.setIfInBounds_toArray, List.set_cons_zero, List.set_cons_succ, i64_w, i32_w]
                      rfl
                    refine pure_ (i := 22) (N := some 129) (v := ?_) (a' := ?_) #[true, true, true, true, true, true, true, true, true, true, true, true, true, true, true, true, true, true, true, true, true, true, true, false, false, false, false, false, false, false, false, false] rfl rfl (any_of HT_.out (by kernel_rfl)) (fun _ _ _ h => h) (Or.inl ⟨by rfl, ?_⟩) ?_ ?_
                    rotate_left
                    · intro w'
                      go_simp
                      with_reducible rfl
                    rotate_left
                    · simp only [Act.put, List.setIfInBounds_toArray, List.set_cons_zero, List.set_cons_succ, i64_w, i32_w]
                      rfl
                    refine pure_ (i := 23) (N := some 130) (v := ?_) (a' := ?_) #[true, true, true, true, true, true, true, true, true, true, true, true, true, true, true, true, true, true, true, true, true, true, true, true, false, false, false, false, false, false, false, false] rfl rfl (any_of HT_.out (by kernel_rfl)) (fun _ _ _ h => h) (Or.inl ⟨by rfl, ?_⟩) ?_ ?_
                    rotate_left
                    · intro w'
                      go_simp
                      with_reducible rfl
                    rotate_left
                    · simp only [Act.put, List.setIfInBounds_toArray, List.set_cons_zero, List.set_cons_succ, i64_w, i32_w]
                      rfl
                    refine pure_ (i := 24) (N := some 131) (v := ?_) (a' := ?_) #[true, true, true, true, true, true, true, true, true, true, true, true, true, true, true, true, true, true, true, true, true, true, true, true, true, false, false, false, false, false, false, false] rfl rfl (any_of HT_.out (by kernel_rfl)) (fun _ _ _ h => h) (Or.inl ⟨by rfl, ?_⟩) ?_ ?_
                    rotate_left
                    · intro w'
                      go_simp
                      with_reducible rfl
                    rotate_left
                    · simp only [Act.put, List.setIfInBounds_toArray, List.set_cons_zero, List.set_cons_succ, i64_w, i32_w]
                      rfl
                    refine pure_ (i := 25) (N := some 132) (v := ?_) (a' := ?_) #[true, true, true, true, true, true, true, true, true, true, true, true, true, true, true, true, true, true, true, true, true, true, true, true, true, true, false, false, false, false, false, false] rfl rfl (any_of HT_.out (by kernel_rfl)) (fun _ _ _ h => h) (Or.inl ⟨by rfl, ?_⟩) ?_ ?_
                    rotate_left
                    · intro w'
                      go_simp
                      with_reducible rfl
                    rotate_left
                    · simp only [Act.put, List.setIfInBounds_toArray, List.set_cons_zero, List.set_cons_succ, i64_w, i32_w]
                      rfl
                    refine pure_ (i := 26) (N := some 133) (v := ?_) (a' := ?_) #[true, true, true, true, true, true, true, true, true, true, true, true, true, true, true, true, true, true, true, true, true, true, true, true, true, true, true, false, false, false, false, false] rfl rfl (any_of HT_.out (by kernel_rfl)) (fun _ _ _ h => h) (Or.inl ⟨by rfl, ?_⟩) ?_ ?_
                    rotate_left
                    · intro w'
                      go_simp
                      with_reducible rfl
                    rotate_left
                    · simp only [Act.put, List.setIfInBounds_toArray, List.set_cons_zero, List.set_cons_succ, i64_w, i32_w]
                      rfl
                    refine pure_ (i := 28) (N := some 135) (v := ?_) (a' := ?_) #[true, true, true, true, true, true, true, true, true, true, true, true, true, true, true, true, true, true, true, true, true, true, true, true, true, true, true, false, true, false, false, false] rfl rfl (any_of HT_.out (by kernel_rfl)) (fun _ _ _ h => h) (Or.inl ⟨by rfl, ?_⟩) ?_ ?_
                    rotate_left
                    · intro w'
                      go_simp
                      with_reducible rfl
                    rotate_left
                    · simp only [Act.put, List.setIfInBounds_toArray, List.set_cons_zero, List.set_cons_succ, i64_w, i32_w]
                      rfl
                    refine last_ (i := 27) (N := some 134) #[true, true, true, true, true, true, true, true, true, true, true, true, true, true, true, true, true, true, true, true, true, true, true, true, true, true, true, true, true, false, false, false] rfl rfl (one_of HT_.out (by kernel_rfl)) (by decide) (fun K hK => ?_)
                    refine goes_ Try.func34 (by kernel_rfl) rfl #[.pointer (some ⟨g, 0, none⟩)] (by rfl) rfl rfl (by (try simp only [List.map_toArray, List.map_cons, List.map_nil]); first | done | rfl) ?_
                    refine (cover_At.b w.heap.size g s3 _ M.out).mono ?_
                    rintro e w12 ⟨rfl, hb12⟩
                    refine ⟨_, rfl, ?_⟩
                    have MN := Aside0.mk (M.out.below hb12)
                    have ON := Aside0.mk (Kd.R_below O.out hb12)
                    have BN := Aside0.mk (below_step B.out hb12)
                    clear M O B
                    have M := MN
                    have O := ON
                    have B := BN
                    clear MN ON BN
                    clear hb12
                    refine hK.out _ _ ?_
                    clear hK K
                    refine norm_ (a' := ?_) ?_ ?_
                    rotate_left
                    · show Act.put _ (some 134) _ = _
                      simp only [Act.put, List.setIfInBounds_toArray, List.set_cons_zero, List.set_cons_succ, i64_w, i32_w]
                      rfl
                    refine pure_ (i := 29) (N := some 136) (v := ?_) (a' := ?_) #[true, true, true, true, true, true, true, true, true, true, true, true, true, true, true, true, true, true, true, true, true, true, true, true, true, true, true, true, true, true, false, false] rfl rfl (any_of HT_.out (by kernel_rfl)) (fun _ _ _ h => h) (Or.inl ⟨by rfl, ?_⟩) ?_ ?_
                    rotate_left
                    · intro w'
                      go_simp
                      with_reducible rfl
                    rotate_left
                    · simp only [Act.put, List.setIfInBounds_toArray, List.set_cons_zero, List.set_cons_succ, i64_w, i32_w]
                      rfl
                    refine pure_ (i := 30) (N := some 137) (v := ?_) (a' := ?_) #[true, true, true, true, true, true, true, true, true, true, true, true, true, true, true, true, true, true, true, true, true, true, true, true, true, true, true, true, true, true, true, false] rfl rfl (any_of HT_.out (by kernel_rfl)) (fun _ _ _ h => h) (Or.inl ⟨by rfl, ?_⟩) ?_ ?_
                    rotate_left
                    · intro w'
                      go_simp
                      with_reducible rfl
                    rotate_left
                    · simp only [Act.put, List.setIfInBounds_toArray, List.set_cons_zero, List.set_cons_succ, i64_w, i32_w]
                      rfl
                    refine pure_ (i := 31) (N := some 138) (v := ?_) (a' := ?_) #[true, true, true, true, true, true, true, true, true, true, true, true, true, true, true, true, true, true, true, true, true, true, true, true, true, true, true, true, true, true, true, true] rfl rfl (any_of HT_.out (by kernel_rfl)) (fun _ _ _ h => h) (Or.inl ⟨by rfl, ?_⟩) ?_ ?_
                    rotate_left
                    · intro w'
                      go_simp
                      with_reducible rfl
                    rotate_left
                    · simp only [Act.put, List.setIfInBounds_toArray, List.set_cons_zero, List.set_cons_succ, i64_w, i32_w]
                      rfl
                    refine done_ (done_of HT_.out (by kernel_rfl)) ?_
                    go_wp2_with (first | (at_builtin; refine Kd.R_append_rows k76 (Rr := k76.K w12) (w0 := w) w.heap.size rfl (.tmp 139) (.tmp 140) 53 76 (.agg #[(.int .i64 0), (.int .i64 0)]) 16 rfl Try.underlying53 info76 rfl (by decide) (by omega) (.slice Ap all3.length cp) all3 ([] : List S76) none 0 0 (fun k => k ≠ g) (fun _ => False) rfl rfl ?aO ?aR ?aK (fun _ h => h.elim) ?aF ?aB ?aS ?aL ?_; (case aO => exact O.out); (case aR => exact Kd.C_nil k76 _); (case aK => exact fun x cs h => by rw [k76_open h]; exact k76_mkM _ _ _ x); (case aF => exact fun k hk => by have := M.out.lt.2; omega); (case aB => exact B.out); (case aS => exact B.out.size); (case aL => have := LN.out; have := LH.out; omega); intro v1 w15 ho15 hb15 hg15 hat15; rw [List.append_nil] at ho15; obtain ⟨A15, c15, rfl⟩ := Kd.R_slice ho15; have MN := Aside0.mk (M.out.over O.out hg15); have ON := Aside0.mk ho15; have BN := Aside0.mk hb15; clear hat15 hg15 ho15 hb15) | fail)
                    exact ⟨⟨q + 1, s3, all3, by omega, by first | go_num | (rw [QN.out]), ⟨by have h := once_pass0 V.out; rwa [Nat.add_assoc] at h⟩, MN, ON, BN⟩, by simp [intOf]; omega⟩
                  · have hal : s3.R.f3.length ≤ 1000 := Nat.le_trans V.out.1.2.2.2 (by omega)
                    have HAL := Aside0.mk hal
                    have HP2 := Aside0.mk (show (passS s3).2.2 = 0 by unfold passS; rw [if_neg h0])
                    have HPA := Aside0.mk (show wrap64 (s3.a + cov1 s3.R) = (passS s3).1.a by unfold passS; rw [if_neg h0])
                    have LH := Aside0.mk (show (passS s3).2.1.length ≤ 30 by have := V.out.1.2.2.2; unfold passS; rw [if_neg h0]; simp only [hits_len]; exact this)
                    have V5 := Aside0.mk (once_pass V.out h0 (by omega))
                    obtain ⟨kc, hkc⟩ := (rcov1_ev s3.R).rounds
                    have HCV := Aside0.mk hkc
                    have H0 := Aside0.mk h0
                    clear hal hkc h0
                    go_upto_region 23 with (first | (go_at_call 34; (refine (cover_At.b w.heap.size g s3 _ M.out).mono ?_); rintro e w7 ⟨rfl, hb7⟩; have MN := Aside0.mk (M.out.below hb7); have ON := Aside0.mk (Kd.R_below O.out hb7); have BN := Aside0.mk (below_step B.out hb7); clear M O B; have M := MN; have O := ON; have B := BN; clear MN ON BN; clear hb7) | (go_at_call 35; (refine (cover_Next.some_ w.heap.size g s3.a s3.h s3.R s3.left s3.ended _ M.out H0.out HAL.out).mono ?_); rintro e w8 ⟨u, rfl, hRu, hb8⟩; obtain ⟨Au, cu, rfl⟩ := Kd.R_slice hRu; have U := Aside0.mk hRu; have MN := Aside0.mk (M.out.below hb8); have ON := Aside0.mk (Kd.R_below O.out hb8); have BN := Aside0.mk (below_step B.out hb8); clear M O B; have M := MN; have O := ON; have B := BN; clear MN ON BN; clear hb8 hRu) | fail)
                    have hba := below_alloc (Below.refl w8.heap.size w8) (Obj.cells #[.int .i64 s3.R.f0, .int .i64 s3.R.f1, .int .i64 s3.R.f2, .slice Au s3.R.f3.length cu] 28)
                    have BK : Aside0 ((w8.alloc (Obj.cells #[.int .i64 s3.R.f0, .int .i64 s3.R.f1, .int .i64 s3.R.f2, .slice Au s3.R.f3.length cu] 28)).heap[w8.heap.size]? = some (.cells #[.int .i64 s3.R.f0, .int .i64 s3.R.f1, .int .i64 s3.R.f2, .slice Au s3.R.f3.length cu] 28 (0, 0))) := ⟨blk_new w8 _⟩
                    have KNE := Aside0.mk (show w8.heap.size ≠ g by have := M.out.lt.2; omega)
                    have MN := Aside0.mk (M.out.below hba); have ON := Aside0.mk (Kd.R_below O.out hba); have BN := Aside0.mk (below_step B.out hba); have UN := Aside0.mk (Kd.R_below U.out hba); clear M O B U; have M := MN; have O := ON; have B := BN; have U := UN; clear MN ON BN UN
                    clear hba
                    generalize w8.alloc (Obj.cells #[.int .i64 s3.R.f0, .int .i64 s3.R.f1, .int .i64 s3.R.f2, .slice Au s3.R.f3.length cu] 28) = w9 at M O B U BK ⊢
                    generalize w8.heap.size = b13 at BK KNE ⊢
                    go_upto_region 24 with (first | (go_at_call 30; (refine (cover_Pass.all w.heap.size g s3 _ M.out B.out.size HAL.out).mono ?_); rintro e w10 ⟨u2, rfl, hR2, hM, hK, hB⟩; obtain ⟨A2, c2, rfl⟩ := Kd.R_slice hR2; have H := Aside0.mk hR2; have ON := Aside0.mk (CSt.rkeep M.out O.out (by decide) hK); have UN := Aside0.mk (CSt.rkeep M.out U.out (by decide) hK); have BKN := Aside0.mk (hK.blk BK.out KNE.out (by simp)); have BN := Aside0.mk (hB _ _ (Nat.le_refl _) B.out); have MN := Aside0.mk hM; clear M O B U BK hR2 hM hK hB; have M := MN; have O := ON; have B := BN; have U := UN; have BK := BKN; clear MN ON BN UN BKN; rw [HP2.out]) | fail)
                    have ha1 := HPA.out
                    obtain ⟨⟨k0, k1, k2, k3⟩, _⟩ := cell4_ BK.out
                    refine start_ (n := 32) (S := (fun w' => w'.cell? ⟨b13, 0, none⟩ = some (.int .i64 s3.R.f0) ∧ w'.cell? ⟨b13, 1, none⟩ = some (.int .i64 s3.R.f1) ∧ w'.cell? ⟨b13, 2, none⟩ = some (.int .i64 s3.R.f2) ∧ w'.cell? ⟨b13, 3, none⟩ = some (.slice Au s3.R.f3.length cu))) (ds := []) #[false, false, false, false, false, false, false, false, false, false, false, false, false, false, false, false, false, false, false, false, false, false, false, false, false, false, false, false, false, false, false, false] (by kernel_rfl) rfl rfl ⟨k0, k1, k2, k3⟩ (fun hHeld => ?_); refine with_tabW onceR24.tab onceR24.bits (fun HT_ HW_ => ?_)
                    have hdr := below_drew1 (Below.refl w10.heap.size w10)
                    have MN := Aside0.mk (M.out.below hdr)
                    have ON := Aside0.mk (Kd.R_below O.out hdr)
                    have BN := Aside0.mk (below_step B.out hdr)
                    have UN := Aside0.mk (Kd.R_below U.out hdr)
                    have HN := Aside0.mk (Kd.R_below H.out hdr)
                    have BKN := Aside0.mk (blk_below BK.out hdr)
                    clear M O B U H BK
                    have M := MN
                    have O := ON
                    have B := BN
                    have U := UN
                    have H := HN
                    have BK := BKN
                    clear MN ON BN UN HN BKN
                    clear hdr k0 k1 k2 k3
                    generalize w10.drew = w11 at M O B U H BK hHeld ⊢
                    obtain ⟨⟨k0, k1, k2, k3⟩, _⟩ := cell4_ BK.out
                    refine pure_ (i := 0) (N := some 107) (v := ?_) (a' := ?_) #[true, false, false, false, false, false, false, false, false, false, false, false, false, false, false, false, false, false, false, false, false, false, false, false, false, false, false, false, false, false, false, false] rfl rfl (any_of HT_.out (by kernel_rfl)) (fun _ _ _ h => h) (Or.inl ⟨by rfl, ?_⟩) ?_ ?_
                    rotate_left
                    · intro w'
                      go_simp
                      with_reducible rfl
                    rotate_left
                    · simp only [Act.put, List.setIfInBounds_toArray, List.set_cons_zero, List.set_cons_succ, i64_w, i32_w]
                      rfl
                    refine pure_ (i := 1) (N := some 108) (v := ?_) (a' := ?_) #[true, true, false, false, false, false, false, false, false, false, false, false, false, false, false, false, false, false, false, false, false, false, false, false, false, false, false, false, false, false, false, false] rfl rfl (any_of HT_.out (by kernel_rfl)) (fun _ _ _ h => h) (Or.inl ⟨by rfl, ?_⟩) ?_ ?_
                    rotate_left
                    · intro w'
                      go_simp
                      with_reducible rfl
                    rotate_left
                    · simp only [Act.put, List.setIfInBounds_toArray, List.set_cons_zero, List.set_cons_succ, i64_w, i32_w]
                      rfl
                    refine pure_ (i := 2) (N := some 109) (v := ?_) (a' := ?_) #[true, true, true, false, false, false, false, false, false, false, false, false, false, false, false, false, false, false, false, false, false, false, false, false, false, false, false, false, false, false, false, false] rfl rfl (any_of HT_.out (by kernel_rfl)) (fun _ _ _ h => h) (Or.inl ⟨by rfl, ?_⟩) ?_ ?_
                    rotate_left
                    · intro w'
                      go_simp
                      with_reducible rfl
                    rotate_left
                    · simp only [Act.put, List.setIfInBounds_toArray, List.set_cons_zero, List.set_cons_succ, i64_w, i32_w]
                      rfl
                    refine pure_ (i := 3) (N := some 110) (v := ?_) (a' := ?_) #[true, true, true, true, false, false, false, false, false, false, false, false, false, false, false, false, false, false, false, false, false, false, false, false, false, false, false, false, false, false, false, false] rfl rfl (any_of HT_.out (by kernel_rfl)) (fun _ _ _ h => h) (Or.inl ⟨by rfl, ?_⟩) ?_ ?_
                    rotate_left
                    · intro w'
                      go_simp
                      with_reducible rfl
                    rotate_left
                    · simp only [Act.put, List.setIfInBounds_toArray, List.set_cons_zero, List.set_cons_succ, i64_w, i32_w]
                      rfl
                    refine pure_ (i := 4) (N := some 111) (v := ?_) (a' := ?_) #[true, true, true, true, true, false, false, false, false, false, false, false, false, false, false, false, false, false, false, false, false, false, false, false, false, false, false, false, false, false, false, false] rfl rfl (any_of HT_.out (by kernel_rfl)) (fun _ _ _ h => h) (Or.inl ⟨by rfl, ?_⟩) ?_ ?_
                    rotate_left
                    · intro w'
                      go_simp
                      with_reducible rfl
                    rotate_left
                    · simp only [Act.put, List.setIfInBounds_toArray, List.set_cons_zero, List.set_cons_succ, i64_w, i32_w]
                      rfl
                    refine pure_ (i := 5) (N := some 112) (v := ?_) (a' := ?_) #[true, true, true, true, true, true, false, false, false, false, false, false, false, false, false, false, false, false, false, false, false, false, false, false, false, false, false, false, false, false, false, false] rfl rfl (any_of HT_.out (by kernel_rfl)) (fun _ _ _ h => h) (Or.inl ⟨by rfl, ?_⟩) ?_ ?_
                    rotate_left
                    · intro w'
                      go_simp
                      with_reducible rfl
                    rotate_left
                    · simp only [Act.put, List.setIfInBounds_toArray, List.set_cons_zero, List.set_cons_succ, i64_w, i32_w]
                      rfl
                    refine pure_ (i := 6) (N := some 113) (v := ?_) (a' := ?_) #[true, true, true, true, true, true, true, false, false, false, false, false, false, false, false, false, false, false, false, false, false, false, false, false, false, false, false, false, false, false, false, false] rfl rfl (any_of HT_.out (by kernel_rfl)) (fun _ _ _ h => h) (Or.inl ⟨by rfl, ?_⟩) ?_ ?_
                    rotate_left
                    · intro w'
                      go_simp
                      with_reducible rfl
                    rotate_left
                    · simp only [Act.put, List.setIfInBounds_toArray, List.set_cons_zero, List.set_cons_succ, i64_w, i32_w]
                      rfl
                    refine pure_ (i := 7) (N := some 114) (v := ?_) (a' := ?_) #[true, true, true, true, true, true, true, true, false, false, false, false, false, false, false, false, false, false, false, false, false, false, false, false, false, false, false, false, false, false, false, false] rfl rfl (any_of HT_.out (by kernel_rfl)) (fun _ _ _ h => h) (Or.inl ⟨by rfl, ?_⟩) ?_ ?_
                    rotate_left
                    · intro w'
                      go_simp
                      with_reducible rfl
                    rotate_left
                    · simp only [Act.put, List.setIfInBounds_toArray, List.set_cons_zero, List.set_cons_succ, i64_w, i32_w]
                      rfl
                    refine pure_ (i := 8) (N := some 115) (v := ?_) (a' := ?_) #[true, true, true, true, true, true, true, true, true, false, false, false, false, false, false, false, false, false, false, false, false, false, false, false, false, false, false, false, false, false, false, false] rfl rfl (any_of HT_.out (by kernel_rfl)) (fun _ _ _ h => h) (Or.inl ⟨by rfl, ?_⟩) ?_ ?_
                    rotate_left
                    · intro w'
                      go_simp
                      with_reducible rfl
                    rotate_left
                    · simp only [Act.put, List.setIfInBounds_toArray, List.set_cons_zero, List.set_cons_succ, i64_w, i32_w]
                      rfl
                    refine pure_ (i := 9) (N := some 116) (v := ?_) (a' := ?_) #[true, true, true, true, true, true, true, true, true, true, false, false, false, false, false, false, false, false, false, false, false, false, false, false, false, false, false, false, false, false, false, false] rfl rfl (any_of HT_.out (by kernel_rfl)) (fun _ _ _ h => h) (Or.inl ⟨by rfl, ?_⟩) ?_ ?_
                    rotate_left
                    · intro w'
                      go_simp
                      with_reducible rfl
                    rotate_left
                    · simp only [Act.put, List.setIfInBounds_toArray, List.set_cons_zero, List.set_cons_succ, i64_w, i32_w]
                      rfl
                    refine pure_ (i := 10) (N := some 117) (v := ?_) (a' := ?_) #[true, true, true, true, true, true, true, true, true, true, true, false, false, false, false, false, false, false, false, false, false, false, false, false, false, false, false, false, false, false, false, false] rfl rfl (any_of HT_.out (by kernel_rfl)) (fun _ _ _ h => h) (Or.inl ⟨by rfl, ?_⟩) ?_ ?_
                    rotate_left
                    · intro w'
                      go_simp
                      with_reducible rfl
                    rotate_left
                    · simp only [Act.put, List.setIfInBounds_toArray, List.set_cons_zero, List.set_cons_succ, i64_w, i32_w]
                      rfl
                    refine pure_ (i := 11) (N := some 118) (v := ?_) (a' := ?_) #[true, true, true, true, true, true, true, true, true, true, true, true, false, false, false, false, false, false, false, false, false, false, false, false, false, false, false, false, false, false, false, false] rfl rfl (any_of HT_.out (by kernel_rfl)) (fun _ _ _ h => h) (Or.inl ⟨by rfl, ?_⟩) ?_ ?_
                    rotate_left
                    · intro w'
                      go_simp
                      with_reducible rfl
                    rotate_left
                    · simp only [Act.put, List.setIfInBounds_toArray, List.set_cons_zero, List.set_cons_succ, i64_w, i32_w]
                      rfl
                    refine pure_ (i := 12) (N := some 119) (v := ?_) (a' := ?_) #[true, true, true, true, true, true, true, true, true, true, true, true, true, false, false, false, false, false, false, false, false, false, false, false, false, false, false, false, false, false, false, false] rfl rfl (any_of HT_.out (by kernel_rfl)) (fun _ _ _ h => h) (Or.inl ⟨by rfl, ?_⟩) ?_ ?_
                    rotate_left
                    · intro w'
                      go_simp
                      with_reducible rfl
                    rotate_left
                    · simp only [Act.put, List.setIfInBounds_toArray, List.set_cons_zero, List.set_cons_succ, i64_w, i32_w]
                      rfl
                    refine pure_ (i := 14) (N := some 121) (v := ?_) (a' := ?_) #[true, true, true, true, true, true, true, true, true, true, true, true, true, false, true, false, false, false, false, false, false, false, false, false, false, false, false, false, false, false, false, false] rfl rfl (any_of HT_.out (by kernel_rfl)) (fun _ _ _ h => h) (Or.inl ⟨by rfl, ?_⟩) ?_ ?_
                    rotate_left
                    · intro w'
                      go_simp
                      with_reducible rfl
                    rotate_left
                    · simp only [Act.put, List.setIfInBounds_toArray, List.set_cons_zero, List.set_cons_succ, i64_w, i32_w]
                      rfl
                    refine take_ (i := 15) (N := some 122) (v := ?_) (a' := ?_) #[true, true, true, true, true, true, true, true, true, true, true, true, true, false, true, true, false, false, false, false, false, false, false, false, false, false, false, false, false, false, false, false] rfl rfl (take_ofW HT_.out HW_.out (by kernel_rfl)) (fun _ _ _ h => h) (Or.inl ⟨by rfl, ?_⟩) hHeld ?_ ?_
                    rotate_left
                    · rintro w' ⟨s0, s1, s2, s3⟩
                      go_simp
                      with_reducible rfl
                    rotate_left
                    · simp only [Act.put, List.setIfInBounds_toArray, List.set_cons_zero, List.set_cons_succ, i64_w, i32_w]
                      rfl
                    refine one_ (i := 13) (N := some 120) #[true, true, true, true, true, true, true, true, true, true, true, true, true, true, true, true, false, false, false, false, false, false, false, false, false, false, false, false, false, false, false, false] rfl rfl (one_of HT_.out (by kernel_rfl)) (by decide) (fun K hK => ?_)
                    refine goes_ Try.func34 (by kernel_rfl) rfl #[.pointer (some ⟨g, 0, none⟩)] (by rfl) rfl rfl (by (try simp only [List.map_toArray, List.map_cons, List.map_nil]); first | done | rfl) ?_
                    refine (cover_At.b w.heap.size g (passS s3).1 _ M.out).mono ?_
                    rintro e w12 ⟨rfl, hb12⟩
                    refine ⟨_, rfl, ?_⟩
                    have MN := Aside0.mk (M.out.below hb12)
                    have ON := Aside0.mk (Kd.R_below O.out hb12)
                    have BN := Aside0.mk (below_step B.out hb12)
                    have UN := Aside0.mk (Kd.R_below U.out hb12)
                    have HN := Aside0.mk (Kd.R_below H.out hb12)
                    have BKN := Aside0.mk (blk_below BK.out hb12)
                    clear M O B U H BK
                    have M := MN
                    have O := ON
                    have B := BN
                    have U := UN
                    have H := HN
                    have BK := BKN
                    clear MN ON BN UN HN BKN
                    clear hb12 k0 k1 k2 k3
                    obtain ⟨⟨k0, k1, k2, k3⟩, _⟩ := cell4_ BK.out
                    refine hK.out _ _ ⟨k0, k1, k2, k3⟩ (fun hHeld => ?_)
                    clear hK K
                    refine norm_ (a' := ?_) ?_ ?_
                    rotate_left
                    · show Act.put _ (some 120) _ = _
                      simp only [Act.put, List.setIfInBounds_toArray, List.set_cons_zero, List.set_cons_succ, i64_w, i32_w]
                      rfl
                    refine one_ (i := 16) (N := some 123) #[true, true, true, true, true, true, true, true, true, true, true, true, true, true, true, true, true, false, false, false, false, false, false, false, false, false, false, false, false, false, false, false] rfl rfl (one_of HT_.out (by kernel_rfl)) (by decide) (fun K hK => ?_)
                    refine goes_ Try.func36 (by kernel_rfl) rfl #[.agg #[.int .i64 s3.R.f0, .int .i64 s3.R.f1, .int .i64 s3.R.f2, .slice Au s3.R.f3.length cu]] (by rfl) rfl rfl (by (try simp only [List.map_toArray, List.map_cons, List.map_nil]); first | done | rfl) ?_
                    refine (juratref24_Covers.calls kc s3.R.f0 s3.R.f1 s3.R.f2 Au cu s3.R.f3 (cov1 s3.R) _ (Kd.R_reads' U.out).2.2 (Kd.R_reads' U.out).2.1 HCV.out).mono ?_
                    rintro e w12 ⟨rfl, hb12⟩
                    refine ⟨_, rfl, ?_⟩
                    have MN := Aside0.mk (M.out.below hb12)
                    have ON := Aside0.mk (Kd.R_below O.out hb12)
                    have BN := Aside0.mk (below_step B.out hb12)
                    have UN := Aside0.mk (Kd.R_below U.out hb12)
                    have HN := Aside0.mk (Kd.R_below H.out hb12)
                    have BKN := Aside0.mk (blk_below BK.out hb12)
                    clear M O B U H BK
                    have M := MN
                    have O := ON
                    have B := BN
                    have U := UN
                    have H := HN
                    have BK := BKN
                    clear MN ON BN UN HN BKN
                    clear hb12 k0 k1 k2 k3
                    obtain ⟨⟨k0, k1, k2, k3⟩, _⟩ := cell4_ BK.out
                    refine hK.out _ _ ⟨k0, k1, k2, k3⟩ (fun hHeld => ?_)
                    clear hK K
                    refine norm_ (a' := ?_) ?_ ?_
                    rotate_left
                    · show Act.put _ (some 123) _ = _
                      simp only [Act.put, List.setIfInBounds_toArray, List.set_cons_zero, List.set_cons_succ, i64_w, i32_w]
                      rfl
                    refine pure_ (i := 17) (N := some 124) (v := ?_) (a' := ?_) #[true, true, true, true, true, true, true, true, true, true, true, true, true, true, true, true, true, true, false, false, false, false, false, false, false, false, false, false, false, false, false, false] rfl rfl (any_of HT_.out (by kernel_rfl)) (fun _ _ _ h => h) (Or.inl ⟨by rfl, ?_⟩) ?_ ?_
                    rotate_left
                    · intro w'
                      go_simp
                      with_reducible rfl
                    rotate_left
                    · simp only [Act.put, List.setIfInBounds_toArray, List.set_cons_zero, List.set_cons_succ, i64_w, i32_w]
                      rfl
                    refine pure_ (i := 18) (N := some 125) (v := ?_) (a' := ?_) #[true, true, true, true, true, true, true, true, true, true, true, true, true, true, true, true, true, true, true, false, false, false, false, false, false, false, false, false, false, false, false, false] rfl rfl (any_of HT_.out (by kernel_rfl)) (fun _ _ _ h => h) (Or.inl ⟨by rfl, ?_⟩) ?_ ?_
                    rotate_left
                    · intro w'
                      go_simp
                      with_reducible rfl
                    rotate_left
                    · simp only [Act.put, List.setIfInBounds_toArray, List.set_cons_zero, List.set_cons_succ, i64_w, i32_w]
                      rfl
                    refine pure_ (i := 19) (N := some 126) (v := ?_) (a' := ?_) #[true, true, true, true, true, true, true, true, true, true, true, true, true, true, true, true, true, true, true, true, false, false, false, false, false, false, false, false, false, false, false, false] rfl rfl (any_of HT_.out (by kernel_rfl)) (fun _ _ _ h => h) (Or.inl ⟨by rfl, ?_⟩) ?_ ?_
                    rotate_left
                    · intro w'
                      go_simp
                      with_reducible rfl
                    rotate_left
                    · simp only [Act.put, List.setIfInBounds_toArray, List.set_cons_zero, List.set_cons_succ, i64_w, i32_w]
                      rfl
                    refine pure_ (i := 20) (N := some 127) (v := ?_) (a' := ?_) #[true, true, true, true, true, true, true, true, true, true, true, true, true, true, true, true, true, true, true, true, true, false, false, false, false, false, false, false, false, false, false, false] rfl rfl (any_of HT_.out (by kernel_rfl)) (fun _ _ _ h => h) (Or.inl ⟨by rfl, ?_⟩) ?_ ?_
                    rotate_left
                    · intro w'
                      go_simp
                      with_reducible rfl
                    rotate_left
                    · simp only [Act.put, List.setIfInBounds_toArray, List.set_cons_zero, List.set_cons_succ, i64_w, i32_w]
                      rfl
                    refine pure_ (i := 21) (N := some 128) (v := ?_) (a' := ?_) #[true, true, true, true, true, true, true, true, true, true, true, true, true, true, true, true, true, true, true, true, true, true, false, false, false, false, false, false, false, false, false, false] rfl rfl (any_of HT_.out (by kernel_rfl)) (fun _ _ _ h => h) (Or.inl ⟨by rfl, ?_⟩) ?_ ?_
                    rotate_left
                    · intro w'
                      go_simp
                      with_reducible rfl
                    rotate_left
                    · simp only [Act.put, List.setIfInBounds_toArray, List.set_cons_zero, List.set_cons_succ, i64_w, i32_w]
                      rfl
                    refine pure_ (i := 22) (N := some 129) (v := ?_) (a' := ?_) #[true, true, true, true, true, true, true, true, true, true, true, true, true, true, true, true, true, true, true, true, true, true, true, false, false, false, false, false, false, false, false, false] rfl rfl (any_of HT_.out (by kernel_rfl)) (fun _ _ _ h => h) (Or.inl ⟨by rfl, ?_⟩) ?_ ?_
                    rotate_left
                    · intro w'
                      go_simp
                      with_reducible rfl
                    rotate_left
                    · simp only [Act.put, List.setIfInBounds_toArray, List.set_cons_zero, List.set_cons_succ, i64_w, i32_w]
                      rfl
                    refine pure_ (i := 23) (N := some 130) (v := ?_) (a' := ?_) #[true, true, true, true, true, true, true, true, true, true, true, true, true, true, true, true, true, true, true, true, true, true, true, true, false, false, false, false, false, false, false, false] rfl rfl (any_of HT_.out (by kernel_rfl)) (fun _ _ _ h => h) (Or.inl ⟨by rfl, ?_⟩) ?_ ?_
                    rotate_left
                    · intro w'
                      go_simp
                      with_reducible rfl
                    rotate_left
                    · simp only [Act.put, List.setIfInBounds_toArray, List.set_cons_zero, List.set_cons_succ, i64_w, i32_w]
                      rfl
                    refine pure_ (i := 24) (N := some 131) (v := ?_) (a' := ?_) #[true, true, true, true, true, true, true, true, true, true, true, true, true, true, true, true, true, true, true, true, true, true, true, true, true, false, false, false, false, false, false, false] rfl rfl (any_of HT_.out (by kernel_rfl)) (fun _ _ _ h => h) (Or.inl ⟨by rfl, ?_⟩) ?_ ?_
                    rotate_left
                    · intro w'
                      go_simp
                      with_reducible rfl
                    rotate_left
                    · simp only [Act.put, List.setIfInBounds_toArray, List.set_cons_zero, List.set_cons_succ, i64_w, i32_w]
                      rfl
                    refine pure_ (i := 25) (N := some 132) (v := ?_) (a' := ?_) #[true, true, true, true, true, true, true, true, true, true, true, true, true, true, true, true, true, true, true, true, true, true, true, true, true, true, false, false, false, false, false, false] rfl rfl (any_of HT_.out (by kernel_rfl)) (fun _ _ _ h => h) (Or.inl ⟨by rfl, ?_⟩) ?_ ?_
                    rotate_left
                    · intro w'
                      go_simp
                      with_reducible rfl
                    rotate_left
                    · simp only [Act.put, List.setIfInBounds_toArray, List.set_cons_zero, List.set_cons_succ, i64_w, i32_w]
                      rfl
                    refine pure_ (i := 26) (N := some 133) (v := undef) (a' := ?_) #[true, true, true, true, true, true, true, true, true, true, true, true, true, true, true, true, true, true, true, true, true, true, true, true, true, true, true, false, false, false, false, false] rfl rfl (any_of HT_.out (by kernel_rfl)) (fun _ _ _ h => h) (Or.inr ⟨by rfl, rfl⟩) ?_ ?_
                    rotate_left
                    · simp only [Act.put, List.setIfInBounds_toArray, List.set_cons_zero, List.set_cons_succ, i64_w, i32_w]
                      rfl
                    refine pure_ (i := 27) (N := some 134) (v := undef) (a' := ?_) #[true, true, true, true, true, true, true, true, true, true, true, true, true, true, true, true, true, true, true, true, true, true, true, true, true, true, true, true, false, false, false, false] rfl rfl (any_of HT_.out (by kernel_rfl)) (fun _ _ _ h => h) (Or.inr ⟨by rfl, rfl⟩) ?_ ?_
                    rotate_left
                    · simp only [Act.put, List.setIfInBounds_toArray, List.set_cons_zero, List.set_cons_succ, i64_w, i32_w]
                      rfl
                    refine pure_ (i := 28) (N := some 135) (v := undef) (a' := ?_) #[true, true, true, true, true, true, true, true, true, true, true, true, true, true, true, true, true, true, true, true, true, true, true, true, true, true, true, true, true, false, false, false] rfl rfl (any_of HT_.out (by kernel_rfl)) (fun _ _ _ h => h) (Or.inr ⟨by rfl, rfl⟩) ?_ ?_
                    rotate_left
                    · simp only [Act.put, List.setIfInBounds_toArray, List.set_cons_zero, List.set_cons_succ, i64_w, i32_w]
                      rfl
                    refine pure_ (i := 29) (N := some 136) (v := undef) (a' := ?_) #[true, true, true, true, true, true, true, true, true, true, true, true, true, true, true, true, true, true, true, true, true, true, true, true, true, true, true, true, true, true, false, false] rfl rfl (any_of HT_.out (by kernel_rfl)) (fun _ _ _ h => h) (Or.inr ⟨by rfl, rfl⟩) ?_ ?_
                    rotate_left
                    · simp only [Act.put, List.setIfInBounds_toArray, List.set_cons_zero, List.set_cons_succ, i64_w, i32_w]
                      rfl
                    refine pure_ (i := 30) (N := some 137) (v := ?_) (a' := ?_) #[true, true, true, true, true, true, true, true, true, true, true, true, true, true, true, true, true, true, true, true, true, true, true, true, true, true, true, true, true, true, true, false] rfl rfl (any_of HT_.out (by kernel_rfl)) (fun _ _ _ h => h) (Or.inl ⟨by rfl, ?_⟩) ?_ ?_
                    rotate_left
                    · intro w'
                      go_simp
                      with_reducible rfl
                    rotate_left
                    · simp only [Act.put, List.setIfInBounds_toArray, List.set_cons_zero, List.set_cons_succ, i64_w, i32_w]
                      rfl
                    refine pure_ (i := 31) (N := some 138) (v := ?_) (a' := ?_) #[true, true, true, true, true, true, true, true, true, true, true, true, true, true, true, true, true, true, true, true, true, true, true, true, true, true, true, true, true, true, true, true] rfl rfl (any_of HT_.out (by kernel_rfl)) (fun _ _ _ h => h) (Or.inl ⟨by rfl, ?_⟩) ?_ ?_
                    rotate_left
                    · intro w'
                      go_simp
                      with_reducible rfl
                    rotate_left
                    · simp only [Act.put, List.setIfInBounds_toArray, List.set_cons_zero, List.set_cons_succ, i64_w, i32_w]
                      rfl
                    refine done_ (done_of HT_.out (by kernel_rfl)) ?_
                    go_wp2_with (first | (at_builtin; refine Kd.R_append_rows k76 (Rr := k76.K w12) (w0 := w) w.heap.size rfl (.tmp 139) (.tmp 140) 53 76 (.agg #[(.int .i64 0), (.int .i64 0)]) 16 rfl Try.underlying53 info76 rfl (by decide) (by omega) (.slice Ap all3.length cp) all3 (passS s3).2.1 A2 (passS s3).2.1.length c2 (fun k => k ≠ g) (fun _ => False) rfl rfl ?aO ?aR ?aK (fun _ h => h.elim) ?aF ?aB ?aS ?aL ?_; (case aO => exact O.out); (case aR => exact (Kd.R_reads' H.out).2.2); (case aK => exact fun x cs h => by rw [k76_open h]; exact k76_mkM _ _ _ x); (case aF => exact fun k hk => by have := M.out.lt.2; omega); (case aB => exact B.out); (case aS => exact B.out.size); (case aL => have := LN.out; have := LH.out; omega); intro v1 w15 ho15 hb15 hg15 hat15; obtain ⟨A15, c15, rfl⟩ := Kd.R_slice ho15; have MN := Aside0.mk (M.out.over O.out hg15); have ON := Aside0.mk ho15; have BN := Aside0.mk hb15; clear hat15 hg15 ho15 hb15) | fail)
                    exact ⟨⟨q + 1, (passS s3).1, all3 ++ (passS s3).2.1, by omega, by first | go_num | (rw [QN.out]), ⟨by have h := V5.out; rwa [Nat.add_assoc] at h⟩, MN, ⟨by have h := ON.out; first | exact h | (rw [List.length_append] at h; exact h)⟩, BN⟩, by simp [intOf]; omega⟩
                · have hqe : q = 5 := by omega
                  subst hqe
                  go_wp2_with fail
                  exact ⟨⟨j + 1, s3, all3, b3, by omega, by go_num, rfl, ⟨by have h := V.out; rwa [show 5 * j + 5 = 5 * (j + 1) by omega] at h⟩, M, O, B⟩, by simp [intOf]; omega⟩
    · have hje : j = l.length := by omega
      subst hje
      have HE := Aside0.mk HI.out.2.1
      have M := HM
      have O := HO
      have B := HB
      clear HM HO HB
      cases b with
      | true =>
        obtain ⟨kr, hkr⟩ := (rising_ev all (by have := HI.out.2.2.1; omega) (HI.out.2.2.2 rfl).1).rounds
        have HKR := Aside0.mk hkr
        clear hkr
        go_wp2_with (first | (go_at_call 37; (refine (juratref15_Rising.calls kr Ao co all true _ (Kd.R_reads' O.out).2.2 (Kd.R_reads' O.out).2.1 HKR.out).mono ?_); rintro e w20 ⟨rfl, hb20⟩; have MN := Aside0.mk (M.out.below hb20); have ON := Aside0.mk (Kd.R_below O.out hb20); have BN := Aside0.mk (below_step B.out hb20); clear M O B; have M := MN; have O := ON; have B := BN; clear MN ON BN; clear hb20) | (go_at_call 38; (refine (cover_Hits.b w.heap.size g s _ M.out).mono ?_); rintro e w21 ⟨rfl, hb21⟩; rw [HE.out]; have MN := Aside0.mk (M.out.below hb21); have ON := Aside0.mk (Kd.R_below O.out hb21); have BN := Aside0.mk (below_step B.out hb21); clear M O B; have M := MN; have O := ON; have B := BN; clear MN ON BN; clear hb21) | (go_at_call 25; (refine (juratlaw37_awake.calls_ _).mono ?_); rintro e w22 ⟨rfl, hb22⟩; have MN := Aside0.mk (M.out.below hb22); have ON := Aside0.mk (Kd.R_below O.out hb22); have BN := Aside0.mk (below_step B.out hb22); clear M O B; have M := MN; have O := ON; have B := BN; clear MN ON BN; clear hb22) | fail)
        go_ret
        exact ⟨rfl, B.out⟩
      | false =>
        go_wp2_with (first | (go_at_call 38; (refine (cover_Hits.b w.heap.size g s _ M.out).mono ?_); rintro e w21 ⟨rfl, hb21⟩; rw [HE.out]; have MN := Aside0.mk (M.out.below hb21); have ON := Aside0.mk (Kd.R_below O.out hb21); have BN := Aside0.mk (below_step B.out hb21); clear M O B; have M := MN; have O := ON; have B := BN; clear MN ON BN; clear hb21) | (go_at_call 25; (refine (juratlaw37_awake.calls_ _).mono ?_); rintro e w22 ⟨rfl, hb22⟩; have MN := Aside0.mk (M.out.below hb22); have ON := Aside0.mk (Kd.R_below O.out hb22); have BN := Aside0.mk (below_step B.out hb22); clear M O B; have M := MN; have O := ON; have B := BN; clear MN ON BN; clear hb22) | fail)
        go_ret
        exact ⟨rfl, B.out⟩
/-- CoverOnce returns true. -/
theorem juratlaw37_CoverOnce.holds (l : List S28) (C : Option Addr) (cl : Nat) (w : World) (hC : Kd.C k28 w C l.length l) (hcl : l.length ≤ cl) (gl : l.length ≤ maxLen ∧ ∀ x ∈ l, good28 x) :
    Calls Try.prog 7 #[.slice C l.length cl] w fun e w' => e = .returned (.bool true) ∧ Below w.heap.size w w' := by
  by_cases hl : (l.length : Int) > 15
  · exact once_few l C cl w hC hcl 0 (few_no l 15 hl 0)
  obtain ⟨k1, h1⟩ := (few_ev l 15 hl (by omega)).rounds
  cases hf : fewB l with
  | false => rw [hf] at h1; exact once_few l C cl w hC hcl k1 h1
  | true => rw [hf] at h1; exact once_main l C cl w hC hcl k1 h1 (by omega) (fun x hx => fewB_get hf x hx)
end Go.Proofs.Ytaihieglailmcaa.PC
