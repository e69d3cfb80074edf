/- CoverCounts over this seat's program, by walking its text: it returns true. -/
import Derived.Test.YtaihieglailmcaaCoverPair
import Derived.Test.YtaihieglailmcaaOpensC
import Derived.Outline
import Derived.OpenShut
import Derived.Test.YtaihieglailmcaaPCx5
set_option linter.unusedVariables false
set_option linter.unusedSimpArgs false
namespace Go.Proofs.Ytaihieglailmcaa.PC
open Go.RowKit Go.Proofs.YtaihieglailmcaaW.PrintWords Go.Proofs.YtaihieglailmcaaW.PrintLast Go.Proofs.YtaihieglailmcaaW.PrintMore Go.Proofs.Ytaihieglailmcaa.Pure
theorem CSt.lower_ {W : World} {base base' g : Nat} {s : CS} (hc : CSt W base g s) (h : base' ≤ base) : CSt W base' g s := by
  obtain ⟨h1, v, h2, h3⟩ := hc
  exact ⟨Nat.le_trans h h1, v, h2, Kd.R_lower h3 h⟩
theorem CSt.other {W W' : World} {base g b : Nat} {s : CS} {cs : Array Value} (hc : CSt W base g s) (hb : W.heap[b]? = some (.cells cs 49 (0, 0))) (hne : b ≠ g) (hk : KeepBut W W' b none) : CSt W' base g s := by
  obtain ⟨h1, v, h2, h3⟩ := hc
  exact ⟨h1, v, hk.blk h2 (Ne.symm hne) (by simp), Kd.R_mono (Kd.R_keep (Kd.R_types h3 hb (by decide)) hk (fun _ hk => hk.2)) (fun _ _ => trivial)⟩
theorem keep8 {w W : World} {g : Nat} {a' b' c' d' e' f' h' i' : Value} (h : KeepBut w W g none) : KeepBut w ((((((((W.setCell ⟨g, 0, none⟩ a').setCell ⟨g, 1, none⟩ b').setCell ⟨g, 2, none⟩ c').setCell ⟨g, 3, none⟩ d').setCell ⟨g, 4, none⟩ e').setCell ⟨g, 5, none⟩ f').setCell ⟨g, 6, none⟩ h').setCell ⟨g, 7, none⟩ i') g none :=
  (((((((h.set_ 0 a').set_ 1 b').set_ 2 c').set_ 3 d').set_ 4 e').set_ 5 f').set_ 6 h').set_ 7 i' 
set_option maxHeartbeats 16000000 in
set_option maxRecDepth 100000 in
theorem counts_few (l : List S28) (ps : List Int) (C P : Option Addr) (cl cp : Nat) (w : World) (hC : Kd.C k28 w C l.length l) (hcl : l.length ≤ cl) (hP : Kd.C (Kd.int .i64) w P ps.length ps) (hcp : ps.length ≤ cp) (k1 : Nat) (h1 : juratref27_Few.f k1 l 15 = some false) :
    Calls Try.prog 6 #[.slice C l.length cl, .slice P ps.length cp] w fun e w' => e = .returned (.bool true) ∧ Below w.heap.size w w' := by
  have H1 := Aside0.mk h1
  have HC := Aside0.mk hC
  clear h1 hC hP
  go_enter Try.func6, Try.ntmps6
  go_wp2_with (first | (go_at_call 9; (refine (juratref27_Few.calls k1 C cl l 15 false _ HC.out hcl H1.out).mono ?_); rintro e w3 ⟨rfl, hd3⟩; have HB3 := Aside0.mk hd3.below; clear hd3) | (go_at_call 25; (refine (juratlaw37_awake.calls_ _).mono ?_); rintro e w4 ⟨rfl, hb4⟩; have HB4 := Aside0.mk hb4; clear hb4) | fail)
  go_ret
  exact ⟨rfl, below_step HB3.out HB4.out⟩
set_option maxHeartbeats 16000000 in
set_option maxRecDepth 100000 in
theorem counts_few2 (l : List S28) (ps : List Int) (C P : Option Addr) (cl cp : Nat) (w : World) (hC : Kd.C k28 w C l.length l) (hcl : l.length ≤ cl) (hP : Kd.C (Kd.int .i64) w P ps.length ps) (hcp : ps.length ≤ cp) (k1 : Nat) (h1 : juratref27_Few.f k1 l 15 = some true) (hp : decide ((ps.length : Int) > 15) = true) :
    Calls Try.prog 6 #[.slice C l.length cl, .slice P ps.length cp] w fun e w' => e = .returned (.bool true) ∧ Below w.heap.size w w' := by
  have H1 := Aside0.mk h1
  have HC := Aside0.mk hC
  clear h1 hC hP
  go_enter Try.func6, Try.ntmps6
  go_wp2_with (first | (go_at_call 9; (refine (juratref27_Few.calls k1 C cl l 15 true _ HC.out hcl H1.out).mono ?_); rintro e w3 ⟨rfl, hd3⟩; have HB3 := Aside0.mk hd3.below; clear hd3) | (go_at_call 25; (refine (juratlaw37_awake.calls_ _).mono ?_); rintro e w4 ⟨rfl, hb4⟩; have HB4 := Aside0.mk hb4; clear hb4) | fail)
  go_ret
  exact ⟨rfl, below_step HB3.out HB4.out⟩
theorem rkeep49 {W W' : World} {b : Nat} {cs : Array Value} {α : Type} {d : Kd α} {e base : Nat} {ok : Nat → Prop} {v : Value} {xs : List α} (hr : d.R e W base ok v xs) (hb : W.heap[b]? = some (.cells cs 49 (0, 0))) (ht : ∀ q, q ∈ e :: d.E → q ≠ 49) (hk : KeepBut W W' b none) : d.R e W' base ok v xs :=
  Kd.R_mono (Kd.R_keep (Kd.R_types hr hb ht) hk (fun k hk => hk.2)) (fun _ hk => hk.1)
def countsR8.T : Bool × List (List Nat × List Nat) := (true, [([], []), ([], []), ([], []), ([1, 2], [1, 2]), ([3], [3]), ([0, 4], [0, 4]), ([5], [5]), ([6], [6]), ([6], [6]), ([], []), ([9, 7, 5, 0, 1, 2, 3, 4, 5, 6, 7, 9], [7, 9]), ([8, 10, 0, 1, 2, 3, 4, 5, 6, 7, 8, 9, 10], [8])])
def countsR8.B : List Nat := [0, 0, 0, 6, 14, 31, 63, 127, 127, 0, 767, 2047]
theorem countsR8.tab : rtab .any (opsOf Try.f6 8) = countsR8.T := by kernel_rfl
theorem countsR8.bits : waitsOk countsR8.T.2 countsR8.B = true := by kernel_rfl
theorem cref_Begin.allx (s : CS) (B : Option Addr) (d : Nat) (y : S28) (A3 : Option Addr) (c3 : Nat) (w : World) (hB : Kd.C (Kd.int .i64) w B s.R.f3.length s.R.f3) (hd : s.R.f3.length ≤ d) (hr : Kd.C (Kd.int .i64) w A3 y.f3.length y.f3) (hc : y.f3.length ≤ c3) : Calls Try.prog 27 #[.agg #[.int .i64 s.a, .int .i64 s.h, .int .i64 s.R.f0, .int .i64 s.R.f1, .int .i64 s.R.f2, .slice B s.R.f3.length d, .int .i64 s.left, .bool s.ended], .agg #[.int .i64 y.f0, .int .i64 y.f1, .int .i64 y.f2, .slice A3 y.f3.length c3]] w fun e w' => ∃ (A' : Option Addr) (c' : Nat), e = .returned (.tuple #[.agg #[.int .i64 (beginS s y).1.a, .int .i64 (beginS s y).1.h, .int .i64 (beginS s y).1.R.f0, .int .i64 (beginS s y).1.R.f1, .int .i64 (beginS s y).1.R.f2, .slice A' (beginS s y).1.R.f3.length c', .int .i64 (beginS s y).1.left, .bool (beginS s y).1.ended], .int .i64 (beginS s y).2]) ∧ ((A' = B ∧ c' = d ∧ (beginS s y).1.R = s.R) ∨ (A' = A3 ∧ c' = c3 ∧ (beginS s y).1.R = y)) ∧ Below w.heap.size w w' := cref_Begin.all s B d y A3 c3 w hB hd hr hc
theorem cref_Pass.allx (s : CS) (A : Option Addr) (c : Nat) (w : World) (hB : Kd.C (Kd.int .i64) w A s.R.f3.length s.R.f3) (hd : s.R.f3.length ≤ c) (hr : s.R.f3.length ≤ 1000) : Calls Try.prog 29 #[.agg #[.int .i64 s.a, .int .i64 s.h, .int .i64 s.R.f0, .int .i64 s.R.f1, .int .i64 s.R.f2, .slice A s.R.f3.length c, .int .i64 s.left, .bool s.ended]] w fun e w' => ∃ u : Value, e = .returned (.tuple #[.agg #[.int .i64 (passS s).1.a, .int .i64 (passS s).1.h, .int .i64 (passS s).1.R.f0, .int .i64 (passS s).1.R.f1, .int .i64 (passS s).1.R.f2, .slice A (passS s).1.R.f3.length c, .int .i64 (passS s).1.left, .bool (passS s).1.ended], u, .int .i64 (passS s).2.2]) ∧ Kd.R k76 76 w' w.heap.size (fun _ => True) u (passS s).2.1 ∧ Below w.heap.size w w' := cref_Pass.all s A c w hB hd hr
theorem tells.allx (base g : Nat) (s : CS) (A : Option Addr) (c : Nat) (w : World) (hC : CSt w base g s) (hA : Kd.C (Kd.int .i64) w A s.R.f3.length s.R.f3) (hc : s.R.f3.length ≤ c) (hl : 0 ≤ s.left) (hr : s.R.f3.length ≤ 1000) : Calls Try.prog 32 #[.pointer (some ⟨g, 0, none⟩), .agg #[.int .i64 s.a, .int .i64 s.h, .int .i64 s.R.f0, .int .i64 s.R.f1, .int .i64 s.R.f2, .slice A s.R.f3.length c, .int .i64 s.left, .bool s.ended]] w fun e w' => e = .returned (.bool true) ∧ Below w.heap.size w w' := tells.all base g s A c w hC hA hc hl hr
set_option maxHeartbeats 16000000 in
set_option maxRecDepth 100000 in
theorem counts_main (l : List S28) (ps : List Int) (C P : Option Addr) (cl cp : Nat) (w : World) (hC : Kd.C k28 w C l.length l) (hcl : l.length ≤ cl) (hP : Kd.C (Kd.int .i64) w P ps.length ps) (hcp : ps.length ≤ cp) (k1 : Nat) (h1 : juratref27_Few.f k1 l 15 = some true) (hp : decide ((ps.length : Int) > 15) = false) (hln : l.length ≤ 15) (hids : ∀ x ∈ l, x.f3.length ≤ 30) :
    Calls Try.prog 6 #[.slice C l.length cl, .slice P ps.length cp] w fun e w' => e = .returned (.bool true) ∧ Below w.heap.size w w' := by
  have hu := Try.underlying28
  have hu49 := Try.underlying49
  have H1 := Aside0.mk h1
  have HC := Aside0.mk hC
  have HP := Aside0.mk hP
  have HIDS := Aside0.mk hids
  clear h1 hC hP hids
  go_enter Try.func6, Try.ntmps6
  go_upto_region 4 with (first | (go_at_call 9; (refine (juratref27_Few.calls k1 C cl l 15 true _ HC.out hcl H1.out).mono ?_); rintro e w3 ⟨rfl, hd3⟩; have B := Aside0.mk hd3.below; clear hd3) | (go_at_call 26; (refine (cover_New.calls_ _).mono ?_); rintro e w4 ⟨g, rfl, hM, hb4⟩; have BN := Aside0.mk (below_step B.out hb4); have M : Aside0 (CSt w4 w.heap.size g ⟨0, 0, z28, 0, false⟩) := ⟨CSt.lower_ hM B.out.size⟩; clear hM hb4 B; have B := BN; clear BN) | fail)
  go_upto_region 6 with fail
  have KNE := Aside0.mk (show w4.heap.size ≠ g by have := M.out.lt.2; omega)
  have KGE := Aside0.mk (show w.heap.size ≤ w4.heap.size from B.out.size)
  have K := Aside0.mk (blk_new w4 (Obj.cells #[.int .i64 0, .int .i64 0, .int .i64 0, .int .i64 0, .int .i64 0, .slice none 0 0, .int .i64 0, .bool false] 49))
  have MN := Aside0.mk (M.out.below (below_alloc (Below.refl _ _) (Obj.cells #[.int .i64 0, .int .i64 0, .int .i64 0, .int .i64 0, .int .i64 0, .slice none 0 0, .int .i64 0, .bool false] 49)))
  have BN := Aside0.mk (below_alloc B.out (Obj.cells #[.int .i64 0, .int .i64 0, .int .i64 0, .int .i64 0, .int .i64 0, .slice none 0 0, .int .i64 0, .bool false] 49))
  clear M B
  generalize w4.alloc (Obj.cells #[.int .i64 0, .int .i64 0, .int .i64 0, .int .i64 0, .int .i64 0, .slice none 0 0, .int .i64 0, .bool false] 49) = w5 at K MN BN ⊢
  generalize w4.heap.size = b6 at K KNE KGE ⊢
  go_loopw [7] (fun v7 wr => ∃ (j : Nat) (s : CS) (A : Option Addr) (c : Nat), j ≤ l.length ∧ v7 = .int .i64 (j : Int) ∧ Aside0 (goodS s) ∧ Aside0 (CSt wr w.heap.size g s) ∧ Aside0 (wr.heap[b6]? = some (.cells #[.int .i64 s.a, .int .i64 s.h, .int .i64 s.R.f0, .int .i64 s.R.f1, .int .i64 s.R.f2, .slice A s.R.f3.length c, .int .i64 s.left, .bool s.ended] 49 (0, 0))) ∧ Aside0 (Kd.C (Kd.int .i64) w A s.R.f3.length s.R.f3) ∧ Aside0 (s.R.f3.length ≤ c) ∧ Aside0 (Below w.heap.size w wr)) (fun i _ => l.length - (intOf i).toNat)
  case atStart => exact ⟨0, ⟨0, 0, z28, 0, false⟩, none, 0, Nat.zero_le _, rfl, ⟨good_start⟩, MN, K, ⟨Kd.C_nil _ _⟩, ⟨Nat.zero_le _⟩, BN⟩
  case round =>
    obtain ⟨j, s, A, c, hj, rfl, V, M, BK, HA, HAC, B⟩ := hrel
    clear MN K BN
    by_cases hlt : j < l.length
    · obtain ⟨ad, A3, c3, eA, hx0, hx1, hx2, hx3, hl3, hi3⟩ := at_T28 HC.out (j : Int) (by omega) (by omega)
      subst eA
      simp only [Int.toNat_natCast] at hx0 hx1 hx2 hx3
      have hrd : rd_T28 l (j : Int) = l[j] := by simp [rd_T28, List.getD_eq_getElem?_getD, List.getElem?_eq_getElem hlt]
      rw [hrd] at hx0 hx1 hx2 hx3 hl3 hi3
      have HY := Aside0.mk (HIDS.out l[j] (List.getElem_mem hlt))
      clear hrd
      generalize l[j] = y at HY hx0 hx1 hx2 hx3 hl3 hi3
      have W0 := Aside0.mk hx0
      have W1 := Aside0.mk hx1
      have W2 := Aside0.mk hx2
      have W3 := Aside0.mk hx3
      have HL3 := Aside0.mk hl3
      have HI3 := Aside0.mk hi3
      clear hx0 hx1 hx2 hx3 hl3 hi3
      go_upto_region 8 with fail
      go_cut [8, 9] (fun v8 v9 wx => ∃ (b8 : Nat) (A' : Option Addr) (c' : Nat), v8 = .pointer (some ⟨b8, 0, none⟩) ∧ v9 = .int .i64 (beginS s y).2 ∧ Aside0 (w.heap.size ≤ b8 ∧ b8 ≠ g ∧ b8 ≠ b6) ∧ Aside0 (wx.heap[b8]? = some (.cells #[.int .i64 (beginS s y).1.a, .int .i64 (beginS s y).1.h, .int .i64 (beginS s y).1.R.f0, .int .i64 (beginS s y).1.R.f1, .int .i64 (beginS s y).1.R.f2, .slice A' (beginS s y).1.R.f3.length c', .int .i64 (beginS s y).1.left, .bool (beginS s y).1.ended] 49 (0, 0))) ∧ Aside0 ((A' = A ∧ c' = c ∧ (beginS s y).1.R = s.R) ∨ (A' = A3 ∧ c' = c3 ∧ (beginS s y).1.R = y)) ∧ Aside0 (CSt wx w.heap.size g s) ∧ Aside0 (wx.heap[b6]? = some (.cells #[.int .i64 s.a, .int .i64 s.h, .int .i64 s.R.f0, .int .i64 s.R.f1, .int .i64 s.R.f2, .slice A s.R.f3.length c, .int .i64 s.left, .bool s.ended] 49 (0, 0))) ∧ Aside0 (Below w.heap.size w wx))
      case first =>
        have hx0 := pw_cell_below B.out W0.out; have hx1 := pw_cell_below B.out W1.out; have hx2 := pw_cell_below B.out W2.out; have hx3 := pw_cell_below B.out W3.out; obtain ⟨⟨j0, j1, j2, j3, j4, j5, j6, j7⟩, y0, y1, y2, y3, y4, y5, y6, y7⟩ := cell8 BK.out
        refine start_ (n := 12) (S := (fun w' => w'.cell? ⟨b6, 0, none⟩ = some (.int .i64 s.a) ∧ w'.cell? ⟨b6, 1, none⟩ = some (.int .i64 s.h) ∧ w'.cell? ⟨b6, 2, none⟩ = some (.int .i64 s.R.f0) ∧ w'.cell? ⟨b6, 3, none⟩ = some (.int .i64 s.R.f1) ∧ w'.cell? ⟨b6, 4, none⟩ = some (.int .i64 s.R.f2) ∧ w'.cell? ⟨b6, 5, none⟩ = some (.slice A s.R.f3.length c) ∧ w'.cell? ⟨b6, 6, none⟩ = some (.int .i64 s.left) ∧ w'.cell? ⟨b6, 7, none⟩ = some (.bool s.ended) ∧ w'.cell? (ad.add (j * 4)) = some (.int .i64 y.f0) ∧ w'.cell? ⟨(ad.add (j * 4)).block, (ad.add (j * 4)).off + 1, none⟩ = some (.int .i64 y.f1) ∧ w'.cell? ⟨(ad.add (j * 4)).block, (ad.add (j * 4)).off + 2, none⟩ = some (.int .i64 y.f2) ∧ w'.cell? ⟨(ad.add (j * 4)).block, (ad.add (j * 4)).off + 3, none⟩ = some (.slice A3 y.f3.length c3))) (ds := [10]) #[false, false, false, false, false, false, false, false, false, false, false, false] (by kernel_rfl) rfl rfl ⟨j0, j1, j2, j3, j4, j5, j6, j7, hx0, hx1, hx2, hx3⟩ (fun hHeld => ?_); refine with_tabW countsR8.tab countsR8.bits (fun HT_ HW_ => ?_)
        have hdr := below_drew1 (Below.refl wr.heap.size wr)
        have MN := Aside0.mk (M.out.below hdr)
        have BKN := Aside0.mk (blk_below BK.out hdr)
        have BN := Aside0.mk (below_step B.out hdr)
        clear M BK B
        have M := MN
        have BK := BKN
        have B := BN
        clear MN BKN BN
        clear hdr
        clear hx0 hx1 hx2 hx3 j0 j1 j2 j3 j4 j5 j6 j7 y0 y1 y2 y3 y4 y5 y6 y7
        generalize wr.drew = w8 at M BK B hHeld ⊢
        have hx0 := pw_cell_below B.out W0.out
        have hx1 := pw_cell_below B.out W1.out
        have hx2 := pw_cell_below B.out W2.out
        have hx3 := pw_cell_below B.out W3.out
        obtain ⟨⟨j0, j1, j2, j3, j4, j5, j6, j7⟩, y0, y1, y2, y3, y4, y5, y6, y7⟩ := cell8 BK.out
        refine take_ (i := 0) (N := some 35) (v := ?_) (a' := ?_) #[true, false, false, false, false, false, false, false, false, false, false, false] rfl rfl (take_ofW HT_.out HW_.out (by kernel_rfl)) (fun _ _ _ h => h) (Or.inl ⟨by rfl, ?_⟩) hHeld ?_ ?_
        rotate_left
        · rintro w' ⟨s0, s1, s2, s3, s4, s5, s6, s7, s8, s9, s10, s11⟩
          go_simp
          with_reducible rfl
        rotate_left
        · simp only [Act.put, List.setIfInBounds_toArray, List.set_cons_zero, List.set_cons_succ, i64_w, i32_w]
          rfl
        refine pure_ (i := 1) (N := some 36) (v := ?_) (a' := ?_) #[true, true, false, false, false, false, false, false, false, false, false, false] rfl rfl (any_of HT_.out (by kernel_rfl)) (fun _ _ _ h => h) (Or.inl ⟨by rfl, ?_⟩) ?_ ?_
        rotate_left
        · intro w'
          go_simp
          with_reducible rfl
        rotate_left
        · simp only [Act.put, List.setIfInBounds_toArray, List.set_cons_zero, List.set_cons_succ, i64_w, i32_w]
          rfl
        refine pure_ (i := 2) (N := some 37) (v := ?_) (a' := ?_) #[true, true, true, false, false, false, false, false, false, false, false, false] rfl rfl (any_of HT_.out (by kernel_rfl)) (fun _ _ _ h => h) (Or.inl ⟨by rfl, ?_⟩) ?_ ?_
        rotate_left
        · intro w'
          go_simp
          with_reducible rfl
        rotate_left
        · simp only [Act.put, List.setIfInBounds_toArray, List.set_cons_zero, List.set_cons_succ, i64_w, i32_w]
          rfl
        refine pure_ (i := 3) (N := some 38) (v := ?_) (a' := ?_) #[true, true, true, true, false, false, false, false, false, false, false, false] rfl rfl (any_of HT_.out (by kernel_rfl)) (fun _ _ _ h => h) (Or.inl ⟨by rfl, ?_⟩) ?_ ?_
        rotate_left
        · intro w'
          go_simp
          with_reducible rfl
        rotate_left
        · simp only [Act.put, List.setIfInBounds_toArray, List.set_cons_zero, List.set_cons_succ, i64_w, i32_w]
          rfl
        refine take_ (i := 4) (N := some 39) (v := ?_) (a' := ?_) #[true, true, true, true, true, false, false, false, false, false, false, false] rfl rfl (take_ofW HT_.out HW_.out (by kernel_rfl)) (fun _ _ _ h => h) (Or.inl ⟨by rfl, ?_⟩) hHeld ?_ ?_
        rotate_left
        · rintro w' ⟨s0, s1, s2, s3, s4, s5, s6, s7, s8, s9, s10, s11⟩
          go_simp
          with_reducible rfl
        rotate_left
        · simp only [Act.put, List.setIfInBounds_toArray, List.set_cons_zero, List.set_cons_succ, i64_w, i32_w]
          rfl
        refine two_ (i := 5) (j := 9) (Ni := some 40) (Nj := some 8) #[true, true, true, true, true, true, false, false, false, false, false, false] #[true, true, true, true, true, false, false, false, false, true, false, false] rfl rfl rfl rfl (two_of HT_.out (by kernel_rfl)) (by decide) (by decide) (fun K hK => ?_) (fun K hK => ?_)
        · skip
          refine goes_ Try.func27 (by kernel_rfl) rfl #[.agg #[.int .i64 s.a, .int .i64 s.h, .int .i64 s.R.f0, .int .i64 s.R.f1, .int .i64 s.R.f2, .slice A s.R.f3.length c, .int .i64 s.left, .bool s.ended], .agg #[.int .i64 y.f0, .int .i64 y.f1, .int .i64 y.f2, .slice A3 y.f3.length c3]] (by rfl) rfl rfl (by (try simp only [List.map_toArray, List.map_cons, List.map_nil]); first | done | rfl) ?_
          refine (cref_Begin.allx s A c y A3 c3 _ (Kd.C_below HA.out B.out) HAC.out (Kd.C_below HI3.out B.out) HL3.out).mono ?_
          rintro e w9 ⟨A', c', rfl, hAB, hb9⟩
          refine ⟨_, rfl, ?_⟩
          have HAB := Aside0.mk hAB
          have MN := Aside0.mk (M.out.below hb9)
          have BKN := Aside0.mk (blk_below BK.out hb9)
          have BN := Aside0.mk (below_step B.out hb9)
          clear M BK B
          have M := MN
          have BK := BKN
          have B := BN
          clear MN BKN BN
          (try (have K8N := Aside0.mk (blk_below K8.out hb9); clear K8; have K8 := K8N; clear K8N; clear d0 d1 d2 d3 d4 d5 d6 d7 v0 v1 v2 v3 v4 v5 v6 v7; obtain ⟨⟨d0, d1, d2, d3, d4, d5, d6, d7⟩, v0, v1, v2, v3, v4, v5, v6, v7⟩ := cell8 K8.out))
          clear hb9 hAB
          clear hx0 hx1 hx2 hx3 j0 j1 j2 j3 j4 j5 j6 j7 y0 y1 y2 y3 y4 y5 y6 y7
          have hx0 := pw_cell_below B.out W0.out
          have hx1 := pw_cell_below B.out W1.out
          have hx2 := pw_cell_below B.out W2.out
          have hx3 := pw_cell_below B.out W3.out
          obtain ⟨⟨j0, j1, j2, j3, j4, j5, j6, j7⟩, y0, y1, y2, y3, y4, y5, y6, y7⟩ := cell8 BK.out
          refine hK.out _ _ ⟨j0, j1, j2, j3, j4, j5, j6, j7, hx0, hx1, hx2, hx3⟩ (fun hHeld => ?_)
          clear hK K
          refine norm_ (a' := ?_) ?_ ?_
          rotate_left
          · show Act.put _ (some 40) _ = _
            simp only [Act.put, List.setIfInBounds_toArray, List.set_cons_zero, List.set_cons_succ, i64_w, i32_w]
            rfl
          refine pure_ (i := 6) (N := some 34) (v := ?_) (a' := ?_) #[true, true, true, true, true, true, true, false, false, false, false, false] rfl rfl (any_of HT_.out (by kernel_rfl)) (fun _ _ _ h => h) (Or.inl ⟨by rfl, ?_⟩) ?_ ?_
          rotate_left
          · intro w'
            go_simp
            with_reducible rfl
          rotate_left
          · simp only [Act.put, List.setIfInBounds_toArray, List.set_cons_zero, List.set_cons_succ, i64_w, i32_w]
            rfl
          refine pure_ (i := 7) (N := some 41) (v := ?_) (a' := ?_) #[true, true, true, true, true, true, true, true, false, false, false, false] rfl rfl (any_of HT_.out (by kernel_rfl)) (fun _ _ _ h => h) (Or.inl ⟨by rfl, ?_⟩) ?_ ?_
          rotate_left
          · intro w'
            go_simp
            with_reducible rfl
          rotate_left
          · simp only [Act.put, List.setIfInBounds_toArray, List.set_cons_zero, List.set_cons_succ, i64_w, i32_w]
            rfl
          refine pure_ (i := 8) (N := some 42) (v := ?_) (a' := ?_) #[true, true, true, true, true, true, true, true, true, false, false, false] rfl rfl (any_of HT_.out (by kernel_rfl)) (fun _ _ _ h => h) (Or.inl ⟨by rfl, ?_⟩) ?_ ?_
          rotate_left
          · intro w'
            go_simp
            with_reducible rfl
          rotate_left
          · simp only [Act.put, List.setIfInBounds_toArray, List.set_cons_zero, List.set_cons_succ, i64_w, i32_w]
            rfl
          refine one_ (i := 9) (N := some 8) #[true, true, true, true, true, true, true, true, true, true, false, false] rfl rfl (one_of HT_.out (by kernel_rfl)) (by decide) (fun K hK => ?_)
          refine box_step ?hg (N := 8) ?hd (cs := #[.int .i64 0, .int .i64 0, .int .i64 0, .int .i64 0, .int .i64 0, .slice none 0 0, .int .i64 0, .bool false]) (t := 49) ?hr ?_; (case hd => rfl); (case hg => rfl); (case hr => first | (go_simp; done) | (go_simp; rfl))
          intro b8 hg8 w9 hbox hb9
          have G8 := Aside0.mk (show w.heap.size ≤ b8 ∧ b8 ≠ g ∧ b8 ≠ b6 from by have h1 := B.out.size; have h2 := M.out.lt.2; have h3 := blk_lt BK.out; exact ⟨by omega, by omega, by omega⟩)
          have K8 := Aside0.mk hbox
          have MN := Aside0.mk (M.out.below hb9)
          have BKN := Aside0.mk (blk_below BK.out hb9)
          have BN := Aside0.mk (below_step B.out hb9)
          clear M BK B
          have M := MN
          have BK := BKN
          have B := BN
          clear MN BKN BN
          clear hb9 hg8 hbox
          clear hx0 hx1 hx2 hx3 j0 j1 j2 j3 j4 j5 j6 j7 y0 y1 y2 y3 y4 y5 y6 y7
          have hx0 := pw_cell_below B.out W0.out
          have hx1 := pw_cell_below B.out W1.out
          have hx2 := pw_cell_below B.out W2.out
          have hx3 := pw_cell_below B.out W3.out
          obtain ⟨⟨j0, j1, j2, j3, j4, j5, j6, j7⟩, y0, y1, y2, y3, y4, y5, y6, y7⟩ := cell8 BK.out
          obtain ⟨⟨d0, d1, d2, d3, d4, d5, d6, d7⟩, v0, v1, v2, v3, v4, v5, v6, v7⟩ := cell8 K8.out
          refine hK.out _ _ ⟨j0, j1, j2, j3, j4, j5, j6, j7, hx0, hx1, hx2, hx3⟩ (fun hHeld => ?_)
          clear hK K
          refine norm_ (a' := ?_) ?_ ?_
          rotate_left
          · show Act.put _ (some 8) _ = _
            simp only [Act.put, List.setIfInBounds_toArray, List.set_cons_zero, List.set_cons_succ, i64_w, i32_w]
            rfl
          refine last_ (i := 10) (N := none) #[true, true, true, true, true, true, true, true, true, true, true, false] rfl rfl (one_of HT_.out (by kernel_rfl)) (by decide) (fun K hK => ?_)
          refine skip_ (w1 := ?_) (by rfl) rfl ?_ ?_
          rotate_left
          · go_simp
            rfl
          refine hK.out _ _ ?_
          clear hK K
          refine pure_ (i := 11) (N := some 9) (v := ?_) (a' := ?_) #[true, true, true, true, true, true, true, true, true, true, true, true] rfl rfl (any_of HT_.out (by kernel_rfl)) (fun _ _ _ h => h) (Or.inl ⟨by rfl, ?_⟩) ?_ ?_
          rotate_left
          · intro w'
            go_simp
            with_reducible rfl
          rotate_left
          · simp only [Act.put, List.setIfInBounds_toArray, List.set_cons_zero, List.set_cons_succ, i64_w, i32_w]
            rfl
          refine done_ (done_of HT_.out (by kernel_rfl)) ?_
          go_wp2_with fail
          go_meet
          exact ⟨b8, A', c', rfl, rfl, G8, ⟨cput8 K8.out⟩, HAB, ⟨M.out.other K8.out G8.out.2.1 (keep8 (KeepBut.refl _ _ _))⟩, ⟨(keep8 (KeepBut.refl _ _ _)).blk BK.out (Ne.symm G8.out.2.2) (by simp)⟩, ⟨cbel8 B.out G8.out.1⟩⟩
        · skip
          refine box_step ?hg (N := 8) ?hd (cs := #[.int .i64 0, .int .i64 0, .int .i64 0, .int .i64 0, .int .i64 0, .slice none 0 0, .int .i64 0, .bool false]) (t := 49) ?hr ?_; (case hd => rfl); (case hg => rfl); (case hr => first | (go_simp; done) | (go_simp; rfl))
          intro b8 hg8 w9 hbox hb9
          have G8 := Aside0.mk (show w.heap.size ≤ b8 ∧ b8 ≠ g ∧ b8 ≠ b6 from by have h1 := B.out.size; have h2 := M.out.lt.2; have h3 := blk_lt BK.out; exact ⟨by omega, by omega, by omega⟩)
          have K8 := Aside0.mk hbox
          have MN := Aside0.mk (M.out.below hb9)
          have BKN := Aside0.mk (blk_below BK.out hb9)
          have BN := Aside0.mk (below_step B.out hb9)
          clear M BK B
          have M := MN
          have BK := BKN
          have B := BN
          clear MN BKN BN
          clear hb9 hg8 hbox
          clear hx0 hx1 hx2 hx3 j0 j1 j2 j3 j4 j5 j6 j7 y0 y1 y2 y3 y4 y5 y6 y7
          have hx0 := pw_cell_below B.out W0.out
          have hx1 := pw_cell_below B.out W1.out
          have hx2 := pw_cell_below B.out W2.out
          have hx3 := pw_cell_below B.out W3.out
          obtain ⟨⟨j0, j1, j2, j3, j4, j5, j6, j7⟩, y0, y1, y2, y3, y4, y5, y6, y7⟩ := cell8 BK.out
          obtain ⟨⟨d0, d1, d2, d3, d4, d5, d6, d7⟩, v0, v1, v2, v3, v4, v5, v6, v7⟩ := cell8 K8.out
          refine hK.out _ _ ⟨j0, j1, j2, j3, j4, j5, j6, j7, hx0, hx1, hx2, hx3⟩ (fun hHeld => ?_)
          clear hK K
          refine norm_ (a' := ?_) ?_ ?_
          rotate_left
          · show Act.put _ (some 8) _ = _
            simp only [Act.put, List.setIfInBounds_toArray, List.set_cons_zero, List.set_cons_succ, i64_w, i32_w]
            rfl
          refine one_ (i := 5) (N := some 40) #[true, true, true, true, true, true, false, false, false, true, false, false] rfl rfl (one_of HT_.out (by kernel_rfl)) (by decide) (fun K hK => ?_)
          refine goes_ Try.func27 (by kernel_rfl) rfl #[.agg #[.int .i64 s.a, .int .i64 s.h, .int .i64 s.R.f0, .int .i64 s.R.f1, .int .i64 s.R.f2, .slice A s.R.f3.length c, .int .i64 s.left, .bool s.ended], .agg #[.int .i64 y.f0, .int .i64 y.f1, .int .i64 y.f2, .slice A3 y.f3.length c3]] (by rfl) rfl rfl (by (try simp only [List.map_toArray, List.map_cons, List.map_nil]); first | done | rfl) ?_
          refine (cref_Begin.allx s A c y A3 c3 _ (Kd.C_below HA.out B.out) HAC.out (Kd.C_below HI3.out B.out) HL3.out).mono ?_
          rintro e w9 ⟨A', c', rfl, hAB, hb9⟩
          refine ⟨_, rfl, ?_⟩
          have HAB := Aside0.mk hAB
          have MN := Aside0.mk (M.out.below hb9)
          have BKN := Aside0.mk (blk_below BK.out hb9)
          have BN := Aside0.mk (below_step B.out hb9)
          clear M BK B
          have M := MN
          have BK := BKN
          have B := BN
          clear MN BKN BN
          (try (have K8N := Aside0.mk (blk_below K8.out hb9); clear K8; have K8 := K8N; clear K8N; clear d0 d1 d2 d3 d4 d5 d6 d7 v0 v1 v2 v3 v4 v5 v6 v7; obtain ⟨⟨d0, d1, d2, d3, d4, d5, d6, d7⟩, v0, v1, v2, v3, v4, v5, v6, v7⟩ := cell8 K8.out))
          clear hb9 hAB
          clear hx0 hx1 hx2 hx3 j0 j1 j2 j3 j4 j5 j6 j7 y0 y1 y2 y3 y4 y5 y6 y7
          have hx0 := pw_cell_below B.out W0.out
          have hx1 := pw_cell_below B.out W1.out
          have hx2 := pw_cell_below B.out W2.out
          have hx3 := pw_cell_below B.out W3.out
          obtain ⟨⟨j0, j1, j2, j3, j4, j5, j6, j7⟩, y0, y1, y2, y3, y4, y5, y6, y7⟩ := cell8 BK.out
          refine hK.out _ _ ⟨j0, j1, j2, j3, j4, j5, j6, j7, hx0, hx1, hx2, hx3⟩ (fun hHeld => ?_)
          clear hK K
          refine norm_ (a' := ?_) ?_ ?_
          rotate_left
          · show Act.put _ (some 40) _ = _
            simp only [Act.put, List.setIfInBounds_toArray, List.set_cons_zero, List.set_cons_succ, i64_w, i32_w]
            rfl
          refine pure_ (i := 6) (N := some 34) (v := ?_) (a' := ?_) #[true, true, true, true, true, true, true, false, false, true, false, false] rfl rfl (any_of HT_.out (by kernel_rfl)) (fun _ _ _ h => h) (Or.inl ⟨by rfl, ?_⟩) ?_ ?_
          rotate_left
          · intro w'
            go_simp
            with_reducible rfl
          rotate_left
          · simp only [Act.put, List.setIfInBounds_toArray, List.set_cons_zero, List.set_cons_succ, i64_w, i32_w]
            rfl
          refine pure_ (i := 7) (N := some 41) (v := ?_) (a' := ?_) #[true, true, true, true, true, true, true, true, false, true, false, false] rfl rfl (any_of HT_.out (by kernel_rfl)) (fun _ _ _ h => h) (Or.inl ⟨by rfl, ?_⟩) ?_ ?_
          rotate_left
          · intro w'
            go_simp
            with_reducible rfl
          rotate_left
          · simp only [Act.put, List.setIfInBounds_toArray, List.set_cons_zero, List.set_cons_succ, i64_w, i32_w]
            rfl
          refine pure_ (i := 8) (N := some 42) (v := ?_) (a' := ?_) #[true, true, true, true, true, true, true, true, true, true, false, false] rfl rfl (any_of HT_.out (by kernel_rfl)) (fun _ _ _ h => h) (Or.inl ⟨by rfl, ?_⟩) ?_ ?_
          rotate_left
          · intro w'
            go_simp
            with_reducible rfl
          rotate_left
          · simp only [Act.put, List.setIfInBounds_toArray, List.set_cons_zero, List.set_cons_succ, i64_w, i32_w]
            rfl
          refine last_ (i := 10) (N := none) #[true, true, true, true, true, true, true, true, true, true, true, false] rfl rfl (one_of HT_.out (by kernel_rfl)) (by decide) (fun K hK => ?_)
          refine skip_ (w1 := ?_) (by rfl) rfl ?_ ?_
          rotate_left
          · go_simp
            rfl
          refine hK.out _ _ ?_
          clear hK K
          refine pure_ (i := 11) (N := some 9) (v := ?_) (a' := ?_) #[true, true, true, true, true, true, true, true, true, true, true, true] rfl rfl (any_of HT_.out (by kernel_rfl)) (fun _ _ _ h => h) (Or.inl ⟨by rfl, ?_⟩) ?_ ?_
          rotate_left
          · intro w'
            go_simp
            with_reducible rfl
          rotate_left
          · simp only [Act.put, List.setIfInBounds_toArray, List.set_cons_zero, List.set_cons_succ, i64_w, i32_w]
            rfl
          refine done_ (done_of HT_.out (by kernel_rfl)) ?_
          go_wp2_with fail
          go_meet
          exact ⟨b8, A', c', rfl, rfl, G8, ⟨cput8 K8.out⟩, HAB, ⟨M.out.other K8.out G8.out.2.1 (keep8 (KeepBut.refl _ _ _))⟩, ⟨(keep8 (KeepBut.refl _ _ _)).blk BK.out (Ne.symm G8.out.2.2) (by simp)⟩, ⟨cbel8 B.out G8.out.1⟩⟩
      case rest =>
        obtain ⟨b8, A', c', rfl, rfl, G8, K8, HAB, M8, BK8, B8⟩ := hcut
        clear M BK B
        have hx0 := pw_cell_below B8.out W0.out
        have hx1 := pw_cell_below B8.out W1.out
        have hx2 := pw_cell_below B8.out W2.out
        have hx3 := pw_cell_below B8.out W3.out
        go_upto_region 11 with (first | (go_at_call 28; (refine (cover_Begin.all w g s y A3 c3 _ B8.out M8.out HI3.out HL3.out V.out.2.1.1 (Nat.le_trans HY.out (by omega))).mono ?_); rintro e w5 ⟨rfl, hM5, hK5, hB5⟩; have M := Aside0.mk hM5; have B := Aside0.mk hB5; have K8N := Aside0.mk (hK5.blk K8.out G8.out.2.1 (by simp)); have BK := Aside0.mk (hK5.blk BK8.out KNE.out (by simp)); clear hM5 hK5 hB5 M8 BK8 B8 K8) | fail)
        obtain ⟨⟨d0, d1, d2, d3, d4, d5, d6, d7⟩, v0, v1, v2, v3, v4, v5, v6, v7⟩ := cell8 K8N.out
        obtain ⟨⟨j0, j1, j2, j3, j4, j5, j6, j7⟩, y0, y1, y2, y3, y4, y5, y6, y7⟩ := cell8 BK.out
        go_upto_region 13 with fail
        have KN := Aside0.mk (cput8 (a' := .int .i64 (beginS s y).1.a) (b' := .int .i64 (beginS s y).1.h) (c' := .int .i64 (beginS s y).1.R.f0) (d' := .int .i64 (beginS s y).1.R.f1) (e' := .int .i64 (beginS s y).1.R.f2) (f' := .slice A' (beginS s y).1.R.f3.length c') (h' := .int .i64 (beginS s y).1.left) (i' := .bool (beginS s y).1.ended) BK.out)
        have M2 : Aside0 (CSt ((((((((w5.setCell ⟨b6, 0, none⟩ (.int .i64 (beginS s y).1.a)).setCell ⟨b6, 1, none⟩ (.int .i64 (beginS s y).1.h)).setCell ⟨b6, 2, none⟩ (.int .i64 (beginS s y).1.R.f0)).setCell ⟨b6, 3, none⟩ (.int .i64 (beginS s y).1.R.f1)).setCell ⟨b6, 4, none⟩ (.int .i64 (beginS s y).1.R.f2)).setCell ⟨b6, 5, none⟩ (.slice A' (beginS s y).1.R.f3.length c')).setCell ⟨b6, 6, none⟩ (.int .i64 (beginS s y).1.left)).setCell ⟨b6, 7, none⟩ (.bool (beginS s y).1.ended)) w.heap.size g (beginS s y).1) := ⟨M.out.other BK.out KNE.out (keep8 (KeepBut.refl _ _ _))⟩
        have B2 : Aside0 (Below w.heap.size w ((((((((w5.setCell ⟨b6, 0, none⟩ (.int .i64 (beginS s y).1.a)).setCell ⟨b6, 1, none⟩ (.int .i64 (beginS s y).1.h)).setCell ⟨b6, 2, none⟩ (.int .i64 (beginS s y).1.R.f0)).setCell ⟨b6, 3, none⟩ (.int .i64 (beginS s y).1.R.f1)).setCell ⟨b6, 4, none⟩ (.int .i64 (beginS s y).1.R.f2)).setCell ⟨b6, 5, none⟩ (.slice A' (beginS s y).1.R.f3.length c')).setCell ⟨b6, 6, none⟩ (.int .i64 (beginS s y).1.left)).setCell ⟨b6, 7, none⟩ (.bool (beginS s y).1.ended))) := ⟨cbel8 B.out KGE.out⟩
        clear M B BK K8N d0 d1 d2 d3 d4 d5 d6 d7 v0 v1 v2 v3 v4 v5 v6 v7 j0 j1 j2 j3 j4 j5 j6 j7 y0 y1 y2 y3 y4 y5 y6 y7
        generalize ((((((((w5.setCell ⟨b6, 0, none⟩ (.int .i64 (beginS s y).1.a)).setCell ⟨b6, 1, none⟩ (.int .i64 (beginS s y).1.h)).setCell ⟨b6, 2, none⟩ (.int .i64 (beginS s y).1.R.f0)).setCell ⟨b6, 3, none⟩ (.int .i64 (beginS s y).1.R.f1)).setCell ⟨b6, 4, none⟩ (.int .i64 (beginS s y).1.R.f2)).setCell ⟨b6, 5, none⟩ (.slice A' (beginS s y).1.R.f3.length c')).setCell ⟨b6, 6, none⟩ (.int .i64 (beginS s y).1.left)).setCell ⟨b6, 7, none⟩ (.bool (beginS s y).1.ended)) = w6 at KN M2 B2 ⊢
        have VN := Aside0.mk (good_begin V.out HY.out)
        have HAN : Aside0 (Kd.C (Kd.int .i64) w A' (beginS s y).1.R.f3.length (beginS s y).1.R.f3) := ⟨by rcases HAB.out with ⟨e1, e2, e3⟩ | ⟨e1, e2, e3⟩; (rw [e1, e3]; exact HA.out); (rw [e1, e3]; exact HI3.out)⟩
        have HCN : Aside0 ((beginS s y).1.R.f3.length ≤ c') := ⟨by rcases HAB.out with ⟨e1, e2, e3⟩ | ⟨e1, e2, e3⟩; (rw [e2, e3]; exact HAC.out); (rw [e2, e3]; exact HL3.out)⟩
        clear HAB V HA HAC HI3 HL3 HY W0 W1 W2 W3 G8 hx0 hx1 hx2 hx3
        generalize (beginS s y).1 = s1 at KN M2 B2 VN HAN HCN ⊢
        go_upto_if 55 with (fail)
        go_cut [10] (fun v10 wx => ∃ n : Int, v10 = .int .i64 n ∧ n ≤ 9223372036854775807 ∧ w6 = wx)
        case first =>
          by_cases hjp : j < ps.length
          · obtain ⟨adP, eP, hu0⟩ := Kd.at_int HP.out (j : Int) (by omega) (by omega)
            subst eP
            simp only [Int.toNat_natCast] at hu0
            replace hu0 := pw_cell_below B2.out hu0
            go_wp2_with fail
            go_meet
            exact ⟨_, rfl, (bounds_i64 (wf_bits _ _ _ _)).2, rfl⟩
          · go_wp2_with fail
            go_meet
            exact ⟨1, rfl, by omega, rfl⟩
        case rest =>
          obtain ⟨n, rfl, hn, rfl⟩ := hcut
          go_upto_region 16 with fail
          go_loopw [11] (fun v11 wr => ∃ (z : Int) (s2 : CS), v11 = .int .i64 z ∧ 0 ≤ z ∧ Aside0 (goodS s2) ∧ Aside0 (CSt wr w.heap.size g s2) ∧ Aside0 (wr.heap[b6]? = some (.cells #[.int .i64 s2.a, .int .i64 s2.h, .int .i64 s2.R.f0, .int .i64 s2.R.f1, .int .i64 s2.R.f2, .slice A' s2.R.f3.length c', .int .i64 s2.left, .bool s2.ended] 49 (0, 0))) ∧ Aside0 (Kd.C (Kd.int .i64) w A' s2.R.f3.length s2.R.f3) ∧ Aside0 (s2.R.f3.length ≤ c') ∧ Aside0 (Below w.heap.size w wr)) (fun i _ => (n - intOf i).toNat)
          case atStart => exact ⟨0, s1, rfl, by omega, VN, M2, KN, HAN, HCN, B2⟩
          case round =>
            obtain ⟨z, s2, rfl, hz0, V, M, BK, HA, HC2, B⟩ := hrel
            clear VN M2 KN HAN HCN B2
            have HL := Aside0.mk (show s2.R.f3.length ≤ 1000 from Nat.le_trans V.out.2.2.2 (by omega))
            have HLE := Aside0.mk V.out.2.1.1
            obtain ⟨⟨j0, j1, j2, j3, j4, j5, j6, j7⟩, y0, y1, y2, y3, y4, y5, y6, y7⟩ := cell8 BK.out
            by_cases hzn : z < n
            · have hz1 : wrap64 (z + 1) = z + 1 := by unfold wrap64; omega
              have ZN := Aside0.mk hz1
              clear hz1
              go_upto_region 19 with (first | (go_at_call 29; (refine (cref_Pass.allx s2 A' c' _ (Kd.C_below HA.out B.out) HC2.out HL.out).mono ?_); rintro e w7 ⟨u, rfl, hU, hb7⟩; obtain ⟨Aw, cw, rfl⟩ := Kd.R_slice hU; have H := Aside0.mk hU; have MN := Aside0.mk (M.out.below hb7); have BKN := Aside0.mk (blk_below BK.out hb7); have BN := Aside0.mk (below_step B.out hb7); clear M BK B; have M := MN; have BK := BKN; have B := BN; clear MN BKN BN; clear hb7 hU j0 j1 j2 j3 j4 j5 j6 j7 y0 y1 y2 y3 y4 y5 y6 y7) | fail)
              have G12 := Aside0.mk (show w7.heap.size ≠ g ∧ w7.heap.size ≠ b6 from by have h2 := M.out.lt.2; have h3 := blk_lt BK.out; exact ⟨by omega, by omega⟩)
              have K12 := Aside0.mk (blk_new w7 (Obj.cells #[.int .i64 (passS s2).1.a, .int .i64 (passS s2).1.h, .int .i64 (passS s2).1.R.f0, .int .i64 (passS s2).1.R.f1, .int .i64 (passS s2).1.R.f2, .slice A' (passS s2).1.R.f3.length c', .int .i64 (passS s2).1.left, .bool (passS s2).1.ended] 49))
              have hba := below_alloc (Below.refl w7.heap.size w7) (Obj.cells #[.int .i64 (passS s2).1.a, .int .i64 (passS s2).1.h, .int .i64 (passS s2).1.R.f0, .int .i64 (passS s2).1.R.f1, .int .i64 (passS s2).1.R.f2, .slice A' (passS s2).1.R.f3.length c', .int .i64 (passS s2).1.left, .bool (passS s2).1.ended] 49)
              have MN := Aside0.mk (M.out.below hba); have BKN := Aside0.mk (blk_below BK.out hba); have BN := Aside0.mk (below_step B.out hba); have HN := Aside0.mk (Kd.R_below H.out hba); clear M BK B H; have M := MN; have BK := BKN; have B := BN; have H := HN; clear MN BKN BN HN
              clear hba
              generalize w7.alloc (Obj.cells #[.int .i64 (passS s2).1.a, .int .i64 (passS s2).1.h, .int .i64 (passS s2).1.R.f0, .int .i64 (passS s2).1.R.f1, .int .i64 (passS s2).1.R.f2, .slice A' (passS s2).1.R.f3.length c', .int .i64 (passS s2).1.left, .bool (passS s2).1.ended] 49) = w8 at M BK B H K12 ⊢
              generalize w7.heap.size = b12 at G12 K12 ⊢
              have HP := Aside0.mk (pass_R s2)
              go_upto_region 20 with (first | (go_at_call 30; (refine (cover_Pass.all w.heap.size g s2 _ M.out B.out.size HL.out).mono ?_); rintro e w9 ⟨u2, rfl, hU2, hM, hK, hB⟩; obtain ⟨A2, c2, rfl⟩ := Kd.R_slice hU2; have U := Aside0.mk hU2; have HN := Aside0.mk (CSt.rkeep M.out H.out (by decide) hK); have BKN := Aside0.mk (hK.blk BK.out KNE.out (by simp)); have K12N := Aside0.mk (hK.blk K12.out G12.out.1 (by simp)); have BN := Aside0.mk (hB _ _ (Nat.le_refl _) B.out); have MN := Aside0.mk hM; clear M B BK K12 H hU2 hM hK hB; have M := MN; have B := BN; have BK := BKN; have H := HN; clear MN BN BKN HN) | fail)
              obtain ⟨⟨d0, d1, d2, d3, d4, d5, d6, d7⟩, v0, v1, v2, v3, v4, v5, v6, v7⟩ := cell8 K12N.out
              obtain ⟨⟨j0, j1, j2, j3, j4, j5, j6, j7⟩, y0, y1, y2, y3, y4, y5, y6, y7⟩ := cell8 BK.out
              go_upto_region 21 with fail
              have BKN := Aside0.mk (cput8 (a' := .int .i64 (passS s2).1.a) (b' := .int .i64 (passS s2).1.h) (c' := .int .i64 (passS s2).1.R.f0) (d' := .int .i64 (passS s2).1.R.f1) (e' := .int .i64 (passS s2).1.R.f2) (f' := .slice A' (passS s2).1.R.f3.length c') (h' := .int .i64 (passS s2).1.left) (i' := .bool (passS s2).1.ended) BK.out)
              have MN : Aside0 (CSt ((((((((w9.setCell ⟨b6, 0, none⟩ (.int .i64 (passS s2).1.a)).setCell ⟨b6, 1, none⟩ (.int .i64 (passS s2).1.h)).setCell ⟨b6, 2, none⟩ (.int .i64 (passS s2).1.R.f0)).setCell ⟨b6, 3, none⟩ (.int .i64 (passS s2).1.R.f1)).setCell ⟨b6, 4, none⟩ (.int .i64 (passS s2).1.R.f2)).setCell ⟨b6, 5, none⟩ (.slice A' (passS s2).1.R.f3.length c')).setCell ⟨b6, 6, none⟩ (.int .i64 (passS s2).1.left)).setCell ⟨b6, 7, none⟩ (.bool (passS s2).1.ended)) w.heap.size g (passS s2).1) := ⟨M.out.other BK.out KNE.out (keep8 (KeepBut.refl _ _ _))⟩
              have BN : Aside0 (Below w.heap.size w ((((((((w9.setCell ⟨b6, 0, none⟩ (.int .i64 (passS s2).1.a)).setCell ⟨b6, 1, none⟩ (.int .i64 (passS s2).1.h)).setCell ⟨b6, 2, none⟩ (.int .i64 (passS s2).1.R.f0)).setCell ⟨b6, 3, none⟩ (.int .i64 (passS s2).1.R.f1)).setCell ⟨b6, 4, none⟩ (.int .i64 (passS s2).1.R.f2)).setCell ⟨b6, 5, none⟩ (.slice A' (passS s2).1.R.f3.length c')).setCell ⟨b6, 6, none⟩ (.int .i64 (passS s2).1.left)).setCell ⟨b6, 7, none⟩ (.bool (passS s2).1.ended))) := ⟨cbel8 B.out KGE.out⟩
              have HN : Aside0 (Kd.R k76 76 ((((((((w9.setCell ⟨b6, 0, none⟩ (.int .i64 (passS s2).1.a)).setCell ⟨b6, 1, none⟩ (.int .i64 (passS s2).1.h)).setCell ⟨b6, 2, none⟩ (.int .i64 (passS s2).1.R.f0)).setCell ⟨b6, 3, none⟩ (.int .i64 (passS s2).1.R.f1)).setCell ⟨b6, 4, none⟩ (.int .i64 (passS s2).1.R.f2)).setCell ⟨b6, 5, none⟩ (.slice A' (passS s2).1.R.f3.length c')).setCell ⟨b6, 6, none⟩ (.int .i64 (passS s2).1.left)).setCell ⟨b6, 7, none⟩ (.bool (passS s2).1.ended)) _ _ _ _) := ⟨rkeep49 H.out BK.out (by decide) (keep8 (KeepBut.refl _ _ _))⟩
              have UN : Aside0 (Kd.R k76 76 ((((((((w9.setCell ⟨b6, 0, none⟩ (.int .i64 (passS s2).1.a)).setCell ⟨b6, 1, none⟩ (.int .i64 (passS s2).1.h)).setCell ⟨b6, 2, none⟩ (.int .i64 (passS s2).1.R.f0)).setCell ⟨b6, 3, none⟩ (.int .i64 (passS s2).1.R.f1)).setCell ⟨b6, 4, none⟩ (.int .i64 (passS s2).1.R.f2)).setCell ⟨b6, 5, none⟩ (.slice A' (passS s2).1.R.f3.length c')).setCell ⟨b6, 6, none⟩ (.int .i64 (passS s2).1.left)).setCell ⟨b6, 7, none⟩ (.bool (passS s2).1.ended)) _ _ _ _) := ⟨rkeep49 U.out BK.out (by decide) (keep8 (KeepBut.refl _ _ _))⟩
              clear M B BK H U K12N G12 d0 d1 d2 d3 d4 d5 d6 d7 v0 v1 v2 v3 v4 v5 v6 v7
              clear j0 j1 j2 j3 j4 j5 j6 j7 y0 y1 y2 y3 y4 y5 y6 y7
              generalize ((((((((w9.setCell ⟨b6, 0, none⟩ (.int .i64 (passS s2).1.a)).setCell ⟨b6, 1, none⟩ (.int .i64 (passS s2).1.h)).setCell ⟨b6, 2, none⟩ (.int .i64 (passS s2).1.R.f0)).setCell ⟨b6, 3, none⟩ (.int .i64 (passS s2).1.R.f1)).setCell ⟨b6, 4, none⟩ (.int .i64 (passS s2).1.R.f2)).setCell ⟨b6, 5, none⟩ (.slice A' (passS s2).1.R.f3.length c')).setCell ⟨b6, 6, none⟩ (.int .i64 (passS s2).1.left)).setCell ⟨b6, 7, none⟩ (.bool (passS s2).1.ended)) = w10 at MN BN BKN HN UN ⊢
              have M := MN
              have B := BN
              have BK := BKN
              have H := HN
              have U := UN
              clear MN BN BKN HN UN
              have V3 := Aside0.mk (good_pass V.out)
              have HA3 : Aside0 (Kd.C (Kd.int .i64) w A' (passS s2).1.R.f3.length (passS s2).1.R.f3) := ⟨by rw [HP.out]; exact HA.out⟩
              have HC3 : Aside0 ((passS s2).1.R.f3.length ≤ c') := ⟨by rw [HP.out]; exact HC2.out⟩
              have HPL := Aside0.mk (pass_len V.out)
              clear V HA HC2 HP HL HLE
              obtain ⟨⟨s3, hits, e2⟩, hps⟩ : ∃ q, passS s2 = q := ⟨_, rfl⟩
              rw [hps] at M BK H U V3 HA3 HC3 HPL ⊢
              simp only at M BK H U V3 HA3 HC3 HPL ⊢
              clear hps
              obtain ⟨ks, hks⟩ := (same76_ev hits (by have := HPL.out; omega)).rounds
              have HS := Aside0.mk hks
              have HL := Aside0.mk (show s3.R.f3.length ≤ 1000 from Nat.le_trans V3.out.2.2.2 (by omega))
              have HLE := Aside0.mk V3.out.2.1.1
              clear hks
              obtain ⟨⟨j0, j1, j2, j3, j4, j5, j6, j7⟩, y0, y1, y2, y3, y4, y5, y6, y7⟩ := cell8 BK.out
              go_wp2_with (first | (go_at_call 31; (refine (juratref15_Same.calls ks A2 c2 hits Aw cw hits true _ (Kd.R_reads' U.out).2.2 (Kd.R_reads' U.out).2.1 (Kd.R_reads' H.out).2.2 (Kd.R_reads' H.out).2.1 HS.out).mono ?_); rintro e w11 ⟨rfl, hd⟩; have hb31 := hd.below; have MN := Aside0.mk (M.out.below hb31); have BKN := Aside0.mk (blk_below BK.out hb31); have BN := Aside0.mk (below_step B.out hb31); have HN := Aside0.mk (Kd.R_below H.out hb31); have UN := Aside0.mk (Kd.R_below U.out hb31); clear M BK B H U; have M := MN; have BK := BKN; have B := BN; have H := HN; have U := UN; clear MN BKN BN HN UN; clear hb31 hd; clear j0 j1 j2 j3 j4 j5 j6 j7 y0 y1 y2 y3 y4 y5 y6 y7; obtain ⟨⟨j0, j1, j2, j3, j4, j5, j6, j7⟩, y0, y1, y2, y3, y4, y5, y6, y7⟩ := cell8 BK.out) | (go_at_call 32; (refine (tells.allx w.heap.size g s3 A' c' _ M.out (Kd.C_below HA3.out B.out) HC3.out HLE.out HL.out).mono ?_); rintro e w12 ⟨rfl, hb32⟩; have MN := Aside0.mk (M.out.below hb32); have BKN := Aside0.mk (blk_below BK.out hb32); have BN := Aside0.mk (below_step B.out hb32); clear M BK B; have M := MN; have BK := BKN; have B := BN; clear MN BKN BN; clear hb32; clear j0 j1 j2 j3 j4 j5 j6 j7 y0 y1 y2 y3 y4 y5 y6 y7) | fail)
              exact ⟨⟨z + 1, s3, by first | go_num | rw [ZN.out], by omega, V3, M, BK, HA3, HC3, B⟩, by simp [intOf]; omega⟩
            · go_wp2_with (first | (go_at_call 32; (refine (tells.allx w.heap.size g s2 A' c' _ M.out (Kd.C_below HA.out B.out) HC2.out HLE.out HL.out).mono ?_); rintro e w12 ⟨rfl, hb32⟩; have MN := Aside0.mk (M.out.below hb32); have BKN := Aside0.mk (blk_below BK.out hb32); have BN := Aside0.mk (below_step B.out hb32); clear M BK B; have M := MN; have BK := BKN; have B := BN; clear MN BKN BN; clear hb32; clear j0 j1 j2 j3 j4 j5 j6 j7 y0 y1 y2 y3 y4 y5 y6 y7) | fail)
              exact ⟨⟨j + 1, s2, A', c', by omega, by go_num, V, M, BK, HA, HC2, B⟩, by simp [intOf]; omega⟩
    · have hje : j = l.length := by omega
      subst hje
      go_wp2_with (first | (go_at_call 25; (refine (juratlaw37_awake.calls_ _).mono ?_); rintro e w22 ⟨rfl, hb22⟩; have BN := Aside0.mk (below_step B.out hb22); clear hb22) | fail)
      go_ret
      exact ⟨rfl, BN.out⟩
/-- CoverCounts returns true. -/
theorem juratlaw37_CoverCounts.holds (l : List S28) (ps : List Int) (C : Option Addr) (cl : Nat) (P : Option Addr) (cp : Nat) (w : World) (hC : Kd.C k28 w C l.length l) (hcl : l.length ≤ cl) (hP : Kd.C (Kd.int .i64) w P ps.length ps) (hcp : ps.length ≤ cp) (gl : l.length ≤ maxLen ∧ ∀ x ∈ l, good28 x) (gp : ps.length ≤ maxLen ∧ ∀ x ∈ ps, (Lit.int .i64 x).wf = true) :
    Calls Try.prog 6 #[.slice C l.length cl, .slice P ps.length cp] w fun e w' => e = .returned (.bool true) ∧ Below w.heap.size w w' := by
  by_cases hl : (l.length : Int) > 15
  · exact counts_few l ps C P cl cp w hC hcl hP hcp 0 (few_no l 15 hl 0)
  obtain ⟨k1, h1⟩ := (few_ev l 15 hl (by omega)).rounds
  cases hf : fewB l with
  | false => rw [hf] at h1; exact counts_few l ps C P cl cp w hC hcl hP hcp k1 h1
  | true =>
    rw [hf] at h1
    by_cases hp : (ps.length : Int) > 15
    · exact counts_few2 l ps C P cl cp w hC hcl hP hcp k1 h1 (decide_eq_true hp)
    · exact counts_main l ps C P cl cp w hC hcl hP hcp k1 h1 (decide_eq_false hp) (by omega) (fun x hx => fewB_get hf x hx)
end Go.Proofs.Ytaihieglailmcaa.PC
