/- The lens: what each method does. -/
import Derived.Test.YtejcopppchaneaaLMer
import Derived.Test.YtejcopppchaneaaWKept
import Derived.Test.YtejcopppchaneaaWShare
import Derived.Test.YtejcopppchaneaaPFx1
import Derived.OrdersHeld
import Derived.RegionTactic
import Derived.Deep.LoopGhost
set_option linter.unusedVariables false
set_option linter.unusedSimpArgs false
namespace Go.Proofs.Ytejcopppchaneaa.PF
open Go.RowKit Go.Proofs.YtejcopppchaneaaW.PrintWords Go.Proofs.YtejcopppchaneaaW.PrintLast Go.Proofs.YtejcopppchaneaaW.PrintMore Go.Proofs.Ytejcopppchaneaa.Pure
/-- What a lens holds. -/
structure LS where
  rest : ByteArray
  k : Int
  n : Int
  r : Int
  closed : Bool
  ended : Bool
  e : Int
def cells61 (s : LS) : Array Value := #[.string s.rest, .int .i64 s.k, .int .i64 s.n, .int .i64 s.r, .slice none 0 0, .bool s.closed, .bool s.ended, .int .i64 s.e]
def LAt (W : World) (g : Nat) (s : LS) : Prop := W.heap[g]? = some (.cells #[.string s.rest, .int .i64 s.k, .int .i64 s.n, .int .i64 s.r, .slice none 0 0, .bool s.closed, .bool s.ended, .int .i64 s.e] 61 (0, 0))
theorem cell8 {w : World} {g : Nat} {a b c d e f h i : Value} {t : TypeId} (hb : w.heap[g]? = some (.cells #[a, b, c, d, e, f, h, i] t (0, 0))) : (w.cell? ⟨g, 0, none⟩ = some a ∧ w.cell? ⟨g, 1, none⟩ = some b ∧ w.cell? ⟨g, 2, none⟩ = some c ∧ w.cell? ⟨g, 3, none⟩ = some d ∧ w.cell? ⟨g, 4, none⟩ = some e ∧ w.cell? ⟨g, 5, none⟩ = some f ∧ w.cell? ⟨g, 6, none⟩ = some h ∧ w.cell? ⟨g, 7, none⟩ = some i) ∧ w.frozen? ⟨g, 0, none⟩ = false ∧ w.frozen? ⟨g, 1, none⟩ = false ∧ w.frozen? ⟨g, 2, none⟩ = false ∧ w.frozen? ⟨g, 3, none⟩ = false ∧ w.frozen? ⟨g, 4, none⟩ = false ∧ w.frozen? ⟨g, 5, none⟩ = false ∧ w.frozen? ⟨g, 6, none⟩ = false ∧ w.frozen? ⟨g, 7, none⟩ = false :=
  ⟨⟨(blk_cell hb 0).trans rfl, (blk_cell hb 1).trans rfl, (blk_cell hb 2).trans rfl, (blk_cell hb 3).trans rfl, (blk_cell hb 4).trans rfl, (blk_cell hb 5).trans rfl, (blk_cell hb 6).trans rfl, (blk_cell hb 7).trans rfl⟩, blk_frozen hb 0, blk_frozen hb 1, blk_frozen hb 2, blk_frozen hb 3, blk_frozen hb 4, blk_frozen hb 5, blk_frozen hb 6, blk_frozen hb 7⟩
def lastR (s : LS) : S30 := ⟨s.k, s.n, s.r, []⟩
/-- May a record stand behind the last one? -/
def fitsB (s : LS) (x : S30) : Bool := !(twoS (lastR s) x).2.2.2.2 && ((x.f0 != 5) || ((s.k != 5) && (s.k != 0)))
def fitsR1.T : Bool × List (List Nat × List Nat) := (true, [([], []), ([0], [0]), ([1], [1]), ([2], [2]), ([], []), ([3, 4], [3, 4]), ([5], [5]), ([6], [6]), ([6], [6]), ([], []), ([9, 7, 5, 0, 1, 2, 3, 4, 5, 6, 7, 9], [7, 9]), ([8, 10, 0, 1, 2, 3, 4, 5, 6, 7, 8, 9, 10], [8])])
def fitsR1.B : List Nat := [0, 1, 3, 7, 0, 31, 63, 127, 127, 0, 767, 2047]
theorem fitsR1.tab : rtab .any (opsOf Try.f51 1) = fitsR1.T := by kernel_rfl
theorem fitsR1.bits : waitsOk fitsR1.T.2 fitsR1.B = true := by kernel_rfl
theorem kept4 (W : World) (b : Nat) (a' b' c' d' : Value) : Kept W ((((W.setCell ⟨b, 0, none⟩ a').setCell ⟨b, 1, none⟩ b').setCell ⟨b, 2, none⟩ c').setCell ⟨b, 3, none⟩ d') (fun k => k = b) := ((((Kept.refl W (fun k => k = b)).setCell (.inl rfl) _).setCell (.inl rfl) _).setCell (.inl rfl) _).setCell (.inl rfl) _
set_option maxHeartbeats 16000000 in
set_option maxRecDepth 100000 in
theorem lens_fits.calls_ (g : Nat) (s : LS) (x : S30) (A : Option Addr) (c : Nat) (w : World) (hL : LAt w g s) (hr : Kd.C (Kd.int .i64) w A x.f3.length x.f3) (hc : x.f3.length ≤ c) (h1 : okR (lastR s)) (h2 : okR x) :
    Calls Try.prog 51 #[.pointer (some ⟨g, 0, none⟩), .agg #[.int .i64 x.f0, .int .i64 x.f1, .int .i64 x.f2, .slice A x.f3.length c]] w fun e w' => e = .returned (.bool (fitsB s x)) ∧ Below w.heap.size w w' := by
  obtain ⟨kk, hk2⟩ := (two_ev (lastR s) x h1 h2).rounds
  unfold fitsB
  obtain ⟨⟨t1, t2, t3, t4, t5⟩, ht⟩ : ∃ q, twoS (lastR s) x = q := ⟨_, rfl⟩
  rw [ht] at hk2 ⊢
  have TW : Aside0 (merge_Two.f kk s.k s.n s.r [] x.f0 x.f1 x.f2 x.f3 = some (t1, t2, t3, t4, t5)) := ⟨hk2⟩
  have HX := Aside0.mk hr
  have HC := Aside0.mk hc
  have hu30 := Try.underlying30
  have hu61 := Try.underlying61
  have GL := Aside0.mk (blk_lt hL)
  have L0 : Aside0 (LAt w g s) := ⟨hL⟩
  clear hk2 ht hr hc hL h1 h2
  simp only
  go_enter Try.func51, Try.ntmps51
  go_upto_region 1 with fail
  have L := Aside0.mk (blk_below L0.out (below_alloc (Below.refl _ _) (.cells #[.int .i64 x.f0, .int .i64 x.f1, .int .i64 x.f2, .slice A x.f3.length c] 30)))
  have K3 := Aside0.mk (blk_new w (.cells #[.int .i64 x.f0, .int .i64 x.f1, .int .i64 x.f2, .slice A x.f3.length c] 30))
  have B := Aside0.mk (below_alloc (Below.refl w.heap.size w) (.cells #[.int .i64 x.f0, .int .i64 x.f1, .int .i64 x.f2, .slice A x.f3.length c] 30))
  have N3 := Aside0.mk (show w.heap.size ≠ g from by have h := GL.out; omega)
  clear L0
  generalize w.alloc (.cells #[.int .i64 x.f0, .int .i64 x.f1, .int .i64 x.f2, .slice A x.f3.length c] 30) = w1 at L K3 B ⊢
  obtain ⟨b3, hb3⟩ : ∃ b3, w.heap.size = b3 := ⟨_, rfl⟩
  rw [hb3] at K3 N3
  have HB3 := Aside0.mk hb3
  (try rw [hb3])
  clear hb3
  obtain ⟨⟨i0, i1, i2, i3, i4, i5, i6, i7⟩, u0, u1, u2, u3, u4, u5, u6, u7⟩ := cell8 L.out; obtain ⟨⟨k0, k1, k2, k3⟩, v0, v1, v2, v3⟩ := cell4 K3.out
  go_cut [6] (fun v6 wx => v6 = .bool t5 ∧ Aside0 (LAt wx g s) ∧ Aside0 (wx.heap[b3]? = some (.cells #[.int .i64 x.f0, .int .i64 x.f1, .int .i64 x.f2, .slice A x.f3.length c] 30 (0, 0))) ∧ Aside0 (Below w.heap.size w wx))
  case first =>
    refine start_ (n := 12) (S := (fun w' => w'.cell? ⟨g, 1, none⟩ = some (.int .i64 s.k) ∧ w'.cell? ⟨g, 2, none⟩ = some (.int .i64 s.n) ∧ w'.cell? ⟨g, 3, none⟩ = some (.int .i64 s.r) ∧ w'.cell? ⟨g, 4, none⟩ = some (.slice none 0 0) ∧ w'.cell? ⟨b3, 0, none⟩ = some (.int .i64 x.f0) ∧ w'.cell? ⟨b3, 1, none⟩ = some (.int .i64 x.f1) ∧ w'.cell? ⟨b3, 2, none⟩ = some (.int .i64 x.f2) ∧ w'.cell? ⟨b3, 3, none⟩ = some (.slice A x.f3.length c))) (ds := [10]) #[false, false, false, false, false, false, false, false, false, false, false, false] (by kernel_rfl) rfl rfl ⟨i1, i2, i3, i4, k0, k1, k2, k3⟩ (fun hHeld => ?_); refine with_tabW fitsR1.tab fitsR1.bits (fun HT_ HW_ => ?_)
    have hb := below_drew1 (Below.refl w1.heap.size w1)
    have LN := Aside0.mk (blk_below L.out hb); have KN := Aside0.mk (blk_below K3.out hb); have BN := Aside0.mk (below_step B.out hb); clear L K3 B; have L := LN; have K3 := KN; have B := BN; clear LN KN BN
    clear hb
    clear i0 i1 i2 i3 i4 i5 i6 i7 u0 u1 u2 u3 u4 u5 u6 u7 k0 k1 k2 k3 v0 v1 v2 v3
    generalize w1.drew = w4 at L K3 B hHeld ⊢
    obtain ⟨⟨i0, i1, i2, i3, i4, i5, i6, i7⟩, u0, u1, u2, u3, u4, u5, u6, u7⟩ := cell8 L.out; obtain ⟨⟨k0, k1, k2, k3⟩, v0, v1, v2, v3⟩ := cell4 K3.out
    refine pure_ (i := 0) (N := some 8) (v := ?_) (a' := ?_) #[true, false, false, false, false, false, false, false, false, false, false, false] rfl rfl (any_of HT_.out (by kernel_rfl)) (fun _ _ _ h => h) (Or.inl ⟨by rfl, ?_⟩) ?_ ?_
    rotate_left
    · intro w'
      go_simp
      with_reducible rfl
    rotate_left
    · simp only [Act.put, List.setIfInBounds_toArray, List.set_cons_zero, List.set_cons_succ, i64_w, i32_w]
      rfl
    refine pure_ (i := 1) (N := some 9) (v := ?_) (a' := ?_) #[true, true, false, false, false, false, false, false, false, false, false, false] rfl rfl (any_of HT_.out (by kernel_rfl)) (fun _ _ _ h => h) (Or.inl ⟨by rfl, ?_⟩) ?_ ?_
    rotate_left
    · intro w'
      go_simp
      with_reducible rfl
    rotate_left
    · simp only [Act.put, List.setIfInBounds_toArray, List.set_cons_zero, List.set_cons_succ, i64_w, i32_w]
      rfl
    refine pure_ (i := 2) (N := some 10) (v := ?_) (a' := ?_) #[true, true, true, false, false, false, false, false, false, false, false, false] rfl rfl (any_of HT_.out (by kernel_rfl)) (fun _ _ _ h => h) (Or.inl ⟨by rfl, ?_⟩) ?_ ?_
    rotate_left
    · intro w'
      go_simp
      with_reducible rfl
    rotate_left
    · simp only [Act.put, List.setIfInBounds_toArray, List.set_cons_zero, List.set_cons_succ, i64_w, i32_w]
      rfl
    refine take_ (i := 3) (N := some 11) (v := ?_) (a' := ?_) #[true, true, true, true, false, false, false, false, false, false, false, false] rfl rfl (take_ofW HT_.out HW_.out (by kernel_rfl)) (fun _ _ _ h => h) (Or.inl ⟨by rfl, ?_⟩) hHeld ?_ ?_
    rotate_left
    · rintro w' ⟨s0, s1, s2, s3, s4, s5, s6, s7⟩
      go_simp
      with_reducible rfl
    rotate_left
    · simp only [Act.put, List.setIfInBounds_toArray, List.set_cons_zero, List.set_cons_succ, i64_w, i32_w]
      rfl
    refine take_ (i := 4) (N := some 12) (v := ?_) (a' := ?_) #[true, true, true, true, true, false, false, false, false, false, false, false] rfl rfl (take_ofW HT_.out HW_.out (by kernel_rfl)) (fun _ _ _ h => h) (Or.inl ⟨by rfl, ?_⟩) hHeld ?_ ?_
    rotate_left
    · rintro w' ⟨s0, s1, s2, s3, s4, s5, s6, s7⟩
      go_simp
      with_reducible rfl
    rotate_left
    · simp only [Act.put, List.setIfInBounds_toArray, List.set_cons_zero, List.set_cons_succ, i64_w, i32_w]
      rfl
    refine two_ (i := 5) (j := 9) (Ni := some 13) (Nj := some 5) #[true, true, true, true, true, true, false, false, false, false, false, false] #[true, true, true, true, true, false, false, false, false, true, false, false] rfl rfl rfl rfl (two_of HT_.out (by kernel_rfl)) (by decide) (by decide) (fun K hK => ?_) (fun K hK => ?_)
    · skip
      refine goes_ Try.func66 (by kernel_rfl) rfl #[.agg #[.int .i64 s.k, .int .i64 s.n, .int .i64 s.r, .slice none ([] : List Int).length 0], .agg #[.int .i64 x.f0, .int .i64 x.f1, .int .i64 x.f2, .slice A x.f3.length c]] (by rfl) rfl rfl (by (try simp only [List.map_toArray, List.map_cons, List.map_nil]); first | done | rfl) ?_
      refine (merge_Two.calls kk s.k s.n s.r none 0 [] x.f0 x.f1 x.f2 A c x.f3 t1 t2 t3 t4 t5 _ (Kd.C_nil _ _) (Nat.le_refl _) (Kd.C_below HX.out B.out) HC.out TW.out).mono ?_
      rintro e w5 ⟨v5, rfl, hR, hb⟩
      refine ⟨_, rfl, ?_⟩
      obtain ⟨A5, c5, rfl⟩ := Kd.R_slice hR
      have LN := Aside0.mk (blk_below L.out hb); have KN := Aside0.mk (blk_below K3.out hb); have BN := Aside0.mk (below_step B.out hb); clear L K3 B; have L := LN; have K3 := KN; have B := BN; clear LN KN BN
      (try (have K5N := Aside0.mk (blk_below K5.out hb); clear K5; have K5 := K5N; clear K5N))
      clear hb hR
      clear i0 i1 i2 i3 i4 i5 i6 i7 u0 u1 u2 u3 u4 u5 u6 u7 k0 k1 k2 k3 v0 v1 v2 v3
      obtain ⟨⟨i0, i1, i2, i3, i4, i5, i6, i7⟩, u0, u1, u2, u3, u4, u5, u6, u7⟩ := cell8 L.out; obtain ⟨⟨k0, k1, k2, k3⟩, v0, v1, v2, v3⟩ := cell4 K3.out
      refine hK.out _ _ ⟨i1, i2, i3, i4, k0, k1, k2, k3⟩ (fun hHeld => ?_)
      clear hK K
      refine norm_ (a' := ?_) ?_ ?_
      rotate_left
      · show Act.put _ (some 13) _ = _
        simp only [Act.put, List.setIfInBounds_toArray, List.set_cons_zero, List.set_cons_succ, i64_w, i32_w]
        rfl
      refine pure_ (i := 6) (N := some 7) (v := ?_) (a' := ?_) #[true, true, true, true, true, true, true, false, false, false, false, false] rfl rfl (any_of HT_.out (by kernel_rfl)) (fun _ _ _ h => h) (Or.inl ⟨by rfl, ?_⟩) ?_ ?_
      rotate_left
      · intro w'
        go_simp
        with_reducible rfl
      rotate_left
      · simp only [Act.put, List.setIfInBounds_toArray, List.set_cons_zero, List.set_cons_succ, i64_w, i32_w]
        rfl
      refine pure_ (i := 7) (N := some 14) (v := ?_) (a' := ?_) #[true, true, true, true, true, true, true, true, false, false, false, false] rfl rfl (any_of HT_.out (by kernel_rfl)) (fun _ _ _ h => h) (Or.inl ⟨by rfl, ?_⟩) ?_ ?_
      rotate_left
      · intro w'
        go_simp
        with_reducible rfl
      rotate_left
      · simp only [Act.put, List.setIfInBounds_toArray, List.set_cons_zero, List.set_cons_succ, i64_w, i32_w]
        rfl
      refine pure_ (i := 8) (N := some 15) (v := ?_) (a' := ?_) #[true, true, true, true, true, true, true, true, true, false, false, false] rfl rfl (any_of HT_.out (by kernel_rfl)) (fun _ _ _ h => h) (Or.inl ⟨by rfl, ?_⟩) ?_ ?_
      rotate_left
      · intro w'
        go_simp
        with_reducible rfl
      rotate_left
      · simp only [Act.put, List.setIfInBounds_toArray, List.set_cons_zero, List.set_cons_succ, i64_w, i32_w]
        rfl
      refine one_ (i := 9) (N := some 5) #[true, true, true, true, true, true, true, true, true, true, false, false] rfl rfl (one_of HT_.out (by kernel_rfl)) (by decide) (fun K hK => ?_)
      refine box_step ?hg (N := 5) ?hd (cs := #[.int .i64 0, .int .i64 0, .int .i64 0, .slice none 0 0]) (t := 30) ?hr ?_; (case hd => rfl); (case hg => rfl); (case hr => first | (go_simp; done) | (go_simp; rfl))
      intro b5 hg5 w9 hbox hb
      have N5 := Aside0.mk (show w.heap.size ≤ b5 ∧ b5 ≠ g ∧ b5 ≠ b3 from by have h1 := blk_lt L.out; have h2 := blk_lt K3.out; have h3 := B.out.size; exact ⟨by omega, by omega, by omega⟩)
      have K5 := Aside0.mk hbox
      have LN := Aside0.mk (blk_below L.out hb); have KN := Aside0.mk (blk_below K3.out hb); have BN := Aside0.mk (below_step B.out hb); clear L K3 B; have L := LN; have K3 := KN; have B := BN; clear LN KN BN
      clear hb hbox hg5
      clear i0 i1 i2 i3 i4 i5 i6 i7 u0 u1 u2 u3 u4 u5 u6 u7 k0 k1 k2 k3 v0 v1 v2 v3
      obtain ⟨⟨i0, i1, i2, i3, i4, i5, i6, i7⟩, u0, u1, u2, u3, u4, u5, u6, u7⟩ := cell8 L.out; obtain ⟨⟨k0, k1, k2, k3⟩, v0, v1, v2, v3⟩ := cell4 K3.out
      refine hK.out _ _ ⟨i1, i2, i3, i4, k0, k1, k2, k3⟩ (fun hHeld => ?_)
      clear hK K
      refine norm_ (a' := ?_) ?_ ?_
      rotate_left
      · show Act.put _ (some 5) _ = _
        simp only [Act.put, List.setIfInBounds_toArray, List.set_cons_zero, List.set_cons_succ, i64_w, i32_w]
        rfl
      refine last_ (i := 10) (N := none) #[true, true, true, true, true, true, true, true, true, true, true, false] rfl rfl (one_of HT_.out (by kernel_rfl)) (by decide) (fun K hK => ?_)
      obtain ⟨⟨e0, e1, e2, e3⟩, f0, f1, f2, f3⟩ := cell4 K5.out
      refine skip_ (w1 := ?_) (by rfl) rfl ?_ ?_
      rotate_left
      · go_simp
        rfl
      refine hK.out _ _ ?_
      clear hK K
      refine pure_ (i := 11) (N := some 6) (v := ?_) (a' := ?_) #[true, true, true, true, true, true, true, true, true, true, true, true] rfl rfl (any_of HT_.out (by kernel_rfl)) (fun _ _ _ h => h) (Or.inl ⟨by rfl, ?_⟩) ?_ ?_
      rotate_left
      · intro w'
        go_simp
        with_reducible rfl
      rotate_left
      · simp only [Act.put, List.setIfInBounds_toArray, List.set_cons_zero, List.set_cons_succ, i64_w, i32_w]
        rfl
      refine done_ (done_of HT_.out (by kernel_rfl)) ?_
      go_wp2_with fail
      go_meet
      exact ⟨rfl, ⟨blk_kept L.out (kept4 _ b5 _ _ _ _) (Ne.symm N5.out.2.1)⟩, ⟨blk_kept K3.out (kept4 _ b5 _ _ _ _) (Ne.symm N5.out.2.2)⟩, ⟨below4_put B.out N5.out.1⟩⟩
    · skip
      refine box_step ?hg (N := 5) ?hd (cs := #[.int .i64 0, .int .i64 0, .int .i64 0, .slice none 0 0]) (t := 30) ?hr ?_; (case hd => rfl); (case hg => rfl); (case hr => first | (go_simp; done) | (go_simp; rfl))
      intro b5 hg5 w9 hbox hb
      have N5 := Aside0.mk (show w.heap.size ≤ b5 ∧ b5 ≠ g ∧ b5 ≠ b3 from by have h1 := blk_lt L.out; have h2 := blk_lt K3.out; have h3 := B.out.size; exact ⟨by omega, by omega, by omega⟩)
      have K5 := Aside0.mk hbox
      have LN := Aside0.mk (blk_below L.out hb); have KN := Aside0.mk (blk_below K3.out hb); have BN := Aside0.mk (below_step B.out hb); clear L K3 B; have L := LN; have K3 := KN; have B := BN; clear LN KN BN
      clear hb hbox hg5
      clear i0 i1 i2 i3 i4 i5 i6 i7 u0 u1 u2 u3 u4 u5 u6 u7 k0 k1 k2 k3 v0 v1 v2 v3
      obtain ⟨⟨i0, i1, i2, i3, i4, i5, i6, i7⟩, u0, u1, u2, u3, u4, u5, u6, u7⟩ := cell8 L.out; obtain ⟨⟨k0, k1, k2, k3⟩, v0, v1, v2, v3⟩ := cell4 K3.out
      refine hK.out _ _ ⟨i1, i2, i3, i4, k0, k1, k2, k3⟩ (fun hHeld => ?_)
      clear hK K
      refine norm_ (a' := ?_) ?_ ?_
      rotate_left
      · show Act.put _ (some 5) _ = _
        simp only [Act.put, List.setIfInBounds_toArray, List.set_cons_zero, List.set_cons_succ, i64_w, i32_w]
        rfl
      refine one_ (i := 5) (N := some 13) #[true, true, true, true, true, true, false, false, false, true, false, false] rfl rfl (one_of HT_.out (by kernel_rfl)) (by decide) (fun K hK => ?_)
      refine goes_ Try.func66 (by kernel_rfl) rfl #[.agg #[.int .i64 s.k, .int .i64 s.n, .int .i64 s.r, .slice none ([] : List Int).length 0], .agg #[.int .i64 x.f0, .int .i64 x.f1, .int .i64 x.f2, .slice A x.f3.length c]] (by rfl) rfl rfl (by (try simp only [List.map_toArray, List.map_cons, List.map_nil]); first | done | rfl) ?_
      refine (merge_Two.calls kk s.k s.n s.r none 0 [] x.f0 x.f1 x.f2 A c x.f3 t1 t2 t3 t4 t5 _ (Kd.C_nil _ _) (Nat.le_refl _) (Kd.C_below HX.out B.out) HC.out TW.out).mono ?_
      rintro e w5 ⟨v5, rfl, hR, hb⟩
      refine ⟨_, rfl, ?_⟩
      obtain ⟨A5, c5, rfl⟩ := Kd.R_slice hR
      have LN := Aside0.mk (blk_below L.out hb); have KN := Aside0.mk (blk_below K3.out hb); have BN := Aside0.mk (below_step B.out hb); clear L K3 B; have L := LN; have K3 := KN; have B := BN; clear LN KN BN
      (try (have K5N := Aside0.mk (blk_below K5.out hb); clear K5; have K5 := K5N; clear K5N))
      clear hb hR
      clear i0 i1 i2 i3 i4 i5 i6 i7 u0 u1 u2 u3 u4 u5 u6 u7 k0 k1 k2 k3 v0 v1 v2 v3
      obtain ⟨⟨i0, i1, i2, i3, i4, i5, i6, i7⟩, u0, u1, u2, u3, u4, u5, u6, u7⟩ := cell8 L.out; obtain ⟨⟨k0, k1, k2, k3⟩, v0, v1, v2, v3⟩ := cell4 K3.out
      refine hK.out _ _ ⟨i1, i2, i3, i4, k0, k1, k2, k3⟩ (fun hHeld => ?_)
      clear hK K
      refine norm_ (a' := ?_) ?_ ?_
      rotate_left
      · show Act.put _ (some 13) _ = _
        simp only [Act.put, List.setIfInBounds_toArray, List.set_cons_zero, List.set_cons_succ, i64_w, i32_w]
        rfl
      refine pure_ (i := 6) (N := some 7) (v := ?_) (a' := ?_) #[true, true, true, true, true, true, true, false, false, true, false, false] rfl rfl (any_of HT_.out (by kernel_rfl)) (fun _ _ _ h => h) (Or.inl ⟨by rfl, ?_⟩) ?_ ?_
      rotate_left
      · intro w'
        go_simp
        with_reducible rfl
      rotate_left
      · simp only [Act.put, List.setIfInBounds_toArray, List.set_cons_zero, List.set_cons_succ, i64_w, i32_w]
        rfl
      refine pure_ (i := 7) (N := some 14) (v := ?_) (a' := ?_) #[true, true, true, true, true, true, true, true, false, true, false, false] rfl rfl (any_of HT_.out (by kernel_rfl)) (fun _ _ _ h => h) (Or.inl ⟨by rfl, ?_⟩) ?_ ?_
      rotate_left
      · intro w'
        go_simp
        with_reducible rfl
      rotate_left
      · simp only [Act.put, List.setIfInBounds_toArray, List.set_cons_zero, List.set_cons_succ, i64_w, i32_w]
        rfl
      refine pure_ (i := 8) (N := some 15) (v := ?_) (a' := ?_) #[true, true, true, true, true, true, true, true, true, true, false, false] rfl rfl (any_of HT_.out (by kernel_rfl)) (fun _ _ _ h => h) (Or.inl ⟨by rfl, ?_⟩) ?_ ?_
      rotate_left
      · intro w'
        go_simp
        with_reducible rfl
      rotate_left
      · simp only [Act.put, List.setIfInBounds_toArray, List.set_cons_zero, List.set_cons_succ, i64_w, i32_w]
        rfl
      refine last_ (i := 10) (N := none) #[true, true, true, true, true, true, true, true, true, true, true, false] rfl rfl (one_of HT_.out (by kernel_rfl)) (by decide) (fun K hK => ?_)
      obtain ⟨⟨e0, e1, e2, e3⟩, f0, f1, f2, f3⟩ := cell4 K5.out
      refine skip_ (w1 := ?_) (by rfl) rfl ?_ ?_
      rotate_left
      · go_simp
        rfl
      refine hK.out _ _ ?_
      clear hK K
      refine pure_ (i := 11) (N := some 6) (v := ?_) (a' := ?_) #[true, true, true, true, true, true, true, true, true, true, true, true] rfl rfl (any_of HT_.out (by kernel_rfl)) (fun _ _ _ h => h) (Or.inl ⟨by rfl, ?_⟩) ?_ ?_
      rotate_left
      · intro w'
        go_simp
        with_reducible rfl
      rotate_left
      · simp only [Act.put, List.setIfInBounds_toArray, List.set_cons_zero, List.set_cons_succ, i64_w, i32_w]
        rfl
      refine done_ (done_of HT_.out (by kernel_rfl)) ?_
      go_wp2_with fail
      go_meet
      exact ⟨rfl, ⟨blk_kept L.out (kept4 _ b5 _ _ _ _) (Ne.symm N5.out.2.1)⟩, ⟨blk_kept K3.out (kept4 _ b5 _ _ _ _) (Ne.symm N5.out.2.2)⟩, ⟨below4_put B.out N5.out.1⟩⟩
  case rest =>
    obtain ⟨rfl, L, K3, B⟩ := hcut
    obtain ⟨⟨i0, i1, i2, i3, i4, i5, i6, i7⟩, u0, u1, u2, u3, u4, u5, u6, u7⟩ := cell8 L.out; obtain ⟨⟨k0, k1, k2, k3⟩, v0, v1, v2, v3⟩ := cell4 K3.out
    cases t5 with
    | true =>
      go_wp2
      go_ret
      exact ⟨by first | rfl | (simp [*]; done), B.out⟩
    | false =>
      by_cases h5 : x.f0 = 5
      · have e5 : (x.f0 != 5) = false := bne_eq_false_iff_eq.mpr h5
        by_cases h6 : s.k = 5
        · have e6 : (s.k != 5) = false := bne_eq_false_iff_eq.mpr h6
          go_wp2
          go_ret
          exact ⟨by first | rfl | (simp [*]; done), B.out⟩
        · have e6 : (s.k != 5) = true := bne_iff_ne.mpr h6
          by_cases h7 : s.k = 0
          · have e7 : (s.k != 0) = false := bne_eq_false_iff_eq.mpr h7
            go_wp2
            go_ret
            exact ⟨by first | rfl | (simp [*]; done), B.out⟩
          · have e7 : (s.k != 0) = true := bne_iff_ne.mpr h7
            go_wp2
            go_ret
            exact ⟨by first | rfl | (simp [*]; done), B.out⟩
      · have e5 : (x.f0 != 5) = true := bne_iff_ne.mpr h5
        go_wp2
        go_ret
        exact ⟨by first | rfl | (simp [*]; done), B.out⟩
end Go.Proofs.Ytejcopppchaneaa.PF
