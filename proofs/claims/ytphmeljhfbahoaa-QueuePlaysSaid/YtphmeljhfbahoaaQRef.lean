/- The document's queue: Put and Take over a row that is only read. -/
import Derived.Test.YtphmeljhfbahoaaQMerge
import Derived.OrdersHeld
import Derived.RegionTactic
set_option linter.unusedVariables false
set_option linter.unusedSimpArgs false
namespace Go.Proofs.Ytphmeljhfbahoaa.PQ
open Go.Conc Go.RowKit Go.Proofs.YtphmeljhfbahoaaW.PrintWords Go.Proofs.YtphmeljhfbahoaaW.PrintLast Go.Proofs.YtphmeljhfbahoaaW.PrintMore
theorem heap34 : Kd.Heap k34 := Kd.heap_iso _ (Kd.heap_pair (Kd.heap_int _) (Kd.heap_int _))
theorem cell3 {w : World} {g : Nat} {a b c : Value} {t : TypeId} (h : w.heap[g]? = some (.cells #[a, b, c] t (0, 0))) : (w.cell? ⟨g, 0, none⟩ = some a ∧ w.cell? ⟨g, 1, none⟩ = some b ∧ w.cell? ⟨g, 2, none⟩ = some c) ∧ w.frozen? ⟨g, 0, none⟩ = false ∧ w.frozen? ⟨g, 1, none⟩ = false ∧ w.frozen? ⟨g, 2, none⟩ = false :=
  ⟨⟨(blk_cell h 0).trans rfl, (blk_cell h 1).trans rfl, (blk_cell h 2).trans rfl⟩, blk_frozen h 0, blk_frozen h 1, blk_frozen h 2⟩
theorem put3 {w : World} {g : Nat} {a b c a' b' c' : Value} {t : TypeId} (h : w.heap[g]? = some (.cells #[a, b, c] t (0, 0))) : (((w.setCell ⟨g, 0, none⟩ a').setCell ⟨g, 1, none⟩ b').setCell ⟨g, 2, none⟩ c').heap[g]? = some (.cells #[a', b', c'] t (0, 0)) :=
  blk_put (cs := #[a', b', c]) (blk_put (cs := #[a', b, c]) (blk_put (cs := #[a, b, c]) h 0 a' rfl) 1 b' rfl) 2 c' rfl
theorem bel3 {B g : Nat} {w W : World} {a' b' c' : Value} (h : Below B w W) (hg : B ≤ g) : Below B w (((W.setCell ⟨g, 0, none⟩ a').setCell ⟨g, 1, none⟩ b').setCell ⟨g, 2, none⟩ c') :=
  ((h.setCell (p := ⟨g, 0, none⟩) hg a').setCell (p := ⟨g, 1, none⟩) hg b').setCell (p := ⟨g, 2, none⟩) hg c'
theorem far3 {w : World} {b g : Nat} {o : Obj} {a' b' c' : Value} (h : w.heap[b]? = some o) (hne : b ≠ g) : (((w.setCell ⟨g, 0, none⟩ a').setCell ⟨g, 1, none⟩ b').setCell ⟨g, 2, none⟩ c').heap[b]? = some o :=
  (Below.heap_setCell _ ⟨g, 2, none⟩ c' b hne).trans ((Below.heap_setCell _ ⟨g, 1, none⟩ b' b hne).trans ((Below.heap_setCell _ ⟨g, 0, none⟩ a' b hne).trans h))
theorem row3 {W : World} {g base : Nat} {ok : Nat → Prop} {v : Value} {xs : List S34} {a' b' c' : Value} (h : Kd.R k34 34 W base ok v xs) (hok : ∀ k, ok k → k ≠ g) : Kd.R k34 34 (((W.setCell ⟨g, 0, none⟩ a').setCell ⟨g, 1, none⟩ b').setCell ⟨g, 2, none⟩ c') base ok v xs :=
  Kd.R_far (p := ⟨g, 2, none⟩) (Kd.R_far (p := ⟨g, 1, none⟩) (Kd.R_far (p := ⟨g, 0, none⟩) h hok a') hok b') hok c'
/-- A literal's row. -/
theorem lit_row {W w1 : World} {v : Value} {xs : List S34} (ho : Kd.R k34 34 w1 W.heap.size (fun _ => True) v xs) {base : Nat} (hle : base ≤ W.heap.size) : Kd.R k34 34 w1 base (fun k => W.heap.size ≤ k) v xs :=
  Kd.R_lower (Kd.R_mono (Kd.R_bound ho) (fun k hk => hk.2.1)) hle
set_option maxHeartbeats 16000000 in
set_option maxRecDepth 100000 in
theorem rPut.over (A : Option Addr) (c : Nat) (l : List S34) (size : Int) (x : S34) (w : World) :
    Calls Try.prog 22 #[.agg #[.slice A l.length c, .int .i64 size, .bool true], .agg #[.int .i64 x.f0, .int .i64 x.f1]] w fun e w' => e = .returned (.tuple #[.agg #[.slice A l.length c, .int .i64 size, .bool true], .int .i64 12]) ∧ Below w.heap.size w w' := by
  have hu30 := Try.underlying30
  have hu34 := Try.underlying34
  go_enter Try.func22, Try.ntmps22
  go_upto_region 1 with fail
  have K2 := Aside0.mk (blk_below (blk_below (blk_new w (.cells #[.slice A l.length c, .int .i64 size, .bool true] 30)) (below_alloc (Below.refl _ _) (.cells #[.int .i64 x.f0, .int .i64 x.f1] 34))) (below_alloc (Below.refl _ _) (.cells #[.slice none 0 0, .int .i64 0, .bool false] 30)))
  have K3 := Aside0.mk (blk_below (blk_new (w.alloc (.cells #[.slice A l.length c, .int .i64 size, .bool true] 30)) (.cells #[.int .i64 x.f0, .int .i64 x.f1] 34)) (below_alloc (Below.refl _ _) (.cells #[.slice none 0 0, .int .i64 0, .bool false] 30)))
  have K4 := Aside0.mk (blk_new ((w.alloc (.cells #[.slice A l.length c, .int .i64 size, .bool true] 30)).alloc (.cells #[.int .i64 x.f0, .int .i64 x.f1] 34)) (.cells #[.slice none 0 0, .int .i64 0, .bool false] 30))
  have B := Aside0.mk (below_alloc (below_alloc (below_alloc (Below.refl w.heap.size w) (.cells #[.slice A l.length c, .int .i64 size, .bool true] 30)) (.cells #[.int .i64 x.f0, .int .i64 x.f1] 34)) (.cells #[.slice none 0 0, .int .i64 0, .bool false] 30))
  simp only [World.size_alloc] at K2 K3 K4
  have NE : Aside0 (w.heap.size ≠ w.heap.size + 1 + 1 ∧ w.heap.size + 1 ≠ w.heap.size + 1 + 1 ∧ w.heap.size ≠ w.heap.size + 1 ∧ w.heap.size ≤ w.heap.size + 1 + 1) := ⟨by omega⟩
  generalize ((w.alloc (.cells #[.slice A l.length c, .int .i64 size, .bool true] 30)).alloc (.cells #[.int .i64 x.f0, .int .i64 x.f1] 34)).alloc (.cells #[.slice none 0 0, .int .i64 0, .bool false] 30) = w1 at K2 K3 K4 B ⊢
  generalize hb2 : w.heap.size = b2 at K2 K3 K4 B NE ⊢
  have HB2 := Aside0.mk hb2
  clear hb2
  generalize b2 + 1 + 1 = b4 at K4 NE ⊢
  generalize b2 + 1 = b3 at K3 NE ⊢
  obtain ⟨⟨i0, i1, i2⟩, u0, u1, u2⟩ := cell3 K2.out
  obtain ⟨⟨k0, k1, k2⟩, v0, v1, v2⟩ := cell3 K4.out
  go_wp2
  refine bodyPost_ret (results_ct rfl _ _ b4 30 #[.slice A l.length c, .int .i64 size, .bool true] (0, 0) _ rfl (by exact put3 K4.out) Try.underlying30 rfl (by kernel_rfl)) rfl ?_
  exact ⟨rfl, by rw [HB2.out]; exact bel3 B.out NE.out.2.2.2⟩
set_option maxHeartbeats 16000000 in
set_option maxRecDepth 100000 in
theorem rPut.full (A : Option Addr) (c : Nat) (l : List S34) (size : Int) (x : S34) (w : World) (hf : (l.length : Int) = size) :
    Calls Try.prog 22 #[.agg #[.slice A l.length c, .int .i64 size, .bool false], .agg #[.int .i64 x.f0, .int .i64 x.f1]] w fun e w' => e = .returned (.tuple #[.agg #[.slice A l.length c, .int .i64 size, .bool false], .int .i64 13]) ∧ Below w.heap.size w w' := by
  have hf' : ((l.length : Int) == size) = true := beq_iff_eq.2 hf
  clear hf
  have hu30 := Try.underlying30
  have hu34 := Try.underlying34
  go_enter Try.func22, Try.ntmps22
  go_upto_region 1 with fail
  have K2 := Aside0.mk (blk_below (blk_below (blk_new w (.cells #[.slice A l.length c, .int .i64 size, .bool false] 30)) (below_alloc (Below.refl _ _) (.cells #[.int .i64 x.f0, .int .i64 x.f1] 34))) (below_alloc (Below.refl _ _) (.cells #[.slice none 0 0, .int .i64 0, .bool false] 30)))
  have K3 := Aside0.mk (blk_below (blk_new (w.alloc (.cells #[.slice A l.length c, .int .i64 size, .bool false] 30)) (.cells #[.int .i64 x.f0, .int .i64 x.f1] 34)) (below_alloc (Below.refl _ _) (.cells #[.slice none 0 0, .int .i64 0, .bool false] 30)))
  have K4 := Aside0.mk (blk_new ((w.alloc (.cells #[.slice A l.length c, .int .i64 size, .bool false] 30)).alloc (.cells #[.int .i64 x.f0, .int .i64 x.f1] 34)) (.cells #[.slice none 0 0, .int .i64 0, .bool false] 30))
  have B := Aside0.mk (below_alloc (below_alloc (below_alloc (Below.refl w.heap.size w) (.cells #[.slice A l.length c, .int .i64 size, .bool false] 30)) (.cells #[.int .i64 x.f0, .int .i64 x.f1] 34)) (.cells #[.slice none 0 0, .int .i64 0, .bool false] 30))
  simp only [World.size_alloc] at K2 K3 K4
  have NE : Aside0 (w.heap.size ≠ w.heap.size + 1 + 1 ∧ w.heap.size + 1 ≠ w.heap.size + 1 + 1 ∧ w.heap.size ≠ w.heap.size + 1 ∧ w.heap.size ≤ w.heap.size + 1 + 1) := ⟨by omega⟩
  generalize ((w.alloc (.cells #[.slice A l.length c, .int .i64 size, .bool false] 30)).alloc (.cells #[.int .i64 x.f0, .int .i64 x.f1] 34)).alloc (.cells #[.slice none 0 0, .int .i64 0, .bool false] 30) = w1 at K2 K3 K4 B ⊢
  generalize hb2 : w.heap.size = b2 at K2 K3 K4 B NE ⊢
  have HB2 := Aside0.mk hb2
  clear hb2
  generalize b2 + 1 + 1 = b4 at K4 NE ⊢
  generalize b2 + 1 = b3 at K3 NE ⊢
  obtain ⟨⟨i0, i1, i2⟩, u0, u1, u2⟩ := cell3 K2.out
  obtain ⟨⟨k0, k1, k2⟩, v0, v1, v2⟩ := cell3 K4.out
  go_wp2
  refine bodyPost_ret (results_ct rfl _ _ b4 30 #[.slice A l.length c, .int .i64 size, .bool false] (0, 0) _ rfl (by exact put3 K4.out) Try.underlying30 rfl (by kernel_rfl)) rfl ?_
  exact ⟨rfl, by rw [HB2.out]; exact bel3 B.out NE.out.2.2.2⟩
def rPutR5.T : Bool × List (List Nat × List Nat) := (true, [([], []), ([], []), ([1], [1]), ([0, 2], [0, 2]), ([], []), ([4], [4]), ([3, 5, 3], [3, 5]), ([0, 1, 2, 3, 4, 5, 6], []), ([7, 6, 6, 0, 1, 2, 3, 4, 5, 6], [6, 7])])
def rPutR5.B : List Nat := [0, 0, 2, 7, 0, 16, 63, 127, 255]
theorem rPutR5.tab : rtab .any (opsOf Try.f22 5) = rPutR5.T := by kernel_rfl
theorem rPutR5.bits : waitsOk rPutR5.T.2 rPutR5.B = true := by kernel_rfl
theorem bst {b2 : Nat} {w W W' : World} (B : Below b2 w W) (h : w.heap.size = b2) (hb : Below W.heap.size W W') : Below b2 w W' := B.trans (hb.mono (h ▸ B.size))
theorem crow {b2 : Nat} {w W : World} {A : Option Addr} {n : Nat} {l : List S34} (B : Below b2 w W) (h : w.heap.size = b2) (hc : Kd.C k34 w A n l) : Kd.C k34 W A n l := heap34.C (fun k hlt => B.block k (by omega)) hc
theorem lit_rown {W w1 : World} {v : Value} {xs : List S34} (ho : Kd.R k34 34 w1 W.heap.size (fun _ => True) v xs) {base : Nat} (hle : base ≤ W.heap.size) (hb : Below W.heap.size W w1) : ∃ n, Kd.R k34 34 w1 base (fun k => n ≤ k) v xs ∧ n ≤ w1.heap.size ∧ W.heap.size = n := ⟨_, lit_row ho hle, hb.size, rfl⟩
set_option maxHeartbeats 16000000 in
set_option maxRecDepth 100000 in
theorem rPut.ok (A : Option Addr) (c : Nat) (l : List S34) (size : Int) (x : S34) (w : World) (hC : Kd.C k34 w A l.length l) (hl : l.length ≤ 5000) (hf : (l.length : Int) ≠ size) :
    Calls Try.prog 22 #[.agg #[.slice A l.length c, .int .i64 size, .bool false], .agg #[.int .i64 x.f0, .int .i64 x.f1]] w fun e w' => ∃ A' c', e = .returned (.tuple #[.agg #[.slice A' (l ++ [x]).length c', .int .i64 size, .bool false], .int .i64 0]) ∧ Kd.R k34 34 w' w.heap.size (fun _ => True) (.slice A' (l ++ [x]).length c') (l ++ [x]) ∧ Below w.heap.size w w' := by
  have hf' : ((l.length : Int) == size) = false := beq_false_of_ne hf
  have HC0 := Aside0.mk hC
  have HL := Aside0.mk hl
  clear hf hC hl
  have hu30 := Try.underlying30
  have hu34 := Try.underlying34
  go_enter Try.func22, Try.ntmps22
  go_upto_region 1 with fail
  have K2 := Aside0.mk (blk_below (blk_below (blk_new w (.cells #[.slice A l.length c, .int .i64 size, .bool false] 30)) (below_alloc (Below.refl _ _) (.cells #[.int .i64 x.f0, .int .i64 x.f1] 34))) (below_alloc (Below.refl _ _) (.cells #[.slice none 0 0, .int .i64 0, .bool false] 30)))
  have K3 := Aside0.mk (blk_below (blk_new (w.alloc (.cells #[.slice A l.length c, .int .i64 size, .bool false] 30)) (.cells #[.int .i64 x.f0, .int .i64 x.f1] 34)) (below_alloc (Below.refl _ _) (.cells #[.slice none 0 0, .int .i64 0, .bool false] 30)))
  have K4 := Aside0.mk (blk_new ((w.alloc (.cells #[.slice A l.length c, .int .i64 size, .bool false] 30)).alloc (.cells #[.int .i64 x.f0, .int .i64 x.f1] 34)) (.cells #[.slice none 0 0, .int .i64 0, .bool false] 30))
  have B := Aside0.mk (below_alloc (below_alloc (below_alloc (Below.refl w.heap.size w) (.cells #[.slice A l.length c, .int .i64 size, .bool false] 30)) (.cells #[.int .i64 x.f0, .int .i64 x.f1] 34)) (.cells #[.slice none 0 0, .int .i64 0, .bool false] 30))
  simp only [World.size_alloc] at K2 K3 K4
  have NE : Aside0 (w.heap.size ≠ w.heap.size + 1 + 1 ∧ w.heap.size + 1 ≠ w.heap.size + 1 + 1 ∧ w.heap.size ≠ w.heap.size + 1 ∧ w.heap.size ≤ w.heap.size + 1 + 1) := ⟨by omega⟩
  generalize ((w.alloc (.cells #[.slice A l.length c, .int .i64 size, .bool false] 30)).alloc (.cells #[.int .i64 x.f0, .int .i64 x.f1] 34)).alloc (.cells #[.slice none 0 0, .int .i64 0, .bool false] 30) = w1 at K2 K3 K4 B ⊢
  generalize hb2 : w.heap.size = b2 at K2 K3 K4 B NE ⊢
  have HB2 := Aside0.mk hb2
  clear hb2
  generalize b2 + 1 + 1 = b4 at K4 NE ⊢
  generalize b2 + 1 = b3 at K3 NE ⊢
  obtain ⟨⟨i0, i1, i2⟩, u0, u1, u2⟩ := cell3 K2.out
  obtain ⟨⟨k0, k1, k2⟩, v0, v1, v2⟩ := cell3 K4.out
  go_upto_region 5 with fail
  refine start_ (n := 9) (S := (fun w' => w'.cell? ⟨b2, 0, none⟩ = some (.slice A l.length c) ∧ w'.cell? ⟨b3, 0, none⟩ = some (.int .i64 x.f0) ∧ w'.cell? ⟨b3, 1, none⟩ = some (.int .i64 x.f1))) (ds := [8]) #[false, false, false, false, false, false, false, false, false] (by kernel_rfl) rfl rfl ⟨(blk_cell K2.out 0).trans rfl, (blk_cell K3.out 0).trans rfl, (blk_cell K3.out 1).trans rfl⟩ (fun hHeld => ?_); refine with_tabW rPutR5.tab rPutR5.bits (fun HT_ HW_ => ?_)
  have hdr := below_drew1 (Below.refl w1.heap.size w1)
  have hb := hdr
  have K2N := Aside0.mk (blk_below K2.out hb)
  have K3N := Aside0.mk (blk_below K3.out hb)
  have K4N := Aside0.mk (blk_below K4.out hb)
  have BN := Aside0.mk (bst B.out HB2.out hb)
  clear K2 K3 K4 B; have K2 := K2N; have K3 := K3N; have K4 := K4N; have B := BN; clear K2N K3N K4N BN
  clear hdr hb
  clear i0 i1 i2 u0 u1 u2 k0 k1 k2 v0 v1 v2
  generalize w1.drew = wd at K2 K3 K4 B hHeld ⊢
  refine pure_ (i := 1) (N := some 17) (v := ?_) (a' := ?_) #[false, true, false, false, false, false, false, false, false] rfl rfl (any_of HT_.out (by kernel_rfl)) (fun _ _ _ h => h) (Or.inl ⟨by rfl, ?_⟩) ?_ ?_
  rotate_left
  · intro w'
    go_simp
    with_reducible rfl
  rotate_left
  · simp only [Act.put, List.setIfInBounds_toArray, List.set_cons_zero, List.set_cons_succ, i64_w, i32_w]
    rfl
  refine take_ (i := 2) (N := some 18) (v := ?_) (a' := ?_) #[false, true, true, false, false, false, false, false, false] rfl rfl (take_ofW HT_.out HW_.out (by kernel_rfl)) (fun _ _ _ h => h) (Or.inl ⟨by rfl, ?_⟩) hHeld ?_ ?_
  rotate_left
  · rintro w' ⟨s0, s1, s2⟩
    go_simp
    with_reducible rfl
  rotate_left
  · simp only [Act.put, List.setIfInBounds_toArray, List.set_cons_zero, List.set_cons_succ, i64_w, i32_w]
    rfl
  refine take_ (i := 4) (N := some 20) (v := ?_) (a' := ?_) #[false, true, true, false, true, false, false, false, false] rfl rfl (take_ofW HT_.out HW_.out (by kernel_rfl)) (fun _ _ _ h => h) (Or.inl ⟨by rfl, ?_⟩) hHeld ?_ ?_
  rotate_left
  · rintro w' ⟨s0, s1, s2⟩
    go_simp
    with_reducible rfl
  rotate_left
  · simp only [Act.put, List.setIfInBounds_toArray, List.set_cons_zero, List.set_cons_succ, i64_w, i32_w]
    rfl
  refine two_ (i := 0) (j := 5) (Ni := some 16) (Nj := some 21) #[true, true, true, false, true, false, false, false, false] #[false, true, true, false, true, true, false, false, false] rfl rfl rfl rfl (two_of HT_.out (by kernel_rfl)) (by decide) (by decide) (fun K hK => ?_) (fun K hK => ?_)
  · skip
    refine Kd.R_lit_step k34 _ 34 ?hg (N := 16) ?hd (xs := ([] : List S34)) (inner := []) (ok := fun _ => True) (okp := fun _ => True) ?hr ?hp (fun _ hk => hk) trivial (Below.refl _ _) (Nat.le_refl _) (by simp) ?_; (case hd => rfl); (case hg => rfl); (case hr => first | (go_simp; done) | (go_simp; rfl)); (case hp => exact (Reps.none _ _))
    intro v16 w16 ho hb hg_ hnew_
    clear hg_ hnew_
    obtain ⟨n0, hE, hn0, hW0⟩ := lit_rown ho (HB2.out ▸ B.out.size) hb
    have NB0 := Aside0.mk (show b2 < n0 ∧ b3 < n0 ∧ b4 < n0 from by have h1 := blk_lt K2.out; have h2 := blk_lt K3.out; have h3 := blk_lt K4.out; exact ⟨by omega, by omega, by omega⟩)
    (try (have LN : Aside0 (Kd.R k34 34 w16 b2 (fun k => n5 ≤ k ∧ k < n0) v21 [x]) := ⟨Kd.R_below (Kd.R_mono (Kd.R_bound L.out) (fun k hk => ⟨hk.1, by rw [← hW0]; exact hk.2.2.1⟩)) hb⟩; clear L; have L := LN; clear LN))
    have E0 := Aside0.mk hE
    have N0 := Aside0.mk hn0
    have K2N := Aside0.mk (blk_below K2.out hb)
    have K3N := Aside0.mk (blk_below K3.out hb)
    have K4N := Aside0.mk (blk_below K4.out hb)
    have BN := Aside0.mk (bst B.out HB2.out hb)
    clear K2 K3 K4 B; have K2 := K2N; have K3 := K3N; have K4 := K4N; have B := BN; clear K2N K3N K4N BN
    clear ho hb hE hn0 hW0
    refine hK.out _ _ ⟨(blk_cell K2.out 0).trans rfl, (blk_cell K3.out 0).trans rfl, (blk_cell K3.out 1).trans rfl⟩ (fun hHeld => ?_)
    clear hK K
    refine norm_ (a' := ?_) ?_ ?_
    rotate_left
    · show Act.put _ (some 16) _ = _
      simp only [Act.put, List.setIfInBounds_toArray, List.set_cons_zero, List.set_cons_succ, i64_w, i32_w]
      rfl
    refine two_ (i := 3) (j := 5) (Ni := some 19) (Nj := some 21) #[true, true, true, true, true, false, false, false, false] #[true, true, true, false, true, true, false, false, false] rfl rfl rfl rfl (two_of HT_.out (by kernel_rfl)) (by decide) (by decide) (fun K hK => ?_) (fun K hK => ?_)
    · skip
      refine Kd.R_append_rows_step k34 (w0 := w) b2 (by rfl) (.tmp 16) (.tmp 18) 28 34 (.agg #[(.int .i64 0), (.int .i64 0)]) 16 rfl Try.underlying28 info34 rfl (by decide) (by omega) v16 [] l _ _ _ (fun k => n0 ≤ k) (fun _ => False) rfl rfl ?aO ?aR (fun _ _ h => h) (fun _ h => h.elim) ?aF ?aB ?aS ?aL ?_
      (case aF => exact fun k hk => Nat.le_trans N0.out hk)
      (case aB => exact B.out)
      (case aS => exact HB2.out ▸ B.out.size)
      (case aO => first | exact E0.out | exact Kd.R_mono E0.out (fun _ hk => hk.1))
      (case aR => exact crow B.out HB2.out HC0.out)
      (case aL => have h1 := HL.out; simp only [List.length_nil]; omega)
      intro v19 w19 ho hb hg hat
      (try (have LN := Aside0.mk (Kd.R_grown L.out hg (fun k hk e => by have h1 := E0.out.1 k e.symm; (try simp only at h1); (try simp only at hk); omega)); clear L; have L := LN; clear LN))
      have OWN := E0
      have K2N := Aside0.mk (blk_grown K2.out hg (fun e => by have h1 := OWN.out.1 _ e.symm; have h2 := NB0.out; (try simp only at h1); omega))
      have K3N := Aside0.mk (blk_grown K3.out hg (fun e => by have h1 := OWN.out.1 _ e.symm; have h2 := NB0.out; (try simp only at h1); omega))
      have K4N := Aside0.mk (blk_grown K4.out hg (fun e => by have h1 := OWN.out.1 _ e.symm; have h2 := NB0.out; (try simp only at h1); omega))
      have BN := Aside0.mk hb
      have N0N := Aside0.mk (Nat.le_trans N0.out hg.size)
      clear K2 K3 K4 B; have K2 := K2N; have K3 := K3N; have K4 := K4N; have B := BN; clear K2N K3N K4N BN
      clear N0
      have N0 := N0N
      clear N0N
      rw [List.nil_append] at ho
      have E1 := Aside0.mk ho
      clear ho hb hg hat OWN E0
      refine hK.out _ _ ⟨(blk_cell K2.out 0).trans rfl, (blk_cell K3.out 0).trans rfl, (blk_cell K3.out 1).trans rfl⟩ (fun hHeld => ?_)
      clear hK K
      refine norm_ (a' := ?_) ?_ ?_
      rotate_left
      · show Act.put _ (some 19) _ = _
        simp only [Act.put, List.setIfInBounds_toArray, List.set_cons_zero, List.set_cons_succ, i64_w, i32_w]
        rfl
      refine one_ (i := 5) (N := some 21) #[true, true, true, true, true, true, false, false, false] rfl rfl (one_of HT_.out (by kernel_rfl)) (by decide) (fun K hK => ?_)
      refine Kd.R_lit_step k34 _ 34 ?hg (N := 21) ?hd (xs := ([x] : List S34)) (inner := [.int .i64 x.f0, .int .i64 x.f1]) (ok := fun _ => True) (okp := fun _ => True) ?hr ?hp (fun _ hk => hk) trivial (Below.refl _ _) (Nat.le_refl _) (by simp) ?_; (case hd => rfl); (case hg => rfl); (case hr => first | (go_simp; done) | (go_simp; rfl)); (case hp => exact (Reps.c2 (show Kd.M k34 _ _ _ x [.int .i64 x.f0, .int .i64 x.f1] from (k34_mkM _ _ _ x)) (Reps.none _ _)))
      intro v21 w21 ho hb hg_ hnew_
      clear hg_ hnew_
      obtain ⟨n5, hE, hn5, hW5⟩ := lit_rown ho (HB2.out ▸ B.out.size) hb
      (try (have EN : Aside0 (Kd.R k34 34 w21 b2 (fun k => n0 ≤ k ∧ k < n5) v16 []) := ⟨Kd.R_below (Kd.R_mono (Kd.R_bound E0.out) (fun k hk => ⟨hk.1, by rw [← hW5]; exact hk.2.2.1⟩)) hb⟩; have N0N := Aside0.mk (Nat.le_trans N0.out hb.size); clear E0 N0; have E0 := EN; have N0 := N0N; clear EN N0N))
      (try (have EN := Aside0.mk (Kd.R_below E1.out hb); have N0N := Aside0.mk (Nat.le_trans N0.out hb.size); clear E1 N0; have E1 := EN; have N0 := N0N; clear EN N0N))
      have L := Aside0.mk hE
      have K2N := Aside0.mk (blk_below K2.out hb)
      have K3N := Aside0.mk (blk_below K3.out hb)
      have K4N := Aside0.mk (blk_below K4.out hb)
      have BN := Aside0.mk (bst B.out HB2.out hb)
      clear K2 K3 K4 B; have K2 := K2N; have K3 := K3N; have K4 := K4N; have B := BN; clear K2N K3N K4N BN
      clear ho hb hE hn5 hW5
      refine hK.out _ _ ⟨(blk_cell K2.out 0).trans rfl, (blk_cell K3.out 0).trans rfl, (blk_cell K3.out 1).trans rfl⟩ (fun hHeld => ?_)
      clear hK K
      refine norm_ (a' := ?_) ?_ ?_
      rotate_left
      · show Act.put _ (some 21) _ = _
        simp only [Act.put, List.setIfInBounds_toArray, List.set_cons_zero, List.set_cons_succ, i64_w, i32_w]
        rfl
      refine one_ (i := 6) (N := some 22) #[true, true, true, true, true, true, true, false, false] rfl rfl (one_of HT_.out (by kernel_rfl)) (by decide) (fun K hK => ?_)
      obtain ⟨Al, cl, rfl⟩ := Kd.R_slice L.out
      refine Kd.R_append_rows_step k34 (w0 := w) b2 (by rfl) (.tmp 19) (.tmp 21) 28 34 (.agg #[(.int .i64 0), (.int .i64 0)]) 16 rfl Try.underlying28 info34 rfl (by decide) (by omega) v19 l [x] _ _ _ (fun k => n0 ≤ k) (fun _ => False) rfl rfl ?aO ?aR (fun _ _ h => h) (fun _ h => h.elim) ?aF ?aB ?aS ?aL ?_
      (case aF => exact fun k hk => Nat.le_trans N0.out hk)
      (case aB => exact B.out)
      (case aS => exact HB2.out ▸ B.out.size)
      (case aO => exact E1.out)
      (case aR => exact (Kd.R_reads' L.out).2.2)
      (case aL => have h1 := HL.out; simp only [List.length_singleton]; omega)
      intro v22 w22 ho hb hg hat
      have OWN := E1
      have K2N := Aside0.mk (blk_grown K2.out hg (fun e => by have h1 := OWN.out.1 _ e.symm; have h2 := NB0.out; (try simp only at h1); omega))
      have K3N := Aside0.mk (blk_grown K3.out hg (fun e => by have h1 := OWN.out.1 _ e.symm; have h2 := NB0.out; (try simp only at h1); omega))
      have K4N := Aside0.mk (blk_grown K4.out hg (fun e => by have h1 := OWN.out.1 _ e.symm; have h2 := NB0.out; (try simp only at h1); omega))
      have BN := Aside0.mk hb
      have N0N := Aside0.mk (Nat.le_trans N0.out hg.size)
      clear K2 K3 K4 B; have K2 := K2N; have K3 := K3N; have K4 := K4N; have B := BN; clear K2N K3N K4N BN
      clear N0
      have N0 := N0N
      clear N0N
      obtain ⟨Ar, cr, rfl⟩ := Kd.R_slice ho
      have E2 := Aside0.mk ho
      clear ho hb hg hat OWN E1
      refine hK.out _ _ ⟨(blk_cell K2.out 0).trans rfl, (blk_cell K3.out 0).trans rfl, (blk_cell K3.out 1).trans rfl⟩ (fun hHeld => ?_)
      clear hK K
      refine norm_ (a' := ?_) ?_ ?_
      rotate_left
      · show Act.put _ (some 22) _ = _
        simp only [Act.put, List.setIfInBounds_toArray, List.set_cons_zero, List.set_cons_succ, i64_w, i32_w]
        rfl
      refine pure_ (i := 7) (N := some 23) (v := ?_) (a' := ?_) #[true, true, true, true, true, true, true, true, false] rfl rfl (any_of HT_.out (by kernel_rfl)) (fun _ _ _ h => h) (Or.inl ⟨by rfl, ?_⟩) ?_ ?_
      rotate_left
      · intro w'
        go_simp
        with_reducible rfl
      rotate_left
      · simp only [Act.put, List.setIfInBounds_toArray, List.set_cons_zero, List.set_cons_succ, i64_w, i32_w]
        rfl
      refine last_ (i := 8) (N := none) #[true, true, true, true, true, true, true, true, true] rfl rfl (one_of HT_.out (by kernel_rfl)) (by decide) (fun K hK => ?_)
      have fz := blk_frozen K2.out 0
      refine skip_ (w1 := ?_) (by rfl) rfl ?_ ?_
      rotate_left
      · go_simp
        rfl
      refine hK.out _ _ ?_
      clear hK K
      refine done_ (done_of HT_.out (by kernel_rfl)) ?_
      have hE := E2.out
      rw [snoc_len] at hE
      have K2E := Aside0.mk (blk_put (cs' := #[.slice Ar (l.length + 1) cr, .int .i64 size, .bool false]) K2.out 0 (.slice Ar (l.length + 1) cr) rfl)
      have K4E := Aside0.mk (blk_far (p := ⟨b2, 0, none⟩) K4.out (Ne.symm NE.out.1) (.slice Ar (l.length + 1) cr))
      have BE := Aside0.mk (B.out.setCell (p := ⟨b2, 0, none⟩) (Nat.le_refl _) (.slice Ar (l.length + 1) cr))
      have EE := Aside0.mk (Kd.R_far (p := ⟨b2, 0, none⟩) hE (fun k hk => by have := NB0.out; (try simp only at hk); show k ≠ b2; omega) (.slice Ar (l.length + 1) cr))
      clear hE fz K2 K3 K4 B E2 L
      generalize w22.setCell ⟨b2, 0, none⟩ (.slice Ar (l.length + 1) cr) = w23 at K2E K4E BE EE ⊢
      obtain ⟨⟨i0, i1, i2⟩, u0, u1, u2⟩ := cell3 K2E.out
      obtain ⟨⟨k0, k1, k2⟩, v0, v1, v2⟩ := cell3 K4E.out
      go_wp2
      refine bodyPost_ret (results_ct rfl _ _ b4 30 #[.slice Ar (l.length + 1) cr, .int .i64 size, .bool false] (0, 0) _ rfl (by exact put3 K4E.out) Try.underlying30 rfl (by kernel_rfl)) rfl ?_
      rw [HB2.out]
      exact ⟨Ar, cr, by rw [snoc_len]; rfl, by rw [snoc_len]; exact Kd.R_mono (row3 EE.out (fun k hk => by have := NB0.out; (try simp only at hk); omega)) (fun _ _ => trivial), bel3 BE.out NE.out.2.2.2⟩
    · skip
      refine Kd.R_lit_step k34 _ 34 ?hg (N := 21) ?hd (xs := ([x] : List S34)) (inner := [.int .i64 x.f0, .int .i64 x.f1]) (ok := fun _ => True) (okp := fun _ => True) ?hr ?hp (fun _ hk => hk) trivial (Below.refl _ _) (Nat.le_refl _) (by simp) ?_; (case hd => rfl); (case hg => rfl); (case hr => first | (go_simp; done) | (go_simp; rfl)); (case hp => exact (Reps.c2 (show Kd.M k34 _ _ _ x [.int .i64 x.f0, .int .i64 x.f1] from (k34_mkM _ _ _ x)) (Reps.none _ _)))
      intro v21 w21 ho hb hg_ hnew_
      clear hg_ hnew_
      obtain ⟨n5, hE, hn5, hW5⟩ := lit_rown ho (HB2.out ▸ B.out.size) hb
      (try (have EN : Aside0 (Kd.R k34 34 w21 b2 (fun k => n0 ≤ k ∧ k < n5) v16 []) := ⟨Kd.R_below (Kd.R_mono (Kd.R_bound E0.out) (fun k hk => ⟨hk.1, by rw [← hW5]; exact hk.2.2.1⟩)) hb⟩; have N0N := Aside0.mk (Nat.le_trans N0.out hb.size); clear E0 N0; have E0 := EN; have N0 := N0N; clear EN N0N))
      (try (have EN := Aside0.mk (Kd.R_below E1.out hb); have N0N := Aside0.mk (Nat.le_trans N0.out hb.size); clear E1 N0; have E1 := EN; have N0 := N0N; clear EN N0N))
      have L := Aside0.mk hE
      have K2N := Aside0.mk (blk_below K2.out hb)
      have K3N := Aside0.mk (blk_below K3.out hb)
      have K4N := Aside0.mk (blk_below K4.out hb)
      have BN := Aside0.mk (bst B.out HB2.out hb)
      clear K2 K3 K4 B; have K2 := K2N; have K3 := K3N; have K4 := K4N; have B := BN; clear K2N K3N K4N BN
      clear ho hb hE hn5 hW5
      refine hK.out _ _ ⟨(blk_cell K2.out 0).trans rfl, (blk_cell K3.out 0).trans rfl, (blk_cell K3.out 1).trans rfl⟩ (fun hHeld => ?_)
      clear hK K
      refine norm_ (a' := ?_) ?_ ?_
      rotate_left
      · show Act.put _ (some 21) _ = _
        simp only [Act.put, List.setIfInBounds_toArray, List.set_cons_zero, List.set_cons_succ, i64_w, i32_w]
        rfl
      refine one_ (i := 3) (N := some 19) #[true, true, true, true, true, true, false, false, false] rfl rfl (one_of HT_.out (by kernel_rfl)) (by decide) (fun K hK => ?_)
      refine Kd.R_append_rows_step k34 (w0 := w) b2 (by rfl) (.tmp 16) (.tmp 18) 28 34 (.agg #[(.int .i64 0), (.int .i64 0)]) 16 rfl Try.underlying28 info34 rfl (by decide) (by omega) v16 [] l _ _ _ (fun k => n0 ≤ k) (fun _ => False) rfl rfl ?aO ?aR (fun _ _ h => h) (fun _ h => h.elim) ?aF ?aB ?aS ?aL ?_
      (case aF => exact fun k hk => Nat.le_trans N0.out hk)
      (case aB => exact B.out)
      (case aS => exact HB2.out ▸ B.out.size)
      (case aO => first | exact E0.out | exact Kd.R_mono E0.out (fun _ hk => hk.1))
      (case aR => exact crow B.out HB2.out HC0.out)
      (case aL => have h1 := HL.out; simp only [List.length_nil]; omega)
      intro v19 w19 ho hb hg hat
      (try (have LN := Aside0.mk (Kd.R_grown L.out hg (fun k hk e => by have h1 := E0.out.1 k e.symm; (try simp only at h1); (try simp only at hk); omega)); clear L; have L := LN; clear LN))
      have OWN := E0
      have K2N := Aside0.mk (blk_grown K2.out hg (fun e => by have h1 := OWN.out.1 _ e.symm; have h2 := NB0.out; (try simp only at h1); omega))
      have K3N := Aside0.mk (blk_grown K3.out hg (fun e => by have h1 := OWN.out.1 _ e.symm; have h2 := NB0.out; (try simp only at h1); omega))
      have K4N := Aside0.mk (blk_grown K4.out hg (fun e => by have h1 := OWN.out.1 _ e.symm; have h2 := NB0.out; (try simp only at h1); omega))
      have BN := Aside0.mk hb
      have N0N := Aside0.mk (Nat.le_trans N0.out hg.size)
      clear K2 K3 K4 B; have K2 := K2N; have K3 := K3N; have K4 := K4N; have B := BN; clear K2N K3N K4N BN
      clear N0
      have N0 := N0N
      clear N0N
      rw [List.nil_append] at ho
      have E1 := Aside0.mk ho
      clear ho hb hg hat OWN E0
      refine hK.out _ _ ⟨(blk_cell K2.out 0).trans rfl, (blk_cell K3.out 0).trans rfl, (blk_cell K3.out 1).trans rfl⟩ (fun hHeld => ?_)
      clear hK K
      refine norm_ (a' := ?_) ?_ ?_
      rotate_left
      · show Act.put _ (some 19) _ = _
        simp only [Act.put, List.setIfInBounds_toArray, List.set_cons_zero, List.set_cons_succ, i64_w, i32_w]
        rfl
      refine one_ (i := 6) (N := some 22) #[true, true, true, true, true, true, true, false, false] rfl rfl (one_of HT_.out (by kernel_rfl)) (by decide) (fun K hK => ?_)
      obtain ⟨Al, cl, rfl⟩ := Kd.R_slice L.out
      refine Kd.R_append_rows_step k34 (w0 := w) b2 (by rfl) (.tmp 19) (.tmp 21) 28 34 (.agg #[(.int .i64 0), (.int .i64 0)]) 16 rfl Try.underlying28 info34 rfl (by decide) (by omega) v19 l [x] _ _ _ (fun k => n0 ≤ k) (fun _ => False) rfl rfl ?aO ?aR (fun _ _ h => h) (fun _ h => h.elim) ?aF ?aB ?aS ?aL ?_
      (case aF => exact fun k hk => Nat.le_trans N0.out hk)
      (case aB => exact B.out)
      (case aS => exact HB2.out ▸ B.out.size)
      (case aO => exact E1.out)
      (case aR => exact (Kd.R_reads' L.out).2.2)
      (case aL => have h1 := HL.out; simp only [List.length_singleton]; omega)
      intro v22 w22 ho hb hg hat
      have OWN := E1
      have K2N := Aside0.mk (blk_grown K2.out hg (fun e => by have h1 := OWN.out.1 _ e.symm; have h2 := NB0.out; (try simp only at h1); omega))
      have K3N := Aside0.mk (blk_grown K3.out hg (fun e => by have h1 := OWN.out.1 _ e.symm; have h2 := NB0.out; (try simp only at h1); omega))
      have K4N := Aside0.mk (blk_grown K4.out hg (fun e => by have h1 := OWN.out.1 _ e.symm; have h2 := NB0.out; (try simp only at h1); omega))
      have BN := Aside0.mk hb
      have N0N := Aside0.mk (Nat.le_trans N0.out hg.size)
      clear K2 K3 K4 B; have K2 := K2N; have K3 := K3N; have K4 := K4N; have B := BN; clear K2N K3N K4N BN
      clear N0
      have N0 := N0N
      clear N0N
      obtain ⟨Ar, cr, rfl⟩ := Kd.R_slice ho
      have E2 := Aside0.mk ho
      clear ho hb hg hat OWN E1
      refine hK.out _ _ ⟨(blk_cell K2.out 0).trans rfl, (blk_cell K3.out 0).trans rfl, (blk_cell K3.out 1).trans rfl⟩ (fun hHeld => ?_)
      clear hK K
      refine norm_ (a' := ?_) ?_ ?_
      rotate_left
      · show Act.put _ (some 22) _ = _
        simp only [Act.put, List.setIfInBounds_toArray, List.set_cons_zero, List.set_cons_succ, i64_w, i32_w]
        rfl
      refine pure_ (i := 7) (N := some 23) (v := ?_) (a' := ?_) #[true, true, true, true, true, true, true, true, false] rfl rfl (any_of HT_.out (by kernel_rfl)) (fun _ _ _ h => h) (Or.inl ⟨by rfl, ?_⟩) ?_ ?_
      rotate_left
      · intro w'
        go_simp
        with_reducible rfl
      rotate_left
      · simp only [Act.put, List.setIfInBounds_toArray, List.set_cons_zero, List.set_cons_succ, i64_w, i32_w]
        rfl
      refine last_ (i := 8) (N := none) #[true, true, true, true, true, true, true, true, true] rfl rfl (one_of HT_.out (by kernel_rfl)) (by decide) (fun K hK => ?_)
      have fz := blk_frozen K2.out 0
      refine skip_ (w1 := ?_) (by rfl) rfl ?_ ?_
      rotate_left
      · go_simp
        rfl
      refine hK.out _ _ ?_
      clear hK K
      refine done_ (done_of HT_.out (by kernel_rfl)) ?_
      have hE := E2.out
      rw [snoc_len] at hE
      have K2E := Aside0.mk (blk_put (cs' := #[.slice Ar (l.length + 1) cr, .int .i64 size, .bool false]) K2.out 0 (.slice Ar (l.length + 1) cr) rfl)
      have K4E := Aside0.mk (blk_far (p := ⟨b2, 0, none⟩) K4.out (Ne.symm NE.out.1) (.slice Ar (l.length + 1) cr))
      have BE := Aside0.mk (B.out.setCell (p := ⟨b2, 0, none⟩) (Nat.le_refl _) (.slice Ar (l.length + 1) cr))
      have EE := Aside0.mk (Kd.R_far (p := ⟨b2, 0, none⟩) hE (fun k hk => by have := NB0.out; (try simp only at hk); show k ≠ b2; omega) (.slice Ar (l.length + 1) cr))
      clear hE fz K2 K3 K4 B E2 L
      generalize w22.setCell ⟨b2, 0, none⟩ (.slice Ar (l.length + 1) cr) = w23 at K2E K4E BE EE ⊢
      obtain ⟨⟨i0, i1, i2⟩, u0, u1, u2⟩ := cell3 K2E.out
      obtain ⟨⟨k0, k1, k2⟩, v0, v1, v2⟩ := cell3 K4E.out
      go_wp2
      refine bodyPost_ret (results_ct rfl _ _ b4 30 #[.slice Ar (l.length + 1) cr, .int .i64 size, .bool false] (0, 0) _ rfl (by exact put3 K4E.out) Try.underlying30 rfl (by kernel_rfl)) rfl ?_
      rw [HB2.out]
      exact ⟨Ar, cr, by rw [snoc_len]; rfl, by rw [snoc_len]; exact Kd.R_mono (row3 EE.out (fun k hk => by have := NB0.out; (try simp only at hk); omega)) (fun _ _ => trivial), bel3 BE.out NE.out.2.2.2⟩
  · skip
    refine Kd.R_lit_step k34 _ 34 ?hg (N := 21) ?hd (xs := ([x] : List S34)) (inner := [.int .i64 x.f0, .int .i64 x.f1]) (ok := fun _ => True) (okp := fun _ => True) ?hr ?hp (fun _ hk => hk) trivial (Below.refl _ _) (Nat.le_refl _) (by simp) ?_; (case hd => rfl); (case hg => rfl); (case hr => first | (go_simp; done) | (go_simp; rfl)); (case hp => exact (Reps.c2 (show Kd.M k34 _ _ _ x [.int .i64 x.f0, .int .i64 x.f1] from (k34_mkM _ _ _ x)) (Reps.none _ _)))
    intro v21 w21 ho hb hg_ hnew_
    clear hg_ hnew_
    obtain ⟨n5, hE, hn5, hW5⟩ := lit_rown ho (HB2.out ▸ B.out.size) hb
    (try (have EN : Aside0 (Kd.R k34 34 w21 b2 (fun k => n0 ≤ k ∧ k < n5) v16 []) := ⟨Kd.R_below (Kd.R_mono (Kd.R_bound E0.out) (fun k hk => ⟨hk.1, by rw [← hW5]; exact hk.2.2.1⟩)) hb⟩; have N0N := Aside0.mk (Nat.le_trans N0.out hb.size); clear E0 N0; have E0 := EN; have N0 := N0N; clear EN N0N))
    (try (have EN := Aside0.mk (Kd.R_below E1.out hb); have N0N := Aside0.mk (Nat.le_trans N0.out hb.size); clear E1 N0; have E1 := EN; have N0 := N0N; clear EN N0N))
    have L := Aside0.mk hE
    have K2N := Aside0.mk (blk_below K2.out hb)
    have K3N := Aside0.mk (blk_below K3.out hb)
    have K4N := Aside0.mk (blk_below K4.out hb)
    have BN := Aside0.mk (bst B.out HB2.out hb)
    clear K2 K3 K4 B; have K2 := K2N; have K3 := K3N; have K4 := K4N; have B := BN; clear K2N K3N K4N BN
    clear ho hb hE hn5 hW5
    refine hK.out _ _ ⟨(blk_cell K2.out 0).trans rfl, (blk_cell K3.out 0).trans rfl, (blk_cell K3.out 1).trans rfl⟩ (fun hHeld => ?_)
    clear hK K
    refine norm_ (a' := ?_) ?_ ?_
    rotate_left
    · show Act.put _ (some 21) _ = _
      simp only [Act.put, List.setIfInBounds_toArray, List.set_cons_zero, List.set_cons_succ, i64_w, i32_w]
      rfl
    refine one_ (i := 0) (N := some 16) #[true, true, true, false, true, true, false, false, false] rfl rfl (one_of HT_.out (by kernel_rfl)) (by decide) (fun K hK => ?_)
    refine Kd.R_lit_step k34 _ 34 ?hg (N := 16) ?hd (xs := ([] : List S34)) (inner := []) (ok := fun _ => True) (okp := fun _ => True) ?hr ?hp (fun _ hk => hk) trivial (Below.refl _ _) (Nat.le_refl _) (by simp) ?_; (case hd => rfl); (case hg => rfl); (case hr => first | (go_simp; done) | (go_simp; rfl)); (case hp => exact (Reps.none _ _))
    intro v16 w16 ho hb hg_ hnew_
    clear hg_ hnew_
    obtain ⟨n0, hE, hn0, hW0⟩ := lit_rown ho (HB2.out ▸ B.out.size) hb
    have NB0 := Aside0.mk (show b2 < n0 ∧ b3 < n0 ∧ b4 < n0 from by have h1 := blk_lt K2.out; have h2 := blk_lt K3.out; have h3 := blk_lt K4.out; exact ⟨by omega, by omega, by omega⟩)
    (try (have LN : Aside0 (Kd.R k34 34 w16 b2 (fun k => n5 ≤ k ∧ k < n0) v21 [x]) := ⟨Kd.R_below (Kd.R_mono (Kd.R_bound L.out) (fun k hk => ⟨hk.1, by rw [← hW0]; exact hk.2.2.1⟩)) hb⟩; clear L; have L := LN; clear LN))
    have E0 := Aside0.mk hE
    have N0 := Aside0.mk hn0
    have K2N := Aside0.mk (blk_below K2.out hb)
    have K3N := Aside0.mk (blk_below K3.out hb)
    have K4N := Aside0.mk (blk_below K4.out hb)
    have BN := Aside0.mk (bst B.out HB2.out hb)
    clear K2 K3 K4 B; have K2 := K2N; have K3 := K3N; have K4 := K4N; have B := BN; clear K2N K3N K4N BN
    clear ho hb hE hn0 hW0
    refine hK.out _ _ ⟨(blk_cell K2.out 0).trans rfl, (blk_cell K3.out 0).trans rfl, (blk_cell K3.out 1).trans rfl⟩ (fun hHeld => ?_)
    clear hK K
    refine norm_ (a' := ?_) ?_ ?_
    rotate_left
    · show Act.put _ (some 16) _ = _
      simp only [Act.put, List.setIfInBounds_toArray, List.set_cons_zero, List.set_cons_succ, i64_w, i32_w]
      rfl
    refine one_ (i := 3) (N := some 19) #[true, true, true, true, true, true, false, false, false] rfl rfl (one_of HT_.out (by kernel_rfl)) (by decide) (fun K hK => ?_)
    refine Kd.R_append_rows_step k34 (w0 := w) b2 (by rfl) (.tmp 16) (.tmp 18) 28 34 (.agg #[(.int .i64 0), (.int .i64 0)]) 16 rfl Try.underlying28 info34 rfl (by decide) (by omega) v16 [] l _ _ _ (fun k => n0 ≤ k) (fun _ => False) rfl rfl ?aO ?aR (fun _ _ h => h) (fun _ h => h.elim) ?aF ?aB ?aS ?aL ?_
    (case aF => exact fun k hk => Nat.le_trans N0.out hk)
    (case aB => exact B.out)
    (case aS => exact HB2.out ▸ B.out.size)
    (case aO => first | exact E0.out | exact Kd.R_mono E0.out (fun _ hk => hk.1))
    (case aR => exact crow B.out HB2.out HC0.out)
    (case aL => have h1 := HL.out; simp only [List.length_nil]; omega)
    intro v19 w19 ho hb hg hat
    (try (have LN := Aside0.mk (Kd.R_grown L.out hg (fun k hk e => by have h1 := E0.out.1 k e.symm; (try simp only at h1); (try simp only at hk); omega)); clear L; have L := LN; clear LN))
    have OWN := E0
    have K2N := Aside0.mk (blk_grown K2.out hg (fun e => by have h1 := OWN.out.1 _ e.symm; have h2 := NB0.out; (try simp only at h1); omega))
    have K3N := Aside0.mk (blk_grown K3.out hg (fun e => by have h1 := OWN.out.1 _ e.symm; have h2 := NB0.out; (try simp only at h1); omega))
    have K4N := Aside0.mk (blk_grown K4.out hg (fun e => by have h1 := OWN.out.1 _ e.symm; have h2 := NB0.out; (try simp only at h1); omega))
    have BN := Aside0.mk hb
    have N0N := Aside0.mk (Nat.le_trans N0.out hg.size)
    clear K2 K3 K4 B; have K2 := K2N; have K3 := K3N; have K4 := K4N; have B := BN; clear K2N K3N K4N BN
    clear N0
    have N0 := N0N
    clear N0N
    rw [List.nil_append] at ho
    have E1 := Aside0.mk ho
    clear ho hb hg hat OWN E0
    refine hK.out _ _ ⟨(blk_cell K2.out 0).trans rfl, (blk_cell K3.out 0).trans rfl, (blk_cell K3.out 1).trans rfl⟩ (fun hHeld => ?_)
    clear hK K
    refine norm_ (a' := ?_) ?_ ?_
    rotate_left
    · show Act.put _ (some 19) _ = _
      simp only [Act.put, List.setIfInBounds_toArray, List.set_cons_zero, List.set_cons_succ, i64_w, i32_w]
      rfl
    refine one_ (i := 6) (N := some 22) #[true, true, true, true, true, true, true, false, false] rfl rfl (one_of HT_.out (by kernel_rfl)) (by decide) (fun K hK => ?_)
    obtain ⟨Al, cl, rfl⟩ := Kd.R_slice L.out
    refine Kd.R_append_rows_step k34 (w0 := w) b2 (by rfl) (.tmp 19) (.tmp 21) 28 34 (.agg #[(.int .i64 0), (.int .i64 0)]) 16 rfl Try.underlying28 info34 rfl (by decide) (by omega) v19 l [x] _ _ _ (fun k => n0 ≤ k) (fun _ => False) rfl rfl ?aO ?aR (fun _ _ h => h) (fun _ h => h.elim) ?aF ?aB ?aS ?aL ?_
    (case aF => exact fun k hk => Nat.le_trans N0.out hk)
    (case aB => exact B.out)
    (case aS => exact HB2.out ▸ B.out.size)
    (case aO => exact E1.out)
    (case aR => exact (Kd.R_reads' L.out).2.2)
    (case aL => have h1 := HL.out; simp only [List.length_singleton]; omega)
    intro v22 w22 ho hb hg hat
    have OWN := E1
    have K2N := Aside0.mk (blk_grown K2.out hg (fun e => by have h1 := OWN.out.1 _ e.symm; have h2 := NB0.out; (try simp only at h1); omega))
    have K3N := Aside0.mk (blk_grown K3.out hg (fun e => by have h1 := OWN.out.1 _ e.symm; have h2 := NB0.out; (try simp only at h1); omega))
    have K4N := Aside0.mk (blk_grown K4.out hg (fun e => by have h1 := OWN.out.1 _ e.symm; have h2 := NB0.out; (try simp only at h1); omega))
    have BN := Aside0.mk hb
    have N0N := Aside0.mk (Nat.le_trans N0.out hg.size)
    clear K2 K3 K4 B; have K2 := K2N; have K3 := K3N; have K4 := K4N; have B := BN; clear K2N K3N K4N BN
    clear N0
    have N0 := N0N
    clear N0N
    obtain ⟨Ar, cr, rfl⟩ := Kd.R_slice ho
    have E2 := Aside0.mk ho
    clear ho hb hg hat OWN E1
    refine hK.out _ _ ⟨(blk_cell K2.out 0).trans rfl, (blk_cell K3.out 0).trans rfl, (blk_cell K3.out 1).trans rfl⟩ (fun hHeld => ?_)
    clear hK K
    refine norm_ (a' := ?_) ?_ ?_
    rotate_left
    · show Act.put _ (some 22) _ = _
      simp only [Act.put, List.setIfInBounds_toArray, List.set_cons_zero, List.set_cons_succ, i64_w, i32_w]
      rfl
    refine pure_ (i := 7) (N := some 23) (v := ?_) (a' := ?_) #[true, true, true, true, true, true, true, true, false] rfl rfl (any_of HT_.out (by kernel_rfl)) (fun _ _ _ h => h) (Or.inl ⟨by rfl, ?_⟩) ?_ ?_
    rotate_left
    · intro w'
      go_simp
      with_reducible rfl
    rotate_left
    · simp only [Act.put, List.setIfInBounds_toArray, List.set_cons_zero, List.set_cons_succ, i64_w, i32_w]
      rfl
    refine last_ (i := 8) (N := none) #[true, true, true, true, true, true, true, true, true] rfl rfl (one_of HT_.out (by kernel_rfl)) (by decide) (fun K hK => ?_)
    have fz := blk_frozen K2.out 0
    refine skip_ (w1 := ?_) (by rfl) rfl ?_ ?_
    rotate_left
    · go_simp
      rfl
    refine hK.out _ _ ?_
    clear hK K
    refine done_ (done_of HT_.out (by kernel_rfl)) ?_
    have hE := E2.out
    rw [snoc_len] at hE
    have K2E := Aside0.mk (blk_put (cs' := #[.slice Ar (l.length + 1) cr, .int .i64 size, .bool false]) K2.out 0 (.slice Ar (l.length + 1) cr) rfl)
    have K4E := Aside0.mk (blk_far (p := ⟨b2, 0, none⟩) K4.out (Ne.symm NE.out.1) (.slice Ar (l.length + 1) cr))
    have BE := Aside0.mk (B.out.setCell (p := ⟨b2, 0, none⟩) (Nat.le_refl _) (.slice Ar (l.length + 1) cr))
    have EE := Aside0.mk (Kd.R_far (p := ⟨b2, 0, none⟩) hE (fun k hk => by have := NB0.out; (try simp only at hk); show k ≠ b2; omega) (.slice Ar (l.length + 1) cr))
    clear hE fz K2 K3 K4 B E2 L
    generalize w22.setCell ⟨b2, 0, none⟩ (.slice Ar (l.length + 1) cr) = w23 at K2E K4E BE EE ⊢
    obtain ⟨⟨i0, i1, i2⟩, u0, u1, u2⟩ := cell3 K2E.out
    obtain ⟨⟨k0, k1, k2⟩, v0, v1, v2⟩ := cell3 K4E.out
    go_wp2
    refine bodyPost_ret (results_ct rfl _ _ b4 30 #[.slice Ar (l.length + 1) cr, .int .i64 size, .bool false] (0, 0) _ rfl (by exact put3 K4E.out) Try.underlying30 rfl (by kernel_rfl)) rfl ?_
    rw [HB2.out]
    exact ⟨Ar, cr, by rw [snoc_len]; rfl, by rw [snoc_len]; exact Kd.R_mono (row3 EE.out (fun k hk => by have := NB0.out; (try simp only at hk); omega)) (fun _ _ => trivial), bel3 BE.out NE.out.2.2.2⟩
theorem put2 {w : World} {g : Nat} {a b a' b' : Value} {t : TypeId} (h : w.heap[g]? = some (.cells #[a, b] t (0, 0))) : ((w.setCell ⟨g, 0, none⟩ a').setCell ⟨g, 1, none⟩ b').heap[g]? = some (.cells #[a', b'] t (0, 0)) :=
  blk_put (cs := #[a', b]) (blk_put (cs := #[a, b]) h 0 a' rfl) 1 b' rfl
theorem bel2 {B g : Nat} {w W : World} {a' b' : Value} (h : Below B w W) (hg : B ≤ g) : Below B w ((W.setCell ⟨g, 0, none⟩ a').setCell ⟨g, 1, none⟩ b') := (h.setCell (p := ⟨g, 0, none⟩) hg a').setCell (p := ⟨g, 1, none⟩) hg b'
theorem far2 {w : World} {b g : Nat} {o : Obj} {a' b' : Value} (h : w.heap[b]? = some o) (hne : b ≠ g) : ((w.setCell ⟨g, 0, none⟩ a').setCell ⟨g, 1, none⟩ b').heap[b]? = some o :=
  (Below.heap_setCell _ ⟨g, 1, none⟩ b' b hne).trans ((Below.heap_setCell _ ⟨g, 0, none⟩ a' b hne).trans h)
set_option maxHeartbeats 16000000 in
set_option maxRecDepth 100000 in
theorem rTake.none_ (A : Option Addr) (c : Nat) (size : Int) (closed : Bool) (w : World) :
    Calls Try.prog 23 #[.agg #[.slice A 0 c, .int .i64 size, .bool closed]] w fun e w' => e = .returned (.tuple #[.agg #[.slice A 0 c, .int .i64 size, .bool closed], .agg #[.int .i64 0, .int .i64 0], .bool false]) ∧ Below w.heap.size w w' := by
  have hu30 := Try.underlying30
  have hu34 := Try.underlying34
  go_enter Try.func23, Try.ntmps23
  go_upto_region 1 with fail
  have K1 := Aside0.mk (blk_below (blk_below (blk_new w (.cells #[.slice A 0 c, .int .i64 size, .bool closed] 30)) (below_alloc (Below.refl _ _) (.cells #[.slice none 0 0, .int .i64 0, .bool false] 30))) (below_alloc (Below.refl _ _) (.cells #[.int .i64 0, .int .i64 0] 34)))
  have K2 := Aside0.mk (blk_below (blk_new (w.alloc (.cells #[.slice A 0 c, .int .i64 size, .bool closed] 30)) (.cells #[.slice none 0 0, .int .i64 0, .bool false] 30)) (below_alloc (Below.refl _ _) (.cells #[.int .i64 0, .int .i64 0] 34)))
  have K3 := Aside0.mk (blk_new ((w.alloc (.cells #[.slice A 0 c, .int .i64 size, .bool closed] 30)).alloc (.cells #[.slice none 0 0, .int .i64 0, .bool false] 30)) (.cells #[.int .i64 0, .int .i64 0] 34))
  have B := Aside0.mk (below_alloc (below_alloc (below_alloc (Below.refl w.heap.size w) (.cells #[.slice A 0 c, .int .i64 size, .bool closed] 30)) (.cells #[.slice none 0 0, .int .i64 0, .bool false] 30)) (.cells #[.int .i64 0, .int .i64 0] 34))
  simp only [World.size_alloc] at K1 K2 K3
  have NE : Aside0 (w.heap.size ≠ w.heap.size + 1 + 1 ∧ w.heap.size + 1 ≠ w.heap.size + 1 + 1 ∧ w.heap.size ≠ w.heap.size + 1 ∧ w.heap.size ≤ w.heap.size + 1 + 1 ∧ w.heap.size ≤ w.heap.size + 1) := ⟨by omega⟩
  generalize ((w.alloc (.cells #[.slice A 0 c, .int .i64 size, .bool closed] 30)).alloc (.cells #[.slice none 0 0, .int .i64 0, .bool false] 30)).alloc (.cells #[.int .i64 0, .int .i64 0] 34) = w1 at K1 K2 K3 B ⊢
  generalize hb1 : w.heap.size = b1 at K1 K2 K3 B NE ⊢
  have HB1 := Aside0.mk hb1
  clear hb1
  generalize b1 + 1 + 1 = b3 at K3 NE ⊢
  generalize b1 + 1 = b2 at K2 NE ⊢
  have d12 : b1 ≠ b2 := NE.out.2.2.1
  have d13 : b1 ≠ b3 := NE.out.1
  have d23 : b2 ≠ b3 := NE.out.2.1
  have d21 : b2 ≠ b1 := Ne.symm NE.out.2.2.1
  have d31 : b3 ≠ b1 := Ne.symm NE.out.1
  have d32 : b3 ≠ b2 := Ne.symm NE.out.2.1
  obtain ⟨⟨i0, i1, i2⟩, u0, u1, u2⟩ := cell3 K1.out
  obtain ⟨⟨k0, k1, k2⟩, v0, v1, v2⟩ := cell3 K2.out
  obtain ⟨⟨m0, m1⟩, n0, n1⟩ := cell2 K3.out
  go_wp2
  obtain ⟨⟨p0, p1, p2⟩, _⟩ := cell3 (far2 (a' := .int .i64 0) (b' := .int .i64 0) (put3 (a' := .slice A 0 c) (b' := .int .i64 size) (c' := .bool closed) K2.out) d23)
  obtain ⟨⟨r0, r1⟩, _⟩ := cell2 (put2 (a' := .int .i64 0) (b' := .int .i64 0) (far3 (a' := .slice A 0 c) (b' := .int .i64 size) (c' := .bool closed) K3.out d32))
  refine bodyPost_ret (v := .tuple #[.agg #[.slice A 0 c, .int .i64 size, .bool closed], .agg #[.int .i64 0, .int .i64 0], .bool false]) (by simp [results, Try.results23, go_sem, p0, p1, p2, r0, r1]) rfl ?_
  exact ⟨rfl, by rw [HB1.out]; exact bel2 (bel3 B.out NE.out.2.2.2.2) NE.out.2.2.2.1⟩
theorem add_add (a : Addr) (m k : Nat) : (a.add m).add k = a.add (m + k) := by
  unfold Addr.add
  by_cases h1 : m = 0 <;> by_cases h2 : k = 0 <;> simp [h1, h2, Nat.add_assoc]
/-- The row behind the first. -/
theorem tail_row (ad : Addr) (y : S34) (l : List S34) (n c : Nat) (hn : n = l.length + 1) (hc : n ≤ c) : ∀ W' : World, Kd.C k34 W' (some ad) (y :: l).length (y :: l) → Kd.C k34 W' (if c = 1 then some ad else some (ad.add 2)) l.length l := by
  intro W' h
  obtain ⟨h1, h2, h3⟩ := h
  refine ⟨rfl, by rw [List.length_cons] at h2; omega, fun hp => ?_⟩
  rw [if_neg (by omega)]
  obtain ⟨a, e, hh⟩ := h3 (by simp)
  injection e with e
  subst e
  refine ⟨_, rfl, fun j p hj => ?_⟩
  obtain ⟨cs, c1, c2, c3⟩ := hh (j + 1) p (by simpa using hj)
  refine ⟨cs, c1, c2, fun i u hu => ?_⟩
  have h4 := c3 i u hu
  rw [add_add]
  rwa [show (j + 1) * k34.sz + i = 2 + (j * k34.sz + i) from by have e : k34.sz = 2 := rfl; rw [e]; omega] at h4
set_option maxHeartbeats 16000000 in
set_option maxRecDepth 100000 in
theorem rTake.some_ (ad : Addr) (n c : Nat) (y : S34) (l : List S34) (hn : n = l.length + 1) (size : Int) (closed : Bool) (w : World) (hC : Kd.C k34 w (some ad) (y :: l).length (y :: l)) (hc : n ≤ c) :
    Calls Try.prog 23 #[.agg #[.slice (some ad) n c, .int .i64 size, .bool closed]] w fun e w' => ∃ A', e = .returned (.tuple #[.agg #[.slice A' l.length (c - 1), .int .i64 size, .bool closed], .agg #[.int .i64 y.f0, .int .i64 y.f1], .bool true]) ∧ (∀ W', Kd.C k34 W' (some ad) (y :: l).length (y :: l) → Kd.C k34 W' A' l.length l) ∧ Below w.heap.size w w' := by
  obtain ⟨ad', e', hy0, hy1⟩ := at_T34 hC 0 (Int.le_refl _) (by rw [List.length_cons]; omega)
  injection e' with e'
  subst e'
  have ea : ad.add 0 = ad := by simp [Addr.add]
  simp only [Int.toNat_zero, Nat.zero_mul, ea] at hy0 hy1
  have er : rd_T34 (y :: l) 0 = y := rfl
  rw [er] at hy0 hy1
  have HC0 := Aside0.mk hC
  have Y0 := Aside0.mk hy0
  have Y1 := Aside0.mk hy1
  have HN := Aside0.mk hn
  have hz : ((n : Int) == 0) = false := beq_false_of_ne (by omega)
  have hn1 : 1 ≤ n := by omega
  have hn2 : 0 < n := by omega
  clear hC hy0 hy1 ea er hn
  have hu30 := Try.underlying30
  have hu34 := Try.underlying34
  go_enter Try.func23, Try.ntmps23
  go_upto_region 1 with fail
  have K1 := Aside0.mk (blk_below (blk_below (blk_new w (.cells #[.slice (some ad) n c, .int .i64 size, .bool closed] 30)) (below_alloc (Below.refl _ _) (.cells #[.slice none 0 0, .int .i64 0, .bool false] 30))) (below_alloc (Below.refl _ _) (.cells #[.int .i64 0, .int .i64 0] 34)))
  have K2 := Aside0.mk (blk_below (blk_new (w.alloc (.cells #[.slice (some ad) n c, .int .i64 size, .bool closed] 30)) (.cells #[.slice none 0 0, .int .i64 0, .bool false] 30)) (below_alloc (Below.refl _ _) (.cells #[.int .i64 0, .int .i64 0] 34)))
  have K3 := Aside0.mk (blk_new ((w.alloc (.cells #[.slice (some ad) n c, .int .i64 size, .bool closed] 30)).alloc (.cells #[.slice none 0 0, .int .i64 0, .bool false] 30)) (.cells #[.int .i64 0, .int .i64 0] 34))
  have B := Aside0.mk (below_alloc (below_alloc (below_alloc (Below.refl w.heap.size w) (.cells #[.slice (some ad) n c, .int .i64 size, .bool closed] 30)) (.cells #[.slice none 0 0, .int .i64 0, .bool false] 30)) (.cells #[.int .i64 0, .int .i64 0] 34))
  simp only [World.size_alloc] at K1 K2 K3
  have NE : Aside0 (w.heap.size ≠ w.heap.size + 1 + 1 ∧ w.heap.size + 1 ≠ w.heap.size + 1 + 1 ∧ w.heap.size ≠ w.heap.size + 1 ∧ w.heap.size ≤ w.heap.size + 1 + 1 ∧ w.heap.size ≤ w.heap.size + 1) := ⟨by omega⟩
  generalize ((w.alloc (.cells #[.slice (some ad) n c, .int .i64 size, .bool closed] 30)).alloc (.cells #[.slice none 0 0, .int .i64 0, .bool false] 30)).alloc (.cells #[.int .i64 0, .int .i64 0] 34) = w1 at K1 K2 K3 B ⊢
  generalize hb1 : w.heap.size = b1 at K1 K2 K3 B NE ⊢
  have HB1 := Aside0.mk hb1
  clear hb1
  generalize b1 + 1 + 1 = b3 at K3 NE ⊢
  generalize b1 + 1 = b2 at K2 NE ⊢
  have d12 : b1 ≠ b2 := NE.out.2.2.1
  have d13 : b1 ≠ b3 := NE.out.1
  have d23 : b2 ≠ b3 := NE.out.2.1
  have d21 : b2 ≠ b1 := Ne.symm NE.out.2.2.1
  have d31 : b3 ≠ b1 := Ne.symm NE.out.1
  have d32 : b3 ≠ b2 := Ne.symm NE.out.2.1
  obtain ⟨⟨i0, i1, i2⟩, u0, u1, u2⟩ := cell3 K1.out
  obtain ⟨⟨k0, k1, k2⟩, v0, v1, v2⟩ := cell3 K2.out
  obtain ⟨⟨m0, m1⟩, n0, n1⟩ := cell2 K3.out
  have hy0 := (B.out.cell (p := ad) (by rw [← HB1.out]; exact World.block_lt_of_cell? w ad Y0.out)).trans Y0.out
  have hy1 := (B.out.cell (p := ⟨ad.block, ad.off + 1, none⟩) (by rw [← HB1.out]; exact World.block_lt_of_cell? w _ Y1.out)).trans Y1.out
  go_upto_region 4 with fail
  have K1N := Aside0.mk (blk_below K1.out (below_alloc (Below.refl _ _) (.cells #[.int .i64 y.f0, .int .i64 y.f1] 34)))
  have K2N := Aside0.mk (blk_below K2.out (below_alloc (Below.refl _ _) (.cells #[.int .i64 y.f0, .int .i64 y.f1] 34)))
  have K3N := Aside0.mk (blk_below K3.out (below_alloc (Below.refl _ _) (.cells #[.int .i64 y.f0, .int .i64 y.f1] 34)))
  have K5 := Aside0.mk (blk_new w1 (.cells #[.int .i64 y.f0, .int .i64 y.f1] 34))
  have BN := Aside0.mk (B.out.alloc (HB1.out ▸ B.out.size) (.cells #[.int .i64 y.f0, .int .i64 y.f1] 34))
  have D5 := Aside0.mk (show b1 ≠ w1.heap.size ∧ b2 ≠ w1.heap.size ∧ b3 ≠ w1.heap.size from by have h1 := blk_lt K1.out; have h2 := blk_lt K2.out; have h3 := blk_lt K3.out; exact ⟨by omega, by omega, by omega⟩)
  clear K1 K2 K3 B i0 i1 i2 u0 u1 u2 k0 k1 k2 v0 v1 v2 m0 m1 n0 n1 hy0 hy1
  generalize w1.alloc (.cells #[.int .i64 y.f0, .int .i64 y.f1] 34) = w2 at K1N K2N K3N K5 BN ⊢
  generalize w1.heap.size = b5 at K5 D5 ⊢
  obtain ⟨⟨i0, i1, i2⟩, u0, u1, u2⟩ := cell3 K1N.out
  go_upto_region 5 with fail
  have HA := Aside0.mk (tail_row ad y l n c HN.out hc)
  have hnl : n - 1 = l.length := by have := HN.out; omega
  rw [hnl]
  clear hnl
  have e2 : (⟨ad.block, ad.off + 2, none⟩ : Addr) = ad.add 2 := by simp [Addr.add]
  rw [e2]
  clear e2
  generalize (if c = 1 then some ad else some (ad.add 2)) = A' at HA ⊢
  have K1E := Aside0.mk (blk_put (cs' := #[.slice A' l.length (c - 1), .int .i64 size, .bool closed]) K1N.out 0 (.slice A' l.length (c - 1)) rfl)
  have K2E := Aside0.mk (blk_far (p := ⟨b1, 0, none⟩) K2N.out d21 (.slice A' l.length (c - 1)))
  have K3E := Aside0.mk (blk_far (p := ⟨b1, 0, none⟩) K3N.out d31 (.slice A' l.length (c - 1)))
  have K5E := Aside0.mk (blk_far (p := ⟨b1, 0, none⟩) K5.out (Ne.symm D5.out.1) (.slice A' l.length (c - 1)))
  have BE := Aside0.mk (BN.out.setCell (p := ⟨b1, 0, none⟩) (Nat.le_refl _) (.slice A' l.length (c - 1)))
  clear K1N K2N K3N K5 BN i0 i1 i2 u0 u1 u2
  generalize w2.setCell ⟨b1, 0, none⟩ (.slice A' l.length (c - 1)) = w3 at K1E K2E K3E K5E BE ⊢
  obtain ⟨⟨i0, i1, i2⟩, u0, u1, u2⟩ := cell3 K1E.out
  obtain ⟨⟨k0, k1, k2⟩, v0, v1, v2⟩ := cell3 K2E.out
  obtain ⟨⟨m0, m1⟩, n0, n1⟩ := cell2 K3E.out
  obtain ⟨⟨o0, o1⟩, _⟩ := cell2 K5E.out
  have d52 : b5 ≠ b2 := Ne.symm D5.out.2.1
  have d53 : b5 ≠ b3 := Ne.symm D5.out.2.2
  go_region
  all_goals
    go_wp2
    obtain ⟨⟨p0, p1, p2⟩, _⟩ := cell3 (far2 (a' := .int .i64 y.f0) (b' := .int .i64 y.f1) (put3 (a' := .slice A' l.length (c - 1)) (b' := .int .i64 size) (c' := .bool closed) K2E.out) d23)
    obtain ⟨⟨r0, r1⟩, _⟩ := cell2 (put2 (a' := .int .i64 y.f0) (b' := .int .i64 y.f1) (far3 (a' := .slice A' l.length (c - 1)) (b' := .int .i64 size) (c' := .bool closed) K3E.out d32))
    refine bodyPost_ret (v := .tuple #[.agg #[.slice A' l.length (c - 1), .int .i64 size, .bool closed], .agg #[.int .i64 y.f0, .int .i64 y.f1], .bool true]) (by simp [results, Try.results23, go_sem, p0, p1, p2, r0, r1]) rfl ?_
    exact ⟨A', rfl, HA.out, by rw [HB1.out]; exact below_drew1 (bel2 (bel3 BE.out NE.out.2.2.2.2) NE.out.2.2.2.1)⟩
end Go.Proofs.Ytphmeljhfbahoaa.PQ
