/- cover.Cover over this seat's program, by walking its text. -/
import Derived.Test.YtaihieglailmcaaCx
import Derived.Test.YtaihieglailmcaaPCx2
import Derived.Test.YtaihieglailmcaaPCx2
import Derived.Test.YtaihieglailmcaaPCx2
import Derived.RegionTactic
import Derived.Deep.RegionWith
import Derived.Deep.RegionHeld3
import Derived.Deep.DeepCutAuto
namespace Go.Proofs.Ytaihieglailmcaa.PC
open Go.RowKit Go.Proofs.YtaihieglailmcaaW.PrintWords Go.Proofs.YtaihieglailmcaaW.PrintLast Go.Proofs.YtaihieglailmcaaW.PrintMore
set_option linter.unusedVariables false
set_option linter.unusedSimpArgs false
/-- A cover in a block; the Ids of its record are a row of its own. -/
def CAt (W : World) (base g : Nat) (a h : Int) (r : S28) (left : Int) (ended : Bool) : Prop := base ≤ g ∧ ∃ v, W.heap[g]? = some (.cells #[.int .i64 a, .int .i64 h, .int .i64 r.f0, .int .i64 r.f1, .int .i64 r.f2, v, .int .i64 left, .bool ended] 73 (0, 0)) ∧ Kd.R (Kd.int .i64) 3 W base (fun _ => True) v r.f3
theorem cell8 {w : World} {g : Nat} {a b c d e f h i : Value} {t : TypeId} (hb : w.heap[g]? = some (.cells #[a, b, c, d, e, f, h, i] t (0, 0))) : (w.cell? ⟨g, 0, none⟩ = some a ∧ w.cell? ⟨g, 1, none⟩ = some b ∧ w.cell? ⟨g, 2, none⟩ = some c ∧ w.cell? ⟨g, 3, none⟩ = some d ∧ w.cell? ⟨g, 4, none⟩ = some e ∧ w.cell? ⟨g, 5, none⟩ = some f ∧ w.cell? ⟨g, 6, none⟩ = some h ∧ w.cell? ⟨g, 7, none⟩ = some i) ∧ w.frozen? ⟨g, 0, none⟩ = false ∧ w.frozen? ⟨g, 1, none⟩ = false ∧ w.frozen? ⟨g, 2, none⟩ = false ∧ w.frozen? ⟨g, 3, none⟩ = false ∧ w.frozen? ⟨g, 4, none⟩ = false ∧ w.frozen? ⟨g, 5, none⟩ = false ∧ w.frozen? ⟨g, 6, none⟩ = false ∧ w.frozen? ⟨g, 7, none⟩ = false :=
  ⟨⟨(blk_cell hb 0).trans rfl, (blk_cell hb 1).trans rfl, (blk_cell hb 2).trans rfl, (blk_cell hb 3).trans rfl, (blk_cell hb 4).trans rfl, (blk_cell hb 5).trans rfl, (blk_cell hb 6).trans rfl, (blk_cell hb 7).trans rfl⟩, blk_frozen hb 0, blk_frozen hb 1, blk_frozen hb 2, blk_frozen hb 3, blk_frozen hb 4, blk_frozen hb 5, blk_frozen hb 6, blk_frozen hb 7⟩
theorem cell4_ {w : World} {g : Nat} {a b c d : Value} {t : TypeId} (h : w.heap[g]? = some (.cells #[a, b, c, d] t (0, 0))) : (w.cell? ⟨g, 0, none⟩ = some a ∧ w.cell? ⟨g, 1, none⟩ = some b ∧ w.cell? ⟨g, 2, none⟩ = some c ∧ w.cell? ⟨g, 3, none⟩ = some d) ∧ w.frozen? ⟨g, 0, none⟩ = false ∧ w.frozen? ⟨g, 1, none⟩ = false ∧ w.frozen? ⟨g, 2, none⟩ = false ∧ w.frozen? ⟨g, 3, none⟩ = false :=
  ⟨⟨(blk_cell h 0).trans rfl, (blk_cell h 1).trans rfl, (blk_cell h 2).trans rfl, (blk_cell h 3).trans rfl⟩, blk_frozen h 0, blk_frozen h 1, blk_frozen h 2, blk_frozen h 3⟩
theorem cput4 {w : World} {g : Nat} {a b c d a' b' c' d' : Value} {t : TypeId} (h : w.heap[g]? = some (.cells #[a, b, c, d] t (0, 0))) : ((((w.setCell ⟨g, 0, none⟩ a').setCell ⟨g, 1, none⟩ b').setCell ⟨g, 2, none⟩ c').setCell ⟨g, 3, none⟩ d').heap[g]? = some (.cells #[a', b', c', d'] t (0, 0)) :=
  blk_put (cs := #[a', b', c', d]) (blk_put (cs := #[a', b', c, d]) (blk_put (cs := #[a', b, c, d]) (blk_put (cs := #[a, b, c, d]) h 0 a' rfl) 1 b' rfl) 2 c' rfl) 3 d' rfl
theorem crow4 {w : World} {g base : Nat} {ok : Nat → Prop} {v : Value} {xs : List Int} {a' b' c' d' : Value} (hr : Kd.R (Kd.int .i64) 3 w base ok v xs) (hok : ∀ k, ok k → k ≠ g) : Kd.R (Kd.int .i64) 3 ((((w.setCell ⟨g, 0, none⟩ a').setCell ⟨g, 1, none⟩ b').setCell ⟨g, 2, none⟩ c').setCell ⟨g, 3, none⟩ d') base ok v xs :=
  Kd.R_far (p := ⟨g, 3, none⟩) (Kd.R_far (p := ⟨g, 2, none⟩) (Kd.R_far (p := ⟨g, 1, none⟩) (Kd.R_far (p := ⟨g, 0, none⟩) hr hok a') hok b') hok c') hok d'
theorem cbel4 {B g : Nat} {w W : World} {a' b' c' d' : Value} (h : Below B w W) (hg : B ≤ g) : Below B w ((((W.setCell ⟨g, 0, none⟩ a').setCell ⟨g, 1, none⟩ b').setCell ⟨g, 2, none⟩ c').setCell ⟨g, 3, none⟩ d') :=
  (((h.setCell (p := ⟨g, 0, none⟩) hg a').setCell (p := ⟨g, 1, none⟩) hg b').setCell (p := ⟨g, 2, none⟩) hg c').setCell (p := ⟨g, 3, none⟩) hg d'
/-- What stands so far hangs on blocks that stand so far. -/
theorem above {w0 W : World} {R : List (World → Prop)} (h : Cx (fun _ => False) w0 W R) : Cx (fun k => W.heap.size ≤ k) w0 W R :=
  ⟨h.hb, fun k hk => Nat.le_trans h.hb.size hk, fun P hP W' hW => h.foot P hP W' (fun k _ hlt => hW k (Nat.not_le.2 hlt) hlt)⟩
set_option maxHeartbeats 8000000 in
set_option maxRecDepth 100000 in
theorem cover_copied.calls (r : S28) (A : Option Addr) (c : Nat) (w : World) (hr : Kd.C (Kd.int .i64) w A r.f3.length r.f3) (hc : r.f3.length ≤ c) (hl : r.f3.length ≤ 1000) :
    Calls Try.prog 54 #[.agg #[.int .i64 r.f0, .int .i64 r.f1, .int .i64 r.f2, .slice A r.f3.length c]] w fun e w' => ∃ v : Value, e = .returned (.agg #[.int .i64 r.f0, .int .i64 r.f1, .int .i64 r.f2, v]) ∧ Kd.R (Kd.int .i64) 3 w' w.heap.size (fun _ => True) v r.f3 ∧ Below w.heap.size w w' := by
  have hu := Try.underlying28
  have X0 : Aside0 (Cx (fun _ => False) w w [Row (Kd.int .i64) A r.f3]) := ⟨(Cx.start _ w (fun _ h => h.elim)).came (Kd.heap_int _) hr⟩
  have HL := Aside0.mk hl
  clear hr hl
  go_enter Try.func54, Try.ntmps54
  go_upto_region 1 with fail
  have X1 := Aside0.mk ((X0.out.new #[.int .i64 r.f0, .int .i64 r.f1, .int .i64 r.f2, .slice A r.f3.length c] 28 (fun h => h)).new #[.int .i64 0, .int .i64 0, .int .i64 0, .slice none 0 0] 28 (fun h => h))
  clear X0
  have X2 : Aside0 (Cx (fun _ => False) w ((w.alloc (Obj.cells #[.int .i64 r.f0, .int .i64 r.f1, .int .i64 r.f2, .slice A r.f3.length c] 28)).alloc (Obj.cells #[.int .i64 0, .int .i64 0, .int .i64 0, .slice none 0 0] 28)) [Blk (w.heap.size + 1) #[.int .i64 0, .int .i64 0, .int .i64 0, .slice none 0 0] 28, Blk w.heap.size #[.int .i64 r.f0, .int .i64 r.f1, .int .i64 r.f2, .slice A r.f3.length c] 28, Row (Kd.int .i64) A r.f3]) := ⟨by have h := X1.out; simpa using h⟩
  clear X1
  have hne : w.heap.size ≠ w.heap.size + 1 := by omega
  generalize (w.alloc (Obj.cells #[.int .i64 r.f0, .int .i64 r.f1, .int .i64 r.f2, .slice A r.f3.length c] 28)).alloc (Obj.cells #[.int .i64 0, .int .i64 0, .int .i64 0, .slice none 0 0] 28) = w1 at X2 ⊢
  have G1 := Aside0.mk (show w.heap.size + 1 < w1.heap.size from blk_lt (X2.out.get 0 rfl))
  obtain ⟨⟨i0, i1, i2, i3⟩, u0, u1, u2, u3⟩ := cell4_ (X2.out.get 1 rfl)
  go_upto_region 3 with (first | (at_make; refine Kd.R_make (w0 := w) (Kd.int .i64) w.heap.size 3 rfl rfl 26 _ _ rfl (r.f3.length : Int) rfl rfl (show Try.prog.underlying 26 = some (.slice 3) from by kernel_rfl) (.int .i64 0) 8 info3 rfl (by decide) (by decide) (z0 := (0 : Int)) (ok := fun k => w1.heap.size ≤ k) (okp := fun _ => False) rfl (fun _ h => h.elim) (Nat.le_refl _) (Int.natCast_nonneg _) (by have := HL.out; omega) X2.out.hb X2.out.hb.size ?_; intro v1 w2 HR HB hg hown; have X3 := Aside0.mk ((above X2.out).step ((Below.refl w1.heap.size w1).grown hg (Nat.le_refl _) (fun k hk => by cases hk))); obtain ⟨A1, c1, rfl⟩ := Kd.R_slice HR; have HR3 : Aside0 (Kd.R (Kd.int .i64) 3 w2 w.heap.size (fun k => w1.heap.size ≤ k) (.slice A1 r.f3.length c1) (List.replicate r.f3.length (0 : Int))) := ⟨by simpa using HR⟩; clear HR HB hg hown X2 i0 i1 i2 i3 u0 u1 u2 u3; obtain ⟨⟨i0, i1, i2, i3⟩, u0, u1, u2, u3⟩ := cell4_ (X3.out.get 1 rfl)) | ((with_reducible refine gate_dst (N := 11) rfl ?_); refine Kd.R_copy (enc := Value.int .i64) (h1 := fun _ => rfl) (0 : Int) (w0 := w) w.heap.size rfl _ _ 26 26 3 rfl (show Try.prog.underlying 26 = some (.slice 3) from by kernel_rfl) (by kernel_rfl) (.slice A1 r.f3.length c1) (List.replicate r.f3.length (0 : Int)) r.f3 A r.f3.length c (fun k => w1.heap.size ≤ k) rfl rfl HR3.out (X3.out.get 2 rfl) X3.out.hb X3.out.hb.size ?_; intro w3 HR HB hg; have X4 := Aside0.mk (X3.out.keep HB (fun k hk hS => hg.block k hk (fun e => hS (HR3.out.1 k e.symm)))); have HR4 := Aside0.mk HR; clear HR HB hg X3 i0 i1 i2 i3 u0 u1 u2 u3; obtain ⟨⟨i0, i1, i2, i3⟩, u0, u1, u2, u3⟩ := cell4_ (X4.out.get 1 rfl); obtain ⟨⟨j0, j1, j2, j3⟩, y0, y1, y2, y3⟩ := cell4_ (X4.out.get 0 rfl)) | fail)
  go_wp2
  refine bodyPost_ret (results_cell_row rfl _ _ (w.heap.size + 1) 28 #[.int .i64 r.f0, .int .i64 r.f1, .int .i64 r.f2, .slice A1 r.f3.length c1] (0, 0) _ rfl (by exact cput4 (blk_far (p := ⟨w.heap.size, 3, none⟩) (X4.out.get 0 rfl) (Ne.symm hne) _)) Try.underlying28 rfl (by kernel_rfl)) rfl ?_
  have HR5 : Kd.R (Kd.int .i64) 3 w3 w.heap.size (fun k => w1.heap.size ≤ k) (.slice A1 r.f3.length c1) r.f3 := by have h := HR4.out; simp at h; exact h
  have hg := G1.out
  exact ⟨_, rfl, Kd.R_mono (crow4 (Kd.R_far (p := ⟨w.heap.size, 3, none⟩) HR5 (fun k hk => by show k ≠ w.heap.size; omega) _) (fun k hk => by omega)) (fun _ _ => trivial), cbel4 (X4.out.hb.setCell (p := ⟨w.heap.size, 3, none⟩) (Nat.le_refl _) _) (Nat.le_succ _)⟩
/-- A cover lies as it did, in a world behind. -/
theorem CAt.below {W W' : World} {base g : Nat} {a h : Int} {r : S28} {left : Int} {ended : Bool} (hc : CAt W base g a h r left ended) (hb : Below W.heap.size W W') : CAt W' base g a h r left ended := by
  obtain ⟨hg, v, hk, hr⟩ := hc
  exact ⟨hg, v, blk_below hk hb, Kd.R_below hr hb⟩
/-- A new cover. -/
theorem cover_New.calls_ (w : World) : Calls Try.prog 26 #[] w fun e w' => ∃ g, e = .returned (.pointer (some ⟨g, 0, none⟩)) ∧ CAt w' w.heap.size g 0 0 z28 0 false ∧ Below w.heap.size w w' := by
  go_enter Try.func26, Try.ntmps26
  go_wp2
  go_ret
  exact ⟨_, rfl, ⟨Nat.le_refl _, .slice none 0 0, blk_new w _, Kd.R_nil _ _ _ _ _⟩, below_alloc (Below.refl _ _) _⟩
theorem cover_At.calls_ (base g : Nat) (a h : Int) (r : S28) (left : Int) (ended : Bool) (w : World) (hC : CAt w base g a h r left ended) :
    Calls Try.prog 34 #[.pointer (some ⟨g, 0, none⟩)] w fun e w' => e = .returned (.int .i64 a) ∧ w' = w := by
  obtain ⟨hg, v, hbk, hR⟩ := hC
  obtain ⟨⟨j0, j1, j2, j3, j4, j5, j6, j7⟩, y0, y1, y2, y3, y4, y5, y6, y7⟩ := cell8 hbk
  clear hbk hR hg
  go_enter Try.func34, Try.ntmps34
  go_wp2
  go_ret
  exact ⟨rfl, rfl⟩
theorem cover_Hits.calls_ (base g : Nat) (a h : Int) (r : S28) (left : Int) (ended : Bool) (w : World) (hC : CAt w base g a h r left ended) :
    Calls Try.prog 38 #[.pointer (some ⟨g, 0, none⟩)] w fun e w' => e = .returned (.int .i64 h) ∧ w' = w := by
  obtain ⟨hg, v, hbk, hR⟩ := hC
  obtain ⟨⟨j0, j1, j2, j3, j4, j5, j6, j7⟩, y0, y1, y2, y3, y4, y5, y6, y7⟩ := cell8 hbk
  clear hbk hR hg
  go_enter Try.func38, Try.ntmps38
  go_wp2
  go_ret
  exact ⟨rfl, rfl⟩
theorem cover_Ended.calls_ (base g : Nat) (a h : Int) (r : S28) (left : Int) (ended : Bool) (w : World) (hC : CAt w base g a h r left ended) :
    Calls Try.prog 33 #[.pointer (some ⟨g, 0, none⟩)] w fun e w' => e = .returned (.bool ended) ∧ w' = w := by
  obtain ⟨hg, v, hbk, hR⟩ := hC
  obtain ⟨⟨j0, j1, j2, j3, j4, j5, j6, j7⟩, y0, y1, y2, y3, y4, y5, y6, y7⟩ := cell8 hbk
  clear hbk hR hg
  go_enter Try.func33, Try.ntmps33
  go_wp2
  go_ret
  exact ⟨rfl, rfl⟩
theorem cover_At.nil_ (w : World) : Calls Try.prog 34 #[.pointer none] w fun e w' => e = .returned (.int .i64 0) ∧ w' = w := by
  go_enter Try.func34, Try.ntmps34
  go_wp2
  go_ret
  exact ⟨rfl, rfl⟩
theorem cover_Hits.nil_ (w : World) : Calls Try.prog 38 #[.pointer none] w fun e w' => e = .returned (.int .i64 0) ∧ w' = w := by
  go_enter Try.func38, Try.ntmps38
  go_wp2
  go_ret
  exact ⟨rfl, rfl⟩
theorem cover_Ended.nil_ (w : World) : Calls Try.prog 33 #[.pointer none] w fun e w' => e = .returned (.bool false) ∧ w' = w := by
  go_enter Try.func33, Try.ntmps33
  go_wp2
  go_ret
  exact ⟨rfl, rfl⟩
theorem cover_Pass.nil_ (w : World) : Calls Try.prog 30 #[.pointer none] w fun e w' => e = .returned (.tuple #[.slice none 0 0, .int .i64 1]) ∧ w' = w := by
  go_enter Try.func30, Try.ntmps30
  go_wp2
  refine bodyPost_ret (results_tmp2 rfl _ _ _) rfl ⟨rfl, rfl⟩
set_option maxHeartbeats 8000000 in
set_option maxRecDepth 100000 in
theorem cover_Next.nil_ (w : World) : Calls Try.prog 35 #[.pointer none] w fun e w' => e = .returned (.tuple #[.int .i64 0, .agg #[.int .i64 0, .int .i64 0, .int .i64 0, .slice none 0 0], .bool false]) ∧ Below w.heap.size w w' := by
  have hu := Try.underlying28
  go_enter Try.func35, Try.ntmps35
  go_wp2
  refine bodyPost_ret (results_list (rs := [.tmp 2, .cell 3 28, .tmp 4]) rfl (by simp) (.tmp (.cell w.heap.size 28 #[.int .i64 0, .int .i64 0, .int .i64 0, .slice none 0 0] (0, 0) _ rfl (by exact blk_new w _) Try.underlying28 rfl (by kernel_rfl) (.tmp .nil)))) rfl ?_
  exact ⟨rfl, below_alloc (Below.refl _ _) _⟩
set_option maxHeartbeats 8000000 in
set_option maxRecDepth 100000 in
theorem cover_Next.zero (base g : Nat) (a h : Int) (r : S28) (ended : Bool) (w : World) (hC : CAt w base g a h r 0 ended) : Calls Try.prog 35 #[.pointer (some ⟨g, 0, none⟩)] w fun e w' => e = .returned (.tuple #[.int .i64 0, .agg #[.int .i64 0, .int .i64 0, .int .i64 0, .slice none 0 0], .bool false]) ∧ Below w.heap.size w w' := by
  have hu := Try.underlying28
  obtain ⟨hg, v, hbk, hR⟩ := hC
  obtain ⟨A0, cp, rfl⟩ := Kd.R_slice hR
  have hlt : g < w.heap.size := blk_lt hbk
  have hbk1 := blk_alloc hbk (Obj.cells #[.int .i64 0, .int .i64 0, .int .i64 0, .slice none 0 0] 28)
  obtain ⟨⟨j0, j1, j2, j3, j4, j5, j6, j7⟩, y0, y1, y2, y3, y4, y5, y6, y7⟩ := cell8 hbk1
  clear hbk hR hg
  go_enter Try.func35, Try.ntmps35
  go_upto_region 1 with fail
  clear hbk1
  go_wp2
  refine bodyPost_ret (results_list (rs := [.tmp 2, .cell 3 28, .tmp 4]) rfl (by simp) (.tmp (.cell w.heap.size 28 #[.int .i64 0, .int .i64 0, .int .i64 0, .slice none 0 0] (0, 0) _ rfl (by exact blk_new w _) Try.underlying28 rfl (by kernel_rfl) (.tmp .nil)))) rfl ?_
  exact ⟨rfl, below_alloc (Below.refl _ _) _⟩
def coverNext3.T : Bool × List (List Nat × List Nat) := (true, [([], []), ([0], [0]), ([1], [1]), ([2], [2]), ([3], [3]), ([], []), ([5], [5]), ([6], [6]), ([7], [7]), ([8], [8]), ([4, 9, 0, 1, 2, 3, 4], [4]), ([9, 10, 0, 1, 2, 3, 4, 5, 6, 7, 8, 9, 10], [9]), ([11, 0, 1, 2, 3, 4, 5, 6, 7, 8, 9, 10, 11], [])])
def coverNext3.B : List Nat := [0, 1, 3, 7, 15, 0, 32, 96, 224, 480, 1023, 2047, 4095]
theorem coverNext3.tab : rtab .any (opsOf Try.f35 3) = coverNext3.T := by kernel_rfl
theorem coverNext3.bits : waitsOk coverNext3.T.2 coverNext3.B = true := by kernel_rfl
set_option maxHeartbeats 8000000 in
set_option maxRecDepth 100000 in
theorem cover_Next.some_ (base g : Nat) (a h : Int) (r : S28) (left : Int) (ended : Bool) (w : World) (hC : CAt w base g a h r left ended) (hl : left ≠ 0) (hr : r.f3.length ≤ 1000) : Calls Try.prog 35 #[.pointer (some ⟨g, 0, none⟩)] w fun e w' => ∃ u : Value, e = .returned (.tuple #[.int .i64 (wrap64 (a + 1)), .agg #[.int .i64 r.f0, .int .i64 r.f1, .int .i64 r.f2, u], .bool true]) ∧ Kd.R (Kd.int .i64) 3 w' w.heap.size (fun _ => True) u r.f3 ∧ Below w.heap.size w w' := by
  have hu := Try.underlying28
  obtain ⟨hg, v, hbk, hR⟩ := hC
  obtain ⟨A0, cp, rfl⟩ := Kd.R_slice hR
  have hlt : g < w.heap.size := blk_lt hbk
  have hne : w.heap.size ≠ g := by omega
  have hl' : (left == 0) = false := beq_false_of_ne hl
  have HL := Aside0.mk hr
  have X0 : Aside0 (Cx (fun _ => False) w w [Row (Kd.int .i64) A0 r.f3, Blk g #[(.int .i64 a), (.int .i64 h), (.int .i64 r.f0), (.int .i64 r.f1), (.int .i64 r.f2), (.slice A0 r.f3.length cp), (.int .i64 left), (.bool ended)] 73]) := ⟨((Cx.start _ w (fun _ h => h.elim)).blk hbk (fun h => h)).noneS hR⟩
  have HCP := Aside0.mk (Kd.R_reads' hR).2.1
  clear hbk hR hg hr hlt
  go_enter Try.func35, Try.ntmps35
  go_upto_region 1 with fail
  have X1 := Aside0.mk (X0.out.new #[.int .i64 0, .int .i64 0, .int .i64 0, .slice none 0 0] 28 (fun h => h))
  clear X0
  generalize w.alloc (Obj.cells #[.int .i64 0, .int .i64 0, .int .i64 0, .slice none 0 0] 28) = w1 at X1 ⊢
  obtain ⟨⟨j0, j1, j2, j3, j4, j5, j6, j7⟩, y0, y1, y2, y3, y4, y5, y6, y7⟩ := cell8 (X1.out.get 2 rfl)
  go_upto_region 3 with fail
  refine start_ (n := 13) (S := (fun w' => w'.cell? ⟨g, 0, none⟩ = some (.int .i64 a) ∧ w'.cell? ⟨g, 1, none⟩ = some (.int .i64 h) ∧ w'.cell? ⟨g, 2, none⟩ = some (.int .i64 r.f0) ∧ w'.cell? ⟨g, 3, none⟩ = some (.int .i64 r.f1) ∧ w'.cell? ⟨g, 4, none⟩ = some (.int .i64 r.f2) ∧ w'.cell? ⟨g, 5, none⟩ = some (.slice A0 r.f3.length cp) ∧ w'.cell? ⟨g, 6, none⟩ = some (.int .i64 left) ∧ w'.cell? ⟨g, 7, none⟩ = some (.bool ended))) (ds := [11]) #[false, false, false, false, false, false, false, false, false, false, false, false, false] (by kernel_rfl) rfl rfl ⟨j0, j1, j2, j3, j4, j5, j6, j7⟩ (fun hHeld => ?_); refine with_tabW coverNext3.tab coverNext3.bits (fun HT_ HW_ => ?_)
  clear j0 j1 j2 j3 j4 j5 j6 j7 y0 y1 y2 y3 y4 y5 y6 y7
  have X2 := Aside0.mk X1.out.drew
  clear X1
  generalize w1.drew = w2 at X2 hHeld ⊢
  refine pure_ (i := 0) (N := some 15) (v := ?_) (a' := ?_) #[true, false, false, false, false, false, false, false, false, false, false, false, false] rfl rfl (any_of HT_.out (by kernel_rfl)) (fun _ _ _ h => h) (Or.inl ⟨by rfl, ?_⟩) ?_ ?_
  rotate_left
  · intro w'
    go_simp
    with_reducible rfl
  rotate_left
  · simp only [Act.put, List.setIfInBounds_toArray, List.set_cons_zero, List.set_cons_succ, i64_w, i32_w]
    rfl
  refine pure_ (i := 1) (N := some 16) (v := ?_) (a' := ?_) #[true, true, false, false, false, false, false, false, false, false, false, false, false] rfl rfl (any_of HT_.out (by kernel_rfl)) (fun _ _ _ h => h) (Or.inl ⟨by rfl, ?_⟩) ?_ ?_
  rotate_left
  · intro w'
    go_simp
    with_reducible rfl
  rotate_left
  · simp only [Act.put, List.setIfInBounds_toArray, List.set_cons_zero, List.set_cons_succ, i64_w, i32_w]
    rfl
  refine pure_ (i := 2) (N := some 17) (v := ?_) (a' := ?_) #[true, true, true, false, false, false, false, false, false, false, false, false, false] rfl rfl (any_of HT_.out (by kernel_rfl)) (fun _ _ _ h => h) (Or.inl ⟨by rfl, ?_⟩) ?_ ?_
  rotate_left
  · intro w'
    go_simp
    with_reducible rfl
  rotate_left
  · simp only [Act.put, List.setIfInBounds_toArray, List.set_cons_zero, List.set_cons_succ, i64_w, i32_w]
    rfl
  refine take_ (i := 3) (N := some 18) (v := ?_) (a' := ?_) #[true, true, true, true, false, false, false, false, false, false, false, false, false] rfl rfl (take_ofW HT_.out HW_.out (by kernel_rfl)) (fun _ _ _ h => h) (Or.inl ⟨by rfl, ?_⟩) hHeld ?_ ?_
  rotate_left
  · rintro w' ⟨s0, s1, s2, s3, s4, s5, s6, s7⟩
    go_simp
    with_reducible rfl
  rotate_left
  · simp only [Act.put, List.setIfInBounds_toArray, List.set_cons_zero, List.set_cons_succ, i64_w, i32_w]
    rfl
  refine pure_ (i := 4) (N := some 19) (v := ?_) (a' := ?_) #[true, true, true, true, true, false, false, false, false, false, false, false, false] rfl rfl (any_of HT_.out (by kernel_rfl)) (fun _ _ _ h => h) (Or.inl ⟨by rfl, ?_⟩) ?_ ?_
  rotate_left
  · intro w'
    go_simp
    with_reducible rfl
  rotate_left
  · simp only [Act.put, List.setIfInBounds_toArray, List.set_cons_zero, List.set_cons_succ, i64_w, i32_w]
    rfl
  refine pure_ (i := 5) (N := some 20) (v := ?_) (a' := ?_) #[true, true, true, true, true, true, false, false, false, false, false, false, false] rfl rfl (any_of HT_.out (by kernel_rfl)) (fun _ _ _ h => h) (Or.inl ⟨by rfl, ?_⟩) ?_ ?_
  rotate_left
  · intro w'
    go_simp
    with_reducible rfl
  rotate_left
  · simp only [Act.put, List.setIfInBounds_toArray, List.set_cons_zero, List.set_cons_succ, i64_w, i32_w]
    rfl
  refine pure_ (i := 6) (N := some 21) (v := ?_) (a' := ?_) #[true, true, true, true, true, true, true, false, false, false, false, false, false] rfl rfl (any_of HT_.out (by kernel_rfl)) (fun _ _ _ h => h) (Or.inl ⟨by rfl, ?_⟩) ?_ ?_
  rotate_left
  · intro w'
    go_simp
    with_reducible rfl
  rotate_left
  · simp only [Act.put, List.setIfInBounds_toArray, List.set_cons_zero, List.set_cons_succ, i64_w, i32_w]
    rfl
  refine pure_ (i := 7) (N := some 22) (v := ?_) (a' := ?_) #[true, true, true, true, true, true, true, true, false, false, false, false, false] rfl rfl (any_of HT_.out (by kernel_rfl)) (fun _ _ _ h => h) (Or.inl ⟨by rfl, ?_⟩) ?_ ?_
  rotate_left
  · intro w'
    go_simp
    with_reducible rfl
  rotate_left
  · simp only [Act.put, List.setIfInBounds_toArray, List.set_cons_zero, List.set_cons_succ, i64_w, i32_w]
    rfl
  refine take_ (i := 8) (N := some 23) (v := ?_) (a' := ?_) #[true, true, true, true, true, true, true, true, true, false, false, false, false] rfl rfl (take_ofW HT_.out HW_.out (by kernel_rfl)) (fun _ _ _ h => h) (Or.inl ⟨by rfl, ?_⟩) hHeld ?_ ?_
  rotate_left
  · rintro w' ⟨s0, s1, s2, s3, s4, s5, s6, s7⟩
    go_simp
    with_reducible rfl
  rotate_left
  · simp only [Act.put, List.setIfInBounds_toArray, List.set_cons_zero, List.set_cons_succ, i64_w, i32_w]
    rfl
  refine one_ (i := 9) (N := some 24) #[true, true, true, true, true, true, true, true, true, true, false, false, false] rfl rfl (one_of HT_.out (by kernel_rfl)) (by decide) (fun K hK => ?_)
  refine goes_ Try.func54 (by kernel_rfl) rfl #[.agg #[.int .i64 r.f0, .int .i64 r.f1, .int .i64 r.f2, .slice A0 r.f3.length cp]] (by rfl) rfl rfl (by (try simp only [List.map_toArray, List.map_cons, List.map_nil]); first | done | rfl) ?_
  refine (cover_copied.calls r A0 cp _ (X2.out.get 1 rfl) HCP.out HL.out).mono ?_
  rintro e w3 ⟨u, rfl, hRu, hb3⟩
  refine ⟨_, rfl, ?_⟩
  obtain ⟨A3, c3, rfl⟩ := Kd.R_slice hRu
  have G2 := Aside0.mk (show w.heap.size < w2.heap.size from blk_lt (X2.out.get 0 rfl))
  have HR3 : Aside0 (Kd.R (Kd.int .i64) 3 w3 w.heap.size (fun k => w2.heap.size ≤ k) (.slice A3 r.f3.length c3) r.f3) := ⟨Kd.R_lower (Kd.R_mono (Kd.R_bound hRu) (fun k hk => hk.2.1)) X2.out.hb.size⟩
  have X3 := Aside0.mk (X2.out.step hb3)
  clear X2 hRu hb3
  obtain ⟨⟨i0, i1, i2, i3⟩, u0, u1, u2, u3⟩ := cell4_ (X3.out.get 0 rfl)
  refine hK.out _ _ (cell8 (X3.out.get 2 rfl)).1 (fun hHeld => ?_)
  clear hK K
  refine norm_ (a' := ?_) ?_ ?_
  rotate_left
  · show Act.put _ (some 24) _ = _
    simp only [Act.put, List.setIfInBounds_toArray, List.set_cons_zero, List.set_cons_succ, i64_w, i32_w]
    rfl
  refine pure_ (i := 10) (N := some 2) (v := ?_) (a' := ?_) #[true, true, true, true, true, true, true, true, true, true, true, false, false] rfl rfl (any_of HT_.out (by kernel_rfl)) (fun _ _ _ h => h) (Or.inl ⟨by rfl, ?_⟩) ?_ ?_
  rotate_left
  · intro w'
    go_simp
    with_reducible rfl
  rotate_left
  · simp only [Act.put, List.setIfInBounds_toArray, List.set_cons_zero, List.set_cons_succ, i64_w, i32_w]
    rfl
  refine last_ (i := 11) (N := none) #[true, true, true, true, true, true, true, true, true, true, true, true, false] rfl rfl (one_of HT_.out (by kernel_rfl)) (by decide) (fun K hK => ?_)
  refine skip_ (w1 := ?_) (by rfl) rfl ?_ ?_
  rotate_left
  · go_simp
    rfl
  refine hK.out _ _ ?_
  clear hK K
  refine pure_ (i := 12) (N := some 4) (v := ?_) (a' := ?_) #[true, true, true, true, true, true, true, true, true, true, true, true, true] rfl rfl (any_of HT_.out (by kernel_rfl)) (fun _ _ _ h => h) (Or.inl ⟨by rfl, ?_⟩) ?_ ?_
  rotate_left
  · intro w'
    go_simp
    with_reducible rfl
  rotate_left
  · simp only [Act.put, List.setIfInBounds_toArray, List.set_cons_zero, List.set_cons_succ, i64_w, i32_w]
    rfl
  refine done_ (done_of HT_.out (by kernel_rfl)) ?_
  go_wp2
  refine bodyPost_ret (results_list (rs := [.tmp 2, .cell 3 28, .tmp 4]) rfl (by simp) (.tmp (.cell w.heap.size 28 #[.int .i64 r.f0, .int .i64 r.f1, .int .i64 r.f2, .slice A3 r.f3.length c3] (0, 0) _ rfl (by exact cput4 (X3.out.get 0 rfl)) Try.underlying28 rfl (by kernel_rfl) (.tmp .nil)))) rfl ?_
  exact ⟨_, rfl, Kd.R_mono (crow4 HR3.out (fun k hk => by have := G2.out; omega)) (fun _ _ => trivial), cbel4 X3.out.hb (Nat.le_refl _)⟩
/-- The hits that a pass names. -/
def hitsOf (a : Int) (l : List Int) : List S76 := l.map fun x => ⟨a, x⟩
theorem cover_Pass.zero (base g : Nat) (a h : Int) (r : S28) (ended : Bool) (w : World) (hC : CAt w base g a h r 0 ended) : Calls Try.prog 30 #[.pointer (some ⟨g, 0, none⟩)] w fun e w' => e = .returned (.tuple #[.slice none 0 0, .int .i64 12]) ∧ w' = w := by
  have hu := Try.underlying28
  obtain ⟨hg, v, hbk, hR⟩ := hC
  obtain ⟨A0, cp, rfl⟩ := Kd.R_slice hR
  have hlt : g < w.heap.size := blk_lt hbk
  obtain ⟨⟨j0, j1, j2, j3, j4, j5, j6, j7⟩, y0, y1, y2, y3, y4, y5, y6, y7⟩ := cell8 hbk
  clear hbk hR hg
  go_enter Try.func30, Try.ntmps30
  go_wp2
  refine bodyPost_ret (results_tmp2 rfl _ _ _) rfl ⟨rfl, rfl⟩
def coverPass5.T : Bool × List (List Nat × List Nat) := (true, [([], []), ([0], [0]), ([1], [1]), ([2], [2]), ([], []), ([4], [4]), ([5], [5]), ([6], [6]), ([7], [7]), ([3, 8], [3, 8]), ([0, 0, 1, 2, 3, 4, 5, 6, 7, 8, 9], [0]), ([10, 0, 1, 2, 3, 4, 5, 6, 7, 8, 9], [10]), ([11, 9, 8, 0, 1, 2, 3, 4, 5, 6, 7, 8, 9], [9, 11])])
def coverPass5.B : List Nat := [0, 1, 3, 7, 0, 16, 48, 112, 240, 511, 1023, 2047, 4095]
theorem coverPass5.tab : rtab .any (opsOf Try.f30 5) = coverPass5.T := by kernel_rfl
theorem coverPass5.bits : waitsOk coverPass5.T.2 coverPass5.B = true := by kernel_rfl
set_option maxHeartbeats 8000000 in
set_option maxRecDepth 100000 in
theorem cover_Pass.some_ (base g : Nat) (a h : Int) (r : S28) (left : Int) (ended : Bool) (w : World) (hC : CAt w base g a h r left ended) (hbw : base ≤ w.heap.size) (hl : left ≠ 0) (hr : r.f3.length ≤ 1000) (n a1 l1 : Int) (ha : wrap64 (a + n) = a1) (hl1 : wrap64 (left - 1) = l1) (kn : Nat) (hn : probe_Covers.f kn r.f0 r.f1 r.f2 r.f3 = some n) : Calls Try.prog 30 #[.pointer (some ⟨g, 0, none⟩)] w fun e w' => ∃ u : Value, e = .returned (.tuple #[u, .int .i64 0]) ∧ Kd.R k76 76 w' w.heap.size (fun _ => True) u (hitsOf a1 r.f3) ∧ CAt w' base g a1 (wrap64 (h + (r.f3.length : Int))) r l1 ended ∧ KeepBut w w' g none ∧ Below base w w' := by
  have hu := Try.underlying28
  obtain ⟨hg, v, hbk, hR⟩ := hC
  obtain ⟨A0, cp, rfl⟩ := Kd.R_slice hR
  have hlt : g < w.heap.size := blk_lt hbk
  have hl' : (left == 0) = false := beq_false_of_ne hl
  have HL := Aside0.mk hr
  have HN := Aside0.mk hn
  have HG := Aside0.mk hg
  have HBW := Aside0.mk hbw
  have HA1 := Aside0.mk ha
  have HL1 := Aside0.mk hl1
  have HCP := Aside0.mk (Kd.R_reads' hR).2.1
  have HR := Aside0.mk hR
  have HK := Aside0.mk hbk
  clear hbk hR hg hr hn hbw ha hl1
  obtain ⟨⟨j0, j1, j2, j3, j4, j5, j6, j7⟩, y0, y1, y2, y3, y4, y5, y6, y7⟩ := cell8 HK.out
  go_enter Try.func30, Try.ntmps30
  go_upto_region 5 with fail
  refine start_ (n := 13) (S := (fun w' => w'.cell? ⟨g, 0, none⟩ = some (.int .i64 a) ∧ w'.cell? ⟨g, 1, none⟩ = some (.int .i64 h) ∧ w'.cell? ⟨g, 2, none⟩ = some (.int .i64 r.f0) ∧ w'.cell? ⟨g, 3, none⟩ = some (.int .i64 r.f1) ∧ w'.cell? ⟨g, 4, none⟩ = some (.int .i64 r.f2) ∧ w'.cell? ⟨g, 5, none⟩ = some (.slice A0 r.f3.length cp) ∧ w'.cell? ⟨g, 6, none⟩ = some (.int .i64 left) ∧ w'.cell? ⟨g, 7, none⟩ = some (.bool ended))) (ds := [12]) #[false, false, false, false, false, false, false, false, false, false, false, false, false] (by kernel_rfl) rfl rfl ⟨j0, j1, j2, j3, j4, j5, j6, j7⟩ (fun hHeld => ?_); refine with_tabW coverPass5.tab coverPass5.bits (fun HT_ HW_ => ?_)
  clear j0 j1 j2 j3 j4 j5 j6 j7 y0 y1 y2 y3 y4 y5 y6 y7
  have HR2 := Aside0.mk (Kd.R_below HR.out (below_drew1 (Below.refl _ _)))
  have HK2 := Aside0.mk (blk_drew HK.out)
  have HB2 := Aside0.mk (below_drew1 (Below.refl w.heap.size w))
  clear HR HK
  generalize w.drew = w2 at HR2 HK2 HB2 hHeld ⊢
  refine pure_ (i := 0) (N := some 16) (v := ?_) (a' := ?_) #[true, false, false, false, false, false, false, false, false, false, false, false, false] rfl rfl (any_of HT_.out (by kernel_rfl)) (fun _ _ _ h => h) (Or.inl ⟨by rfl, ?_⟩) ?_ ?_
  rotate_left
  · intro w'
    go_simp
    with_reducible rfl
  rotate_left
  · simp only [Act.put, List.setIfInBounds_toArray, List.set_cons_zero, List.set_cons_succ, i64_w, i32_w]
    rfl
  refine pure_ (i := 1) (N := some 17) (v := ?_) (a' := ?_) #[true, true, false, false, false, false, false, false, false, false, false, false, false] rfl rfl (any_of HT_.out (by kernel_rfl)) (fun _ _ _ h => h) (Or.inl ⟨by rfl, ?_⟩) ?_ ?_
  rotate_left
  · intro w'
    go_simp
    with_reducible rfl
  rotate_left
  · simp only [Act.put, List.setIfInBounds_toArray, List.set_cons_zero, List.set_cons_succ, i64_w, i32_w]
    rfl
  refine pure_ (i := 2) (N := some 18) (v := ?_) (a' := ?_) #[true, true, true, false, false, false, false, false, false, false, false, false, false] rfl rfl (any_of HT_.out (by kernel_rfl)) (fun _ _ _ h => h) (Or.inl ⟨by rfl, ?_⟩) ?_ ?_
  rotate_left
  · intro w'
    go_simp
    with_reducible rfl
  rotate_left
  · simp only [Act.put, List.setIfInBounds_toArray, List.set_cons_zero, List.set_cons_succ, i64_w, i32_w]
    rfl
  refine take_ (i := 3) (N := some 19) (v := ?_) (a' := ?_) #[true, true, true, true, false, false, false, false, false, false, false, false, false] rfl rfl (take_ofW HT_.out HW_.out (by kernel_rfl)) (fun _ _ _ h => h) (Or.inl ⟨by rfl, ?_⟩) hHeld ?_ ?_
  rotate_left
  · rintro w' ⟨s0, s1, s2, s3, s4, s5, s6, s7⟩
    go_simp
    with_reducible rfl
  rotate_left
  · simp only [Act.put, List.setIfInBounds_toArray, List.set_cons_zero, List.set_cons_succ, i64_w, i32_w]
    rfl
  refine pure_ (i := 4) (N := some 20) (v := ?_) (a' := ?_) #[true, true, true, true, true, false, false, false, false, false, false, false, false] rfl rfl (any_of HT_.out (by kernel_rfl)) (fun _ _ _ h => h) (Or.inl ⟨by rfl, ?_⟩) ?_ ?_
  rotate_left
  · intro w'
    go_simp
    with_reducible rfl
  rotate_left
  · simp only [Act.put, List.setIfInBounds_toArray, List.set_cons_zero, List.set_cons_succ, i64_w, i32_w]
    rfl
  refine pure_ (i := 5) (N := some 21) (v := ?_) (a' := ?_) #[true, true, true, true, true, true, false, false, false, false, false, false, false] rfl rfl (any_of HT_.out (by kernel_rfl)) (fun _ _ _ h => h) (Or.inl ⟨by rfl, ?_⟩) ?_ ?_
  rotate_left
  · intro w'
    go_simp
    with_reducible rfl
  rotate_left
  · simp only [Act.put, List.setIfInBounds_toArray, List.set_cons_zero, List.set_cons_succ, i64_w, i32_w]
    rfl
  refine pure_ (i := 6) (N := some 22) (v := ?_) (a' := ?_) #[true, true, true, true, true, true, true, false, false, false, false, false, false] rfl rfl (any_of HT_.out (by kernel_rfl)) (fun _ _ _ h => h) (Or.inl ⟨by rfl, ?_⟩) ?_ ?_
  rotate_left
  · intro w'
    go_simp
    with_reducible rfl
  rotate_left
  · simp only [Act.put, List.setIfInBounds_toArray, List.set_cons_zero, List.set_cons_succ, i64_w, i32_w]
    rfl
  refine take_ (i := 7) (N := some 23) (v := ?_) (a' := ?_) #[true, true, true, true, true, true, true, true, false, false, false, false, false] rfl rfl (take_ofW HT_.out HW_.out (by kernel_rfl)) (fun _ _ _ h => h) (Or.inl ⟨by rfl, ?_⟩) hHeld ?_ ?_
  rotate_left
  · rintro w' ⟨s0, s1, s2, s3, s4, s5, s6, s7⟩
    go_simp
    with_reducible rfl
  rotate_left
  · simp only [Act.put, List.setIfInBounds_toArray, List.set_cons_zero, List.set_cons_succ, i64_w, i32_w]
    rfl
  refine one_ (i := 8) (N := some 24) #[true, true, true, true, true, true, true, true, true, false, false, false, false] rfl rfl (one_of HT_.out (by kernel_rfl)) (by decide) (fun K hK => ?_)
  refine goes_ Try.func45 (by kernel_rfl) rfl #[.agg #[.int .i64 r.f0, .int .i64 r.f1, .int .i64 r.f2, .slice A0 r.f3.length cp]] (by rfl) rfl rfl (by (try simp only [List.map_toArray, List.map_cons, List.map_nil]); first | done | rfl) ?_
  refine (probe_Covers.calls kn r.f0 r.f1 r.f2 A0 cp r.f3 n _ (Kd.R_reads' HR2.out).2.2 HCP.out HN.out).mono ?_
  rintro e w3 ⟨rfl, hb3⟩
  refine ⟨_, rfl, ?_⟩
  have HR3 := Aside0.mk (Kd.R_below HR2.out hb3)
  have HK3 := Aside0.mk (blk_below HK2.out hb3)
  have HB3 := Aside0.mk (below_step HB2.out hb3)
  clear HR2 HK2 HB2 hb3
  obtain ⟨⟨j0, j1, j2, j3, j4, j5, j6, j7⟩, y0, y1, y2, y3, y4, y5, y6, y7⟩ := cell8 HK3.out
  refine hK.out _ _ (cell8 HK3.out).1 (fun hHeld => ?_)
  clear hK K
  refine norm_ (a' := ?_) ?_ ?_
  rotate_left
  · show Act.put _ (some 24) _ = _
    simp only [Act.put, List.setIfInBounds_toArray, List.set_cons_zero, List.set_cons_succ, i64_w, i32_w]
    rfl
  refine pure_ (i := 9) (N := some 25) (v := ?_) (a' := ?_) #[true, true, true, true, true, true, true, true, true, true, false, false, false] rfl rfl (any_of HT_.out (by kernel_rfl)) (fun _ _ _ h => h) (Or.inl ⟨by rfl, ?_⟩) ?_ ?_
  rotate_left
  · intro w'
    go_simp
    with_reducible rfl
  rotate_left
  · simp only [Act.put, List.setIfInBounds_toArray, List.set_cons_zero, List.set_cons_succ, i64_w, i32_w]
    rfl
  refine pure_ (i := 10) (N := some 26) (v := ?_) (a' := ?_) #[true, true, true, true, true, true, true, true, true, true, true, false, false] rfl rfl (any_of HT_.out (by kernel_rfl)) (fun _ _ _ h => h) (Or.inl ⟨by rfl, ?_⟩) ?_ ?_
  rotate_left
  · intro w'
    go_simp
    with_reducible rfl
  rotate_left
  · simp only [Act.put, List.setIfInBounds_toArray, List.set_cons_zero, List.set_cons_succ, i64_w, i32_w]
    rfl
  refine pure_ (i := 11) (N := some 27) (v := ?_) (a' := ?_) #[true, true, true, true, true, true, true, true, true, true, true, true, false] rfl rfl (any_of HT_.out (by kernel_rfl)) (fun _ _ _ h => h) (Or.inl ⟨by rfl, ?_⟩) ?_ ?_
  rotate_left
  · intro w'
    go_simp
    with_reducible rfl
  rotate_left
  · simp only [Act.put, List.setIfInBounds_toArray, List.set_cons_zero, List.set_cons_succ, i64_w, i32_w]
    rfl
  refine last_ (i := 12) (N := none) #[true, true, true, true, true, true, true, true, true, true, true, true, true] rfl rfl (one_of HT_.out (by kernel_rfl)) (by decide) (fun K hK => ?_)
  refine skip_ (w1 := ?_) (by rfl) rfl ?_ ?_
  rotate_left
  · go_simp
    rfl
  refine hK.out _ _ ?_
  clear hK K
  refine done_ (done_of HT_.out (by kernel_rfl)) ?_
  clear hHeld
  rw [HA1.out]
  go_upto_region 9 with fail
  rw [HL1.out]
  have HK3' := Aside0.mk (blk_put (cs' := #[(.int .i64 a1), (.int .i64 h), (.int .i64 r.f0), (.int .i64 r.f1), (.int .i64 r.f2), (.slice A0 r.f3.length cp), (.int .i64 left), (.bool ended)]) HK3.out 0 (.int .i64 a1) rfl)
  have HK4 : Aside0 (((w3.setCell ⟨g, 0, none⟩ (.int .i64 a1)).setCell ⟨g, 6, none⟩ (.int .i64 l1)).heap[g]? = some (.cells #[(.int .i64 a1), (.int .i64 h), (.int .i64 r.f0), (.int .i64 r.f1), (.int .i64 r.f2), (.slice A0 r.f3.length cp), (.int .i64 l1), (.bool ended)] 73 (0, 0))) := ⟨blk_put HK3'.out 6 _ rfl⟩
  have HR4 : Aside0 (Kd.R (Kd.int .i64) 3 ((w3.setCell ⟨g, 0, none⟩ (.int .i64 a1)).setCell ⟨g, 6, none⟩ (.int .i64 l1)) base (fun _ => True) (.slice A0 r.f3.length cp) r.f3) := ⟨Kd.R_set (Kd.R_set HR3.out HK3.out (by decide) 0 _) HK3'.out (by decide) 6 _⟩
  have KB4 : Aside0 (KeepBut w ((w3.setCell ⟨g, 0, none⟩ (.int .i64 a1)).setCell ⟨g, 6, none⟩ (.int .i64 l1)) g none) := ⟨((KeepBut.of_below HB3.out g none).set_ 0 _).set_ 6 _⟩
  have BB4 : Aside0 (Below base w ((w3.setCell ⟨g, 0, none⟩ (.int .i64 a1)).setCell ⟨g, 6, none⟩ (.int .i64 l1))) := ⟨((HB3.out.mono HBW.out).setCell (p := ⟨g, 0, none⟩) HG.out _).setCell (p := ⟨g, 6, none⟩) HG.out _⟩
  have hlt4 : g < ((w3.setCell ⟨g, 0, none⟩ (.int .i64 a1)).setCell ⟨g, 6, none⟩ (.int .i64 l1)).heap.size := blk_lt HK4.out
  have hle4 := Aside0.mk (show w.heap.size ≤ ((w3.setCell ⟨g, 0, none⟩ (.int .i64 a1)).setCell ⟨g, 6, none⟩ (.int .i64 l1)).heap.size from KB4.out.1)
  clear HK3 HK3' HR3 HB3
  clear j0 j1 j2 j3 j4 j5 j6 j7 y0 y1 y2 y3 y4 y5 y6 y7
  generalize ((w3.setCell ⟨g, 0, none⟩ (.int .i64 a1)).setCell ⟨g, 6, none⟩ (.int .i64 l1)) = w4 at HK4 HR4 KB4 BB4 hlt4 hle4 ⊢
  have hm0 : r.f3.length ≤ 1000 := HL.out
  go_loopw [41, 4] (fun i v4 wr => ∃ (j : Nat) (acc : List S76), j ≤ r.f3.length ∧ i = .int .i64 (j : Int) ∧ Aside0 (acc = hitsOf a1 (r.f3.take j)) ∧ Aside0 (Kd.R k76 76 wr w4.heap.size (fun _ => True) v4 acc) ∧ Aside0 (Below w4.heap.size w4 wr)) (fun i _ _ => r.f3.length - (intOf i).toNat)
  case atStart => exact ⟨0, [], Nat.zero_le _, rfl, ⟨rfl⟩, ⟨Kd.R_nil _ _ _ _ _⟩, ⟨Below.refl _ _⟩⟩
  case round =>
    obtain ⟨j, acc, hj, rfl, HA, HO, HB⟩ := hrel
    have HKr := Aside0.mk (blk_below HK4.out HB.out)
    obtain ⟨⟨j0, j1, j2, j3, j4, j5, j6, j7⟩, y0, y1, y2, y3, y4, y5, y6, y7⟩ := cell8 HKr.out
    have hlen := Aside0.mk (show acc.length = j by rw [HA.out, hitsOf, List.length_map, List.length_take]; omega)
    obtain ⟨Ao, co, rfl⟩ := Kd.R_slice HO.out
    by_cases hlt2 : j < r.f3.length
    · obtain ⟨ad, eA, hx⟩ := Kd.at_int (Kd.C_below (Kd.R_reads' HR4.out).2.2 HB.out) (j : Int) (by omega) (by omega)
      subst eA
      simp only [Int.toNat_natCast] at hx
      have hrd := Aside0.mk (show rd r.f3 (j : Int) = r.f3[j] by simp [rd, List.getD_eq_getElem?_getD, List.getElem?_eq_getElem hlt2])
      generalize rd r.f3 (j : Int) = y at hx hrd
      go_wp2_with (first | (at_builtin; refine Kd.R_append k76 (w0 := w4) w4.heap.size rfl (.tmp 45) (.tmp 52) 53 76 (.agg #[(.int .i64 0), (.int .i64 0)]) 16 rfl Try.underlying53 info76 rfl (by decide) (by omega) (.slice Ao acc.length co) acc (⟨a1, y⟩ : S76) [.int .i64 a1, .int .i64 y] (fun _ => True) (fun k_ => True ∧ some k_ ≠ (Value.slice Ao acc.length co).ownBlock) rfl ?aX ?aP (fun _ hk => hk) (fun _ _ => trivial) ?aO ?aB ?aS ?aL ?_; (case aX => first | (go_simp; done) | (go_simp; rfl)); (case aP => exact k76_mkM _ _ _ (⟨a1, y⟩ : S76)); (case aO => exact HO.out); (case aB => exact HB.out); (case aS => exact HB.out.size); (case aL => have := HL.out; have := hlen.out; omega); intro v1 w5 ho5 hb5 hg5 hat5; have HO5 := Aside0.mk ho5; have HB5 := Aside0.mk hb5; obtain ⟨A5, c5, rfl⟩ := Kd.R_slice ho5; clear hat5 hg5 ho5 hb5) | fail)
      rw [List.length_append, List.length_singleton] at HO5
      exact ⟨⟨j + 1, acc ++ [⟨a1, y⟩], by omega, by go_num, ⟨by rw [HA.out, hrd.out, hitsOf, hitsOf, List.take_succ_eq_append_getElem hlt2, List.map_append]; rfl⟩, HO5, HB5⟩, by simp [intOf]; omega⟩
    · have hje : j = r.f3.length := by omega
      subst hje
      have hacc := Aside0.mk (show acc = hitsOf a1 r.f3 by rw [HA.out, List.take_length])
      go_wp2
      have hl3 := hlen.out
      rw [hl3]
      refine bodyPost_ret (results_tmp2 rfl _ _ _) rfl ⟨_, rfl, ?_, ⟨HG.out, _, blk_put HKr.out 1 _ rfl, Kd.R_set (Kd.R_below HR4.out HB.out) HKr.out (by decide) 1 _⟩, (KB4.out.trans (KeepBut.of_below HB.out g none) (Or.inl rfl)).set_ 1 _, (BB4.out.trans (HB.out.mono (Nat.le_trans HBW.out hle4.out))).setCell (p := ⟨g, 1, none⟩) HG.out _⟩
      have HO6 := HO.out
      rw [hl3, hacc.out] at HO6
      exact Kd.R_lower (Kd.R_mono (Kd.R_far (p := ⟨g, 1, none⟩) (Kd.R_bound HO6) (fun k hk => by have := hk.2.1; show k ≠ g; omega) _) (fun _ _ => trivial)) hle4.out
theorem cover_Begin.nil_ (r : S28) (A : Option Addr) (c : Nat) (w : World) : Calls Try.prog 28 #[.pointer none, .agg #[.int .i64 r.f0, .int .i64 r.f1, .int .i64 r.f2, .slice A r.f3.length c]] w fun e w' => e = .returned (.int .i64 1) ∧ Below w.heap.size w w' := by
  go_enter Try.func28, Try.ntmps28
  go_wp2
  go_ret
  exact ⟨rfl, below_alloc (Below.refl _ _) _⟩
set_option maxHeartbeats 8000000 in
set_option maxRecDepth 100000 in
theorem cover_Begin.over (w0 : World) (g : Nat) (a h : Int) (R : S28) (left : Int) (r : S28) (A : Option Addr) (c : Nat) (w : World) (hb0 : Below w0.heap.size w0 w) (hC : CAt w w0.heap.size g a h R left true) (hr : Kd.C (Kd.int .i64) w0 A r.f3.length r.f3) (hc : r.f3.length ≤ c) : Calls Try.prog 28 #[.pointer (some ⟨g, 0, none⟩), .agg #[.int .i64 r.f0, .int .i64 r.f1, .int .i64 r.f2, .slice A r.f3.length c]] w fun e w' => e = .returned (.int .i64 12) ∧ Below w.heap.size w w' := by
  have hu := Try.underlying28
  obtain ⟨hg, v, hbk, hR⟩ := hC
  obtain ⟨A0, cp, rfl⟩ := Kd.R_slice hR
  have hlt : g < w.heap.size := blk_lt hbk
  have X0 : Aside0 (Cx (fun _ => False) w w [Row (Kd.int .i64) A r.f3, Blk g #[(.int .i64 a), (.int .i64 h), (.int .i64 R.f0), (.int .i64 R.f1), (.int .i64 R.f2), (.slice A0 R.f3.length cp), (.int .i64 left), (.bool true)] 73]) := ⟨((Cx.start _ w (fun _ h => h.elim)).blk hbk (fun h => h)).add (((((Cx.start (fun _ => False) w0 (fun _ h => h.elim)).came (Kd.heap_int _) hr).step hb0).footAt 0 rfl))⟩
  clear hbk hR hg hb0 hr
  go_enter Try.func28, Try.ntmps28
  go_upto_region 1 with fail
  have XC := Aside0.mk (X0.out.new #[.int .i64 r.f0, .int .i64 r.f1, .int .i64 r.f2, .slice A r.f3.length c] 28 (fun h => h))
  clear X0
  have hbg : g ≠ w.heap.size := by omega
  generalize w.alloc (Obj.cells #[.int .i64 r.f0, .int .i64 r.f1, .int .i64 r.f2, .slice A r.f3.length c] 28) = w1 at XC ⊢
  obtain ⟨⟨j0, j1, j2, j3, j4, j5, j6, j7⟩, y0, y1, y2, y3, y4, y5, y6, y7⟩ := cell8 (XC.out.get 2 rfl)
  obtain ⟨⟨b0, b1, b2, b3⟩, z0, z1, z2, z3⟩ := cell4_ (XC.out.get 0 rfl)
  go_wp2
  go_ret
  exact ⟨rfl, XC.out.hb⟩
set_option maxHeartbeats 8000000 in
set_option maxRecDepth 100000 in
theorem cover_Begin.busy (w0 : World) (g : Nat) (a h : Int) (R : S28) (left : Int) (r : S28) (A : Option Addr) (c : Nat) (w : World) (hb0 : Below w0.heap.size w0 w) (hC : CAt w w0.heap.size g a h R left false) (hr : Kd.C (Kd.int .i64) w0 A r.f3.length r.f3) (hc : r.f3.length ≤ c) (hl : decide (left > 0) = true) : Calls Try.prog 28 #[.pointer (some ⟨g, 0, none⟩), .agg #[.int .i64 r.f0, .int .i64 r.f1, .int .i64 r.f2, .slice A r.f3.length c]] w fun e w' => e = .returned (.int .i64 12) ∧ Below w.heap.size w w' := by
  have hu := Try.underlying28
  obtain ⟨hg, v, hbk, hR⟩ := hC
  obtain ⟨A0, cp, rfl⟩ := Kd.R_slice hR
  have hlt : g < w.heap.size := blk_lt hbk
  have X0 : Aside0 (Cx (fun _ => False) w w [Row (Kd.int .i64) A r.f3, Blk g #[(.int .i64 a), (.int .i64 h), (.int .i64 R.f0), (.int .i64 R.f1), (.int .i64 R.f2), (.slice A0 R.f3.length cp), (.int .i64 left), (.bool false)] 73]) := ⟨((Cx.start _ w (fun _ h => h.elim)).blk hbk (fun h => h)).add (((((Cx.start (fun _ => False) w0 (fun _ h => h.elim)).came (Kd.heap_int _) hr).step hb0).footAt 0 rfl))⟩
  clear hbk hR hg hb0 hr
  go_enter Try.func28, Try.ntmps28
  go_upto_region 1 with fail
  have XC := Aside0.mk (X0.out.new #[.int .i64 r.f0, .int .i64 r.f1, .int .i64 r.f2, .slice A r.f3.length c] 28 (fun h => h))
  clear X0
  have hbg : g ≠ w.heap.size := by omega
  generalize w.alloc (Obj.cells #[.int .i64 r.f0, .int .i64 r.f1, .int .i64 r.f2, .slice A r.f3.length c] 28) = w1 at XC ⊢
  obtain ⟨⟨j0, j1, j2, j3, j4, j5, j6, j7⟩, y0, y1, y2, y3, y4, y5, y6, y7⟩ := cell8 (XC.out.get 2 rfl)
  obtain ⟨⟨b0, b1, b2, b3⟩, z0, z1, z2, z3⟩ := cell4_ (XC.out.get 0 rfl)
  go_wp2
  go_ret
  exact ⟨rfl, XC.out.hb⟩
def coverBegin14.T : Bool × List (List Nat × List Nat) := (true, [([], []), ([0], [0]), ([], []), ([2], [2]), ([3], [3]), ([4], [4]), ([1, 5], [1, 5]), ([6], [6]), ([7], [7]), ([8, 7], [7, 8]), ([7], [7]), ([10, 7], [7, 10]), ([11, 7], [7, 11]), ([12, 7], [7, 12]), ([9, 13, 7], [7, 9, 13]), ([7, 14], [7, 14])])
def coverBegin14.B : List Nat := [0, 1, 0, 4, 12, 28, 63, 127, 255, 511, 255, 1279, 3327, 7423, 16383, 32767]
theorem coverBegin14.tab : rtab .any (opsOf Try.f28 14) = coverBegin14.T := by kernel_rfl
theorem coverBegin14.bits : waitsOk coverBegin14.T.2 coverBegin14.B = true := by kernel_rfl
def coverBegin17.T : Bool × List (List Nat × List Nat) := (true, [([], []), ([0], [0]), ([], []), ([2], [2]), ([3], [3]), ([4], [4]), ([1, 5], [1, 5]), ([6], [6]), ([7], [7]), ([8, 7], [7, 8]), ([7], [7]), ([10, 7], [7, 10]), ([11, 7], [7, 11]), ([12, 7], [7, 12]), ([9, 13, 7], [7, 9, 13]), ([7, 14], [7, 14])])
def coverBegin17.B : List Nat := [0, 1, 0, 4, 12, 28, 63, 127, 255, 511, 255, 1279, 3327, 7423, 16383, 32767]
theorem coverBegin17.tab : rtab .any (opsOf Try.f28 17) = coverBegin17.T := by kernel_rfl
theorem coverBegin17.bits : waitsOk coverBegin17.T.2 coverBegin17.B = true := by kernel_rfl
def coverBegin8.T : Bool × List (List Nat × List Nat) := (true, [([], []), ([0], [0]), ([1], [1]), ([2], [2]), ([], []), ([4], [4]), ([], []), ([6, 5], [6]), ([3, 5, 7, 7], [3, 5, 7]), ([8], [8]), ([9], [9]), ([9], [9]), ([10, 8, 0, 1, 2, 3, 4, 5, 6, 7, 8, 9, 10], [10]), ([11, 12, 0, 1, 2, 3, 4, 5, 6, 7, 8, 9, 10, 11, 12], [11])])
def coverBegin8.B : List Nat := [0, 1, 3, 7, 0, 16, 0, 112, 255, 511, 1023, 1023, 2047, 8191]
theorem coverBegin8.tab : rtab .any (opsOf Try.f28 8) = coverBegin8.T := by kernel_rfl
theorem coverBegin8.bits : waitsOk coverBegin8.T.2 coverBegin8.B = true := by kernel_rfl
set_option maxHeartbeats 8000000 in
set_option maxRecDepth 100000 in
theorem cover_Begin.check_n (w0 : World) (g : Nat) (a h : Int) (R : S28) (left : Int) (r : S28) (A : Option Addr) (c : Nat) (w : World) (hb0 : Below w0.heap.size w0 w) (hC : CAt w w0.heap.size g a h R left false) (hr : Kd.C (Kd.int .i64) w0 A r.f3.length r.f3) (hc : r.f3.length ≤ c) (hl : decide (left > 0) = false) (hk : (r.f0 == 5) = true) (h1 : (r.f1 != a) = true) : Calls Try.prog 28 #[.pointer (some ⟨g, 0, none⟩), .agg #[.int .i64 r.f0, .int .i64 r.f1, .int .i64 r.f2, .slice A r.f3.length c]] w fun e w' => e = .returned (.int .i64 18) ∧ Below w.heap.size w w' := by
  have hu := Try.underlying28
  obtain ⟨hg, v, hbk, hR⟩ := hC
  obtain ⟨A0, cp, rfl⟩ := Kd.R_slice hR
  have hlt : g < w.heap.size := blk_lt hbk
  have X0 : Aside0 (Cx (fun _ => False) w w [Row (Kd.int .i64) A r.f3, Blk g #[(.int .i64 a), (.int .i64 h), (.int .i64 R.f0), (.int .i64 R.f1), (.int .i64 R.f2), (.slice A0 R.f3.length cp), (.int .i64 left), (.bool false)] 73]) := ⟨((Cx.start _ w (fun _ h => h.elim)).blk hbk (fun h => h)).add (((((Cx.start (fun _ => False) w0 (fun _ h => h.elim)).came (Kd.heap_int _) hr).step hb0).footAt 0 rfl))⟩
  clear hbk hR hg hb0 hr
  go_enter Try.func28, Try.ntmps28
  go_upto_region 1 with fail
  have XC := Aside0.mk (X0.out.new #[.int .i64 r.f0, .int .i64 r.f1, .int .i64 r.f2, .slice A r.f3.length c] 28 (fun h => h))
  clear X0
  have hbg : g ≠ w.heap.size := by omega
  generalize w.alloc (Obj.cells #[.int .i64 r.f0, .int .i64 r.f1, .int .i64 r.f2, .slice A r.f3.length c] 28) = w1 at XC ⊢
  obtain ⟨⟨j0, j1, j2, j3, j4, j5, j6, j7⟩, y0, y1, y2, y3, y4, y5, y6, y7⟩ := cell8 (XC.out.get 2 rfl)
  obtain ⟨⟨b0, b1, b2, b3⟩, z0, z1, z2, z3⟩ := cell4_ (XC.out.get 0 rfl)
  go_upto_region 14 with fail
  refine start_ (n := 16) (S := (fun w' => w'.cell? ⟨g, 0, none⟩ = some (.int .i64 a) ∧ w'.cell? ⟨g, 1, none⟩ = some (.int .i64 h) ∧ w'.cell? ⟨g, 2, none⟩ = some (.int .i64 R.f0) ∧ w'.cell? ⟨g, 3, none⟩ = some (.int .i64 R.f1) ∧ w'.cell? ⟨g, 4, none⟩ = some (.int .i64 R.f2) ∧ w'.cell? ⟨g, 5, none⟩ = some (.slice A0 R.f3.length cp) ∧ w'.cell? ⟨g, 6, none⟩ = some (.int .i64 left) ∧ w'.cell? ⟨g, 7, none⟩ = some (.bool false) ∧ w'.cell? ⟨w.heap.size, 0, none⟩ = some (.int .i64 r.f0) ∧ w'.cell? ⟨w.heap.size, 1, none⟩ = some (.int .i64 r.f1) ∧ w'.cell? ⟨w.heap.size, 2, none⟩ = some (.int .i64 r.f2) ∧ w'.cell? ⟨w.heap.size, 3, none⟩ = some (.slice A r.f3.length c))) (ds := []) #[false, false, false, false, false, false, false, false, false, false, false, false, false, false, false, false] (by kernel_rfl) rfl rfl ⟨j0, j1, j2, j3, j4, j5, j6, j7, b0, b1, b2, b3⟩ (fun hHeld => ?_); refine with_tabW coverBegin14.tab coverBegin14.bits (fun HT_ HW_ => ?_)
  clear j0 j1 j2 j3 j4 j5 j6 j7 y0 y1 y2 y3 y4 y5 y6 y7
  clear b0 b1 b2 b3 z0 z1 z2 z3
  have XN := Aside0.mk XC.out.drew
  clear XC
  have XC := XN
  clear XN
  generalize w1.drew = w2 at XC hHeld ⊢
  obtain ⟨⟨j0, j1, j2, j3, j4, j5, j6, j7⟩, y0, y1, y2, y3, y4, y5, y6, y7⟩ := cell8 (XC.out.get 2 rfl)
  obtain ⟨⟨b0, b1, b2, b3⟩, z0, z1, z2, z3⟩ := cell4_ (XC.out.get 0 rfl)
  refine pure_ (i := 0) (N := some 59) (v := ?_) (a' := ?_) #[true, false, false, false, false, false, false, false, false, false, false, false, false, false, false, false] rfl rfl (any_of HT_.out (by kernel_rfl)) (fun _ _ _ h => h) (Or.inl ⟨by rfl, ?_⟩) ?_ ?_
  rotate_left
  · intro w'
    go_simp
    with_reducible rfl
  rotate_left
  · simp only [Act.put, List.setIfInBounds_toArray, List.set_cons_zero, List.set_cons_succ, i64_w, i32_w]
    rfl
  refine take_ (i := 1) (N := some 60) (v := ?_) (a' := ?_) #[true, true, false, false, false, false, false, false, false, false, false, false, false, false, false, false] rfl rfl (take_ofW HT_.out HW_.out (by kernel_rfl)) (fun _ _ _ h => h) (Or.inl ⟨by rfl, ?_⟩) hHeld ?_ ?_
  rotate_left
  · rintro w' ⟨s0, s1, s2, s3, s4, s5, s6, s7, s8, s9, s10, s11⟩
    go_simp
    with_reducible rfl
  rotate_left
  · simp only [Act.put, List.setIfInBounds_toArray, List.set_cons_zero, List.set_cons_succ, i64_w, i32_w]
    rfl
  refine pure_ (i := 2) (N := some 61) (v := ?_) (a' := ?_) #[true, true, true, false, false, false, false, false, false, false, false, false, false, false, false, false] rfl rfl (any_of HT_.out (by kernel_rfl)) (fun _ _ _ h => h) (Or.inl ⟨by rfl, ?_⟩) ?_ ?_
  rotate_left
  · intro w'
    go_simp
    with_reducible rfl
  rotate_left
  · simp only [Act.put, List.setIfInBounds_toArray, List.set_cons_zero, List.set_cons_succ, i64_w, i32_w]
    rfl
  refine pure_ (i := 3) (N := some 62) (v := ?_) (a' := ?_) #[true, true, true, true, false, false, false, false, false, false, false, false, false, false, false, false] rfl rfl (any_of HT_.out (by kernel_rfl)) (fun _ _ _ h => h) (Or.inl ⟨by rfl, ?_⟩) ?_ ?_
  rotate_left
  · intro w'
    go_simp
    with_reducible rfl
  rotate_left
  · simp only [Act.put, List.setIfInBounds_toArray, List.set_cons_zero, List.set_cons_succ, i64_w, i32_w]
    rfl
  refine pure_ (i := 4) (N := some 63) (v := ?_) (a' := ?_) #[true, true, true, true, true, false, false, false, false, false, false, false, false, false, false, false] rfl rfl (any_of HT_.out (by kernel_rfl)) (fun _ _ _ h => h) (Or.inl ⟨by rfl, ?_⟩) ?_ ?_
  rotate_left
  · intro w'
    go_simp
    with_reducible rfl
  rotate_left
  · simp only [Act.put, List.setIfInBounds_toArray, List.set_cons_zero, List.set_cons_succ, i64_w, i32_w]
    rfl
  refine take_ (i := 5) (N := some 64) (v := ?_) (a' := ?_) #[true, true, true, true, true, true, false, false, false, false, false, false, false, false, false, false] rfl rfl (take_ofW HT_.out HW_.out (by kernel_rfl)) (fun _ _ _ h => h) (Or.inl ⟨by rfl, ?_⟩) hHeld ?_ ?_
  rotate_left
  · rintro w' ⟨s0, s1, s2, s3, s4, s5, s6, s7, s8, s9, s10, s11⟩
    go_simp
    with_reducible rfl
  rotate_left
  · simp only [Act.put, List.setIfInBounds_toArray, List.set_cons_zero, List.set_cons_succ, i64_w, i32_w]
    rfl
  refine pure_ (i := 6) (N := some 65) (v := ?_) (a' := ?_) #[true, true, true, true, true, true, true, false, false, false, false, false, false, false, false, false] rfl rfl (any_of HT_.out (by kernel_rfl)) (fun _ _ _ h => h) (Or.inl ⟨by rfl, ?_⟩) ?_ ?_
  rotate_left
  · intro w'
    go_simp
    with_reducible rfl
  rotate_left
  · simp only [Act.put, List.setIfInBounds_toArray, List.set_cons_zero, List.set_cons_succ, i64_w, i32_w]
    rfl
  refine pure_ (i := 7) (N := some 66) (v := ?_) (a' := ?_) #[true, true, true, true, true, true, true, true, false, false, false, false, false, false, false, false] rfl rfl (any_of HT_.out (by kernel_rfl)) (fun _ _ _ h => h) (Or.inl ⟨by rfl, ?_⟩) ?_ ?_
  rotate_left
  · intro w'
    go_simp
    with_reducible rfl
  rotate_left
  · simp only [Act.put, List.setIfInBounds_toArray, List.set_cons_zero, List.set_cons_succ, i64_w, i32_w]
    rfl
  refine pure_ (i := 8) (N := some 67) (v := undef) (a' := ?_) #[true, true, true, true, true, true, true, true, true, false, false, false, false, false, false, false] rfl rfl (any_of HT_.out (by kernel_rfl)) (fun _ _ _ h => h) (Or.inr ⟨by rfl, rfl⟩) ?_ ?_
  rotate_left
  · simp only [Act.put, List.setIfInBounds_toArray, List.set_cons_zero, List.set_cons_succ, i64_w, i32_w]
    rfl
  refine pure_ (i := 9) (N := some 68) (v := undef) (a' := ?_) #[true, true, true, true, true, true, true, true, true, true, false, false, false, false, false, false] rfl rfl (any_of HT_.out (by kernel_rfl)) (fun _ _ _ h => h) (Or.inr ⟨by rfl, rfl⟩) ?_ ?_
  rotate_left
  · simp only [Act.put, List.setIfInBounds_toArray, List.set_cons_zero, List.set_cons_succ, i64_w, i32_w]
    rfl
  refine pure_ (i := 10) (N := some 69) (v := undef) (a' := ?_) #[true, true, true, true, true, true, true, true, true, true, true, false, false, false, false, false] rfl rfl (any_of HT_.out (by kernel_rfl)) (fun _ _ _ h => h) (Or.inr ⟨by rfl, rfl⟩) ?_ ?_
  rotate_left
  · simp only [Act.put, List.setIfInBounds_toArray, List.set_cons_zero, List.set_cons_succ, i64_w, i32_w]
    rfl
  refine pure_ (i := 11) (N := some 70) (v := undef) (a' := ?_) #[true, true, true, true, true, true, true, true, true, true, true, true, false, false, false, false] rfl rfl (any_of HT_.out (by kernel_rfl)) (fun _ _ _ h => h) (Or.inr ⟨by rfl, rfl⟩) ?_ ?_
  rotate_left
  · simp only [Act.put, List.setIfInBounds_toArray, List.set_cons_zero, List.set_cons_succ, i64_w, i32_w]
    rfl
  refine pure_ (i := 12) (N := some 71) (v := undef) (a' := ?_) #[true, true, true, true, true, true, true, true, true, true, true, true, true, false, false, false] rfl rfl (any_of HT_.out (by kernel_rfl)) (fun _ _ _ h => h) (Or.inr ⟨by rfl, rfl⟩) ?_ ?_
  rotate_left
  · simp only [Act.put, List.setIfInBounds_toArray, List.set_cons_zero, List.set_cons_succ, i64_w, i32_w]
    rfl
  refine pure_ (i := 13) (N := some 72) (v := undef) (a' := ?_) #[true, true, true, true, true, true, true, true, true, true, true, true, true, true, false, false] rfl rfl (any_of HT_.out (by kernel_rfl)) (fun _ _ _ h => h) (Or.inr ⟨by rfl, rfl⟩) ?_ ?_
  rotate_left
  · simp only [Act.put, List.setIfInBounds_toArray, List.set_cons_zero, List.set_cons_succ, i64_w, i32_w]
    rfl
  refine pure_ (i := 14) (N := some 73) (v := undef) (a' := ?_) #[true, true, true, true, true, true, true, true, true, true, true, true, true, true, true, false] rfl rfl (any_of HT_.out (by kernel_rfl)) (fun _ _ _ h => h) (Or.inr ⟨by rfl, rfl⟩) ?_ ?_
  rotate_left
  · simp only [Act.put, List.setIfInBounds_toArray, List.set_cons_zero, List.set_cons_succ, i64_w, i32_w]
    rfl
  refine pure_ (i := 15) (N := some 74) (v := ?_) (a' := ?_) #[true, true, true, true, true, true, true, true, true, true, true, true, true, true, true, true] rfl rfl (any_of HT_.out (by kernel_rfl)) (fun _ _ _ h => h) (Or.inl ⟨by rfl, ?_⟩) ?_ ?_
  rotate_left
  · intro w'
    go_simp
    with_reducible rfl
  rotate_left
  · simp only [Act.put, List.setIfInBounds_toArray, List.set_cons_zero, List.set_cons_succ, i64_w, i32_w]
    rfl
  refine done_ (done_of HT_.out (by kernel_rfl)) ?_
  go_wp2
  go_ret
  exact ⟨rfl, XC.out.hb⟩
set_option maxHeartbeats 8000000 in
set_option maxRecDepth 100000 in
theorem cover_Begin.check_h (w0 : World) (g : Nat) (a h : Int) (R : S28) (left : Int) (r : S28) (A : Option Addr) (c : Nat) (w : World) (hb0 : Below w0.heap.size w0 w) (hC : CAt w w0.heap.size g a h R left false) (hr : Kd.C (Kd.int .i64) w0 A r.f3.length r.f3) (hc : r.f3.length ≤ c) (hl : decide (left > 0) = false) (hk : (r.f0 == 5) = true) (h1 : (r.f1 != a) = false) (h2 : (r.f2 != h) = true) : Calls Try.prog 28 #[.pointer (some ⟨g, 0, none⟩), .agg #[.int .i64 r.f0, .int .i64 r.f1, .int .i64 r.f2, .slice A r.f3.length c]] w fun e w' => e = .returned (.int .i64 18) ∧ Below w.heap.size w w' := by
  have hu := Try.underlying28
  obtain ⟨hg, v, hbk, hR⟩ := hC
  obtain ⟨A0, cp, rfl⟩ := Kd.R_slice hR
  have hlt : g < w.heap.size := blk_lt hbk
  have X0 : Aside0 (Cx (fun _ => False) w w [Row (Kd.int .i64) A r.f3, Blk g #[(.int .i64 a), (.int .i64 h), (.int .i64 R.f0), (.int .i64 R.f1), (.int .i64 R.f2), (.slice A0 R.f3.length cp), (.int .i64 left), (.bool false)] 73]) := ⟨((Cx.start _ w (fun _ h => h.elim)).blk hbk (fun h => h)).add (((((Cx.start (fun _ => False) w0 (fun _ h => h.elim)).came (Kd.heap_int _) hr).step hb0).footAt 0 rfl))⟩
  clear hbk hR hg hb0 hr
  go_enter Try.func28, Try.ntmps28
  go_upto_region 1 with fail
  have XC := Aside0.mk (X0.out.new #[.int .i64 r.f0, .int .i64 r.f1, .int .i64 r.f2, .slice A r.f3.length c] 28 (fun h => h))
  clear X0
  have hbg : g ≠ w.heap.size := by omega
  generalize w.alloc (Obj.cells #[.int .i64 r.f0, .int .i64 r.f1, .int .i64 r.f2, .slice A r.f3.length c] 28) = w1 at XC ⊢
  obtain ⟨⟨j0, j1, j2, j3, j4, j5, j6, j7⟩, y0, y1, y2, y3, y4, y5, y6, y7⟩ := cell8 (XC.out.get 2 rfl)
  obtain ⟨⟨b0, b1, b2, b3⟩, z0, z1, z2, z3⟩ := cell4_ (XC.out.get 0 rfl)
  go_upto_region 14 with fail
  refine start_ (n := 16) (S := (fun w' => w'.cell? ⟨g, 0, none⟩ = some (.int .i64 a) ∧ w'.cell? ⟨g, 1, none⟩ = some (.int .i64 h) ∧ w'.cell? ⟨g, 2, none⟩ = some (.int .i64 R.f0) ∧ w'.cell? ⟨g, 3, none⟩ = some (.int .i64 R.f1) ∧ w'.cell? ⟨g, 4, none⟩ = some (.int .i64 R.f2) ∧ w'.cell? ⟨g, 5, none⟩ = some (.slice A0 R.f3.length cp) ∧ w'.cell? ⟨g, 6, none⟩ = some (.int .i64 left) ∧ w'.cell? ⟨g, 7, none⟩ = some (.bool false) ∧ w'.cell? ⟨w.heap.size, 0, none⟩ = some (.int .i64 r.f0) ∧ w'.cell? ⟨w.heap.size, 1, none⟩ = some (.int .i64 r.f1) ∧ w'.cell? ⟨w.heap.size, 2, none⟩ = some (.int .i64 r.f2) ∧ w'.cell? ⟨w.heap.size, 3, none⟩ = some (.slice A r.f3.length c))) (ds := []) #[false, false, false, false, false, false, false, false, false, false, false, false, false, false, false, false] (by kernel_rfl) rfl rfl ⟨j0, j1, j2, j3, j4, j5, j6, j7, b0, b1, b2, b3⟩ (fun hHeld => ?_); refine with_tabW coverBegin14.tab coverBegin14.bits (fun HT_ HW_ => ?_)
  clear j0 j1 j2 j3 j4 j5 j6 j7 y0 y1 y2 y3 y4 y5 y6 y7
  clear b0 b1 b2 b3 z0 z1 z2 z3
  have XN := Aside0.mk XC.out.drew
  clear XC
  have XC := XN
  clear XN
  generalize w1.drew = w2 at XC hHeld ⊢
  obtain ⟨⟨j0, j1, j2, j3, j4, j5, j6, j7⟩, y0, y1, y2, y3, y4, y5, y6, y7⟩ := cell8 (XC.out.get 2 rfl)
  obtain ⟨⟨b0, b1, b2, b3⟩, z0, z1, z2, z3⟩ := cell4_ (XC.out.get 0 rfl)
  refine pure_ (i := 0) (N := some 59) (v := ?_) (a' := ?_) #[true, false, false, false, false, false, false, false, false, false, false, false, false, false, false, false] rfl rfl (any_of HT_.out (by kernel_rfl)) (fun _ _ _ h => h) (Or.inl ⟨by rfl, ?_⟩) ?_ ?_
  rotate_left
  · intro w'
    go_simp
    with_reducible rfl
  rotate_left
  · simp only [Act.put, List.setIfInBounds_toArray, List.set_cons_zero, List.set_cons_succ, i64_w, i32_w]
    rfl
  refine take_ (i := 1) (N := some 60) (v := ?_) (a' := ?_) #[true, true, false, false, false, false, false, false, false, false, false, false, false, false, false, false] rfl rfl (take_ofW HT_.out HW_.out (by kernel_rfl)) (fun _ _ _ h => h) (Or.inl ⟨by rfl, ?_⟩) hHeld ?_ ?_
  rotate_left
  · rintro w' ⟨s0, s1, s2, s3, s4, s5, s6, s7, s8, s9, s10, s11⟩
    go_simp
    with_reducible rfl
  rotate_left
  · simp only [Act.put, List.setIfInBounds_toArray, List.set_cons_zero, List.set_cons_succ, i64_w, i32_w]
    rfl
  refine pure_ (i := 2) (N := some 61) (v := ?_) (a' := ?_) #[true, true, true, false, false, false, false, false, false, false, false, false, false, false, false, false] rfl rfl (any_of HT_.out (by kernel_rfl)) (fun _ _ _ h => h) (Or.inl ⟨by rfl, ?_⟩) ?_ ?_
  rotate_left
  · intro w'
    go_simp
    with_reducible rfl
  rotate_left
  · simp only [Act.put, List.setIfInBounds_toArray, List.set_cons_zero, List.set_cons_succ, i64_w, i32_w]
    rfl
  refine pure_ (i := 3) (N := some 62) (v := ?_) (a' := ?_) #[true, true, true, true, false, false, false, false, false, false, false, false, false, false, false, false] rfl rfl (any_of HT_.out (by kernel_rfl)) (fun _ _ _ h => h) (Or.inl ⟨by rfl, ?_⟩) ?_ ?_
  rotate_left
  · intro w'
    go_simp
    with_reducible rfl
  rotate_left
  · simp only [Act.put, List.setIfInBounds_toArray, List.set_cons_zero, List.set_cons_succ, i64_w, i32_w]
    rfl
  refine pure_ (i := 4) (N := some 63) (v := ?_) (a' := ?_) #[true, true, true, true, true, false, false, false, false, false, false, false, false, false, false, false] rfl rfl (any_of HT_.out (by kernel_rfl)) (fun _ _ _ h => h) (Or.inl ⟨by rfl, ?_⟩) ?_ ?_
  rotate_left
  · intro w'
    go_simp
    with_reducible rfl
  rotate_left
  · simp only [Act.put, List.setIfInBounds_toArray, List.set_cons_zero, List.set_cons_succ, i64_w, i32_w]
    rfl
  refine take_ (i := 5) (N := some 64) (v := ?_) (a' := ?_) #[true, true, true, true, true, true, false, false, false, false, false, false, false, false, false, false] rfl rfl (take_ofW HT_.out HW_.out (by kernel_rfl)) (fun _ _ _ h => h) (Or.inl ⟨by rfl, ?_⟩) hHeld ?_ ?_
  rotate_left
  · rintro w' ⟨s0, s1, s2, s3, s4, s5, s6, s7, s8, s9, s10, s11⟩
    go_simp
    with_reducible rfl
  rotate_left
  · simp only [Act.put, List.setIfInBounds_toArray, List.set_cons_zero, List.set_cons_succ, i64_w, i32_w]
    rfl
  refine pure_ (i := 6) (N := some 65) (v := ?_) (a' := ?_) #[true, true, true, true, true, true, true, false, false, false, false, false, false, false, false, false] rfl rfl (any_of HT_.out (by kernel_rfl)) (fun _ _ _ h => h) (Or.inl ⟨by rfl, ?_⟩) ?_ ?_
  rotate_left
  · intro w'
    go_simp
    with_reducible rfl
  rotate_left
  · simp only [Act.put, List.setIfInBounds_toArray, List.set_cons_zero, List.set_cons_succ, i64_w, i32_w]
    rfl
  refine pure_ (i := 7) (N := some 66) (v := ?_) (a' := ?_) #[true, true, true, true, true, true, true, true, false, false, false, false, false, false, false, false] rfl rfl (any_of HT_.out (by kernel_rfl)) (fun _ _ _ h => h) (Or.inl ⟨by rfl, ?_⟩) ?_ ?_
  rotate_left
  · intro w'
    go_simp
    with_reducible rfl
  rotate_left
  · simp only [Act.put, List.setIfInBounds_toArray, List.set_cons_zero, List.set_cons_succ, i64_w, i32_w]
    rfl
  refine pure_ (i := 8) (N := some 67) (v := ?_) (a' := ?_) #[true, true, true, true, true, true, true, true, true, false, false, false, false, false, false, false] rfl rfl (any_of HT_.out (by kernel_rfl)) (fun _ _ _ h => h) (Or.inl ⟨by rfl, ?_⟩) ?_ ?_
  rotate_left
  · intro w'
    go_simp
    with_reducible rfl
  rotate_left
  · simp only [Act.put, List.setIfInBounds_toArray, List.set_cons_zero, List.set_cons_succ, i64_w, i32_w]
    rfl
  refine take_ (i := 9) (N := some 68) (v := ?_) (a' := ?_) #[true, true, true, true, true, true, true, true, true, true, false, false, false, false, false, false] rfl rfl (take_ofW HT_.out HW_.out (by kernel_rfl)) (fun _ _ _ h => h) (Or.inl ⟨by rfl, ?_⟩) hHeld ?_ ?_
  rotate_left
  · rintro w' ⟨s0, s1, s2, s3, s4, s5, s6, s7, s8, s9, s10, s11⟩
    go_simp
    with_reducible rfl
  rotate_left
  · simp only [Act.put, List.setIfInBounds_toArray, List.set_cons_zero, List.set_cons_succ, i64_w, i32_w]
    rfl
  refine pure_ (i := 10) (N := some 69) (v := ?_) (a' := ?_) #[true, true, true, true, true, true, true, true, true, true, true, false, false, false, false, false] rfl rfl (any_of HT_.out (by kernel_rfl)) (fun _ _ _ h => h) (Or.inl ⟨by rfl, ?_⟩) ?_ ?_
  rotate_left
  · intro w'
    go_simp
    with_reducible rfl
  rotate_left
  · simp only [Act.put, List.setIfInBounds_toArray, List.set_cons_zero, List.set_cons_succ, i64_w, i32_w]
    rfl
  refine pure_ (i := 11) (N := some 70) (v := ?_) (a' := ?_) #[true, true, true, true, true, true, true, true, true, true, true, true, false, false, false, false] rfl rfl (any_of HT_.out (by kernel_rfl)) (fun _ _ _ h => h) (Or.inl ⟨by rfl, ?_⟩) ?_ ?_
  rotate_left
  · intro w'
    go_simp
    with_reducible rfl
  rotate_left
  · simp only [Act.put, List.setIfInBounds_toArray, List.set_cons_zero, List.set_cons_succ, i64_w, i32_w]
    rfl
  refine pure_ (i := 12) (N := some 71) (v := ?_) (a' := ?_) #[true, true, true, true, true, true, true, true, true, true, true, true, true, false, false, false] rfl rfl (any_of HT_.out (by kernel_rfl)) (fun _ _ _ h => h) (Or.inl ⟨by rfl, ?_⟩) ?_ ?_
  rotate_left
  · intro w'
    go_simp
    with_reducible rfl
  rotate_left
  · simp only [Act.put, List.setIfInBounds_toArray, List.set_cons_zero, List.set_cons_succ, i64_w, i32_w]
    rfl
  refine take_ (i := 13) (N := some 72) (v := ?_) (a' := ?_) #[true, true, true, true, true, true, true, true, true, true, true, true, true, true, false, false] rfl rfl (take_ofW HT_.out HW_.out (by kernel_rfl)) (fun _ _ _ h => h) (Or.inl ⟨by rfl, ?_⟩) hHeld ?_ ?_
  rotate_left
  · rintro w' ⟨s0, s1, s2, s3, s4, s5, s6, s7, s8, s9, s10, s11⟩
    go_simp
    with_reducible rfl
  rotate_left
  · simp only [Act.put, List.setIfInBounds_toArray, List.set_cons_zero, List.set_cons_succ, i64_w, i32_w]
    rfl
  refine pure_ (i := 14) (N := some 73) (v := ?_) (a' := ?_) #[true, true, true, true, true, true, true, true, true, true, true, true, true, true, true, false] rfl rfl (any_of HT_.out (by kernel_rfl)) (fun _ _ _ h => h) (Or.inl ⟨by rfl, ?_⟩) ?_ ?_
  rotate_left
  · intro w'
    go_simp
    with_reducible rfl
  rotate_left
  · simp only [Act.put, List.setIfInBounds_toArray, List.set_cons_zero, List.set_cons_succ, i64_w, i32_w]
    rfl
  refine pure_ (i := 15) (N := some 74) (v := ?_) (a' := ?_) #[true, true, true, true, true, true, true, true, true, true, true, true, true, true, true, true] rfl rfl (any_of HT_.out (by kernel_rfl)) (fun _ _ _ h => h) (Or.inl ⟨by rfl, ?_⟩) ?_ ?_
  rotate_left
  · intro w'
    go_simp
    with_reducible rfl
  rotate_left
  · simp only [Act.put, List.setIfInBounds_toArray, List.set_cons_zero, List.set_cons_succ, i64_w, i32_w]
    rfl
  refine done_ (done_of HT_.out (by kernel_rfl)) ?_
  go_wp2
  go_ret
  exact ⟨rfl, XC.out.hb⟩
set_option maxHeartbeats 8000000 in
set_option maxRecDepth 100000 in
theorem cover_Begin.check_ok (w0 : World) (g : Nat) (a h : Int) (R : S28) (left : Int) (r : S28) (A : Option Addr) (c : Nat) (w : World) (hb0 : Below w0.heap.size w0 w) (hC : CAt w w0.heap.size g a h R left false) (hr : Kd.C (Kd.int .i64) w0 A r.f3.length r.f3) (hc : r.f3.length ≤ c) (hl : decide (left > 0) = false) (hk : (r.f0 == 5) = true) (h1 : (r.f1 != a) = false) (h2 : (r.f2 != h) = false) : Calls Try.prog 28 #[.pointer (some ⟨g, 0, none⟩), .agg #[.int .i64 r.f0, .int .i64 r.f1, .int .i64 r.f2, .slice A r.f3.length c]] w fun e w' => e = .returned (.int .i64 0) ∧ Below w.heap.size w w' := by
  have hu := Try.underlying28
  obtain ⟨hg, v, hbk, hR⟩ := hC
  obtain ⟨A0, cp, rfl⟩ := Kd.R_slice hR
  have hlt : g < w.heap.size := blk_lt hbk
  have X0 : Aside0 (Cx (fun _ => False) w w [Row (Kd.int .i64) A r.f3, Blk g #[(.int .i64 a), (.int .i64 h), (.int .i64 R.f0), (.int .i64 R.f1), (.int .i64 R.f2), (.slice A0 R.f3.length cp), (.int .i64 left), (.bool false)] 73]) := ⟨((Cx.start _ w (fun _ h => h.elim)).blk hbk (fun h => h)).add (((((Cx.start (fun _ => False) w0 (fun _ h => h.elim)).came (Kd.heap_int _) hr).step hb0).footAt 0 rfl))⟩
  clear hbk hR hg hb0 hr
  go_enter Try.func28, Try.ntmps28
  go_upto_region 1 with fail
  have XC := Aside0.mk (X0.out.new #[.int .i64 r.f0, .int .i64 r.f1, .int .i64 r.f2, .slice A r.f3.length c] 28 (fun h => h))
  clear X0
  have hbg : g ≠ w.heap.size := by omega
  generalize w.alloc (Obj.cells #[.int .i64 r.f0, .int .i64 r.f1, .int .i64 r.f2, .slice A r.f3.length c] 28) = w1 at XC ⊢
  obtain ⟨⟨j0, j1, j2, j3, j4, j5, j6, j7⟩, y0, y1, y2, y3, y4, y5, y6, y7⟩ := cell8 (XC.out.get 2 rfl)
  obtain ⟨⟨b0, b1, b2, b3⟩, z0, z1, z2, z3⟩ := cell4_ (XC.out.get 0 rfl)
  go_upto_region 14 with fail
  refine start_ (n := 16) (S := (fun w' => w'.cell? ⟨g, 0, none⟩ = some (.int .i64 a) ∧ w'.cell? ⟨g, 1, none⟩ = some (.int .i64 h) ∧ w'.cell? ⟨g, 2, none⟩ = some (.int .i64 R.f0) ∧ w'.cell? ⟨g, 3, none⟩ = some (.int .i64 R.f1) ∧ w'.cell? ⟨g, 4, none⟩ = some (.int .i64 R.f2) ∧ w'.cell? ⟨g, 5, none⟩ = some (.slice A0 R.f3.length cp) ∧ w'.cell? ⟨g, 6, none⟩ = some (.int .i64 left) ∧ w'.cell? ⟨g, 7, none⟩ = some (.bool false) ∧ w'.cell? ⟨w.heap.size, 0, none⟩ = some (.int .i64 r.f0) ∧ w'.cell? ⟨w.heap.size, 1, none⟩ = some (.int .i64 r.f1) ∧ w'.cell? ⟨w.heap.size, 2, none⟩ = some (.int .i64 r.f2) ∧ w'.cell? ⟨w.heap.size, 3, none⟩ = some (.slice A r.f3.length c))) (ds := []) #[false, false, false, false, false, false, false, false, false, false, false, false, false, false, false, false] (by kernel_rfl) rfl rfl ⟨j0, j1, j2, j3, j4, j5, j6, j7, b0, b1, b2, b3⟩ (fun hHeld => ?_); refine with_tabW coverBegin14.tab coverBegin14.bits (fun HT_ HW_ => ?_)
  clear j0 j1 j2 j3 j4 j5 j6 j7 y0 y1 y2 y3 y4 y5 y6 y7
  clear b0 b1 b2 b3 z0 z1 z2 z3
  have XN := Aside0.mk XC.out.drew
  clear XC
  have XC := XN
  clear XN
  generalize w1.drew = w2 at XC hHeld ⊢
  obtain ⟨⟨j0, j1, j2, j3, j4, j5, j6, j7⟩, y0, y1, y2, y3, y4, y5, y6, y7⟩ := cell8 (XC.out.get 2 rfl)
  obtain ⟨⟨b0, b1, b2, b3⟩, z0, z1, z2, z3⟩ := cell4_ (XC.out.get 0 rfl)
  refine pure_ (i := 0) (N := some 59) (v := ?_) (a' := ?_) #[true, false, false, false, false, false, false, false, false, false, false, false, false, false, false, false] rfl rfl (any_of HT_.out (by kernel_rfl)) (fun _ _ _ h => h) (Or.inl ⟨by rfl, ?_⟩) ?_ ?_
  rotate_left
  · intro w'
    go_simp
    with_reducible rfl
  rotate_left
  · simp only [Act.put, List.setIfInBounds_toArray, List.set_cons_zero, List.set_cons_succ, i64_w, i32_w]
    rfl
  refine take_ (i := 1) (N := some 60) (v := ?_) (a' := ?_) #[true, true, false, false, false, false, false, false, false, false, false, false, false, false, false, false] rfl rfl (take_ofW HT_.out HW_.out (by kernel_rfl)) (fun _ _ _ h => h) (Or.inl ⟨by rfl, ?_⟩) hHeld ?_ ?_
  rotate_left
  · rintro w' ⟨s0, s1, s2, s3, s4, s5, s6, s7, s8, s9, s10, s11⟩
    go_simp
    with_reducible rfl
  rotate_left
  · simp only [Act.put, List.setIfInBounds_toArray, List.set_cons_zero, List.set_cons_succ, i64_w, i32_w]
    rfl
  refine pure_ (i := 2) (N := some 61) (v := ?_) (a' := ?_) #[true, true, true, false, false, false, false, false, false, false, false, false, false, false, false, false] rfl rfl (any_of HT_.out (by kernel_rfl)) (fun _ _ _ h => h) (Or.inl ⟨by rfl, ?_⟩) ?_ ?_
  rotate_left
  · intro w'
    go_simp
    with_reducible rfl
  rotate_left
  · simp only [Act.put, List.setIfInBounds_toArray, List.set_cons_zero, List.set_cons_succ, i64_w, i32_w]
    rfl
  refine pure_ (i := 3) (N := some 62) (v := ?_) (a' := ?_) #[true, true, true, true, false, false, false, false, false, false, false, false, false, false, false, false] rfl rfl (any_of HT_.out (by kernel_rfl)) (fun _ _ _ h => h) (Or.inl ⟨by rfl, ?_⟩) ?_ ?_
  rotate_left
  · intro w'
    go_simp
    with_reducible rfl
  rotate_left
  · simp only [Act.put, List.setIfInBounds_toArray, List.set_cons_zero, List.set_cons_succ, i64_w, i32_w]
    rfl
  refine pure_ (i := 4) (N := some 63) (v := ?_) (a' := ?_) #[true, true, true, true, true, false, false, false, false, false, false, false, false, false, false, false] rfl rfl (any_of HT_.out (by kernel_rfl)) (fun _ _ _ h => h) (Or.inl ⟨by rfl, ?_⟩) ?_ ?_
  rotate_left
  · intro w'
    go_simp
    with_reducible rfl
  rotate_left
  · simp only [Act.put, List.setIfInBounds_toArray, List.set_cons_zero, List.set_cons_succ, i64_w, i32_w]
    rfl
  refine take_ (i := 5) (N := some 64) (v := ?_) (a' := ?_) #[true, true, true, true, true, true, false, false, false, false, false, false, false, false, false, false] rfl rfl (take_ofW HT_.out HW_.out (by kernel_rfl)) (fun _ _ _ h => h) (Or.inl ⟨by rfl, ?_⟩) hHeld ?_ ?_
  rotate_left
  · rintro w' ⟨s0, s1, s2, s3, s4, s5, s6, s7, s8, s9, s10, s11⟩
    go_simp
    with_reducible rfl
  rotate_left
  · simp only [Act.put, List.setIfInBounds_toArray, List.set_cons_zero, List.set_cons_succ, i64_w, i32_w]
    rfl
  refine pure_ (i := 6) (N := some 65) (v := ?_) (a' := ?_) #[true, true, true, true, true, true, true, false, false, false, false, false, false, false, false, false] rfl rfl (any_of HT_.out (by kernel_rfl)) (fun _ _ _ h => h) (Or.inl ⟨by rfl, ?_⟩) ?_ ?_
  rotate_left
  · intro w'
    go_simp
    with_reducible rfl
  rotate_left
  · simp only [Act.put, List.setIfInBounds_toArray, List.set_cons_zero, List.set_cons_succ, i64_w, i32_w]
    rfl
  refine pure_ (i := 7) (N := some 66) (v := ?_) (a' := ?_) #[true, true, true, true, true, true, true, true, false, false, false, false, false, false, false, false] rfl rfl (any_of HT_.out (by kernel_rfl)) (fun _ _ _ h => h) (Or.inl ⟨by rfl, ?_⟩) ?_ ?_
  rotate_left
  · intro w'
    go_simp
    with_reducible rfl
  rotate_left
  · simp only [Act.put, List.setIfInBounds_toArray, List.set_cons_zero, List.set_cons_succ, i64_w, i32_w]
    rfl
  refine pure_ (i := 8) (N := some 67) (v := ?_) (a' := ?_) #[true, true, true, true, true, true, true, true, true, false, false, false, false, false, false, false] rfl rfl (any_of HT_.out (by kernel_rfl)) (fun _ _ _ h => h) (Or.inl ⟨by rfl, ?_⟩) ?_ ?_
  rotate_left
  · intro w'
    go_simp
    with_reducible rfl
  rotate_left
  · simp only [Act.put, List.setIfInBounds_toArray, List.set_cons_zero, List.set_cons_succ, i64_w, i32_w]
    rfl
  refine take_ (i := 9) (N := some 68) (v := ?_) (a' := ?_) #[true, true, true, true, true, true, true, true, true, true, false, false, false, false, false, false] rfl rfl (take_ofW HT_.out HW_.out (by kernel_rfl)) (fun _ _ _ h => h) (Or.inl ⟨by rfl, ?_⟩) hHeld ?_ ?_
  rotate_left
  · rintro w' ⟨s0, s1, s2, s3, s4, s5, s6, s7, s8, s9, s10, s11⟩
    go_simp
    with_reducible rfl
  rotate_left
  · simp only [Act.put, List.setIfInBounds_toArray, List.set_cons_zero, List.set_cons_succ, i64_w, i32_w]
    rfl
  refine pure_ (i := 10) (N := some 69) (v := ?_) (a' := ?_) #[true, true, true, true, true, true, true, true, true, true, true, false, false, false, false, false] rfl rfl (any_of HT_.out (by kernel_rfl)) (fun _ _ _ h => h) (Or.inl ⟨by rfl, ?_⟩) ?_ ?_
  rotate_left
  · intro w'
    go_simp
    with_reducible rfl
  rotate_left
  · simp only [Act.put, List.setIfInBounds_toArray, List.set_cons_zero, List.set_cons_succ, i64_w, i32_w]
    rfl
  refine pure_ (i := 11) (N := some 70) (v := ?_) (a' := ?_) #[true, true, true, true, true, true, true, true, true, true, true, true, false, false, false, false] rfl rfl (any_of HT_.out (by kernel_rfl)) (fun _ _ _ h => h) (Or.inl ⟨by rfl, ?_⟩) ?_ ?_
  rotate_left
  · intro w'
    go_simp
    with_reducible rfl
  rotate_left
  · simp only [Act.put, List.setIfInBounds_toArray, List.set_cons_zero, List.set_cons_succ, i64_w, i32_w]
    rfl
  refine pure_ (i := 12) (N := some 71) (v := ?_) (a' := ?_) #[true, true, true, true, true, true, true, true, true, true, true, true, true, false, false, false] rfl rfl (any_of HT_.out (by kernel_rfl)) (fun _ _ _ h => h) (Or.inl ⟨by rfl, ?_⟩) ?_ ?_
  rotate_left
  · intro w'
    go_simp
    with_reducible rfl
  rotate_left
  · simp only [Act.put, List.setIfInBounds_toArray, List.set_cons_zero, List.set_cons_succ, i64_w, i32_w]
    rfl
  refine take_ (i := 13) (N := some 72) (v := ?_) (a' := ?_) #[true, true, true, true, true, true, true, true, true, true, true, true, true, true, false, false] rfl rfl (take_ofW HT_.out HW_.out (by kernel_rfl)) (fun _ _ _ h => h) (Or.inl ⟨by rfl, ?_⟩) hHeld ?_ ?_
  rotate_left
  · rintro w' ⟨s0, s1, s2, s3, s4, s5, s6, s7, s8, s9, s10, s11⟩
    go_simp
    with_reducible rfl
  rotate_left
  · simp only [Act.put, List.setIfInBounds_toArray, List.set_cons_zero, List.set_cons_succ, i64_w, i32_w]
    rfl
  refine pure_ (i := 14) (N := some 73) (v := ?_) (a' := ?_) #[true, true, true, true, true, true, true, true, true, true, true, true, true, true, true, false] rfl rfl (any_of HT_.out (by kernel_rfl)) (fun _ _ _ h => h) (Or.inl ⟨by rfl, ?_⟩) ?_ ?_
  rotate_left
  · intro w'
    go_simp
    with_reducible rfl
  rotate_left
  · simp only [Act.put, List.setIfInBounds_toArray, List.set_cons_zero, List.set_cons_succ, i64_w, i32_w]
    rfl
  refine pure_ (i := 15) (N := some 74) (v := ?_) (a' := ?_) #[true, true, true, true, true, true, true, true, true, true, true, true, true, true, true, true] rfl rfl (any_of HT_.out (by kernel_rfl)) (fun _ _ _ h => h) (Or.inl ⟨by rfl, ?_⟩) ?_ ?_
  rotate_left
  · intro w'
    go_simp
    with_reducible rfl
  rotate_left
  · simp only [Act.put, List.setIfInBounds_toArray, List.set_cons_zero, List.set_cons_succ, i64_w, i32_w]
    rfl
  refine done_ (done_of HT_.out (by kernel_rfl)) ?_
  go_wp2
  go_ret
  exact ⟨rfl, XC.out.hb⟩
set_option maxHeartbeats 8000000 in
set_option maxRecDepth 100000 in
theorem cover_Begin.end_n (w0 : World) (g : Nat) (a h : Int) (R : S28) (left : Int) (r : S28) (A : Option Addr) (c : Nat) (w : World) (hb0 : Below w0.heap.size w0 w) (hC : CAt w w0.heap.size g a h R left false) (hr : Kd.C (Kd.int .i64) w0 A r.f3.length r.f3) (hc : r.f3.length ≤ c) (hl : decide (left > 0) = false) (hk : (r.f0 == 5) = false) (hk6 : (r.f0 == 6) = true) (h1 : (r.f1 != a) = true) : Calls Try.prog 28 #[.pointer (some ⟨g, 0, none⟩), .agg #[.int .i64 r.f0, .int .i64 r.f1, .int .i64 r.f2, .slice A r.f3.length c]] w fun e w' => e = .returned (.int .i64 19) ∧ Below w.heap.size w w' := by
  have hu := Try.underlying28
  obtain ⟨hg, v, hbk, hR⟩ := hC
  obtain ⟨A0, cp, rfl⟩ := Kd.R_slice hR
  have hlt : g < w.heap.size := blk_lt hbk
  have X0 : Aside0 (Cx (fun _ => False) w w [Row (Kd.int .i64) A r.f3, Blk g #[(.int .i64 a), (.int .i64 h), (.int .i64 R.f0), (.int .i64 R.f1), (.int .i64 R.f2), (.slice A0 R.f3.length cp), (.int .i64 left), (.bool false)] 73]) := ⟨((Cx.start _ w (fun _ h => h.elim)).blk hbk (fun h => h)).add (((((Cx.start (fun _ => False) w0 (fun _ h => h.elim)).came (Kd.heap_int _) hr).step hb0).footAt 0 rfl))⟩
  clear hbk hR hg hb0 hr
  go_enter Try.func28, Try.ntmps28
  go_upto_region 1 with fail
  have XC := Aside0.mk (X0.out.new #[.int .i64 r.f0, .int .i64 r.f1, .int .i64 r.f2, .slice A r.f3.length c] 28 (fun h => h))
  clear X0
  have hbg : g ≠ w.heap.size := by omega
  generalize w.alloc (Obj.cells #[.int .i64 r.f0, .int .i64 r.f1, .int .i64 r.f2, .slice A r.f3.length c] 28) = w1 at XC ⊢
  obtain ⟨⟨j0, j1, j2, j3, j4, j5, j6, j7⟩, y0, y1, y2, y3, y4, y5, y6, y7⟩ := cell8 (XC.out.get 2 rfl)
  obtain ⟨⟨b0, b1, b2, b3⟩, z0, z1, z2, z3⟩ := cell4_ (XC.out.get 0 rfl)
  go_upto_region 17 with fail
  refine start_ (n := 16) (S := (fun w' => w'.cell? ⟨g, 0, none⟩ = some (.int .i64 a) ∧ w'.cell? ⟨g, 1, none⟩ = some (.int .i64 h) ∧ w'.cell? ⟨g, 2, none⟩ = some (.int .i64 R.f0) ∧ w'.cell? ⟨g, 3, none⟩ = some (.int .i64 R.f1) ∧ w'.cell? ⟨g, 4, none⟩ = some (.int .i64 R.f2) ∧ w'.cell? ⟨g, 5, none⟩ = some (.slice A0 R.f3.length cp) ∧ w'.cell? ⟨g, 6, none⟩ = some (.int .i64 left) ∧ w'.cell? ⟨g, 7, none⟩ = some (.bool false) ∧ w'.cell? ⟨w.heap.size, 0, none⟩ = some (.int .i64 r.f0) ∧ w'.cell? ⟨w.heap.size, 1, none⟩ = some (.int .i64 r.f1) ∧ w'.cell? ⟨w.heap.size, 2, none⟩ = some (.int .i64 r.f2) ∧ w'.cell? ⟨w.heap.size, 3, none⟩ = some (.slice A r.f3.length c))) (ds := []) #[false, false, false, false, false, false, false, false, false, false, false, false, false, false, false, false] (by kernel_rfl) rfl rfl ⟨j0, j1, j2, j3, j4, j5, j6, j7, b0, b1, b2, b3⟩ (fun hHeld => ?_); refine with_tabW coverBegin17.tab coverBegin17.bits (fun HT_ HW_ => ?_)
  clear j0 j1 j2 j3 j4 j5 j6 j7 y0 y1 y2 y3 y4 y5 y6 y7
  clear b0 b1 b2 b3 z0 z1 z2 z3
  have XN := Aside0.mk XC.out.drew
  clear XC
  have XC := XN
  clear XN
  generalize w1.drew = w2 at XC hHeld ⊢
  obtain ⟨⟨j0, j1, j2, j3, j4, j5, j6, j7⟩, y0, y1, y2, y3, y4, y5, y6, y7⟩ := cell8 (XC.out.get 2 rfl)
  obtain ⟨⟨b0, b1, b2, b3⟩, z0, z1, z2, z3⟩ := cell4_ (XC.out.get 0 rfl)
  refine pure_ (i := 0) (N := some 77) (v := ?_) (a' := ?_) #[true, false, false, false, false, false, false, false, false, false, false, false, false, false, false, false] rfl rfl (any_of HT_.out (by kernel_rfl)) (fun _ _ _ h => h) (Or.inl ⟨by rfl, ?_⟩) ?_ ?_
  rotate_left
  · intro w'
    go_simp
    with_reducible rfl
  rotate_left
  · simp only [Act.put, List.setIfInBounds_toArray, List.set_cons_zero, List.set_cons_succ, i64_w, i32_w]
    rfl
  refine take_ (i := 1) (N := some 78) (v := ?_) (a' := ?_) #[true, true, false, false, false, false, false, false, false, false, false, false, false, false, false, false] rfl rfl (take_ofW HT_.out HW_.out (by kernel_rfl)) (fun _ _ _ h => h) (Or.inl ⟨by rfl, ?_⟩) hHeld ?_ ?_
  rotate_left
  · rintro w' ⟨s0, s1, s2, s3, s4, s5, s6, s7, s8, s9, s10, s11⟩
    go_simp
    with_reducible rfl
  rotate_left
  · simp only [Act.put, List.setIfInBounds_toArray, List.set_cons_zero, List.set_cons_succ, i64_w, i32_w]
    rfl
  refine pure_ (i := 2) (N := some 79) (v := ?_) (a' := ?_) #[true, true, true, false, false, false, false, false, false, false, false, false, false, false, false, false] rfl rfl (any_of HT_.out (by kernel_rfl)) (fun _ _ _ h => h) (Or.inl ⟨by rfl, ?_⟩) ?_ ?_
  rotate_left
  · intro w'
    go_simp
    with_reducible rfl
  rotate_left
  · simp only [Act.put, List.setIfInBounds_toArray, List.set_cons_zero, List.set_cons_succ, i64_w, i32_w]
    rfl
  refine pure_ (i := 3) (N := some 80) (v := ?_) (a' := ?_) #[true, true, true, true, false, false, false, false, false, false, false, false, false, false, false, false] rfl rfl (any_of HT_.out (by kernel_rfl)) (fun _ _ _ h => h) (Or.inl ⟨by rfl, ?_⟩) ?_ ?_
  rotate_left
  · intro w'
    go_simp
    with_reducible rfl
  rotate_left
  · simp only [Act.put, List.setIfInBounds_toArray, List.set_cons_zero, List.set_cons_succ, i64_w, i32_w]
    rfl
  refine pure_ (i := 4) (N := some 81) (v := ?_) (a' := ?_) #[true, true, true, true, true, false, false, false, false, false, false, false, false, false, false, false] rfl rfl (any_of HT_.out (by kernel_rfl)) (fun _ _ _ h => h) (Or.inl ⟨by rfl, ?_⟩) ?_ ?_
  rotate_left
  · intro w'
    go_simp
    with_reducible rfl
  rotate_left
  · simp only [Act.put, List.setIfInBounds_toArray, List.set_cons_zero, List.set_cons_succ, i64_w, i32_w]
    rfl
  refine take_ (i := 5) (N := some 82) (v := ?_) (a' := ?_) #[true, true, true, true, true, true, false, false, false, false, false, false, false, false, false, false] rfl rfl (take_ofW HT_.out HW_.out (by kernel_rfl)) (fun _ _ _ h => h) (Or.inl ⟨by rfl, ?_⟩) hHeld ?_ ?_
  rotate_left
  · rintro w' ⟨s0, s1, s2, s3, s4, s5, s6, s7, s8, s9, s10, s11⟩
    go_simp
    with_reducible rfl
  rotate_left
  · simp only [Act.put, List.setIfInBounds_toArray, List.set_cons_zero, List.set_cons_succ, i64_w, i32_w]
    rfl
  refine pure_ (i := 6) (N := some 83) (v := ?_) (a' := ?_) #[true, true, true, true, true, true, true, false, false, false, false, false, false, false, false, false] rfl rfl (any_of HT_.out (by kernel_rfl)) (fun _ _ _ h => h) (Or.inl ⟨by rfl, ?_⟩) ?_ ?_
  rotate_left
  · intro w'
    go_simp
    with_reducible rfl
  rotate_left
  · simp only [Act.put, List.setIfInBounds_toArray, List.set_cons_zero, List.set_cons_succ, i64_w, i32_w]
    rfl
  refine pure_ (i := 7) (N := some 84) (v := ?_) (a' := ?_) #[true, true, true, true, true, true, true, true, false, false, false, false, false, false, false, false] rfl rfl (any_of HT_.out (by kernel_rfl)) (fun _ _ _ h => h) (Or.inl ⟨by rfl, ?_⟩) ?_ ?_
  rotate_left
  · intro w'
    go_simp
    with_reducible rfl
  rotate_left
  · simp only [Act.put, List.setIfInBounds_toArray, List.set_cons_zero, List.set_cons_succ, i64_w, i32_w]
    rfl
  refine pure_ (i := 8) (N := some 85) (v := undef) (a' := ?_) #[true, true, true, true, true, true, true, true, true, false, false, false, false, false, false, false] rfl rfl (any_of HT_.out (by kernel_rfl)) (fun _ _ _ h => h) (Or.inr ⟨by rfl, rfl⟩) ?_ ?_
  rotate_left
  · simp only [Act.put, List.setIfInBounds_toArray, List.set_cons_zero, List.set_cons_succ, i64_w, i32_w]
    rfl
  refine pure_ (i := 9) (N := some 86) (v := undef) (a' := ?_) #[true, true, true, true, true, true, true, true, true, true, false, false, false, false, false, false] rfl rfl (any_of HT_.out (by kernel_rfl)) (fun _ _ _ h => h) (Or.inr ⟨by rfl, rfl⟩) ?_ ?_
  rotate_left
  · simp only [Act.put, List.setIfInBounds_toArray, List.set_cons_zero, List.set_cons_succ, i64_w, i32_w]
    rfl
  refine pure_ (i := 10) (N := some 87) (v := undef) (a' := ?_) #[true, true, true, true, true, true, true, true, true, true, true, false, false, false, false, false] rfl rfl (any_of HT_.out (by kernel_rfl)) (fun _ _ _ h => h) (Or.inr ⟨by rfl, rfl⟩) ?_ ?_
  rotate_left
  · simp only [Act.put, List.setIfInBounds_toArray, List.set_cons_zero, List.set_cons_succ, i64_w, i32_w]
    rfl
  refine pure_ (i := 11) (N := some 88) (v := undef) (a' := ?_) #[true, true, true, true, true, true, true, true, true, true, true, true, false, false, false, false] rfl rfl (any_of HT_.out (by kernel_rfl)) (fun _ _ _ h => h) (Or.inr ⟨by rfl, rfl⟩) ?_ ?_
  rotate_left
  · simp only [Act.put, List.setIfInBounds_toArray, List.set_cons_zero, List.set_cons_succ, i64_w, i32_w]
    rfl
  refine pure_ (i := 12) (N := some 89) (v := undef) (a' := ?_) #[true, true, true, true, true, true, true, true, true, true, true, true, true, false, false, false] rfl rfl (any_of HT_.out (by kernel_rfl)) (fun _ _ _ h => h) (Or.inr ⟨by rfl, rfl⟩) ?_ ?_
  rotate_left
  · simp only [Act.put, List.setIfInBounds_toArray, List.set_cons_zero, List.set_cons_succ, i64_w, i32_w]
    rfl
  refine pure_ (i := 13) (N := some 90) (v := undef) (a' := ?_) #[true, true, true, true, true, true, true, true, true, true, true, true, true, true, false, false] rfl rfl (any_of HT_.out (by kernel_rfl)) (fun _ _ _ h => h) (Or.inr ⟨by rfl, rfl⟩) ?_ ?_
  rotate_left
  · simp only [Act.put, List.setIfInBounds_toArray, List.set_cons_zero, List.set_cons_succ, i64_w, i32_w]
    rfl
  refine pure_ (i := 14) (N := some 91) (v := undef) (a' := ?_) #[true, true, true, true, true, true, true, true, true, true, true, true, true, true, true, false] rfl rfl (any_of HT_.out (by kernel_rfl)) (fun _ _ _ h => h) (Or.inr ⟨by rfl, rfl⟩) ?_ ?_
  rotate_left
  · simp only [Act.put, List.setIfInBounds_toArray, List.set_cons_zero, List.set_cons_succ, i64_w, i32_w]
    rfl
  refine pure_ (i := 15) (N := some 92) (v := ?_) (a' := ?_) #[true, true, true, true, true, true, true, true, true, true, true, true, true, true, true, true] rfl rfl (any_of HT_.out (by kernel_rfl)) (fun _ _ _ h => h) (Or.inl ⟨by rfl, ?_⟩) ?_ ?_
  rotate_left
  · intro w'
    go_simp
    with_reducible rfl
  rotate_left
  · simp only [Act.put, List.setIfInBounds_toArray, List.set_cons_zero, List.set_cons_succ, i64_w, i32_w]
    rfl
  refine done_ (done_of HT_.out (by kernel_rfl)) ?_
  go_wp2
  go_ret
  exact ⟨rfl, XC.out.hb⟩
set_option maxHeartbeats 8000000 in
set_option maxRecDepth 100000 in
theorem cover_Begin.end_h (w0 : World) (g : Nat) (a h : Int) (R : S28) (left : Int) (r : S28) (A : Option Addr) (c : Nat) (w : World) (hb0 : Below w0.heap.size w0 w) (hC : CAt w w0.heap.size g a h R left false) (hr : Kd.C (Kd.int .i64) w0 A r.f3.length r.f3) (hc : r.f3.length ≤ c) (hl : decide (left > 0) = false) (hk : (r.f0 == 5) = false) (hk6 : (r.f0 == 6) = true) (h1 : (r.f1 != a) = false) (h2 : (r.f2 != h) = true) : Calls Try.prog 28 #[.pointer (some ⟨g, 0, none⟩), .agg #[.int .i64 r.f0, .int .i64 r.f1, .int .i64 r.f2, .slice A r.f3.length c]] w fun e w' => e = .returned (.int .i64 19) ∧ Below w.heap.size w w' := by
  have hu := Try.underlying28
  obtain ⟨hg, v, hbk, hR⟩ := hC
  obtain ⟨A0, cp, rfl⟩ := Kd.R_slice hR
  have hlt : g < w.heap.size := blk_lt hbk
  have X0 : Aside0 (Cx (fun _ => False) w w [Row (Kd.int .i64) A r.f3, Blk g #[(.int .i64 a), (.int .i64 h), (.int .i64 R.f0), (.int .i64 R.f1), (.int .i64 R.f2), (.slice A0 R.f3.length cp), (.int .i64 left), (.bool false)] 73]) := ⟨((Cx.start _ w (fun _ h => h.elim)).blk hbk (fun h => h)).add (((((Cx.start (fun _ => False) w0 (fun _ h => h.elim)).came (Kd.heap_int _) hr).step hb0).footAt 0 rfl))⟩
  clear hbk hR hg hb0 hr
  go_enter Try.func28, Try.ntmps28
  go_upto_region 1 with fail
  have XC := Aside0.mk (X0.out.new #[.int .i64 r.f0, .int .i64 r.f1, .int .i64 r.f2, .slice A r.f3.length c] 28 (fun h => h))
  clear X0
  have hbg : g ≠ w.heap.size := by omega
  generalize w.alloc (Obj.cells #[.int .i64 r.f0, .int .i64 r.f1, .int .i64 r.f2, .slice A r.f3.length c] 28) = w1 at XC ⊢
  obtain ⟨⟨j0, j1, j2, j3, j4, j5, j6, j7⟩, y0, y1, y2, y3, y4, y5, y6, y7⟩ := cell8 (XC.out.get 2 rfl)
  obtain ⟨⟨b0, b1, b2, b3⟩, z0, z1, z2, z3⟩ := cell4_ (XC.out.get 0 rfl)
  go_upto_region 17 with fail
  refine start_ (n := 16) (S := (fun w' => w'.cell? ⟨g, 0, none⟩ = some (.int .i64 a) ∧ w'.cell? ⟨g, 1, none⟩ = some (.int .i64 h) ∧ w'.cell? ⟨g, 2, none⟩ = some (.int .i64 R.f0) ∧ w'.cell? ⟨g, 3, none⟩ = some (.int .i64 R.f1) ∧ w'.cell? ⟨g, 4, none⟩ = some (.int .i64 R.f2) ∧ w'.cell? ⟨g, 5, none⟩ = some (.slice A0 R.f3.length cp) ∧ w'.cell? ⟨g, 6, none⟩ = some (.int .i64 left) ∧ w'.cell? ⟨g, 7, none⟩ = some (.bool false) ∧ w'.cell? ⟨w.heap.size, 0, none⟩ = some (.int .i64 r.f0) ∧ w'.cell? ⟨w.heap.size, 1, none⟩ = some (.int .i64 r.f1) ∧ w'.cell? ⟨w.heap.size, 2, none⟩ = some (.int .i64 r.f2) ∧ w'.cell? ⟨w.heap.size, 3, none⟩ = some (.slice A r.f3.length c))) (ds := []) #[false, false, false, false, false, false, false, false, false, false, false, false, false, false, false, false] (by kernel_rfl) rfl rfl ⟨j0, j1, j2, j3, j4, j5, j6, j7, b0, b1, b2, b3⟩ (fun hHeld => ?_); refine with_tabW coverBegin17.tab coverBegin17.bits (fun HT_ HW_ => ?_)
  clear j0 j1 j2 j3 j4 j5 j6 j7 y0 y1 y2 y3 y4 y5 y6 y7
  clear b0 b1 b2 b3 z0 z1 z2 z3
  have XN := Aside0.mk XC.out.drew
  clear XC
  have XC := XN
  clear XN
  generalize w1.drew = w2 at XC hHeld ⊢
  obtain ⟨⟨j0, j1, j2, j3, j4, j5, j6, j7⟩, y0, y1, y2, y3, y4, y5, y6, y7⟩ := cell8 (XC.out.get 2 rfl)
  obtain ⟨⟨b0, b1, b2, b3⟩, z0, z1, z2, z3⟩ := cell4_ (XC.out.get 0 rfl)
  refine pure_ (i := 0) (N := some 77) (v := ?_) (a' := ?_) #[true, false, false, false, false, false, false, false, false, false, false, false, false, false, false, false] rfl rfl (any_of HT_.out (by kernel_rfl)) (fun _ _ _ h => h) (Or.inl ⟨by rfl, ?_⟩) ?_ ?_
  rotate_left
  · intro w'
    go_simp
    with_reducible rfl
  rotate_left
  · simp only [Act.put, List.setIfInBounds_toArray, List.set_cons_zero, List.set_cons_succ, i64_w, i32_w]
    rfl
  refine take_ (i := 1) (N := some 78) (v := ?_) (a' := ?_) #[true, true, false, false, false, false, false, false, false, false, false, false, false, false, false, false] rfl rfl (take_ofW HT_.out HW_.out (by kernel_rfl)) (fun _ _ _ h => h) (Or.inl ⟨by rfl, ?_⟩) hHeld ?_ ?_
  rotate_left
  · rintro w' ⟨s0, s1, s2, s3, s4, s5, s6, s7, s8, s9, s10, s11⟩
    go_simp
    with_reducible rfl
  rotate_left
  · simp only [Act.put, List.setIfInBounds_toArray, List.set_cons_zero, List.set_cons_succ, i64_w, i32_w]
    rfl
  refine pure_ (i := 2) (N := some 79) (v := ?_) (a' := ?_) #[true, true, true, false, false, false, false, false, false, false, false, false, false, false, false, false] rfl rfl (any_of HT_.out (by kernel_rfl)) (fun _ _ _ h => h) (Or.inl ⟨by rfl, ?_⟩) ?_ ?_
  rotate_left
  · intro w'
    go_simp
    with_reducible rfl
  rotate_left
  · simp only [Act.put, List.setIfInBounds_toArray, List.set_cons_zero, List.set_cons_succ, i64_w, i32_w]
    rfl
  refine pure_ (i := 3) (N := some 80) (v := ?_) (a' := ?_) #[true, true, true, true, false, false, false, false, false, false, false, false, false, false, false, false] rfl rfl (any_of HT_.out (by kernel_rfl)) (fun _ _ _ h => h) (Or.inl ⟨by rfl, ?_⟩) ?_ ?_
  rotate_left
  · intro w'
    go_simp
    with_reducible rfl
  rotate_left
  · simp only [Act.put, List.setIfInBounds_toArray, List.set_cons_zero, List.set_cons_succ, i64_w, i32_w]
    rfl
  refine pure_ (i := 4) (N := some 81) (v := ?_) (a' := ?_) #[true, true, true, true, true, false, false, false, false, false, false, false, false, false, false, false] rfl rfl (any_of HT_.out (by kernel_rfl)) (fun _ _ _ h => h) (Or.inl ⟨by rfl, ?_⟩) ?_ ?_
  rotate_left
  · intro w'
    go_simp
    with_reducible rfl
  rotate_left
  · simp only [Act.put, List.setIfInBounds_toArray, List.set_cons_zero, List.set_cons_succ, i64_w, i32_w]
    rfl
  refine take_ (i := 5) (N := some 82) (v := ?_) (a' := ?_) #[true, true, true, true, true, true, false, false, false, false, false, false, false, false, false, false] rfl rfl (take_ofW HT_.out HW_.out (by kernel_rfl)) (fun _ _ _ h => h) (Or.inl ⟨by rfl, ?_⟩) hHeld ?_ ?_
  rotate_left
  · rintro w' ⟨s0, s1, s2, s3, s4, s5, s6, s7, s8, s9, s10, s11⟩
    go_simp
    with_reducible rfl
  rotate_left
  · simp only [Act.put, List.setIfInBounds_toArray, List.set_cons_zero, List.set_cons_succ, i64_w, i32_w]
    rfl
  refine pure_ (i := 6) (N := some 83) (v := ?_) (a' := ?_) #[true, true, true, true, true, true, true, false, false, false, false, false, false, false, false, false] rfl rfl (any_of HT_.out (by kernel_rfl)) (fun _ _ _ h => h) (Or.inl ⟨by rfl, ?_⟩) ?_ ?_
  rotate_left
  · intro w'
    go_simp
    with_reducible rfl
  rotate_left
  · simp only [Act.put, List.setIfInBounds_toArray, List.set_cons_zero, List.set_cons_succ, i64_w, i32_w]
    rfl
  refine pure_ (i := 7) (N := some 84) (v := ?_) (a' := ?_) #[true, true, true, true, true, true, true, true, false, false, false, false, false, false, false, false] rfl rfl (any_of HT_.out (by kernel_rfl)) (fun _ _ _ h => h) (Or.inl ⟨by rfl, ?_⟩) ?_ ?_
  rotate_left
  · intro w'
    go_simp
    with_reducible rfl
  rotate_left
  · simp only [Act.put, List.setIfInBounds_toArray, List.set_cons_zero, List.set_cons_succ, i64_w, i32_w]
    rfl
  refine pure_ (i := 8) (N := some 85) (v := ?_) (a' := ?_) #[true, true, true, true, true, true, true, true, true, false, false, false, false, false, false, false] rfl rfl (any_of HT_.out (by kernel_rfl)) (fun _ _ _ h => h) (Or.inl ⟨by rfl, ?_⟩) ?_ ?_
  rotate_left
  · intro w'
    go_simp
    with_reducible rfl
  rotate_left
  · simp only [Act.put, List.setIfInBounds_toArray, List.set_cons_zero, List.set_cons_succ, i64_w, i32_w]
    rfl
  refine take_ (i := 9) (N := some 86) (v := ?_) (a' := ?_) #[true, true, true, true, true, true, true, true, true, true, false, false, false, false, false, false] rfl rfl (take_ofW HT_.out HW_.out (by kernel_rfl)) (fun _ _ _ h => h) (Or.inl ⟨by rfl, ?_⟩) hHeld ?_ ?_
  rotate_left
  · rintro w' ⟨s0, s1, s2, s3, s4, s5, s6, s7, s8, s9, s10, s11⟩
    go_simp
    with_reducible rfl
  rotate_left
  · simp only [Act.put, List.setIfInBounds_toArray, List.set_cons_zero, List.set_cons_succ, i64_w, i32_w]
    rfl
  refine pure_ (i := 10) (N := some 87) (v := ?_) (a' := ?_) #[true, true, true, true, true, true, true, true, true, true, true, false, false, false, false, false] rfl rfl (any_of HT_.out (by kernel_rfl)) (fun _ _ _ h => h) (Or.inl ⟨by rfl, ?_⟩) ?_ ?_
  rotate_left
  · intro w'
    go_simp
    with_reducible rfl
  rotate_left
  · simp only [Act.put, List.setIfInBounds_toArray, List.set_cons_zero, List.set_cons_succ, i64_w, i32_w]
    rfl
  refine pure_ (i := 11) (N := some 88) (v := ?_) (a' := ?_) #[true, true, true, true, true, true, true, true, true, true, true, true, false, false, false, false] rfl rfl (any_of HT_.out (by kernel_rfl)) (fun _ _ _ h => h) (Or.inl ⟨by rfl, ?_⟩) ?_ ?_
  rotate_left
  · intro w'
    go_simp
    with_reducible rfl
  rotate_left
  · simp only [Act.put, List.setIfInBounds_toArray, List.set_cons_zero, List.set_cons_succ, i64_w, i32_w]
    rfl
  refine pure_ (i := 12) (N := some 89) (v := ?_) (a' := ?_) #[true, true, true, true, true, true, true, true, true, true, true, true, true, false, false, false] rfl rfl (any_of HT_.out (by kernel_rfl)) (fun _ _ _ h => h) (Or.inl ⟨by rfl, ?_⟩) ?_ ?_
  rotate_left
  · intro w'
    go_simp
    with_reducible rfl
  rotate_left
  · simp only [Act.put, List.setIfInBounds_toArray, List.set_cons_zero, List.set_cons_succ, i64_w, i32_w]
    rfl
  refine take_ (i := 13) (N := some 90) (v := ?_) (a' := ?_) #[true, true, true, true, true, true, true, true, true, true, true, true, true, true, false, false] rfl rfl (take_ofW HT_.out HW_.out (by kernel_rfl)) (fun _ _ _ h => h) (Or.inl ⟨by rfl, ?_⟩) hHeld ?_ ?_
  rotate_left
  · rintro w' ⟨s0, s1, s2, s3, s4, s5, s6, s7, s8, s9, s10, s11⟩
    go_simp
    with_reducible rfl
  rotate_left
  · simp only [Act.put, List.setIfInBounds_toArray, List.set_cons_zero, List.set_cons_succ, i64_w, i32_w]
    rfl
  refine pure_ (i := 14) (N := some 91) (v := ?_) (a' := ?_) #[true, true, true, true, true, true, true, true, true, true, true, true, true, true, true, false] rfl rfl (any_of HT_.out (by kernel_rfl)) (fun _ _ _ h => h) (Or.inl ⟨by rfl, ?_⟩) ?_ ?_
  rotate_left
  · intro w'
    go_simp
    with_reducible rfl
  rotate_left
  · simp only [Act.put, List.setIfInBounds_toArray, List.set_cons_zero, List.set_cons_succ, i64_w, i32_w]
    rfl
  refine pure_ (i := 15) (N := some 92) (v := ?_) (a' := ?_) #[true, true, true, true, true, true, true, true, true, true, true, true, true, true, true, true] rfl rfl (any_of HT_.out (by kernel_rfl)) (fun _ _ _ h => h) (Or.inl ⟨by rfl, ?_⟩) ?_ ?_
  rotate_left
  · intro w'
    go_simp
    with_reducible rfl
  rotate_left
  · simp only [Act.put, List.setIfInBounds_toArray, List.set_cons_zero, List.set_cons_succ, i64_w, i32_w]
    rfl
  refine done_ (done_of HT_.out (by kernel_rfl)) ?_
  go_wp2
  go_ret
  exact ⟨rfl, XC.out.hb⟩
set_option maxHeartbeats 8000000 in
set_option maxRecDepth 100000 in
theorem cover_Begin.end_ok (w0 : World) (g : Nat) (a h : Int) (R : S28) (left : Int) (r : S28) (A : Option Addr) (c : Nat) (w : World) (hb0 : Below w0.heap.size w0 w) (hC : CAt w w0.heap.size g a h R left false) (hr : Kd.C (Kd.int .i64) w0 A r.f3.length r.f3) (hc : r.f3.length ≤ c) (hl : decide (left > 0) = false) (hk : (r.f0 == 5) = false) (hk6 : (r.f0 == 6) = true) (h1 : (r.f1 != a) = false) (h2 : (r.f2 != h) = false) : Calls Try.prog 28 #[.pointer (some ⟨g, 0, none⟩), .agg #[.int .i64 r.f0, .int .i64 r.f1, .int .i64 r.f2, .slice A r.f3.length c]] w fun e w' => e = .returned (.int .i64 0) ∧ CAt w' w0.heap.size g a h R left true ∧ KeepBut w w' g none ∧ Below w0.heap.size w0 w' := by
  have hu := Try.underlying28
  obtain ⟨hg, v, hbk, hR⟩ := hC
  obtain ⟨A0, cp, rfl⟩ := Kd.R_slice hR
  have hlt : g < w.heap.size := blk_lt hbk
  have X0 : Aside0 (Cx (fun _ => False) w w [Row (Kd.int .i64) A r.f3, Blk g #[(.int .i64 a), (.int .i64 h), (.int .i64 R.f0), (.int .i64 R.f1), (.int .i64 R.f2), (.slice A0 R.f3.length cp), (.int .i64 left), (.bool false)] 73]) := ⟨((Cx.start _ w (fun _ h => h.elim)).blk hbk (fun h => h)).add (((((Cx.start (fun _ => False) w0 (fun _ h => h.elim)).came (Kd.heap_int _) hr).step hb0).footAt 0 rfl))⟩
  have HBK := Aside0.mk hbk
  have HR := Aside0.mk hR
  have HG := Aside0.mk hg
  have HB0 := Aside0.mk hb0
  clear hbk hR hg hb0 hr
  go_enter Try.func28, Try.ntmps28
  go_upto_region 1 with fail
  have XC := Aside0.mk (X0.out.new #[.int .i64 r.f0, .int .i64 r.f1, .int .i64 r.f2, .slice A r.f3.length c] 28 (fun h => h))
  clear X0
  have hbg : g ≠ w.heap.size := by omega
  generalize w.alloc (Obj.cells #[.int .i64 r.f0, .int .i64 r.f1, .int .i64 r.f2, .slice A r.f3.length c] 28) = w1 at XC ⊢
  obtain ⟨⟨j0, j1, j2, j3, j4, j5, j6, j7⟩, y0, y1, y2, y3, y4, y5, y6, y7⟩ := cell8 (XC.out.get 2 rfl)
  obtain ⟨⟨b0, b1, b2, b3⟩, z0, z1, z2, z3⟩ := cell4_ (XC.out.get 0 rfl)
  go_upto_region 17 with fail
  refine start_ (n := 16) (S := (fun w' => w'.cell? ⟨g, 0, none⟩ = some (.int .i64 a) ∧ w'.cell? ⟨g, 1, none⟩ = some (.int .i64 h) ∧ w'.cell? ⟨g, 2, none⟩ = some (.int .i64 R.f0) ∧ w'.cell? ⟨g, 3, none⟩ = some (.int .i64 R.f1) ∧ w'.cell? ⟨g, 4, none⟩ = some (.int .i64 R.f2) ∧ w'.cell? ⟨g, 5, none⟩ = some (.slice A0 R.f3.length cp) ∧ w'.cell? ⟨g, 6, none⟩ = some (.int .i64 left) ∧ w'.cell? ⟨g, 7, none⟩ = some (.bool false) ∧ w'.cell? ⟨w.heap.size, 0, none⟩ = some (.int .i64 r.f0) ∧ w'.cell? ⟨w.heap.size, 1, none⟩ = some (.int .i64 r.f1) ∧ w'.cell? ⟨w.heap.size, 2, none⟩ = some (.int .i64 r.f2) ∧ w'.cell? ⟨w.heap.size, 3, none⟩ = some (.slice A r.f3.length c))) (ds := []) #[false, false, false, false, false, false, false, false, false, false, false, false, false, false, false, false] (by kernel_rfl) rfl rfl ⟨j0, j1, j2, j3, j4, j5, j6, j7, b0, b1, b2, b3⟩ (fun hHeld => ?_); refine with_tabW coverBegin17.tab coverBegin17.bits (fun HT_ HW_ => ?_)
  clear j0 j1 j2 j3 j4 j5 j6 j7 y0 y1 y2 y3 y4 y5 y6 y7
  clear b0 b1 b2 b3 z0 z1 z2 z3
  have XN := Aside0.mk XC.out.drew
  clear XC
  have XC := XN
  clear XN
  generalize w1.drew = w2 at XC hHeld ⊢
  obtain ⟨⟨j0, j1, j2, j3, j4, j5, j6, j7⟩, y0, y1, y2, y3, y4, y5, y6, y7⟩ := cell8 (XC.out.get 2 rfl)
  obtain ⟨⟨b0, b1, b2, b3⟩, z0, z1, z2, z3⟩ := cell4_ (XC.out.get 0 rfl)
  refine pure_ (i := 0) (N := some 77) (v := ?_) (a' := ?_) #[true, false, false, false, false, false, false, false, false, false, false, false, false, false, false, false] rfl rfl (any_of HT_.out (by kernel_rfl)) (fun _ _ _ h => h) (Or.inl ⟨by rfl, ?_⟩) ?_ ?_
  rotate_left
  · intro w'
    go_simp
    with_reducible rfl
  rotate_left
  · simp only [Act.put, List.setIfInBounds_toArray, List.set_cons_zero, List.set_cons_succ, i64_w, i32_w]
    rfl
  refine take_ (i := 1) (N := some 78) (v := ?_) (a' := ?_) #[true, true, false, false, false, false, false, false, false, false, false, false, false, false, false, false] rfl rfl (take_ofW HT_.out HW_.out (by kernel_rfl)) (fun _ _ _ h => h) (Or.inl ⟨by rfl, ?_⟩) hHeld ?_ ?_
  rotate_left
  · rintro w' ⟨s0, s1, s2, s3, s4, s5, s6, s7, s8, s9, s10, s11⟩
    go_simp
    with_reducible rfl
  rotate_left
  · simp only [Act.put, List.setIfInBounds_toArray, List.set_cons_zero, List.set_cons_succ, i64_w, i32_w]
    rfl
  refine pure_ (i := 2) (N := some 79) (v := ?_) (a' := ?_) #[true, true, true, false, false, false, false, false, false, false, false, false, false, false, false, false] rfl rfl (any_of HT_.out (by kernel_rfl)) (fun _ _ _ h => h) (Or.inl ⟨by rfl, ?_⟩) ?_ ?_
  rotate_left
  · intro w'
    go_simp
    with_reducible rfl
  rotate_left
  · simp only [Act.put, List.setIfInBounds_toArray, List.set_cons_zero, List.set_cons_succ, i64_w, i32_w]
    rfl
  refine pure_ (i := 3) (N := some 80) (v := ?_) (a' := ?_) #[true, true, true, true, false, false, false, false, false, false, false, false, false, false, false, false] rfl rfl (any_of HT_.out (by kernel_rfl)) (fun _ _ _ h => h) (Or.inl ⟨by rfl, ?_⟩) ?_ ?_
  rotate_left
  · intro w'
    go_simp
    with_reducible rfl
  rotate_left
  · simp only [Act.put, List.setIfInBounds_toArray, List.set_cons_zero, List.set_cons_succ, i64_w, i32_w]
    rfl
  refine pure_ (i := 4) (N := some 81) (v := ?_) (a' := ?_) #[true, true, true, true, true, false, false, false, false, false, false, false, false, false, false, false] rfl rfl (any_of HT_.out (by kernel_rfl)) (fun _ _ _ h => h) (Or.inl ⟨by rfl, ?_⟩) ?_ ?_
  rotate_left
  · intro w'
    go_simp
    with_reducible rfl
  rotate_left
  · simp only [Act.put, List.setIfInBounds_toArray, List.set_cons_zero, List.set_cons_succ, i64_w, i32_w]
    rfl
  refine take_ (i := 5) (N := some 82) (v := ?_) (a' := ?_) #[true, true, true, true, true, true, false, false, false, false, false, false, false, false, false, false] rfl rfl (take_ofW HT_.out HW_.out (by kernel_rfl)) (fun _ _ _ h => h) (Or.inl ⟨by rfl, ?_⟩) hHeld ?_ ?_
  rotate_left
  · rintro w' ⟨s0, s1, s2, s3, s4, s5, s6, s7, s8, s9, s10, s11⟩
    go_simp
    with_reducible rfl
  rotate_left
  · simp only [Act.put, List.setIfInBounds_toArray, List.set_cons_zero, List.set_cons_succ, i64_w, i32_w]
    rfl
  refine pure_ (i := 6) (N := some 83) (v := ?_) (a' := ?_) #[true, true, true, true, true, true, true, false, false, false, false, false, false, false, false, false] rfl rfl (any_of HT_.out (by kernel_rfl)) (fun _ _ _ h => h) (Or.inl ⟨by rfl, ?_⟩) ?_ ?_
  rotate_left
  · intro w'
    go_simp
    with_reducible rfl
  rotate_left
  · simp only [Act.put, List.setIfInBounds_toArray, List.set_cons_zero, List.set_cons_succ, i64_w, i32_w]
    rfl
  refine pure_ (i := 7) (N := some 84) (v := ?_) (a' := ?_) #[true, true, true, true, true, true, true, true, false, false, false, false, false, false, false, false] rfl rfl (any_of HT_.out (by kernel_rfl)) (fun _ _ _ h => h) (Or.inl ⟨by rfl, ?_⟩) ?_ ?_
  rotate_left
  · intro w'
    go_simp
    with_reducible rfl
  rotate_left
  · simp only [Act.put, List.setIfInBounds_toArray, List.set_cons_zero, List.set_cons_succ, i64_w, i32_w]
    rfl
  refine pure_ (i := 8) (N := some 85) (v := ?_) (a' := ?_) #[true, true, true, true, true, true, true, true, true, false, false, false, false, false, false, false] rfl rfl (any_of HT_.out (by kernel_rfl)) (fun _ _ _ h => h) (Or.inl ⟨by rfl, ?_⟩) ?_ ?_
  rotate_left
  · intro w'
    go_simp
    with_reducible rfl
  rotate_left
  · simp only [Act.put, List.setIfInBounds_toArray, List.set_cons_zero, List.set_cons_succ, i64_w, i32_w]
    rfl
  refine take_ (i := 9) (N := some 86) (v := ?_) (a' := ?_) #[true, true, true, true, true, true, true, true, true, true, false, false, false, false, false, false] rfl rfl (take_ofW HT_.out HW_.out (by kernel_rfl)) (fun _ _ _ h => h) (Or.inl ⟨by rfl, ?_⟩) hHeld ?_ ?_
  rotate_left
  · rintro w' ⟨s0, s1, s2, s3, s4, s5, s6, s7, s8, s9, s10, s11⟩
    go_simp
    with_reducible rfl
  rotate_left
  · simp only [Act.put, List.setIfInBounds_toArray, List.set_cons_zero, List.set_cons_succ, i64_w, i32_w]
    rfl
  refine pure_ (i := 10) (N := some 87) (v := ?_) (a' := ?_) #[true, true, true, true, true, true, true, true, true, true, true, false, false, false, false, false] rfl rfl (any_of HT_.out (by kernel_rfl)) (fun _ _ _ h => h) (Or.inl ⟨by rfl, ?_⟩) ?_ ?_
  rotate_left
  · intro w'
    go_simp
    with_reducible rfl
  rotate_left
  · simp only [Act.put, List.setIfInBounds_toArray, List.set_cons_zero, List.set_cons_succ, i64_w, i32_w]
    rfl
  refine pure_ (i := 11) (N := some 88) (v := ?_) (a' := ?_) #[true, true, true, true, true, true, true, true, true, true, true, true, false, false, false, false] rfl rfl (any_of HT_.out (by kernel_rfl)) (fun _ _ _ h => h) (Or.inl ⟨by rfl, ?_⟩) ?_ ?_
  rotate_left
  · intro w'
    go_simp
    with_reducible rfl
  rotate_left
  · simp only [Act.put, List.setIfInBounds_toArray, List.set_cons_zero, List.set_cons_succ, i64_w, i32_w]
    rfl
  refine pure_ (i := 12) (N := some 89) (v := ?_) (a' := ?_) #[true, true, true, true, true, true, true, true, true, true, true, true, true, false, false, false] rfl rfl (any_of HT_.out (by kernel_rfl)) (fun _ _ _ h => h) (Or.inl ⟨by rfl, ?_⟩) ?_ ?_
  rotate_left
  · intro w'
    go_simp
    with_reducible rfl
  rotate_left
  · simp only [Act.put, List.setIfInBounds_toArray, List.set_cons_zero, List.set_cons_succ, i64_w, i32_w]
    rfl
  refine take_ (i := 13) (N := some 90) (v := ?_) (a' := ?_) #[true, true, true, true, true, true, true, true, true, true, true, true, true, true, false, false] rfl rfl (take_ofW HT_.out HW_.out (by kernel_rfl)) (fun _ _ _ h => h) (Or.inl ⟨by rfl, ?_⟩) hHeld ?_ ?_
  rotate_left
  · rintro w' ⟨s0, s1, s2, s3, s4, s5, s6, s7, s8, s9, s10, s11⟩
    go_simp
    with_reducible rfl
  rotate_left
  · simp only [Act.put, List.setIfInBounds_toArray, List.set_cons_zero, List.set_cons_succ, i64_w, i32_w]
    rfl
  refine pure_ (i := 14) (N := some 91) (v := ?_) (a' := ?_) #[true, true, true, true, true, true, true, true, true, true, true, true, true, true, true, false] rfl rfl (any_of HT_.out (by kernel_rfl)) (fun _ _ _ h => h) (Or.inl ⟨by rfl, ?_⟩) ?_ ?_
  rotate_left
  · intro w'
    go_simp
    with_reducible rfl
  rotate_left
  · simp only [Act.put, List.setIfInBounds_toArray, List.set_cons_zero, List.set_cons_succ, i64_w, i32_w]
    rfl
  refine pure_ (i := 15) (N := some 92) (v := ?_) (a' := ?_) #[true, true, true, true, true, true, true, true, true, true, true, true, true, true, true, true] rfl rfl (any_of HT_.out (by kernel_rfl)) (fun _ _ _ h => h) (Or.inl ⟨by rfl, ?_⟩) ?_ ?_
  rotate_left
  · intro w'
    go_simp
    with_reducible rfl
  rotate_left
  · simp only [Act.put, List.setIfInBounds_toArray, List.set_cons_zero, List.set_cons_succ, i64_w, i32_w]
    rfl
  refine done_ (done_of HT_.out (by kernel_rfl)) ?_
  go_wp2
  go_ret
  exact ⟨rfl, ⟨HG.out, _, blk_put (XC.out.get 2 rfl) 7 _ rfl, Kd.R_set (Kd.R_below HR.out XC.out.hb) (XC.out.get 2 rfl) (by decide) 7 _⟩, (KeepBut.of_below XC.out.hb g none).set_ 7 _, (below_step HB0.out XC.out.hb).setCell (p := ⟨g, 7, none⟩) HG.out _⟩
set_option maxHeartbeats 8000000 in
set_option maxRecDepth 100000 in
theorem cover_Begin.few (w0 : World) (g : Nat) (a h : Int) (R : S28) (left : Int) (r : S28) (A : Option Addr) (c : Nat) (w : World) (hb0 : Below w0.heap.size w0 w) (hC : CAt w w0.heap.size g a h R left false) (hr : Kd.C (Kd.int .i64) w0 A r.f3.length r.f3) (hc : r.f3.length ≤ c) (hl : decide (left > 0) = false) (hk : (r.f0 == 5) = false) (hk6 : (r.f0 == 6) = false) (kn : Nat) (n t : Int) (hn : probe_Covers.f kn r.f0 r.f1 r.f2 r.f3 = some n) (ht : cover_often.f r.f0 r.f1 r.f2 r.f3 = some t) (h1 : decide (n < 1) = true) : Calls Try.prog 28 #[.pointer (some ⟨g, 0, none⟩), .agg #[.int .i64 r.f0, .int .i64 r.f1, .int .i64 r.f2, .slice A r.f3.length c]] w fun e w' => e = .returned (.int .i64 2) ∧ Below w.heap.size w w' := by
  have HN := Aside0.mk hn
  have HT := Aside0.mk ht
  clear hn ht
  have hu := Try.underlying28
  obtain ⟨hg, v, hbk, hR⟩ := hC
  obtain ⟨A0, cp, rfl⟩ := Kd.R_slice hR
  have hlt : g < w.heap.size := blk_lt hbk
  have X0 : Aside0 (Cx (fun _ => False) w w [Row (Kd.int .i64) A r.f3, Blk g #[(.int .i64 a), (.int .i64 h), (.int .i64 R.f0), (.int .i64 R.f1), (.int .i64 R.f2), (.slice A0 R.f3.length cp), (.int .i64 left), (.bool false)] 73]) := ⟨((Cx.start _ w (fun _ h => h.elim)).blk hbk (fun h => h)).add (((((Cx.start (fun _ => False) w0 (fun _ h => h.elim)).came (Kd.heap_int _) hr).step hb0).footAt 0 rfl))⟩
  clear hbk hR hg hb0 hr
  go_enter Try.func28, Try.ntmps28
  go_upto_region 1 with fail
  have XC := Aside0.mk (X0.out.new #[.int .i64 r.f0, .int .i64 r.f1, .int .i64 r.f2, .slice A r.f3.length c] 28 (fun h => h))
  clear X0
  have hbg : g ≠ w.heap.size := by omega
  generalize w.alloc (Obj.cells #[.int .i64 r.f0, .int .i64 r.f1, .int .i64 r.f2, .slice A r.f3.length c] 28) = w1 at XC ⊢
  obtain ⟨⟨j0, j1, j2, j3, j4, j5, j6, j7⟩, y0, y1, y2, y3, y4, y5, y6, y7⟩ := cell8 (XC.out.get 2 rfl)
  obtain ⟨⟨b0, b1, b2, b3⟩, z0, z1, z2, z3⟩ := cell4_ (XC.out.get 0 rfl)
  go_wp2_with (first | (go_at_call 45; (refine (probe_Covers.calls kn r.f0 r.f1 r.f2 A c r.f3 n _ (XC.out.get 1 rfl) hc HN.out).mono ?_); rintro e w9 ⟨rfl, hb9⟩; have XN := Aside0.mk (XC.out.step hb9); clear hb9 XC; have XC := XN; clear XN; clear j0 j1 j2 j3 j4 j5 j6 j7 y0 y1 y2 y3 y4 y5 y6 y7; clear b0 b1 b2 b3 z0 z1 z2 z3; obtain ⟨⟨j0, j1, j2, j3, j4, j5, j6, j7⟩, y0, y1, y2, y3, y4, y5, y6, y7⟩ := cell8 (XC.out.get 2 rfl); obtain ⟨⟨b0, b1, b2, b3⟩, z0, z1, z2, z3⟩ := cell4_ (XC.out.get 0 rfl)) | fail)
  go_ret
  exact ⟨rfl, XC.out.hb⟩
set_option maxHeartbeats 8000000 in
set_option maxRecDepth 100000 in
theorem cover_Begin.few2 (w0 : World) (g : Nat) (a h : Int) (R : S28) (left : Int) (r : S28) (A : Option Addr) (c : Nat) (w : World) (hb0 : Below w0.heap.size w0 w) (hC : CAt w w0.heap.size g a h R left false) (hr : Kd.C (Kd.int .i64) w0 A r.f3.length r.f3) (hc : r.f3.length ≤ c) (hl : decide (left > 0) = false) (hk : (r.f0 == 5) = false) (hk6 : (r.f0 == 6) = false) (kn : Nat) (n t : Int) (hn : probe_Covers.f kn r.f0 r.f1 r.f2 r.f3 = some n) (ht : cover_often.f r.f0 r.f1 r.f2 r.f3 = some t) (h1 : decide (n < 1) = false) (h2 : decide (t < 1) = true) : Calls Try.prog 28 #[.pointer (some ⟨g, 0, none⟩), .agg #[.int .i64 r.f0, .int .i64 r.f1, .int .i64 r.f2, .slice A r.f3.length c]] w fun e w' => e = .returned (.int .i64 2) ∧ Below w.heap.size w w' := by
  have HN := Aside0.mk hn
  have HT := Aside0.mk ht
  clear hn ht
  have hu := Try.underlying28
  obtain ⟨hg, v, hbk, hR⟩ := hC
  obtain ⟨A0, cp, rfl⟩ := Kd.R_slice hR
  have hlt : g < w.heap.size := blk_lt hbk
  have X0 : Aside0 (Cx (fun _ => False) w w [Row (Kd.int .i64) A r.f3, Blk g #[(.int .i64 a), (.int .i64 h), (.int .i64 R.f0), (.int .i64 R.f1), (.int .i64 R.f2), (.slice A0 R.f3.length cp), (.int .i64 left), (.bool false)] 73]) := ⟨((Cx.start _ w (fun _ h => h.elim)).blk hbk (fun h => h)).add (((((Cx.start (fun _ => False) w0 (fun _ h => h.elim)).came (Kd.heap_int _) hr).step hb0).footAt 0 rfl))⟩
  clear hbk hR hg hb0 hr
  go_enter Try.func28, Try.ntmps28
  go_upto_region 1 with fail
  have XC := Aside0.mk (X0.out.new #[.int .i64 r.f0, .int .i64 r.f1, .int .i64 r.f2, .slice A r.f3.length c] 28 (fun h => h))
  clear X0
  have hbg : g ≠ w.heap.size := by omega
  generalize w.alloc (Obj.cells #[.int .i64 r.f0, .int .i64 r.f1, .int .i64 r.f2, .slice A r.f3.length c] 28) = w1 at XC ⊢
  obtain ⟨⟨j0, j1, j2, j3, j4, j5, j6, j7⟩, y0, y1, y2, y3, y4, y5, y6, y7⟩ := cell8 (XC.out.get 2 rfl)
  obtain ⟨⟨b0, b1, b2, b3⟩, z0, z1, z2, z3⟩ := cell4_ (XC.out.get 0 rfl)
  go_wp2_with (first | (go_at_call 45; (refine (probe_Covers.calls kn r.f0 r.f1 r.f2 A c r.f3 n _ (XC.out.get 1 rfl) hc HN.out).mono ?_); rintro e w9 ⟨rfl, hb9⟩; have XN := Aside0.mk (XC.out.step hb9); clear hb9 XC; have XC := XN; clear XN; clear j0 j1 j2 j3 j4 j5 j6 j7 y0 y1 y2 y3 y4 y5 y6 y7; clear b0 b1 b2 b3 z0 z1 z2 z3; obtain ⟨⟨j0, j1, j2, j3, j4, j5, j6, j7⟩, y0, y1, y2, y3, y4, y5, y6, y7⟩ := cell8 (XC.out.get 2 rfl); obtain ⟨⟨b0, b1, b2, b3⟩, z0, z1, z2, z3⟩ := cell4_ (XC.out.get 0 rfl)) | (go_at_call 52; (refine (cover_often.calls r.f0 r.f1 r.f2 A c r.f3 t _ (XC.out.get 1 rfl) hc HT.out).mono ?_); rintro e w9 ⟨rfl, hb9⟩; have XN := Aside0.mk (XC.out.step hb9); clear hb9 XC; have XC := XN; clear XN; clear j0 j1 j2 j3 j4 j5 j6 j7 y0 y1 y2 y3 y4 y5 y6 y7; clear b0 b1 b2 b3 z0 z1 z2 z3; obtain ⟨⟨j0, j1, j2, j3, j4, j5, j6, j7⟩, y0, y1, y2, y3, y4, y5, y6, y7⟩ := cell8 (XC.out.get 2 rfl); obtain ⟨⟨b0, b1, b2, b3⟩, z0, z1, z2, z3⟩ := cell4_ (XC.out.get 0 rfl)) | fail)
  go_ret
  exact ⟨rfl, XC.out.hb⟩
set_option maxHeartbeats 8000000 in
set_option maxRecDepth 100000 in
theorem cover_Begin.far (w0 : World) (g : Nat) (a h : Int) (R : S28) (left : Int) (r : S28) (A : Option Addr) (c : Nat) (w : World) (hb0 : Below w0.heap.size w0 w) (hC : CAt w w0.heap.size g a h R left false) (hr : Kd.C (Kd.int .i64) w0 A r.f3.length r.f3) (hc : r.f3.length ≤ c) (hl : decide (left > 0) = false) (hk : (r.f0 == 5) = false) (hk6 : (r.f0 == 6) = false) (kn : Nat) (n t : Int) (hn : probe_Covers.f kn r.f0 r.f1 r.f2 r.f3 = some n) (ht : cover_often.f r.f0 r.f1 r.f2 r.f3 = some t) (h1 : decide (n < 1) = false) (h2 : decide (t < 1) = false) (kw : Nat) (x e0 : Int) (hw : reckon_Walk.f kw a n t = some (x, e0)) (he : (e0 != 0) = true) : Calls Try.prog 28 #[.pointer (some ⟨g, 0, none⟩), .agg #[.int .i64 r.f0, .int .i64 r.f1, .int .i64 r.f2, .slice A r.f3.length c]] w fun e w' => e = .returned (.int .i64 e0) ∧ Below w.heap.size w w' := by
  have HN := Aside0.mk hn
  have HT := Aside0.mk ht
  clear hn ht
  have HW := Aside0.mk hw
  clear hw
  have hu := Try.underlying28
  obtain ⟨hg, v, hbk, hR⟩ := hC
  obtain ⟨A0, cp, rfl⟩ := Kd.R_slice hR
  have hlt : g < w.heap.size := blk_lt hbk
  have X0 : Aside0 (Cx (fun _ => False) w w [Row (Kd.int .i64) A r.f3, Blk g #[(.int .i64 a), (.int .i64 h), (.int .i64 R.f0), (.int .i64 R.f1), (.int .i64 R.f2), (.slice A0 R.f3.length cp), (.int .i64 left), (.bool false)] 73]) := ⟨((Cx.start _ w (fun _ h => h.elim)).blk hbk (fun h => h)).add (((((Cx.start (fun _ => False) w0 (fun _ h => h.elim)).came (Kd.heap_int _) hr).step hb0).footAt 0 rfl))⟩
  clear hbk hR hg hb0 hr
  go_enter Try.func28, Try.ntmps28
  go_upto_region 1 with fail
  have XC := Aside0.mk (X0.out.new #[.int .i64 r.f0, .int .i64 r.f1, .int .i64 r.f2, .slice A r.f3.length c] 28 (fun h => h))
  clear X0
  have hbg : g ≠ w.heap.size := by omega
  generalize w.alloc (Obj.cells #[.int .i64 r.f0, .int .i64 r.f1, .int .i64 r.f2, .slice A r.f3.length c] 28) = w1 at XC ⊢
  obtain ⟨⟨j0, j1, j2, j3, j4, j5, j6, j7⟩, y0, y1, y2, y3, y4, y5, y6, y7⟩ := cell8 (XC.out.get 2 rfl)
  obtain ⟨⟨b0, b1, b2, b3⟩, z0, z1, z2, z3⟩ := cell4_ (XC.out.get 0 rfl)
  go_upto_region 8 with (first | (go_at_call 45; (refine (probe_Covers.calls kn r.f0 r.f1 r.f2 A c r.f3 n _ (XC.out.get 1 rfl) hc HN.out).mono ?_); rintro e w9 ⟨rfl, hb9⟩; have XN := Aside0.mk (XC.out.step hb9); clear hb9 XC; have XC := XN; clear XN; clear j0 j1 j2 j3 j4 j5 j6 j7 y0 y1 y2 y3 y4 y5 y6 y7; clear b0 b1 b2 b3 z0 z1 z2 z3; obtain ⟨⟨j0, j1, j2, j3, j4, j5, j6, j7⟩, y0, y1, y2, y3, y4, y5, y6, y7⟩ := cell8 (XC.out.get 2 rfl); obtain ⟨⟨b0, b1, b2, b3⟩, z0, z1, z2, z3⟩ := cell4_ (XC.out.get 0 rfl)) | (go_at_call 52; (refine (cover_often.calls r.f0 r.f1 r.f2 A c r.f3 t _ (XC.out.get 1 rfl) hc HT.out).mono ?_); rintro e w9 ⟨rfl, hb9⟩; have XN := Aside0.mk (XC.out.step hb9); clear hb9 XC; have XC := XN; clear XN; clear j0 j1 j2 j3 j4 j5 j6 j7 y0 y1 y2 y3 y4 y5 y6 y7; clear b0 b1 b2 b3 z0 z1 z2 z3; obtain ⟨⟨j0, j1, j2, j3, j4, j5, j6, j7⟩, y0, y1, y2, y3, y4, y5, y6, y7⟩ := cell8 (XC.out.get 2 rfl); obtain ⟨⟨b0, b1, b2, b3⟩, z0, z1, z2, z3⟩ := cell4_ (XC.out.get 0 rfl)) | fail)
  refine start_ (n := 14) (S := (fun w' => w'.cell? ⟨g, 0, none⟩ = some (.int .i64 a) ∧ w'.cell? ⟨g, 1, none⟩ = some (.int .i64 h) ∧ w'.cell? ⟨g, 2, none⟩ = some (.int .i64 R.f0) ∧ w'.cell? ⟨g, 3, none⟩ = some (.int .i64 R.f1) ∧ w'.cell? ⟨g, 4, none⟩ = some (.int .i64 R.f2) ∧ w'.cell? ⟨g, 5, none⟩ = some (.slice A0 R.f3.length cp) ∧ w'.cell? ⟨g, 6, none⟩ = some (.int .i64 left) ∧ w'.cell? ⟨g, 7, none⟩ = some (.bool false) ∧ w'.cell? ⟨w.heap.size, 0, none⟩ = some (.int .i64 r.f0) ∧ w'.cell? ⟨w.heap.size, 1, none⟩ = some (.int .i64 r.f1) ∧ w'.cell? ⟨w.heap.size, 2, none⟩ = some (.int .i64 r.f2) ∧ w'.cell? ⟨w.heap.size, 3, none⟩ = some (.slice A r.f3.length c))) (ds := []) #[false, false, false, false, false, false, false, false, false, false, false, false, false, false] (by kernel_rfl) rfl rfl ⟨j0, j1, j2, j3, j4, j5, j6, j7, b0, b1, b2, b3⟩ (fun hHeld => ?_); refine with_tabW coverBegin8.tab coverBegin8.bits (fun HT_ HW_ => ?_)
  clear j0 j1 j2 j3 j4 j5 j6 j7 y0 y1 y2 y3 y4 y5 y6 y7
  clear b0 b1 b2 b3 z0 z1 z2 z3
  have XN := Aside0.mk XC.out.drew
  clear XC
  have XC := XN
  clear XN
  generalize w9.drew = w2 at XC hHeld ⊢
  obtain ⟨⟨j0, j1, j2, j3, j4, j5, j6, j7⟩, y0, y1, y2, y3, y4, y5, y6, y7⟩ := cell8 (XC.out.get 2 rfl)
  obtain ⟨⟨b0, b1, b2, b3⟩, z0, z1, z2, z3⟩ := cell4_ (XC.out.get 0 rfl)
  refine pure_ (i := 0) (N := some 33) (v := ?_) (a' := ?_) #[true, false, false, false, false, false, false, false, false, false, false, false, false, false] rfl rfl (any_of HT_.out (by kernel_rfl)) (fun _ _ _ h => h) (Or.inl ⟨by rfl, ?_⟩) ?_ ?_
  rotate_left
  · intro w'
    go_simp
    with_reducible rfl
  rotate_left
  · simp only [Act.put, List.setIfInBounds_toArray, List.set_cons_zero, List.set_cons_succ, i64_w, i32_w]
    rfl
  refine pure_ (i := 1) (N := some 34) (v := ?_) (a' := ?_) #[true, true, false, false, false, false, false, false, false, false, false, false, false, false] rfl rfl (any_of HT_.out (by kernel_rfl)) (fun _ _ _ h => h) (Or.inl ⟨by rfl, ?_⟩) ?_ ?_
  rotate_left
  · intro w'
    go_simp
    with_reducible rfl
  rotate_left
  · simp only [Act.put, List.setIfInBounds_toArray, List.set_cons_zero, List.set_cons_succ, i64_w, i32_w]
    rfl
  refine pure_ (i := 2) (N := some 35) (v := ?_) (a' := ?_) #[true, true, true, false, false, false, false, false, false, false, false, false, false, false] rfl rfl (any_of HT_.out (by kernel_rfl)) (fun _ _ _ h => h) (Or.inl ⟨by rfl, ?_⟩) ?_ ?_
  rotate_left
  · intro w'
    go_simp
    with_reducible rfl
  rotate_left
  · simp only [Act.put, List.setIfInBounds_toArray, List.set_cons_zero, List.set_cons_succ, i64_w, i32_w]
    rfl
  refine take_ (i := 3) (N := some 36) (v := ?_) (a' := ?_) #[true, true, true, true, false, false, false, false, false, false, false, false, false, false] rfl rfl (take_ofW HT_.out HW_.out (by kernel_rfl)) (fun _ _ _ h => h) (Or.inl ⟨by rfl, ?_⟩) hHeld ?_ ?_
  rotate_left
  · rintro w' ⟨s0, s1, s2, s3, s4, s5, s6, s7, s8, s9, s10, s11⟩
    go_simp
    with_reducible rfl
  rotate_left
  · simp only [Act.put, List.setIfInBounds_toArray, List.set_cons_zero, List.set_cons_succ, i64_w, i32_w]
    rfl
  refine take_ (i := 4) (N := some 37) (v := ?_) (a' := ?_) #[true, true, true, true, true, false, false, false, false, false, false, false, false, false] rfl rfl (take_ofW HT_.out HW_.out (by kernel_rfl)) (fun _ _ _ h => h) (Or.inl ⟨by rfl, ?_⟩) hHeld ?_ ?_
  rotate_left
  · rintro w' ⟨s0, s1, s2, s3, s4, s5, s6, s7, s8, s9, s10, s11⟩
    go_simp
    with_reducible rfl
  rotate_left
  · simp only [Act.put, List.setIfInBounds_toArray, List.set_cons_zero, List.set_cons_succ, i64_w, i32_w]
    rfl
  refine take_ (i := 6) (N := some 39) (v := ?_) (a' := ?_) #[true, true, true, true, true, false, true, false, false, false, false, false, false, false] rfl rfl (take_ofW HT_.out HW_.out (by kernel_rfl)) (fun _ _ _ h => h) (Or.inl ⟨by rfl, ?_⟩) hHeld ?_ ?_
  rotate_left
  · rintro w' ⟨s0, s1, s2, s3, s4, s5, s6, s7, s8, s9, s10, s11⟩
    go_simp
    with_reducible rfl
  rotate_left
  · simp only [Act.put, List.setIfInBounds_toArray, List.set_cons_zero, List.set_cons_succ, i64_w, i32_w]
    rfl
  refine one_ (i := 5) (N := some 38) #[true, true, true, true, true, true, true, false, false, false, false, false, false, false] rfl rfl (one_of HT_.out (by kernel_rfl)) (by decide) (fun K hK => ?_)
  refine goes_ Try.func45 (by kernel_rfl) rfl #[.agg #[.int .i64 r.f0, .int .i64 r.f1, .int .i64 r.f2, .slice A r.f3.length c]] (by rfl) rfl rfl (by (try simp only [List.map_toArray, List.map_cons, List.map_nil]); first | done | rfl) ?_
  refine (probe_Covers.calls kn r.f0 r.f1 r.f2 A c r.f3 n _ (XC.out.get 1 rfl) hc HN.out).mono ?_
  rintro e w9 ⟨rfl, hb9⟩
  refine ⟨_, rfl, ?_⟩
  have XN := Aside0.mk (XC.out.step hb9)
  clear hb9 XC j0 j1 j2 j3 j4 j5 j6 j7 y0 y1 y2 y3 y4 y5 y6 y7 b0 b1 b2 b3 z0 z1 z2 z3
  have XC := XN
  clear XN
  obtain ⟨⟨j0, j1, j2, j3, j4, j5, j6, j7⟩, y0, y1, y2, y3, y4, y5, y6, y7⟩ := cell8 (XC.out.get 2 rfl)
  obtain ⟨⟨b0, b1, b2, b3⟩, z0, z1, z2, z3⟩ := cell4_ (XC.out.get 0 rfl)
  refine hK.out _ _ ⟨j0, j1, j2, j3, j4, j5, j6, j7, b0, b1, b2, b3⟩ (fun hHeld => ?_)
  clear hK K
  refine norm_ (a' := ?_) ?_ ?_
  rotate_left
  · show Act.put _ (some 38) _ = _
    simp only [Act.put, List.setIfInBounds_toArray, List.set_cons_zero, List.set_cons_succ, i64_w, i32_w]
    rfl
  refine one_ (i := 7) (N := some 40) #[true, true, true, true, true, true, true, true, false, false, false, false, false, false] rfl rfl (one_of HT_.out (by kernel_rfl)) (by decide) (fun K hK => ?_)
  refine goes_ Try.func52 (by kernel_rfl) rfl #[.agg #[.int .i64 r.f0, .int .i64 r.f1, .int .i64 r.f2, .slice A r.f3.length c]] (by rfl) rfl rfl (by (try simp only [List.map_toArray, List.map_cons, List.map_nil]); first | done | rfl) ?_
  refine (cover_often.calls r.f0 r.f1 r.f2 A c r.f3 t _ (XC.out.get 1 rfl) hc HT.out).mono ?_
  rintro e w9 ⟨rfl, hb9⟩
  refine ⟨_, rfl, ?_⟩
  have XN := Aside0.mk (XC.out.step hb9)
  clear hb9 XC j0 j1 j2 j3 j4 j5 j6 j7 y0 y1 y2 y3 y4 y5 y6 y7 b0 b1 b2 b3 z0 z1 z2 z3
  have XC := XN
  clear XN
  obtain ⟨⟨j0, j1, j2, j3, j4, j5, j6, j7⟩, y0, y1, y2, y3, y4, y5, y6, y7⟩ := cell8 (XC.out.get 2 rfl)
  obtain ⟨⟨b0, b1, b2, b3⟩, z0, z1, z2, z3⟩ := cell4_ (XC.out.get 0 rfl)
  refine hK.out _ _ ⟨j0, j1, j2, j3, j4, j5, j6, j7, b0, b1, b2, b3⟩ (fun hHeld => ?_)
  clear hK K
  refine norm_ (a' := ?_) ?_ ?_
  rotate_left
  · show Act.put _ (some 40) _ = _
    simp only [Act.put, List.setIfInBounds_toArray, List.set_cons_zero, List.set_cons_succ, i64_w, i32_w]
    rfl
  refine one_ (i := 8) (N := some 41) #[true, true, true, true, true, true, true, true, true, false, false, false, false, false] rfl rfl (one_of HT_.out (by kernel_rfl)) (by decide) (fun K hK => ?_)
  refine goes_ Try.func53 (by kernel_rfl) rfl #[.int .i64 a, .int .i64 n, .int .i64 t] (by rfl) rfl rfl (by (try simp only [List.map_toArray, List.map_cons, List.map_nil]); first | done | rfl) ?_
  refine (reckon_Walk.calls kw a n t x e0 _ HW.out).mono ?_
  rintro e w9 ⟨rfl, hb9⟩
  refine ⟨_, rfl, ?_⟩
  have XN := Aside0.mk (XC.out.step hb9)
  clear hb9 XC j0 j1 j2 j3 j4 j5 j6 j7 y0 y1 y2 y3 y4 y5 y6 y7 b0 b1 b2 b3 z0 z1 z2 z3
  have XC := XN
  clear XN
  obtain ⟨⟨j0, j1, j2, j3, j4, j5, j6, j7⟩, y0, y1, y2, y3, y4, y5, y6, y7⟩ := cell8 (XC.out.get 2 rfl)
  obtain ⟨⟨b0, b1, b2, b3⟩, z0, z1, z2, z3⟩ := cell4_ (XC.out.get 0 rfl)
  refine hK.out _ _ ⟨j0, j1, j2, j3, j4, j5, j6, j7, b0, b1, b2, b3⟩ (fun hHeld => ?_)
  clear hK K
  refine norm_ (a' := ?_) ?_ ?_
  rotate_left
  · show Act.put _ (some 41) _ = _
    simp only [Act.put, List.setIfInBounds_toArray, List.set_cons_zero, List.set_cons_succ, i64_w, i32_w]
    rfl
  refine pure_ (i := 9) (N := some 32) (v := ?_) (a' := ?_) #[true, true, true, true, true, true, true, true, true, true, false, false, false, false] rfl rfl (any_of HT_.out (by kernel_rfl)) (fun _ _ _ h => h) (Or.inl ⟨by rfl, ?_⟩) ?_ ?_
  rotate_left
  · intro w'
    go_simp
    with_reducible rfl
  rotate_left
  · simp only [Act.put, List.setIfInBounds_toArray, List.set_cons_zero, List.set_cons_succ, i64_w, i32_w]
    rfl
  refine pure_ (i := 10) (N := some 42) (v := ?_) (a' := ?_) #[true, true, true, true, true, true, true, true, true, true, true, false, false, false] rfl rfl (any_of HT_.out (by kernel_rfl)) (fun _ _ _ h => h) (Or.inl ⟨by rfl, ?_⟩) ?_ ?_
  rotate_left
  · intro w'
    go_simp
    with_reducible rfl
  rotate_left
  · simp only [Act.put, List.setIfInBounds_toArray, List.set_cons_zero, List.set_cons_succ, i64_w, i32_w]
    rfl
  refine pure_ (i := 11) (N := some 43) (v := ?_) (a' := ?_) #[true, true, true, true, true, true, true, true, true, true, true, true, false, false] rfl rfl (any_of HT_.out (by kernel_rfl)) (fun _ _ _ h => h) (Or.inl ⟨by rfl, ?_⟩) ?_ ?_
  rotate_left
  · intro w'
    go_simp
    with_reducible rfl
  rotate_left
  · simp only [Act.put, List.setIfInBounds_toArray, List.set_cons_zero, List.set_cons_succ, i64_w, i32_w]
    rfl
  refine pure_ (i := 12) (N := some 5) (v := ?_) (a' := ?_) #[true, true, true, true, true, true, true, true, true, true, true, true, true, false] rfl rfl (any_of HT_.out (by kernel_rfl)) (fun _ _ _ h => h) (Or.inl ⟨by rfl, ?_⟩) ?_ ?_
  rotate_left
  · intro w'
    go_simp
    with_reducible rfl
  rotate_left
  · simp only [Act.put, List.setIfInBounds_toArray, List.set_cons_zero, List.set_cons_succ, i64_w, i32_w]
    rfl
  refine pure_ (i := 13) (N := some 6) (v := ?_) (a' := ?_) #[true, true, true, true, true, true, true, true, true, true, true, true, true, true] rfl rfl (any_of HT_.out (by kernel_rfl)) (fun _ _ _ h => h) (Or.inl ⟨by rfl, ?_⟩) ?_ ?_
  rotate_left
  · intro w'
    go_simp
    with_reducible rfl
  rotate_left
  · simp only [Act.put, List.setIfInBounds_toArray, List.set_cons_zero, List.set_cons_succ, i64_w, i32_w]
    rfl
  refine done_ (done_of HT_.out (by kernel_rfl)) ?_
  go_wp2
  go_ret
  exact ⟨rfl, XC.out.hb⟩
set_option maxHeartbeats 8000000 in
set_option maxRecDepth 100000 in
theorem cover_Begin.ok (w0 : World) (g : Nat) (a h : Int) (R : S28) (left : Int) (r : S28) (A : Option Addr) (c : Nat) (w : World) (hb0 : Below w0.heap.size w0 w) (hC : CAt w w0.heap.size g a h R left false) (hr : Kd.C (Kd.int .i64) w0 A r.f3.length r.f3) (hc : r.f3.length ≤ c) (hl : decide (left > 0) = false) (hk : (r.f0 == 5) = false) (hk6 : (r.f0 == 6) = false) (kn : Nat) (n t : Int) (hn : probe_Covers.f kn r.f0 r.f1 r.f2 r.f3 = some n) (ht : cover_often.f r.f0 r.f1 r.f2 r.f3 = some t) (h1 : decide (n < 1) = false) (h2 : decide (t < 1) = false) (kw : Nat) (x : Int) (hw : reckon_Walk.f kw a n t = some (x, 0)) (hlr : r.f3.length ≤ 1000) : Calls Try.prog 28 #[.pointer (some ⟨g, 0, none⟩), .agg #[.int .i64 r.f0, .int .i64 r.f1, .int .i64 r.f2, .slice A r.f3.length c]] w fun e w' => e = .returned (.int .i64 0) ∧ CAt w' w0.heap.size g a h r t false ∧ KeepBut w w' g none ∧ Below w0.heap.size w0 w' := by
  have HN := Aside0.mk hn
  have HT := Aside0.mk ht
  clear hn ht
  have HW := Aside0.mk hw
  clear hw
  have HL := Aside0.mk hlr
  clear hlr
  have hu := Try.underlying28
  obtain ⟨hg, v, hbk, hR⟩ := hC
  obtain ⟨A0, cp, rfl⟩ := Kd.R_slice hR
  have hlt : g < w.heap.size := blk_lt hbk
  have X0 : Aside0 (Cx (fun _ => False) w w [Row (Kd.int .i64) A r.f3, Blk g #[(.int .i64 a), (.int .i64 h), (.int .i64 R.f0), (.int .i64 R.f1), (.int .i64 R.f2), (.slice A0 R.f3.length cp), (.int .i64 left), (.bool false)] 73]) := ⟨((Cx.start _ w (fun _ h => h.elim)).blk hbk (fun h => h)).add (((((Cx.start (fun _ => False) w0 (fun _ h => h.elim)).came (Kd.heap_int _) hr).step hb0).footAt 0 rfl))⟩
  have HG := Aside0.mk hg
  have HB0 := Aside0.mk hb0
  have HRW := Aside0.mk hr
  clear hbk hR hg hb0 hr
  go_enter Try.func28, Try.ntmps28
  go_upto_region 1 with fail
  have XC := Aside0.mk (X0.out.new #[.int .i64 r.f0, .int .i64 r.f1, .int .i64 r.f2, .slice A r.f3.length c] 28 (fun h => h))
  clear X0
  have hbg : g ≠ w.heap.size := by omega
  generalize w.alloc (Obj.cells #[.int .i64 r.f0, .int .i64 r.f1, .int .i64 r.f2, .slice A r.f3.length c] 28) = w1 at XC ⊢
  obtain ⟨⟨j0, j1, j2, j3, j4, j5, j6, j7⟩, y0, y1, y2, y3, y4, y5, y6, y7⟩ := cell8 (XC.out.get 2 rfl)
  obtain ⟨⟨b0, b1, b2, b3⟩, z0, z1, z2, z3⟩ := cell4_ (XC.out.get 0 rfl)
  go_upto_region 8 with (first | (go_at_call 45; (refine (probe_Covers.calls kn r.f0 r.f1 r.f2 A c r.f3 n _ (XC.out.get 1 rfl) hc HN.out).mono ?_); rintro e w9 ⟨rfl, hb9⟩; have XN := Aside0.mk (XC.out.step hb9); clear hb9 XC; have XC := XN; clear XN; clear j0 j1 j2 j3 j4 j5 j6 j7 y0 y1 y2 y3 y4 y5 y6 y7; clear b0 b1 b2 b3 z0 z1 z2 z3; obtain ⟨⟨j0, j1, j2, j3, j4, j5, j6, j7⟩, y0, y1, y2, y3, y4, y5, y6, y7⟩ := cell8 (XC.out.get 2 rfl); obtain ⟨⟨b0, b1, b2, b3⟩, z0, z1, z2, z3⟩ := cell4_ (XC.out.get 0 rfl)) | (go_at_call 52; (refine (cover_often.calls r.f0 r.f1 r.f2 A c r.f3 t _ (XC.out.get 1 rfl) hc HT.out).mono ?_); rintro e w9 ⟨rfl, hb9⟩; have XN := Aside0.mk (XC.out.step hb9); clear hb9 XC; have XC := XN; clear XN; clear j0 j1 j2 j3 j4 j5 j6 j7 y0 y1 y2 y3 y4 y5 y6 y7; clear b0 b1 b2 b3 z0 z1 z2 z3; obtain ⟨⟨j0, j1, j2, j3, j4, j5, j6, j7⟩, y0, y1, y2, y3, y4, y5, y6, y7⟩ := cell8 (XC.out.get 2 rfl); obtain ⟨⟨b0, b1, b2, b3⟩, z0, z1, z2, z3⟩ := cell4_ (XC.out.get 0 rfl)) | fail)
  refine start_ (n := 14) (S := (fun w' => w'.cell? ⟨g, 0, none⟩ = some (.int .i64 a) ∧ w'.cell? ⟨g, 1, none⟩ = some (.int .i64 h) ∧ w'.cell? ⟨g, 2, none⟩ = some (.int .i64 R.f0) ∧ w'.cell? ⟨g, 3, none⟩ = some (.int .i64 R.f1) ∧ w'.cell? ⟨g, 4, none⟩ = some (.int .i64 R.f2) ∧ w'.cell? ⟨g, 5, none⟩ = some (.slice A0 R.f3.length cp) ∧ w'.cell? ⟨g, 6, none⟩ = some (.int .i64 left) ∧ w'.cell? ⟨g, 7, none⟩ = some (.bool false) ∧ w'.cell? ⟨w.heap.size, 0, none⟩ = some (.int .i64 r.f0) ∧ w'.cell? ⟨w.heap.size, 1, none⟩ = some (.int .i64 r.f1) ∧ w'.cell? ⟨w.heap.size, 2, none⟩ = some (.int .i64 r.f2) ∧ w'.cell? ⟨w.heap.size, 3, none⟩ = some (.slice A r.f3.length c))) (ds := []) #[false, false, false, false, false, false, false, false, false, false, false, false, false, false] (by kernel_rfl) rfl rfl ⟨j0, j1, j2, j3, j4, j5, j6, j7, b0, b1, b2, b3⟩ (fun hHeld => ?_); refine with_tabW coverBegin8.tab coverBegin8.bits (fun HT_ HW_ => ?_)
  clear j0 j1 j2 j3 j4 j5 j6 j7 y0 y1 y2 y3 y4 y5 y6 y7
  clear b0 b1 b2 b3 z0 z1 z2 z3
  have XN := Aside0.mk XC.out.drew
  clear XC
  have XC := XN
  clear XN
  generalize w9.drew = w2 at XC hHeld ⊢
  obtain ⟨⟨j0, j1, j2, j3, j4, j5, j6, j7⟩, y0, y1, y2, y3, y4, y5, y6, y7⟩ := cell8 (XC.out.get 2 rfl)
  obtain ⟨⟨b0, b1, b2, b3⟩, z0, z1, z2, z3⟩ := cell4_ (XC.out.get 0 rfl)
  refine pure_ (i := 0) (N := some 33) (v := ?_) (a' := ?_) #[true, false, false, false, false, false, false, false, false, false, false, false, false, false] rfl rfl (any_of HT_.out (by kernel_rfl)) (fun _ _ _ h => h) (Or.inl ⟨by rfl, ?_⟩) ?_ ?_
  rotate_left
  · intro w'
    go_simp
    with_reducible rfl
  rotate_left
  · simp only [Act.put, List.setIfInBounds_toArray, List.set_cons_zero, List.set_cons_succ, i64_w, i32_w]
    rfl
  refine pure_ (i := 1) (N := some 34) (v := ?_) (a' := ?_) #[true, true, false, false, false, false, false, false, false, false, false, false, false, false] rfl rfl (any_of HT_.out (by kernel_rfl)) (fun _ _ _ h => h) (Or.inl ⟨by rfl, ?_⟩) ?_ ?_
  rotate_left
  · intro w'
    go_simp
    with_reducible rfl
  rotate_left
  · simp only [Act.put, List.setIfInBounds_toArray, List.set_cons_zero, List.set_cons_succ, i64_w, i32_w]
    rfl
  refine pure_ (i := 2) (N := some 35) (v := ?_) (a' := ?_) #[true, true, true, false, false, false, false, false, false, false, false, false, false, false] rfl rfl (any_of HT_.out (by kernel_rfl)) (fun _ _ _ h => h) (Or.inl ⟨by rfl, ?_⟩) ?_ ?_
  rotate_left
  · intro w'
    go_simp
    with_reducible rfl
  rotate_left
  · simp only [Act.put, List.setIfInBounds_toArray, List.set_cons_zero, List.set_cons_succ, i64_w, i32_w]
    rfl
  refine take_ (i := 3) (N := some 36) (v := ?_) (a' := ?_) #[true, true, true, true, false, false, false, false, false, false, false, false, false, false] rfl rfl (take_ofW HT_.out HW_.out (by kernel_rfl)) (fun _ _ _ h => h) (Or.inl ⟨by rfl, ?_⟩) hHeld ?_ ?_
  rotate_left
  · rintro w' ⟨s0, s1, s2, s3, s4, s5, s6, s7, s8, s9, s10, s11⟩
    go_simp
    with_reducible rfl
  rotate_left
  · simp only [Act.put, List.setIfInBounds_toArray, List.set_cons_zero, List.set_cons_succ, i64_w, i32_w]
    rfl
  refine take_ (i := 4) (N := some 37) (v := ?_) (a' := ?_) #[true, true, true, true, true, false, false, false, false, false, false, false, false, false] rfl rfl (take_ofW HT_.out HW_.out (by kernel_rfl)) (fun _ _ _ h => h) (Or.inl ⟨by rfl, ?_⟩) hHeld ?_ ?_
  rotate_left
  · rintro w' ⟨s0, s1, s2, s3, s4, s5, s6, s7, s8, s9, s10, s11⟩
    go_simp
    with_reducible rfl
  rotate_left
  · simp only [Act.put, List.setIfInBounds_toArray, List.set_cons_zero, List.set_cons_succ, i64_w, i32_w]
    rfl
  refine take_ (i := 6) (N := some 39) (v := ?_) (a' := ?_) #[true, true, true, true, true, false, true, false, false, false, false, false, false, false] rfl rfl (take_ofW HT_.out HW_.out (by kernel_rfl)) (fun _ _ _ h => h) (Or.inl ⟨by rfl, ?_⟩) hHeld ?_ ?_
  rotate_left
  · rintro w' ⟨s0, s1, s2, s3, s4, s5, s6, s7, s8, s9, s10, s11⟩
    go_simp
    with_reducible rfl
  rotate_left
  · simp only [Act.put, List.setIfInBounds_toArray, List.set_cons_zero, List.set_cons_succ, i64_w, i32_w]
    rfl
  refine one_ (i := 5) (N := some 38) #[true, true, true, true, true, true, true, false, false, false, false, false, false, false] rfl rfl (one_of HT_.out (by kernel_rfl)) (by decide) (fun K hK => ?_)
  refine goes_ Try.func45 (by kernel_rfl) rfl #[.agg #[.int .i64 r.f0, .int .i64 r.f1, .int .i64 r.f2, .slice A r.f3.length c]] (by rfl) rfl rfl (by (try simp only [List.map_toArray, List.map_cons, List.map_nil]); first | done | rfl) ?_
  refine (probe_Covers.calls kn r.f0 r.f1 r.f2 A c r.f3 n _ (XC.out.get 1 rfl) hc HN.out).mono ?_
  rintro e w9 ⟨rfl, hb9⟩
  refine ⟨_, rfl, ?_⟩
  have XN := Aside0.mk (XC.out.step hb9)
  clear hb9 XC j0 j1 j2 j3 j4 j5 j6 j7 y0 y1 y2 y3 y4 y5 y6 y7 b0 b1 b2 b3 z0 z1 z2 z3
  have XC := XN
  clear XN
  obtain ⟨⟨j0, j1, j2, j3, j4, j5, j6, j7⟩, y0, y1, y2, y3, y4, y5, y6, y7⟩ := cell8 (XC.out.get 2 rfl)
  obtain ⟨⟨b0, b1, b2, b3⟩, z0, z1, z2, z3⟩ := cell4_ (XC.out.get 0 rfl)
  refine hK.out _ _ ⟨j0, j1, j2, j3, j4, j5, j6, j7, b0, b1, b2, b3⟩ (fun hHeld => ?_)
  clear hK K
  refine norm_ (a' := ?_) ?_ ?_
  rotate_left
  · show Act.put _ (some 38) _ = _
    simp only [Act.put, List.setIfInBounds_toArray, List.set_cons_zero, List.set_cons_succ, i64_w, i32_w]
    rfl
  refine one_ (i := 7) (N := some 40) #[true, true, true, true, true, true, true, true, false, false, false, false, false, false] rfl rfl (one_of HT_.out (by kernel_rfl)) (by decide) (fun K hK => ?_)
  refine goes_ Try.func52 (by kernel_rfl) rfl #[.agg #[.int .i64 r.f0, .int .i64 r.f1, .int .i64 r.f2, .slice A r.f3.length c]] (by rfl) rfl rfl (by (try simp only [List.map_toArray, List.map_cons, List.map_nil]); first | done | rfl) ?_
  refine (cover_often.calls r.f0 r.f1 r.f2 A c r.f3 t _ (XC.out.get 1 rfl) hc HT.out).mono ?_
  rintro e w9 ⟨rfl, hb9⟩
  refine ⟨_, rfl, ?_⟩
  have XN := Aside0.mk (XC.out.step hb9)
  clear hb9 XC j0 j1 j2 j3 j4 j5 j6 j7 y0 y1 y2 y3 y4 y5 y6 y7 b0 b1 b2 b3 z0 z1 z2 z3
  have XC := XN
  clear XN
  obtain ⟨⟨j0, j1, j2, j3, j4, j5, j6, j7⟩, y0, y1, y2, y3, y4, y5, y6, y7⟩ := cell8 (XC.out.get 2 rfl)
  obtain ⟨⟨b0, b1, b2, b3⟩, z0, z1, z2, z3⟩ := cell4_ (XC.out.get 0 rfl)
  refine hK.out _ _ ⟨j0, j1, j2, j3, j4, j5, j6, j7, b0, b1, b2, b3⟩ (fun hHeld => ?_)
  clear hK K
  refine norm_ (a' := ?_) ?_ ?_
  rotate_left
  · show Act.put _ (some 40) _ = _
    simp only [Act.put, List.setIfInBounds_toArray, List.set_cons_zero, List.set_cons_succ, i64_w, i32_w]
    rfl
  refine one_ (i := 8) (N := some 41) #[true, true, true, true, true, true, true, true, true, false, false, false, false, false] rfl rfl (one_of HT_.out (by kernel_rfl)) (by decide) (fun K hK => ?_)
  refine goes_ Try.func53 (by kernel_rfl) rfl #[.int .i64 a, .int .i64 n, .int .i64 t] (by rfl) rfl rfl (by (try simp only [List.map_toArray, List.map_cons, List.map_nil]); first | done | rfl) ?_
  refine (reckon_Walk.calls kw a n t x 0 _ HW.out).mono ?_
  rintro e w9 ⟨rfl, hb9⟩
  refine ⟨_, rfl, ?_⟩
  have XN := Aside0.mk (XC.out.step hb9)
  clear hb9 XC j0 j1 j2 j3 j4 j5 j6 j7 y0 y1 y2 y3 y4 y5 y6 y7 b0 b1 b2 b3 z0 z1 z2 z3
  have XC := XN
  clear XN
  obtain ⟨⟨j0, j1, j2, j3, j4, j5, j6, j7⟩, y0, y1, y2, y3, y4, y5, y6, y7⟩ := cell8 (XC.out.get 2 rfl)
  obtain ⟨⟨b0, b1, b2, b3⟩, z0, z1, z2, z3⟩ := cell4_ (XC.out.get 0 rfl)
  refine hK.out _ _ ⟨j0, j1, j2, j3, j4, j5, j6, j7, b0, b1, b2, b3⟩ (fun hHeld => ?_)
  clear hK K
  refine norm_ (a' := ?_) ?_ ?_
  rotate_left
  · show Act.put _ (some 41) _ = _
    simp only [Act.put, List.setIfInBounds_toArray, List.set_cons_zero, List.set_cons_succ, i64_w, i32_w]
    rfl
  refine pure_ (i := 9) (N := some 32) (v := ?_) (a' := ?_) #[true, true, true, true, true, true, true, true, true, true, false, false, false, false] rfl rfl (any_of HT_.out (by kernel_rfl)) (fun _ _ _ h => h) (Or.inl ⟨by rfl, ?_⟩) ?_ ?_
  rotate_left
  · intro w'
    go_simp
    with_reducible rfl
  rotate_left
  · simp only [Act.put, List.setIfInBounds_toArray, List.set_cons_zero, List.set_cons_succ, i64_w, i32_w]
    rfl
  refine pure_ (i := 10) (N := some 42) (v := ?_) (a' := ?_) #[true, true, true, true, true, true, true, true, true, true, true, false, false, false] rfl rfl (any_of HT_.out (by kernel_rfl)) (fun _ _ _ h => h) (Or.inl ⟨by rfl, ?_⟩) ?_ ?_
  rotate_left
  · intro w'
    go_simp
    with_reducible rfl
  rotate_left
  · simp only [Act.put, List.setIfInBounds_toArray, List.set_cons_zero, List.set_cons_succ, i64_w, i32_w]
    rfl
  refine pure_ (i := 11) (N := some 43) (v := ?_) (a' := ?_) #[true, true, true, true, true, true, true, true, true, true, true, true, false, false] rfl rfl (any_of HT_.out (by kernel_rfl)) (fun _ _ _ h => h) (Or.inl ⟨by rfl, ?_⟩) ?_ ?_
  rotate_left
  · intro w'
    go_simp
    with_reducible rfl
  rotate_left
  · simp only [Act.put, List.setIfInBounds_toArray, List.set_cons_zero, List.set_cons_succ, i64_w, i32_w]
    rfl
  refine pure_ (i := 12) (N := some 5) (v := ?_) (a' := ?_) #[true, true, true, true, true, true, true, true, true, true, true, true, true, false] rfl rfl (any_of HT_.out (by kernel_rfl)) (fun _ _ _ h => h) (Or.inl ⟨by rfl, ?_⟩) ?_ ?_
  rotate_left
  · intro w'
    go_simp
    with_reducible rfl
  rotate_left
  · simp only [Act.put, List.setIfInBounds_toArray, List.set_cons_zero, List.set_cons_succ, i64_w, i32_w]
    rfl
  refine pure_ (i := 13) (N := some 6) (v := ?_) (a' := ?_) #[true, true, true, true, true, true, true, true, true, true, true, true, true, true] rfl rfl (any_of HT_.out (by kernel_rfl)) (fun _ _ _ h => h) (Or.inl ⟨by rfl, ?_⟩) ?_ ?_
  rotate_left
  · intro w'
    go_simp
    with_reducible rfl
  rotate_left
  · simp only [Act.put, List.setIfInBounds_toArray, List.set_cons_zero, List.set_cons_succ, i64_w, i32_w]
    rfl
  refine done_ (done_of HT_.out (by kernel_rfl)) ?_
  go_upto_region 12 with (first | (go_at_call 54; (refine (cover_copied.calls r A c _ (XC.out.get 1 rfl) hc HL.out).mono ?_); rintro e w10 ⟨u, rfl, hRu, hb10⟩; obtain ⟨A3, c3, rfl⟩ := Kd.R_slice hRu; have G9 := Aside0.mk (show g < w9.heap.size from blk_lt (XC.out.get 2 rfl)); have HR9 : Aside0 (Kd.R (Kd.int .i64) 3 w10 w0.heap.size (fun k => w9.heap.size ≤ k) (.slice A3 r.f3.length c3) r.f3) := ⟨Kd.R_lower (Kd.R_mono (Kd.R_bound hRu) (fun k hk => hk.2.1)) (below_step HB0.out XC.out.hb).size⟩; have XN := Aside0.mk (XC.out.step hb10); clear hb10 hRu XC; have XC := XN; clear XN; clear j0 j1 j2 j3 j4 j5 j6 j7 y0 y1 y2 y3 y4 y5 y6 y7; clear b0 b1 b2 b3 z0 z1 z2 z3; obtain ⟨⟨j0, j1, j2, j3, j4, j5, j6, j7⟩, y0, y1, y2, y3, y4, y5, y6, y7⟩ := cell8 (XC.out.get 2 rfl); obtain ⟨⟨b0, b1, b2, b3⟩, z0, z1, z2, z3⟩ := cell4_ (XC.out.get 0 rfl)) | fail)
  have HK5 : Aside0 (((((w10.setCell ⟨g, 2, none⟩ (.int .i64 r.f0)).setCell ⟨g, 3, none⟩ (.int .i64 r.f1)).setCell ⟨g, 4, none⟩ (.int .i64 r.f2)).setCell ⟨g, 5, none⟩ (.slice A3 r.f3.length c3)).heap[g]? = some (.cells #[(.int .i64 a), (.int .i64 h), (.int .i64 r.f0), (.int .i64 r.f1), (.int .i64 r.f2), (.slice A3 r.f3.length c3), (.int .i64 left), (.bool false)] 73 (0, 0))) := ⟨blk_put (cs := #[(.int .i64 a), (.int .i64 h), (.int .i64 r.f0), (.int .i64 r.f1), (.int .i64 r.f2), (.slice A0 R.f3.length cp), (.int .i64 left), (.bool false)]) (blk_put (cs := #[(.int .i64 a), (.int .i64 h), (.int .i64 r.f0), (.int .i64 r.f1), (.int .i64 R.f2), (.slice A0 R.f3.length cp), (.int .i64 left), (.bool false)]) (blk_put (cs := #[(.int .i64 a), (.int .i64 h), (.int .i64 r.f0), (.int .i64 R.f1), (.int .i64 R.f2), (.slice A0 R.f3.length cp), (.int .i64 left), (.bool false)]) (blk_put (cs := #[(.int .i64 a), (.int .i64 h), (.int .i64 R.f0), (.int .i64 R.f1), (.int .i64 R.f2), (.slice A0 R.f3.length cp), (.int .i64 left), (.bool false)]) (XC.out.get 2 rfl) 2 _ rfl) 3 _ rfl) 4 _ rfl) 5 _ rfl⟩
  have HR5 : Aside0 (Kd.R (Kd.int .i64) 3 ((((w10.setCell ⟨g, 2, none⟩ (.int .i64 r.f0)).setCell ⟨g, 3, none⟩ (.int .i64 r.f1)).setCell ⟨g, 4, none⟩ (.int .i64 r.f2)).setCell ⟨g, 5, none⟩ (.slice A3 r.f3.length c3)) w0.heap.size (fun k => w9.heap.size ≤ k) (.slice A3 r.f3.length c3) r.f3) := by
    have hg9 := G9.out
    have hq : ∀ k, w9.heap.size ≤ k → k ≠ g := fun k hk => by omega
    exact ⟨Kd.R_far (p := ⟨g, 5, none⟩) (Kd.R_far (p := ⟨g, 4, none⟩) (Kd.R_far (p := ⟨g, 3, none⟩) (Kd.R_far (p := ⟨g, 2, none⟩) HR9.out hq _) hq _) hq _) hq _⟩
  have KB5 : Aside0 (KeepBut w ((((w10.setCell ⟨g, 2, none⟩ (.int .i64 r.f0)).setCell ⟨g, 3, none⟩ (.int .i64 r.f1)).setCell ⟨g, 4, none⟩ (.int .i64 r.f2)).setCell ⟨g, 5, none⟩ (.slice A3 r.f3.length c3)) g none) := ⟨((((KeepBut.of_below XC.out.hb g none).set_ 2 _).set_ 3 _).set_ 4 _).set_ 5 _⟩
  have BB5 : Aside0 (Below w0.heap.size w0 ((((w10.setCell ⟨g, 2, none⟩ (.int .i64 r.f0)).setCell ⟨g, 3, none⟩ (.int .i64 r.f1)).setCell ⟨g, 4, none⟩ (.int .i64 r.f2)).setCell ⟨g, 5, none⟩ (.slice A3 r.f3.length c3))) := ⟨((((below_step HB0.out XC.out.hb).setCell (p := ⟨g, 2, none⟩) HG.out _).setCell (p := ⟨g, 3, none⟩) HG.out _).setCell (p := ⟨g, 4, none⟩) HG.out _).setCell (p := ⟨g, 5, none⟩) HG.out _⟩
  have BK5 : Aside0 (((((w10.setCell ⟨g, 2, none⟩ (.int .i64 r.f0)).setCell ⟨g, 3, none⟩ (.int .i64 r.f1)).setCell ⟨g, 4, none⟩ (.int .i64 r.f2)).setCell ⟨g, 5, none⟩ (.slice A3 r.f3.length c3)).heap[w.heap.size]? = some (.cells #[.int .i64 r.f0, .int .i64 r.f1, .int .i64 r.f2, .slice A r.f3.length c] 28 (0, 0))) := ⟨blk_far (p := ⟨g, 5, none⟩) (blk_far (p := ⟨g, 4, none⟩) (blk_far (p := ⟨g, 3, none⟩) (blk_far (p := ⟨g, 2, none⟩) (XC.out.get 0 rfl) (Ne.symm hbg) _) (Ne.symm hbg) _) (Ne.symm hbg) _) (Ne.symm hbg) _⟩
  clear XC HR9 j0 j1 j2 j3 j4 j5 j6 j7 y0 y1 y2 y3 y4 y5 y6 y7 b0 b1 b2 b3 z0 z1 z2 z3
  generalize ((((w10.setCell ⟨g, 2, none⟩ (.int .i64 r.f0)).setCell ⟨g, 3, none⟩ (.int .i64 r.f1)).setCell ⟨g, 4, none⟩ (.int .i64 r.f2)).setCell ⟨g, 5, none⟩ (.slice A3 r.f3.length c3)) = w5 at HK5 HR5 KB5 BB5 BK5 ⊢
  obtain ⟨⟨j0, j1, j2, j3, j4, j5, j6, j7⟩, y0, y1, y2, y3, y4, y5, y6, y7⟩ := cell8 HK5.out
  obtain ⟨⟨b0, b1, b2, b3⟩, z0, z1, z2, z3⟩ := cell4_ BK5.out
  go_wp2_with (first | (go_at_call 52; (refine (cover_often.calls r.f0 r.f1 r.f2 A c r.f3 t _ (Kd.C_below HRW.out BB5.out) hc HT.out).mono ?_); rintro e w12 ⟨rfl, hb12⟩; have HK6 := Aside0.mk (blk_below HK5.out hb12); have HR6 := Aside0.mk (Kd.R_below HR5.out hb12); have KB6 := Aside0.mk (KB5.out.trans (KeepBut.of_below hb12 g none) (Or.inl rfl)); have BB6 := Aside0.mk (below_step BB5.out hb12); clear hb12 HK5 HR5 KB5 BB5 BK5; clear j0 j1 j2 j3 j4 j5 j6 j7 y0 y1 y2 y3 y4 y5 y6 y7; clear b0 b1 b2 b3 z0 z1 z2 z3; obtain ⟨⟨j0, j1, j2, j3, j4, j5, j6, j7⟩, y0, y1, y2, y3, y4, y5, y6, y7⟩ := cell8 HK6.out) | fail)
  go_ret
  have hg9 := G9.out
  exact ⟨rfl, ⟨HG.out, _, blk_put HK6.out 6 _ rfl, Kd.R_mono (Kd.R_far (p := ⟨g, 6, none⟩) HR6.out (fun k hk => by show k ≠ g; omega) _) (fun _ _ => trivial)⟩, KB6.out.set_ 6 _, BB6.out.setCell (p := ⟨g, 6, none⟩) HG.out _⟩
end Go.Proofs.Ytaihieglailmcaa.PC
