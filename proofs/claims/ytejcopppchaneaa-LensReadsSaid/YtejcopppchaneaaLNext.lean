/- lens.Next, Feed, Close, Ended, Held: what they do. -/
import Derived.Test.YtejcopppchaneaaLTake
set_option linter.unusedVariables false
set_option linter.unusedSimpArgs false
namespace Go.Proofs.Ytejcopppchaneaa.PF
open Go.RowKit Go.Proofs.YtejcopppchaneaaW.PrintWords Go.Proofs.YtejcopppchaneaaW.PrintLast Go.Proofs.YtejcopppchaneaaW.PrintMore Go.Proofs.Ytejcopppchaneaa.Pure
theorem results_ctbt_ok : True := trivial
/-- Walls for a block's neighbours. -/
theorem far8 {w : World} {g b : Nat} {o : Obj} (h : w.heap[b]? = some o) (hn : b ≠ g) (j : Nat) (u : Value) : (w.setCell ⟨g, j, none⟩ u).heap[b]? = some o := (Below.heap_setCell w ⟨g, j, none⟩ u b hn).trans h
theorem blk4_far {w : World} {g g2 : Nat} {cs : Array Value} {a' b' c' d' : Value} {t : TypeId} (h : w.heap[g2]? = some (.cells cs t (0, 0))) (hne : g2 ≠ g) : ((((w.setCell ⟨g, 0, none⟩ a').setCell ⟨g, 1, none⟩ b').setCell ⟨g, 2, none⟩ c').setCell ⟨g, 3, none⟩ d').heap[g2]? = some (.cells cs t (0, 0)) :=
  blk_far (p := ⟨g, 3, none⟩) (blk_far (p := ⟨g, 2, none⟩) (blk_far (p := ⟨g, 1, none⟩) (blk_far (p := ⟨g, 0, none⟩) h hne a') hne b') hne c') hne d'
theorem keep4_far {w W : World} {g r : Nat} {a' b' c' d' : Value} (h : KeepBut w W g none) (hr : w.heap.size ≤ r) : KeepBut w ((((W.setCell ⟨r, 0, none⟩ a').setCell ⟨r, 1, none⟩ b').setCell ⟨r, 2, none⟩ c').setCell ⟨r, 3, none⟩ d') g none :=
  keep_far (p := ⟨r, 3, none⟩) (keep_far (p := ⟨r, 2, none⟩) (keep_far (p := ⟨r, 1, none⟩) (keep_far (p := ⟨r, 0, none⟩) h hr a') hr b') hr c') hr d'
set_option maxHeartbeats 16000000 in
set_option maxRecDepth 100000 in
theorem lens_Next.stop (base g : Nat) (rest : ByteArray) (k n r : Int) (closed ended : Bool) (e0 q1 q2 q3 : Int) (q4 : List Int) (q5 q6 : Int) (w : World) (hL : LAt w g ⟨rest, k, n, r, closed, ended, e0⟩) (hbg : base ≤ g) (hbw : base ≤ w.heap.size) (hz : rest.size ≤ 600) (h1 : okR (lastR ⟨rest, k, n, r, closed, ended, e0⟩)) (h2 : (rt rest).2.2.2.2.2 = 0 → okR (xOf (rt rest))) (hp : takeS ⟨rest, k, n, r, closed, ended, e0⟩ = (q1, q2, q3, q4, q5, q6)) (hq : q6 ≠ 0 ∨ q5 = 0) :
    Calls Try.prog 15 #[.pointer (some ⟨g, 0, none⟩)] w fun e w' => ∃ v : Value, e = .returned (.tuple #[.agg #[.int .i64 0, .int .i64 0, .int .i64 0, v], .bool false, .int .i64 q6]) ∧ Kd.R (Kd.int .i64) 3 w' w.heap.size (fun _ => True) v [] ∧ LAt w' g ⟨rest, k, n, r, closed, ended, q6⟩ ∧ KeepBut w w' g none ∧ Below base w w' := by
  have hu30 := Try.underlying30
  have hu61 := Try.underlying61
  have TK : ∀ w1 : World, Below w.heap.size w w1 → Calls Try.prog 34 #[.pointer (some ⟨g, 0, none⟩)] w1 fun e w' => ∃ v : Value, e = .returned (.tuple #[.agg #[.int .i64 q1, .int .i64 q2, .int .i64 q3, v], .int .i64 q5, .int .i64 q6]) ∧ Kd.R (Kd.int .i64) 3 w' w1.heap.size (fun _ => True) v q4 ∧ Below w1.heap.size w1 w' := fun w1 hb => lens_take.calls_ g rest k n r closed ended e0 _ w1 (blk_below hL hb) hz h1 h2 hp
  have TK := Aside0.mk TK
  have L : Aside0 (w.heap[g]? = some (.cells #[.string rest, .int .i64 k, .int .i64 n, .int .i64 r, .slice none 0 0, .bool closed, .bool ended, .int .i64 e0] 61 (0, 0))) := ⟨hL⟩
  have NG := Aside0.mk (blk_lt L.out)
  have GB := Aside0.mk hbg
  have WB := Aside0.mk hbw
  clear hL hbg hbw hz h1 h2 hp
  go_enter Try.func15, Try.ntmps15
  go_upto_region 1 with (first | ((with_reducible refine gate_dst (N := 2) rfl ?_); refine box_event ?hg (N := 2) ?hd (cs := #[.int .i64 0, .int .i64 0, .int .i64 0, .slice none 0 0]) (t := 30) ?hr ?_; (case hd => rfl); (case hg => rfl); (case hr => first | (go_simp; done) | (go_simp; rfl)); intro gr hg_ w1 hbox hb; have GR := Aside0.mk (show w.heap.size ≤ gr by omega); clear hg_; have BR := Aside0.mk hbox; have LN := Aside0.mk (blk_below L.out hb); clear L; have L := LN; clear LN; have HB := Aside0.mk hb; clear hbox hb; obtain ⟨⟨i0, i1, i2, i3, i4, i5, i6, i7⟩, u0, u1, u2, u3, u4, u5, u6, u7⟩ := cell8 L.out; obtain ⟨⟨k0, k1, k2, k3⟩, z0, z1, z2, z3⟩ := cell4 BR.out) | fail)
  have TK1 := Aside0.mk (TK.out w1 HB.out)
  clear TK
  have TK := TK1
  clear TK1
  go_upto_region 4 with (first | (go_at_call 34; (with_reducible refine TK.out.mono ?_); rintro e w2 ⟨v, rfl, hR, hb⟩; obtain ⟨A, c, rfl⟩ := Kd.R_slice hR; have HR := Aside0.mk (Kd.R_lower hR HB.out.size); have LN := Aside0.mk (blk_below L.out hb); have KN := Aside0.mk (blk_below BR.out hb); have BN := Aside0.mk (below_step HB.out hb); clear L BR HB i0 i1 i2 i3 i4 i5 i6 i7 u0 u1 u2 u3 u4 u5 u6 u7 k0 k1 k2 k3 z0 z1 z2 z3; have L := LN; have BR := KN; have HB := BN; clear LN KN BN; obtain ⟨⟨i0, i1, i2, i3, i4, i5, i6, i7⟩, u0, u1, u2, u3, u4, u5, u6, u7⟩ := cell8 L.out; obtain ⟨⟨k0, k1, k2, k3⟩, z0, z1, z2, z3⟩ := cell4 BR.out; clear hb hR) | ((with_reducible refine gate_dst (N := 5) rfl ?_); refine box_event ?hg (N := 5) ?hd (cs := #[.int .i64 0, .int .i64 0, .int .i64 0, .slice none 0 0]) (t := 30) ?hr ?_; (case hd => rfl); (case hg => rfl); (case hr => first | (go_simp; done) | (go_simp; rfl)); intro gx hg_ w3 hbox hb; have NX := Aside0.mk (show gx ≠ g ∧ gx ≠ gr ∧ w.heap.size ≤ gx from by have h1 := blk_lt L.out; have h2 := blk_lt BR.out; have h3 := HB.out.size; exact ⟨by omega, by omega, by omega⟩); clear hg_; have BX := Aside0.mk hbox; have LN := Aside0.mk (blk_below L.out hb); have KN := Aside0.mk (blk_below BR.out hb); have RN := Aside0.mk (Kd.R_below HR.out hb); have BN := Aside0.mk (below_step HB.out hb); clear L BR HR HB i0 i1 i2 i3 i4 i5 i6 i7 u0 u1 u2 u3 u4 u5 u6 u7 k0 k1 k2 k3 z0 z1 z2 z3; have L := LN; have BR := KN; have HR := RN; have HB := BN; clear LN KN RN BN; clear hbox hb; obtain ⟨⟨i0, i1, i2, i3, i4, i5, i6, i7⟩, u0, u1, u2, u3, u4, u5, u6, u7⟩ := cell8 L.out; obtain ⟨⟨k0, k1, k2, k3⟩, z0, z1, z2, z3⟩ := cell4 BR.out; obtain ⟨⟨l0, l1, l2, l3⟩, m0, m1, m2, m3⟩ := cell4 BX.out) | fail)
  have HR3 := Aside0.mk (row4_put (a' := .int .i64 q1) (b' := .int .i64 q2) (c' := .int .i64 q3) (d' := .slice A q4.length c) BX.out HR.out)
  have L3 := Aside0.mk (blk_kept L.out (kept4 _ gx (.int .i64 q1) (.int .i64 q2) (.int .i64 q3) (.slice A q4.length c)) (Ne.symm NX.out.1))
  have BR3 := Aside0.mk (blk_kept BR.out (kept4 _ gx (.int .i64 q1) (.int .i64 q2) (.int .i64 q3) (.slice A q4.length c)) (Ne.symm NX.out.2.1))
  have HB3 := Aside0.mk (below4_put (a' := .int .i64 q1) (b' := .int .i64 q2) (c' := .int .i64 q3) (d' := .slice A q4.length c) HB.out NX.out.2.2)
  have BX3 := Aside0.mk (blk4_put (a' := .int .i64 q1) (b' := .int .i64 q2) (c' := .int .i64 q3) (d' := .slice A q4.length c) BX.out)
  clear L BR HB HR BX TK i0 i1 i2 i3 i4 i5 i6 i7 u0 u1 u2 u3 u4 u5 u6 u7 k0 k1 k2 k3 z0 z1 z2 z3 l0 l1 l2 l3 m0 m1 m2 m3
  have hGR := GR.out
  have hgr : gr ≠ g := by have := NX.out; have h1 := GR.out; intro h; subst h; exact absurd (NG.out) (by omega)
  generalize ((((w3.setCell ⟨gx, 0, none⟩ (.int .i64 q1)).setCell ⟨gx, 1, none⟩ (.int .i64 q2)).setCell ⟨gx, 2, none⟩ (.int .i64 q3)).setCell ⟨gx, 3, none⟩ (.slice A q4.length c)) = w4 at L3 BR3 HB3 BX3 HR3 ⊢
  have hxg := NX.out.1
  have hxr := NX.out.2.1
  clear hGR
  obtain ⟨⟨i0, i1, i2, i3, i4, i5, i6, i7⟩, u0, u1, u2, u3, u4, u5, u6, u7⟩ := cell8 L3.out
  obtain ⟨⟨k0, k1, k2, k3⟩, z0, z1, z2, z3⟩ := cell4 BR3.out
  obtain ⟨⟨l0, l1, l2, l3⟩, m0, m1, m2, m3⟩ := cell4 BX3.out

  by_cases h6 : q6 = 0
  · have e6 : (q6 != 0) = false := bne_eq_false_iff_eq.mpr h6
    have h5 : q5 = 0 := by rcases hq with h | h; exact absurd h6 h; exact h
    have e5 : (q5 == 0) = true := beq_iff_eq.mpr h5
    clear h6 h5 hq
    go_wp2
    (try simp only [Exit.inBlock, Exit.then])
    refine bodyPost_ret (results_ctt rfl _ _ gr 30 #[.int .i64 0, .int .i64 0, .int .i64 0, .slice none 0 0] (0, 0) _ rfl (by exact blk4_put (far8 (BR3.out) hgr 7 (.int .i64 q6))) Try.underlying30 rfl (by kernel_rfl)) rfl ?_
    have hL5 := blk4_far (g := gr) (a' := .int .i64 0) (b' := .int .i64 0) (c' := .int .i64 0) (d' := .slice none 0 0) (blk_put (cs' := #[.string rest, .int .i64 k, .int .i64 n, .int .i64 r, .slice none 0 0, .bool closed, .bool ended, .int .i64 q6]) (L3.out) 7 (.int .i64 q6) rfl) (Ne.symm hgr)
    exact ⟨_, rfl, Kd.R_nil _ _ _ _ _, hL5, keep4_far ((KeepBut.of_below HB3.out g none).set_ 7 (.int .i64 q6)) GR.out, below4_put ((HB3.out.mono WB.out).setCell (p := ⟨g, 7, none⟩) GB.out (.int .i64 q6)) (Nat.le_trans WB.out GR.out)⟩
  · have e6 : (q6 != 0) = true := bne_iff_ne.mpr h6
    clear h6 hq
    go_wp2
    (try simp only [Exit.inBlock, Exit.then])
    refine bodyPost_ret (results_ctt rfl _ _ gr 30 #[.int .i64 0, .int .i64 0, .int .i64 0, .slice none 0 0] (0, 0) _ rfl (by exact blk4_put (far8 (BR3.out) hgr 7 (.int .i64 q6))) Try.underlying30 rfl (by kernel_rfl)) rfl ?_
    have hL5 := blk4_far (g := gr) (a' := .int .i64 0) (b' := .int .i64 0) (c' := .int .i64 0) (d' := .slice none 0 0) (blk_put (cs' := #[.string rest, .int .i64 k, .int .i64 n, .int .i64 r, .slice none 0 0, .bool closed, .bool ended, .int .i64 q6]) (L3.out) 7 (.int .i64 q6) rfl) (Ne.symm hgr)
    exact ⟨_, rfl, Kd.R_nil _ _ _ _ _, hL5, keep4_far ((KeepBut.of_below HB3.out g none).set_ 7 (.int .i64 q6)) GR.out, below4_put ((HB3.out.mono WB.out).setCell (p := ⟨g, 7, none⟩) GB.out (.int .i64 q6)) (Nat.le_trans WB.out GR.out)⟩
set_option maxHeartbeats 16000000 in
set_option maxRecDepth 100000 in
theorem lens_Next.go_ (base g : Nat) (rest : ByteArray) (k n r : Int) (closed ended : Bool) (e0 q1 q2 q3 : Int) (q4 : List Int) (q5 q6 : Int) (w : World) (hL : LAt w g ⟨rest, k, n, r, closed, ended, e0⟩) (hbg : base ≤ g) (hbw : base ≤ w.heap.size) (hz : rest.size ≤ 600) (h1 : okR (lastR ⟨rest, k, n, r, closed, ended, e0⟩)) (h2 : (rt rest).2.2.2.2.2 = 0 → okR (xOf (rt rest))) (hp : takeS ⟨rest, k, n, r, closed, ended, e0⟩ = (q1, q2, q3, q4, q5, q6)) (h6 : q6 = 0) (hq1 : 1 ≤ q5) (hq2 : q5 ≤ rest.size) :
    Calls Try.prog 15 #[.pointer (some ⟨g, 0, none⟩)] w fun e w' => ∃ v : Value, e = .returned (.tuple #[.agg #[.int .i64 q1, .int .i64 q2, .int .i64 q3, v], .bool true, .int .i64 0]) ∧ Kd.R (Kd.int .i64) 3 w' w.heap.size (fun _ => True) v q4 ∧ LAt w' g ⟨rest.extract q5.toNat rest.size, q1, q2, q3, closed, q1 == 6, 0⟩ ∧ KeepBut w w' g none ∧ Below base w w' := by
  have hu30 := Try.underlying30
  have hu61 := Try.underlying61
  have TK : ∀ w1 : World, Below w.heap.size w w1 → Calls Try.prog 34 #[.pointer (some ⟨g, 0, none⟩)] w1 fun e w' => ∃ v : Value, e = .returned (.tuple #[.agg #[.int .i64 q1, .int .i64 q2, .int .i64 q3, v], .int .i64 q5, .int .i64 q6]) ∧ Kd.R (Kd.int .i64) 3 w' w1.heap.size (fun _ => True) v q4 ∧ Below w1.heap.size w1 w' := fun w1 hb => lens_take.calls_ g rest k n r closed ended e0 _ w1 (blk_below hL hb) hz h1 h2 hp
  have TK := Aside0.mk TK
  have L : Aside0 (w.heap[g]? = some (.cells #[.string rest, .int .i64 k, .int .i64 n, .int .i64 r, .slice none 0 0, .bool closed, .bool ended, .int .i64 e0] 61 (0, 0))) := ⟨hL⟩
  have NG := Aside0.mk (blk_lt L.out)
  have GB := Aside0.mk hbg
  have WB := Aside0.mk hbw
  clear hL hbg hbw hz h1 h2 hp
  go_enter Try.func15, Try.ntmps15
  go_upto_region 1 with (first | ((with_reducible refine gate_dst (N := 2) rfl ?_); refine box_event ?hg (N := 2) ?hd (cs := #[.int .i64 0, .int .i64 0, .int .i64 0, .slice none 0 0]) (t := 30) ?hr ?_; (case hd => rfl); (case hg => rfl); (case hr => first | (go_simp; done) | (go_simp; rfl)); intro gr hg_ w1 hbox hb; have GR := Aside0.mk (show w.heap.size ≤ gr by omega); clear hg_; have BR := Aside0.mk hbox; have LN := Aside0.mk (blk_below L.out hb); clear L; have L := LN; clear LN; have HB := Aside0.mk hb; clear hbox hb; obtain ⟨⟨i0, i1, i2, i3, i4, i5, i6, i7⟩, u0, u1, u2, u3, u4, u5, u6, u7⟩ := cell8 L.out; obtain ⟨⟨k0, k1, k2, k3⟩, z0, z1, z2, z3⟩ := cell4 BR.out) | fail)
  have TK1 := Aside0.mk (TK.out w1 HB.out)
  clear TK
  have TK := TK1
  clear TK1
  go_upto_region 4 with (first | (go_at_call 34; (with_reducible refine TK.out.mono ?_); rintro e w2 ⟨v, rfl, hR, hb⟩; obtain ⟨A, c, rfl⟩ := Kd.R_slice hR; have HR := Aside0.mk (Kd.R_lower hR HB.out.size); have LN := Aside0.mk (blk_below L.out hb); have KN := Aside0.mk (blk_below BR.out hb); have BN := Aside0.mk (below_step HB.out hb); clear L BR HB i0 i1 i2 i3 i4 i5 i6 i7 u0 u1 u2 u3 u4 u5 u6 u7 k0 k1 k2 k3 z0 z1 z2 z3; have L := LN; have BR := KN; have HB := BN; clear LN KN BN; obtain ⟨⟨i0, i1, i2, i3, i4, i5, i6, i7⟩, u0, u1, u2, u3, u4, u5, u6, u7⟩ := cell8 L.out; obtain ⟨⟨k0, k1, k2, k3⟩, z0, z1, z2, z3⟩ := cell4 BR.out; clear hb hR) | ((with_reducible refine gate_dst (N := 5) rfl ?_); refine box_event ?hg (N := 5) ?hd (cs := #[.int .i64 0, .int .i64 0, .int .i64 0, .slice none 0 0]) (t := 30) ?hr ?_; (case hd => rfl); (case hg => rfl); (case hr => first | (go_simp; done) | (go_simp; rfl)); intro gx hg_ w3 hbox hb; have NX := Aside0.mk (show gx ≠ g ∧ gx ≠ gr ∧ w.heap.size ≤ gx from by have h1 := blk_lt L.out; have h2 := blk_lt BR.out; have h3 := HB.out.size; exact ⟨by omega, by omega, by omega⟩); clear hg_; have BX := Aside0.mk hbox; have LN := Aside0.mk (blk_below L.out hb); have KN := Aside0.mk (blk_below BR.out hb); have RN := Aside0.mk (Kd.R_below HR.out hb); have BN := Aside0.mk (below_step HB.out hb); clear L BR HR HB i0 i1 i2 i3 i4 i5 i6 i7 u0 u1 u2 u3 u4 u5 u6 u7 k0 k1 k2 k3 z0 z1 z2 z3; have L := LN; have BR := KN; have HR := RN; have HB := BN; clear LN KN RN BN; clear hbox hb; obtain ⟨⟨i0, i1, i2, i3, i4, i5, i6, i7⟩, u0, u1, u2, u3, u4, u5, u6, u7⟩ := cell8 L.out; obtain ⟨⟨k0, k1, k2, k3⟩, z0, z1, z2, z3⟩ := cell4 BR.out; obtain ⟨⟨l0, l1, l2, l3⟩, m0, m1, m2, m3⟩ := cell4 BX.out) | fail)
  have HR3 := Aside0.mk (row4_put (a' := .int .i64 q1) (b' := .int .i64 q2) (c' := .int .i64 q3) (d' := .slice A q4.length c) BX.out HR.out)
  have L3 := Aside0.mk (blk_kept L.out (kept4 _ gx (.int .i64 q1) (.int .i64 q2) (.int .i64 q3) (.slice A q4.length c)) (Ne.symm NX.out.1))
  have BR3 := Aside0.mk (blk_kept BR.out (kept4 _ gx (.int .i64 q1) (.int .i64 q2) (.int .i64 q3) (.slice A q4.length c)) (Ne.symm NX.out.2.1))
  have HB3 := Aside0.mk (below4_put (a' := .int .i64 q1) (b' := .int .i64 q2) (c' := .int .i64 q3) (d' := .slice A q4.length c) HB.out NX.out.2.2)
  have BX3 := Aside0.mk (blk4_put (a' := .int .i64 q1) (b' := .int .i64 q2) (c' := .int .i64 q3) (d' := .slice A q4.length c) BX.out)
  clear L BR HB HR BX TK i0 i1 i2 i3 i4 i5 i6 i7 u0 u1 u2 u3 u4 u5 u6 u7 k0 k1 k2 k3 z0 z1 z2 z3 l0 l1 l2 l3 m0 m1 m2 m3
  have hGR := GR.out
  have hgr : gr ≠ g := by have := NX.out; have h1 := GR.out; intro h; subst h; exact absurd (NG.out) (by omega)
  generalize ((((w3.setCell ⟨gx, 0, none⟩ (.int .i64 q1)).setCell ⟨gx, 1, none⟩ (.int .i64 q2)).setCell ⟨gx, 2, none⟩ (.int .i64 q3)).setCell ⟨gx, 3, none⟩ (.slice A q4.length c)) = w4 at L3 BR3 HB3 BX3 HR3 ⊢
  have hxg := NX.out.1
  have hxr := NX.out.2.1
  clear hGR
  obtain ⟨⟨i0, i1, i2, i3, i4, i5, i6, i7⟩, u0, u1, u2, u3, u4, u5, u6, u7⟩ := cell8 L3.out
  obtain ⟨⟨k0, k1, k2, k3⟩, z0, z1, z2, z3⟩ := cell4 BR3.out
  obtain ⟨⟨l0, l1, l2, l3⟩, m0, m1, m2, m3⟩ := cell4 BX3.out
  subst h6
  have e5 : (q5 == 0) = false := beq_eq_false_iff_ne.mpr (by omega)
  have d1 : decide (0 ≤ q5) = true := decide_eq_true (by omega)
  have d2 : decide (q5 ≤ (rest.size : Int)) = true := decide_eq_true hq2
  have d3 := eq_true (show 0 ≤ q5 by omega)
  have d4 := eq_true hq2
  clear hq1 hq2
  go_wp2
  (try simp only [Exit.inBlock, Exit.then])
  refine bodyPost_ret (results_ctt rfl _ _ gr 30 #[.int .i64 q1, .int .i64 q2, .int .i64 q3, .slice A q4.length c] (0, 0) _ rfl (by exact blk4_put (far8 (far8 (far8 (far8 (far8 (far8 (far8 (BR3.out) hgr 7 (.int .i64 0)) hgr 0 (.string (rest.extract q5.toNat rest.size))) hgr 1 (.int .i64 q1)) hgr 2 (.int .i64 q2)) hgr 3 (.int .i64 q3)) hgr 4 (.slice none 0 0)) hgr 6 (.bool (q1 == 6)))) Try.underlying30 rfl (by kernel_rfl)) rfl ?_
  have hL5 := blk4_far (g := gr) (a' := .int .i64 q1) (b' := .int .i64 q2) (c' := .int .i64 q3) (d' := .slice A q4.length c) (blk_put (cs' := #[.string (rest.extract q5.toNat rest.size), .int .i64 q1, .int .i64 q2, .int .i64 q3, .slice none 0 0, .bool closed, .bool (q1 == 6), .int .i64 0]) (blk_put (cs' := #[.string (rest.extract q5.toNat rest.size), .int .i64 q1, .int .i64 q2, .int .i64 q3, .slice none 0 0, .bool closed, .bool ended, .int .i64 0]) (blk_put (cs' := #[.string (rest.extract q5.toNat rest.size), .int .i64 q1, .int .i64 q2, .int .i64 q3, .slice none 0 0, .bool closed, .bool ended, .int .i64 0]) (blk_put (cs' := #[.string (rest.extract q5.toNat rest.size), .int .i64 q1, .int .i64 q2, .int .i64 r, .slice none 0 0, .bool closed, .bool ended, .int .i64 0]) (blk_put (cs' := #[.string (rest.extract q5.toNat rest.size), .int .i64 q1, .int .i64 n, .int .i64 r, .slice none 0 0, .bool closed, .bool ended, .int .i64 0]) (blk_put (cs' := #[.string (rest.extract q5.toNat rest.size), .int .i64 k, .int .i64 n, .int .i64 r, .slice none 0 0, .bool closed, .bool ended, .int .i64 0]) (blk_put (cs' := #[.string rest, .int .i64 k, .int .i64 n, .int .i64 r, .slice none 0 0, .bool closed, .bool ended, .int .i64 0]) (L3.out) 7 (.int .i64 0) rfl) 0 (.string (rest.extract q5.toNat rest.size)) rfl) 1 (.int .i64 q1) rfl) 2 (.int .i64 q2) rfl) 3 (.int .i64 q3) rfl) 4 (.slice none 0 0) rfl) 6 (.bool (q1 == 6)) rfl) (Ne.symm hgr)
  exact ⟨_, rfl, row4_put (far8 (far8 (far8 (far8 (far8 (far8 (far8 (BR3.out) hgr 7 (.int .i64 0)) hgr 0 (.string (rest.extract q5.toNat rest.size))) hgr 1 (.int .i64 q1)) hgr 2 (.int .i64 q2)) hgr 3 (.int .i64 q3)) hgr 4 (.slice none 0 0)) hgr 6 (.bool (q1 == 6))) (Kd.R_set (Kd.R_set (Kd.R_set (Kd.R_set (Kd.R_set (Kd.R_set (Kd.R_set (HR3.out) (L3.out) (by decide) 7 (.int .i64 0)) (blk_put (cs' := #[.string rest, .int .i64 k, .int .i64 n, .int .i64 r, .slice none 0 0, .bool closed, .bool ended, .int .i64 0]) (L3.out) 7 (.int .i64 0) rfl) (by decide) 0 (.string (rest.extract q5.toNat rest.size))) (blk_put (cs' := #[.string (rest.extract q5.toNat rest.size), .int .i64 k, .int .i64 n, .int .i64 r, .slice none 0 0, .bool closed, .bool ended, .int .i64 0]) (blk_put (cs' := #[.string rest, .int .i64 k, .int .i64 n, .int .i64 r, .slice none 0 0, .bool closed, .bool ended, .int .i64 0]) (L3.out) 7 (.int .i64 0) rfl) 0 (.string (rest.extract q5.toNat rest.size)) rfl) (by decide) 1 (.int .i64 q1)) (blk_put (cs' := #[.string (rest.extract q5.toNat rest.size), .int .i64 q1, .int .i64 n, .int .i64 r, .slice none 0 0, .bool closed, .bool ended, .int .i64 0]) (blk_put (cs' := #[.string (rest.extract q5.toNat rest.size), .int .i64 k, .int .i64 n, .int .i64 r, .slice none 0 0, .bool closed, .bool ended, .int .i64 0]) (blk_put (cs' := #[.string rest, .int .i64 k, .int .i64 n, .int .i64 r, .slice none 0 0, .bool closed, .bool ended, .int .i64 0]) (L3.out) 7 (.int .i64 0) rfl) 0 (.string (rest.extract q5.toNat rest.size)) rfl) 1 (.int .i64 q1) rfl) (by decide) 2 (.int .i64 q2)) (blk_put (cs' := #[.string (rest.extract q5.toNat rest.size), .int .i64 q1, .int .i64 q2, .int .i64 r, .slice none 0 0, .bool closed, .bool ended, .int .i64 0]) (blk_put (cs' := #[.string (rest.extract q5.toNat rest.size), .int .i64 q1, .int .i64 n, .int .i64 r, .slice none 0 0, .bool closed, .bool ended, .int .i64 0]) (blk_put (cs' := #[.string (rest.extract q5.toNat rest.size), .int .i64 k, .int .i64 n, .int .i64 r, .slice none 0 0, .bool closed, .bool ended, .int .i64 0]) (blk_put (cs' := #[.string rest, .int .i64 k, .int .i64 n, .int .i64 r, .slice none 0 0, .bool closed, .bool ended, .int .i64 0]) (L3.out) 7 (.int .i64 0) rfl) 0 (.string (rest.extract q5.toNat rest.size)) rfl) 1 (.int .i64 q1) rfl) 2 (.int .i64 q2) rfl) (by decide) 3 (.int .i64 q3)) (blk_put (cs' := #[.string (rest.extract q5.toNat rest.size), .int .i64 q1, .int .i64 q2, .int .i64 q3, .slice none 0 0, .bool closed, .bool ended, .int .i64 0]) (blk_put (cs' := #[.string (rest.extract q5.toNat rest.size), .int .i64 q1, .int .i64 q2, .int .i64 r, .slice none 0 0, .bool closed, .bool ended, .int .i64 0]) (blk_put (cs' := #[.string (rest.extract q5.toNat rest.size), .int .i64 q1, .int .i64 n, .int .i64 r, .slice none 0 0, .bool closed, .bool ended, .int .i64 0]) (blk_put (cs' := #[.string (rest.extract q5.toNat rest.size), .int .i64 k, .int .i64 n, .int .i64 r, .slice none 0 0, .bool closed, .bool ended, .int .i64 0]) (blk_put (cs' := #[.string rest, .int .i64 k, .int .i64 n, .int .i64 r, .slice none 0 0, .bool closed, .bool ended, .int .i64 0]) (L3.out) 7 (.int .i64 0) rfl) 0 (.string (rest.extract q5.toNat rest.size)) rfl) 1 (.int .i64 q1) rfl) 2 (.int .i64 q2) rfl) 3 (.int .i64 q3) rfl) (by decide) 4 (.slice none 0 0)) (blk_put (cs' := #[.string (rest.extract q5.toNat rest.size), .int .i64 q1, .int .i64 q2, .int .i64 q3, .slice none 0 0, .bool closed, .bool ended, .int .i64 0]) (blk_put (cs' := #[.string (rest.extract q5.toNat rest.size), .int .i64 q1, .int .i64 q2, .int .i64 q3, .slice none 0 0, .bool closed, .bool ended, .int .i64 0]) (blk_put (cs' := #[.string (rest.extract q5.toNat rest.size), .int .i64 q1, .int .i64 q2, .int .i64 r, .slice none 0 0, .bool closed, .bool ended, .int .i64 0]) (blk_put (cs' := #[.string (rest.extract q5.toNat rest.size), .int .i64 q1, .int .i64 n, .int .i64 r, .slice none 0 0, .bool closed, .bool ended, .int .i64 0]) (blk_put (cs' := #[.string (rest.extract q5.toNat rest.size), .int .i64 k, .int .i64 n, .int .i64 r, .slice none 0 0, .bool closed, .bool ended, .int .i64 0]) (blk_put (cs' := #[.string rest, .int .i64 k, .int .i64 n, .int .i64 r, .slice none 0 0, .bool closed, .bool ended, .int .i64 0]) (L3.out) 7 (.int .i64 0) rfl) 0 (.string (rest.extract q5.toNat rest.size)) rfl) 1 (.int .i64 q1) rfl) 2 (.int .i64 q2) rfl) 3 (.int .i64 q3) rfl) 4 (.slice none 0 0) rfl) (by decide) 6 (.bool (q1 == 6))), hL5, keep4_far ((((((((KeepBut.of_below HB3.out g none).set_ 7 (.int .i64 0)).set_ 0 (.string (rest.extract q5.toNat rest.size))).set_ 1 (.int .i64 q1)).set_ 2 (.int .i64 q2)).set_ 3 (.int .i64 q3)).set_ 4 (.slice none 0 0)).set_ 6 (.bool (q1 == 6))) GR.out, below4_put ((((((((HB3.out.mono WB.out).setCell (p := ⟨g, 7, none⟩) GB.out (.int .i64 0)).setCell (p := ⟨g, 0, none⟩) GB.out (.string (rest.extract q5.toNat rest.size))).setCell (p := ⟨g, 1, none⟩) GB.out (.int .i64 q1)).setCell (p := ⟨g, 2, none⟩) GB.out (.int .i64 q2)).setCell (p := ⟨g, 3, none⟩) GB.out (.int .i64 q3)).setCell (p := ⟨g, 4, none⟩) GB.out (.slice none 0 0)).setCell (p := ⟨g, 6, none⟩) GB.out (.bool (q1 == 6))) (Nat.le_trans WB.out GR.out)⟩
end Go.Proofs.Ytejcopppchaneaa.PF
