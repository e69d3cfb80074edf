/- merge.Merger over this seat's program, by walking its text: Add and Flush. -/
import Derived.Test.YtaihieglailmcaaPGx3
import Derived.Test.YtaihieglailmcaaPGx3
import Derived.RegionTactic
import Derived.Deep.RegionWith
import Derived.Deep.RegionHeld3
import Derived.Deep.DeepCutAuto
namespace Go.Proofs.Ytaihieglailmcaa.PG
open Go.RowKit Go.Proofs.YtaihieglailmcaaW.PrintWords Go.Proofs.YtaihieglailmcaaW.PrintLast Go.Proofs.YtaihieglailmcaaW.PrintMore
set_option linter.unusedVariables false
set_option linter.unusedSimpArgs false
/-- A merger in a block: what it holds, its Ids a row of its own. -/
def MAt (W : World) (base g : Nat) (r : S28) (has : Bool) : Prop := base ≤ g ∧ ∃ v, W.heap[g]? = some (.cells #[.int .i64 r.f0, .int .i64 r.f1, .int .i64 r.f2, v, .bool has] 30 (0, 0)) ∧ Kd.R (Kd.int .i64) 3 W base (fun _ => True) v r.f3
def merge_Flush.f (m : S28) (has : Bool) : S28 × Bool × S28 × Bool := if has = true then (m, true, z28, false) else (z28, false, m, has)
def merge_Add.f (k : Nat) (m : S28) (has : Bool) (r : S28) : Option (S28 × Bool × S28 × Bool) :=
  if has = false then (merge_copied.f r.f0 r.f1 r.f2 r.f3).bind fun c => some (z28, false, ⟨c.1, c.2.1, c.2.2.1, c.2.2.2⟩, true)
  else (merge_Two.f k m.f0 m.f1 m.f2 m.f3 r.f0 r.f1 r.f2 r.f3).bind fun p => if p.2.2.2.2 = true then some (z28, false, ⟨p.1, p.2.1, p.2.2.1, p.2.2.2.1⟩, true)
    else (merge_copied.f r.f0 r.f1 r.f2 r.f3).bind fun c => some (m, true, ⟨c.1, c.2.1, c.2.2.1, c.2.2.2⟩, true)
theorem cell5 {w : World} {g : Nat} {a b c d e : Value} {t : TypeId} (h : w.heap[g]? = some (.cells #[a, b, c, d, e] t (0, 0))) : (w.cell? ⟨g, 0, none⟩ = some a ∧ w.cell? ⟨g, 1, none⟩ = some b ∧ w.cell? ⟨g, 2, none⟩ = some c ∧ w.cell? ⟨g, 3, none⟩ = some d ∧ w.cell? ⟨g, 4, none⟩ = some e) ∧ w.frozen? ⟨g, 0, none⟩ = false ∧ w.frozen? ⟨g, 1, none⟩ = false ∧ w.frozen? ⟨g, 2, none⟩ = false ∧ w.frozen? ⟨g, 3, none⟩ = false ∧ w.frozen? ⟨g, 4, none⟩ = false :=
  ⟨⟨(blk_cell h 0).trans rfl, (blk_cell h 1).trans rfl, (blk_cell h 2).trans rfl, (blk_cell h 3).trans rfl, (blk_cell h 4).trans rfl⟩, blk_frozen h 0, blk_frozen h 1, blk_frozen h 2, blk_frozen h 3, blk_frozen h 4⟩
theorem cell4 {w : World} {g : Nat} {a b c d : Value} {t : TypeId} (h : w.heap[g]? = some (.cells #[a, b, c, d] t (0, 0))) : (w.cell? ⟨g, 0, none⟩ = some a ∧ w.cell? ⟨g, 1, none⟩ = some b ∧ w.cell? ⟨g, 2, none⟩ = some c ∧ w.cell? ⟨g, 3, none⟩ = some d) ∧ w.frozen? ⟨g, 0, none⟩ = false ∧ w.frozen? ⟨g, 1, none⟩ = false ∧ w.frozen? ⟨g, 2, none⟩ = false ∧ w.frozen? ⟨g, 3, none⟩ = false :=
  ⟨⟨(blk_cell h 0).trans rfl, (blk_cell h 1).trans rfl, (blk_cell h 2).trans rfl, (blk_cell h 3).trans rfl⟩, blk_frozen h 0, blk_frozen h 1, blk_frozen h 2, blk_frozen h 3⟩
theorem blk4_put {w : World} {g : Nat} {a b c d a' b' c' d' : Value} {t : TypeId} (h : w.heap[g]? = some (.cells #[a, b, c, d] t (0, 0))) : ((((w.setCell ⟨g, 0, none⟩ a').setCell ⟨g, 1, none⟩ b').setCell ⟨g, 2, none⟩ c').setCell ⟨g, 3, none⟩ d').heap[g]? = some (.cells #[a', b', c', d'] t (0, 0)) :=
  blk_put (cs := #[a', b', c', d]) (blk_put (cs := #[a', b', c, d]) (blk_put (cs := #[a', b, c, d]) (blk_put (cs := #[a, b, c, d]) h 0 a' rfl) 1 b' rfl) 2 c' rfl) 3 d' rfl
theorem blk4_far {w : World} {g g2 : Nat} {cs : Array Value} {a' b' c' d' : Value} {t : TypeId} (h : w.heap[g2]? = some (.cells cs t (0, 0))) (hne : g2 ≠ g) : ((((w.setCell ⟨g, 0, none⟩ a').setCell ⟨g, 1, none⟩ b').setCell ⟨g, 2, none⟩ c').setCell ⟨g, 3, none⟩ d').heap[g2]? = some (.cells cs t (0, 0)) :=
  blk_far (p := ⟨g, 3, none⟩) (blk_far (p := ⟨g, 2, none⟩) (blk_far (p := ⟨g, 1, none⟩) (blk_far (p := ⟨g, 0, none⟩) h hne a') hne b') hne c') hne d'
theorem row4_put {w : World} {g base : Nat} {ok : Nat → Prop} {v : Value} {xs : List Int} {a b c d a' b' c' d' : Value} {t : TypeId} (ht : t ≠ 3) (h : w.heap[g]? = some (.cells #[a, b, c, d] t (0, 0))) (hr : Kd.R (Kd.int .i64) 3 w base ok v xs) : Kd.R (Kd.int .i64) 3 ((((w.setCell ⟨g, 0, none⟩ a').setCell ⟨g, 1, none⟩ b').setCell ⟨g, 2, none⟩ c').setCell ⟨g, 3, none⟩ d') base ok v xs := by
  have ht' : ∀ q, q ∈ 3 :: (Kd.int .i64).E → q ≠ t := fun q hq => by rw [List.mem_singleton.1 hq]; exact fun e => ht e.symm
  have h1 := blk_put (cs' := #[a', b, c, d]) h 0 a' rfl
  have h2 := blk_put (cs' := #[a', b', c, d]) h1 1 b' rfl
  have h3 := blk_put (cs' := #[a', b', c', d]) h2 2 c' rfl
  exact Kd.R_set (Kd.R_set (Kd.R_set (Kd.R_set hr h ht' 0 a') h1 ht' 1 b') h2 ht' 2 c') h3 ht' 3 d'
theorem blk5_put {w : World} {g : Nat} {a b c d e a' b' c' d' e' : Value} {t : TypeId} (h : w.heap[g]? = some (.cells #[a, b, c, d, e] t (0, 0))) : (((((w.setCell ⟨g, 0, none⟩ a').setCell ⟨g, 1, none⟩ b').setCell ⟨g, 2, none⟩ c').setCell ⟨g, 3, none⟩ d').setCell ⟨g, 4, none⟩ e').heap[g]? = some (.cells #[a', b', c', d', e'] t (0, 0)) :=
  blk_put (cs := #[a', b', c', d', e]) (blk_put (cs := #[a', b', c', d, e]) (blk_put (cs := #[a', b', c, d, e]) (blk_put (cs := #[a', b, c, d, e]) (blk_put (cs := #[a, b, c, d, e]) h 0 a' rfl) 1 b' rfl) 2 c' rfl) 3 d' rfl) 4 e' rfl
theorem row5_put {w : World} {g base : Nat} {ok : Nat → Prop} {v : Value} {xs : List Int} {a b c d e a' b' c' d' e' : Value} {t : TypeId} (ht : t ≠ 3) (h : w.heap[g]? = some (.cells #[a, b, c, d, e] t (0, 0))) (hr : Kd.R (Kd.int .i64) 3 w base ok v xs) : Kd.R (Kd.int .i64) 3 (((((w.setCell ⟨g, 0, none⟩ a').setCell ⟨g, 1, none⟩ b').setCell ⟨g, 2, none⟩ c').setCell ⟨g, 3, none⟩ d').setCell ⟨g, 4, none⟩ e') base ok v xs := by
  have ht' : ∀ q, q ∈ 3 :: (Kd.int .i64).E → q ≠ t := fun q hq => by rw [List.mem_singleton.1 hq]; exact fun e => ht e.symm
  have h1 := blk_put (cs' := #[a', b, c, d, e]) h 0 a' rfl
  have h2 := blk_put (cs' := #[a', b', c, d, e]) h1 1 b' rfl
  have h3 := blk_put (cs' := #[a', b', c', d, e]) h2 2 c' rfl
  have h4 := blk_put (cs' := #[a', b', c', d', e]) h3 3 d' rfl
  exact Kd.R_set (Kd.R_set (Kd.R_set (Kd.R_set (Kd.R_set hr h ht' 0 a') h1 ht' 1 b') h2 ht' 2 c') h3 ht' 3 d') h4 ht' 4 e'
theorem keep5_put {w W : World} {g : Nat} {a' b' c' d' e' : Value} (h : KeepBut w W g none) : KeepBut w (((((W.setCell ⟨g, 0, none⟩ a').setCell ⟨g, 1, none⟩ b').setCell ⟨g, 2, none⟩ c').setCell ⟨g, 3, none⟩ d').setCell ⟨g, 4, none⟩ e') g none :=
  ((((h.set_ 0 a').set_ 1 b').set_ 2 c').set_ 3 d').set_ 4 e'
theorem bel4 {B g : Nat} {w W : World} {a' b' c' d' : Value} (h : Below B w W) (hg : B ≤ g) : Below B w ((((W.setCell ⟨g, 0, none⟩ a').setCell ⟨g, 1, none⟩ b').setCell ⟨g, 2, none⟩ c').setCell ⟨g, 3, none⟩ d') :=
  (((h.setCell (p := ⟨g, 0, none⟩) hg a').setCell (p := ⟨g, 1, none⟩) hg b').setCell (p := ⟨g, 2, none⟩) hg c').setCell (p := ⟨g, 3, none⟩) hg d'
theorem bel5 {B g : Nat} {w W : World} {a' b' c' d' e' : Value} (h : Below B w W) (hg : B ≤ g) : Below B w (((((W.setCell ⟨g, 0, none⟩ a').setCell ⟨g, 1, none⟩ b').setCell ⟨g, 2, none⟩ c').setCell ⟨g, 3, none⟩ d').setCell ⟨g, 4, none⟩ e') :=
  (bel4 h hg).setCell (p := ⟨g, 4, none⟩) hg e'
theorem keep4_far {w W : World} {g r : Nat} {a' b' c' d' : Value} (h : KeepBut w W g none) (hr : w.heap.size ≤ r) : KeepBut w ((((W.setCell ⟨r, 0, none⟩ a').setCell ⟨r, 1, none⟩ b').setCell ⟨r, 2, none⟩ c').setCell ⟨r, 3, none⟩ d') g none :=
  keep_far (p := ⟨r, 3, none⟩) (keep_far (p := ⟨r, 2, none⟩) (keep_far (p := ⟨r, 1, none⟩) (keep_far (p := ⟨r, 0, none⟩) h hr a') hr b') hr c') hr d'
set_option maxHeartbeats 8000000 in
set_option maxRecDepth 100000 in
theorem merge_Flush.calls (base g : Nat) (m : S28) (has : Bool) (o : S28) (ok : Bool) (m' : S28) (has' : Bool) (w : World) (hM : MAt w base g m has) (hb : base ≤ w.heap.size) (h : merge_Flush.f m has = (o, ok, m', has')) :
    Calls Try.prog 14 #[.pointer (some ⟨g, 0, none⟩)] w fun e w' => ∃ v : Value, e = .returned (.tuple #[.agg #[.int .i64 o.f0, .int .i64 o.f1, .int .i64 o.f2, v], .bool ok]) ∧ Kd.R (Kd.int .i64) 3 w' base (fun _ => True) v o.f3 ∧ MAt w' base g m' has' ∧ KeepBut w w' g none ∧ Below base w w' := by
  have hu := Try.underlying28
  obtain ⟨hg, v, hbk, hR⟩ := hM
  obtain ⟨A, cp, rfl⟩ := Kd.R_slice hR
  have HR := Aside0.mk hR
  have BG := Aside0.mk hbk
  have GG := Aside0.mk hg
  clear hbk hR hg
  obtain ⟨⟨j0, j1, j2, j3, j4⟩, y0, y1, y2, y3, y4⟩ := cell5 BG.out
  have hx := Aside0.mk h
  clear h
  cases has with
  | true =>
    go_enter Try.func14, Try.ntmps14
    go_upto_region 4 with (first | ((with_reducible refine gate_dst (N := 2) rfl ?_); refine box_event ?hg (N := 2) ?hd (cs := #[.int .i64 0, .int .i64 0, .int .i64 0, .slice none 0 0]) (t := 28) ?hr ?_; (case hd => rfl); (case hg => rfl); (case hr => first | (go_simp; done) | (go_simp; rfl)); intro gr hgr w1 hbox hb1; have hne : gr ≠ g := (by have := blk_lt BG.out; omega); have GR := Aside0.mk (show w.heap.size ≤ gr by omega); clear hgr; have BR := Aside0.mk hbox; have BG1 := Aside0.mk (blk_below BG.out hb1); have HB1 := Aside0.mk hb1; clear hbox hb1 j0 j1 j2 j3 j4 y0 y1 y2 y3 y4; obtain ⟨⟨j0, j1, j2, j3, j4⟩, y0, y1, y2, y3, y4⟩ := cell5 BG1.out; obtain ⟨⟨k0, k1, k2, k3⟩, z0, z1, z2, z3⟩ := cell4 BR.out) | fail)
    have BG2 := Aside0.mk (blk_alloc BG1.out (Obj.cells #[.int .i64 m.f0, .int .i64 m.f1, .int .i64 m.f2, .slice A m.f3.length cp] 28))
    have BR2 := Aside0.mk (blk_alloc BR.out (Obj.cells #[.int .i64 m.f0, .int .i64 m.f1, .int .i64 m.f2, .slice A m.f3.length cp] 28))
    have BO2 := Aside0.mk (blk_new w1 (Obj.cells #[.int .i64 m.f0, .int .i64 m.f1, .int .i64 m.f2, .slice A m.f3.length cp] 28))
    have HB2 := Aside0.mk (below_alloc HB1.out (Obj.cells #[.int .i64 m.f0, .int .i64 m.f1, .int .i64 m.f2, .slice A m.f3.length cp] 28))
    have hgo : w1.heap.size ≠ g := by have := blk_lt BG1.out; omega
    have hro : gr ≠ w1.heap.size := by have := blk_lt BR.out; omega
    have HK2 := Aside0.mk (KeepBut.of_below HB2.out g none)
    have HBk := Aside0.mk (HB2.out.mono hb)
    have HR2 := Aside0.mk (Kd.R_below HR.out HB2.out)
    clear BG1 BR HB1 HB2 j0 j1 j2 j3 j4 y0 y1 y2 y3 y4 k0 k1 k2 k3 z0 z1 z2 z3
    generalize w1.alloc (Obj.cells #[.int .i64 m.f0, .int .i64 m.f1, .int .i64 m.f2, .slice A m.f3.length cp] 28) = w2 at BG2 BR2 BO2 HK2 HBk HR2 ⊢
    generalize w1.heap.size = go at hgo hro BO2 ⊢
    obtain ⟨⟨j0, j1, j2, j3, j4⟩, y0, y1, y2, y3, y4⟩ := cell5 BG2.out
    obtain ⟨⟨k0, k1, k2, k3⟩, z0, z1, z2, z3⟩ := cell4 BR2.out
    obtain ⟨⟨l0, l1, l2, l3⟩, x0, x1, x2, x3⟩ := cell4 BO2.out
    go_wp2
    have H := hx.out
    simp only [merge_Flush.f, if_true, Prod.mk.injEq] at H
    obtain ⟨rfl, rfl, rfl, rfl⟩ := H
    refine bodyPost_ret (results_ct rfl _ _ gr 28 #[.int .i64 m.f0, .int .i64 m.f1, .int .i64 m.f2, .slice A m.f3.length cp] (0, 0) _ rfl (by exact blk4_put (blk_far (p := ⟨g, 4, none⟩) (blk4_far BR2.out hne) hne _)) Try.underlying28 rfl (by kernel_rfl)) rfl ?_
    exact ⟨_, rfl, row4_put (by decide) (blk_far (p := ⟨g, 4, none⟩) (blk4_far BR2.out hne) hne _) (row5_put (by decide) BG2.out HR2.out), ⟨GG.out, _, blk4_far (blk5_put BG2.out) (Ne.symm hne), Kd.R_nil _ _ _ _ _⟩, keep4_far (keep5_put HK2.out) GR.out, bel4 (bel5 HBk.out GG.out) (Nat.le_trans hb GR.out)⟩
  | false =>
    go_enter Try.func14, Try.ntmps14
    go_wp2_with (first | ((with_reducible refine gate_dst (N := 2) rfl ?_); refine box_event ?hg (N := 2) ?hd (cs := #[.int .i64 0, .int .i64 0, .int .i64 0, .slice none 0 0]) (t := 28) ?hr ?_; (case hd => rfl); (case hg => rfl); (case hr => first | (go_simp; done) | (go_simp; rfl)); intro gr hgr w1 hbox hb1; have hne : gr ≠ g := (by have := blk_lt BG.out; omega); have GR := Aside0.mk (show w.heap.size ≤ gr by omega); clear hgr; have BR := Aside0.mk hbox; have BG1 := Aside0.mk (blk_below BG.out hb1); have HB1 := Aside0.mk hb1; clear hbox hb1 j0 j1 j2 j3 j4 y0 y1 y2 y3 y4; obtain ⟨⟨j0, j1, j2, j3, j4⟩, y0, y1, y2, y3, y4⟩ := cell5 BG1.out; obtain ⟨⟨k0, k1, k2, k3⟩, z0, z1, z2, z3⟩ := cell4 BR.out) | fail)
    have H := hx.out
    simp only [merge_Flush.f, Bool.false_eq_true, if_false, Prod.mk.injEq] at H
    obtain ⟨rfl, rfl, rfl, rfl⟩ := H
    have HR1 := Kd.R_below HR.out HB1.out
    refine bodyPost_ret (results_ct rfl _ _ gr 28 #[.int .i64 0, .int .i64 0, .int .i64 0, .slice none 0 0] (0, 0) _ rfl (by exact blk4_put BR.out) Try.underlying28 rfl (by kernel_rfl)) rfl ?_
    exact ⟨_, rfl, Kd.R_nil _ _ _ _ _, ⟨GG.out, _, blk4_far BG1.out (Ne.symm hne), row4_put (by decide) BR.out HR1⟩, keep4_far (KeepBut.of_below HB1.out g none) GR.out, bel4 (HB1.out.mono hb) (Nat.le_trans hb GR.out)⟩
set_option maxHeartbeats 8000000 in
set_option maxRecDepth 100000 in
theorem merge_Add.fresh (base g : Nat) (m r : S28) (A : Option Addr) (c : Nat) (c1 c2 c3 : Int) (c4 : List Int) (w : World) (hM : MAt w base g m false) (hb : base ≤ w.heap.size) (hr : Kd.C (Kd.int .i64) w A r.f3.length r.f3) (hc : r.f3.length ≤ c) (h : merge_copied.f r.f0 r.f1 r.f2 r.f3 = some (c1, c2, c3, c4)) :
    Calls Try.prog 11 #[.pointer (some ⟨g, 0, none⟩), .agg #[.int .i64 r.f0, .int .i64 r.f1, .int .i64 r.f2, .slice A r.f3.length c]] w fun e w' => ∃ v : Value, e = .returned (.tuple #[.agg #[.int .i64 0, .int .i64 0, .int .i64 0, v], .bool false]) ∧ Kd.R (Kd.int .i64) 3 w' base (fun _ => True) v [] ∧ MAt w' base g ⟨c1, c2, c3, c4⟩ true ∧ KeepBut w w' g none ∧ Below base w w' := by
  have hu := Try.underlying28
  obtain ⟨hg, v, hbk, hR⟩ := hM
  obtain ⟨A0, cp, rfl⟩ := Kd.R_slice hR
  have BG := Aside0.mk hbk
  have GG := Aside0.mk hg
  have HC := Aside0.mk hr
  have HCC := Aside0.mk hc
  have HA := Aside0.mk h
  have HBS := Aside0.mk hb
  clear hbk hR hg hr hc h hb
  obtain ⟨⟨j0, j1, j2, j3, j4⟩, y0, y1, y2, y3, y4⟩ := cell5 BG.out
  go_enter Try.func11, Try.ntmps11
  go_upto_region 5 with (first | ((with_reducible refine gate_dst (N := 3) rfl ?_); refine box_event ?hg (N := 3) ?hd (cs := #[.int .i64 r.f0, .int .i64 r.f1, .int .i64 r.f2, .slice A r.f3.length c]) (t := 28) ?hr ?_; (case hd => rfl); (case hg => rfl); (case hr => first | (go_simp; done) | (go_simp; rfl)); intro gi hgi w1 hbox hb1; have hni : gi ≠ g := (by have := blk_lt BG.out; omega); have GI := Aside0.mk (show w.heap.size ≤ gi by omega); clear hgi; have BI := Aside0.mk hbox; have BG1 := Aside0.mk (blk_below BG.out hb1); have HB1 := Aside0.mk hb1; clear hbox hb1 j0 j1 j2 j3 j4 y0 y1 y2 y3 y4) | ((with_reducible refine gate_dst (N := 4) rfl ?_); refine box_event ?hg (N := 4) ?hd (cs := #[.int .i64 0, .int .i64 0, .int .i64 0, .slice none 0 0]) (t := 28) ?hr ?_; (case hd => rfl); (case hg => rfl); (case hr => first | (go_simp; done) | (go_simp; rfl)); intro gr hgr w2 hbox hb2; have hne : gr ≠ g := (by have := blk_lt BG1.out; omega); have hir : gi ≠ gr := (by have := blk_lt BI.out; omega); have GR := Aside0.mk (show w.heap.size ≤ gr by have := HB1.out.size; omega); clear hgr; have BR2 := Aside0.mk hbox; have BG2 := Aside0.mk (blk_below BG1.out hb2); have BI2 := Aside0.mk (blk_below BI.out hb2); have HB2 := Aside0.mk (below_step HB1.out hb2); clear hbox hb2 BG1 BI HB1; obtain ⟨⟨j0, j1, j2, j3, j4⟩, y0, y1, y2, y3, y4⟩ := cell5 BG2.out; obtain ⟨⟨k0, k1, k2, k3⟩, z0, z1, z2, z3⟩ := cell4 BR2.out; obtain ⟨⟨i0, i1, i2, i3⟩, u0, u1, u2, u3⟩ := cell4 BI2.out) | (go_at_call 40; (refine (merge_copied.calls r.f0 r.f1 r.f2 A c r.f3 c1 c2 c3 c4 _ (Kd.C_below HC.out HB2.out) HCC.out HA.out).mono ?_); rintro e w3 ⟨v, rfl, hR3, hb3⟩; obtain ⟨A3, cp3, rfl⟩ := Kd.R_slice hR3; have HB3 := Aside0.mk (below_step HB2.out hb3); have HR3 := Aside0.mk (Kd.R_lower hR3 (Nat.le_trans HBS.out HB2.out.size)); have BG3 := Aside0.mk (blk_below BG2.out hb3); have BR3 := Aside0.mk (blk_below BR2.out hb3); clear hR3 hb3 i0 i1 i2 i3 u0 u1 u2 u3 j0 j1 j2 j3 j4 y0 y1 y2 y3 y4 k0 k1 k2 k3 z0 z1 z2 z3; obtain ⟨⟨j0, j1, j2, j3, j4⟩, y0, y1, y2, y3, y4⟩ := cell5 BG3.out; obtain ⟨⟨k0, k1, k2, k3⟩, z0, z1, z2, z3⟩ := cell4 BR3.out) | fail)
  go_wp2
  refine bodyPost_ret (results_ct rfl _ _ gr 28 #[.int .i64 0, .int .i64 0, .int .i64 0, .slice none 0 0] (0, 0) _ rfl (by exact blk4_put (blk_far (p := ⟨g, 4, none⟩) (blk4_far BR3.out hne) hne _)) Try.underlying28 rfl (by kernel_rfl)) rfl ?_
  exact ⟨_, rfl, Kd.R_nil _ _ _ _ _, ⟨GG.out, _, blk4_far (blk5_put BG3.out) (Ne.symm hne), row4_put (by decide) (blk_far (p := ⟨g, 4, none⟩) (blk4_far BR3.out hne) hne _) (row5_put (by decide) BG3.out HR3.out)⟩, keep4_far (keep5_put (KeepBut.of_below HB3.out g none)) GR.out, bel4 (bel5 (HB3.out.mono HBS.out) GG.out) (Nat.le_trans HBS.out GR.out)⟩
theorem blk54_put {w : World} {g : Nat} {a b c d e a' b' c' d' : Value} {t : TypeId} (h : w.heap[g]? = some (.cells #[a, b, c, d, e] t (0, 0))) : ((((w.setCell ⟨g, 0, none⟩ a').setCell ⟨g, 1, none⟩ b').setCell ⟨g, 2, none⟩ c').setCell ⟨g, 3, none⟩ d').heap[g]? = some (.cells #[a', b', c', d', e] t (0, 0)) :=
  blk_put (cs := #[a', b', c', d, e]) (blk_put (cs := #[a', b', c, d, e]) (blk_put (cs := #[a', b, c, d, e]) (blk_put (cs := #[a, b, c, d, e]) h 0 a' rfl) 1 b' rfl) 2 c' rfl) 3 d' rfl
theorem row54_put {w : World} {g base : Nat} {ok : Nat → Prop} {v : Value} {xs : List Int} {a b c d e a' b' c' d' : Value} {t : TypeId} (ht : t ≠ 3) (h : w.heap[g]? = some (.cells #[a, b, c, d, e] t (0, 0))) (hr : Kd.R (Kd.int .i64) 3 w base ok v xs) : Kd.R (Kd.int .i64) 3 ((((w.setCell ⟨g, 0, none⟩ a').setCell ⟨g, 1, none⟩ b').setCell ⟨g, 2, none⟩ c').setCell ⟨g, 3, none⟩ d') base ok v xs := by
  have ht' : ∀ q, q ∈ 3 :: (Kd.int .i64).E → q ≠ t := fun q hq => by rw [List.mem_singleton.1 hq]; exact fun e => ht e.symm
  have h1 := blk_put (cs' := #[a', b, c, d, e]) h 0 a' rfl
  have h2 := blk_put (cs' := #[a', b', c, d, e]) h1 1 b' rfl
  have h3 := blk_put (cs' := #[a', b', c', d, e]) h2 2 c' rfl
  exact Kd.R_set (Kd.R_set (Kd.R_set (Kd.R_set hr h ht' 0 a') h1 ht' 1 b') h2 ht' 2 c') h3 ht' 3 d'
theorem keep54_put {w W : World} {g : Nat} {a' b' c' d' : Value} (h : KeepBut w W g none) : KeepBut w ((((W.setCell ⟨g, 0, none⟩ a').setCell ⟨g, 1, none⟩ b').setCell ⟨g, 2, none⟩ c').setCell ⟨g, 3, none⟩ d') g none :=
  (((h.set_ 0 a').set_ 1 b').set_ 2 c').set_ 3 d'
theorem hold8 {w w' : World} (hb : Below w.heap.size w w') {a b : Nat} {v0 v1 v2 v3 u0 u1 u2 u3 : Value} (h : w.cell? ⟨a, 0, none⟩ = some v0 ∧ w.cell? ⟨a, 1, none⟩ = some v1 ∧ w.cell? ⟨a, 2, none⟩ = some v2 ∧ w.cell? ⟨a, 3, none⟩ = some v3 ∧ w.cell? ⟨b, 0, none⟩ = some u0 ∧ w.cell? ⟨b, 1, none⟩ = some u1 ∧ w.cell? ⟨b, 2, none⟩ = some u2 ∧ w.cell? ⟨b, 3, none⟩ = some u3) : Below w.heap.size w w' ∧ w'.cell? ⟨a, 0, none⟩ = some v0 ∧ w'.cell? ⟨a, 1, none⟩ = some v1 ∧ w'.cell? ⟨a, 2, none⟩ = some v2 ∧ w'.cell? ⟨a, 3, none⟩ = some v3 ∧ w'.cell? ⟨b, 0, none⟩ = some u0 ∧ w'.cell? ⟨b, 1, none⟩ = some u1 ∧ w'.cell? ⟨b, 2, none⟩ = some u2 ∧ w'.cell? ⟨b, 3, none⟩ = some u3 :=
  ⟨hb, pw_cell_below hb h.1, pw_cell_below hb h.2.1, pw_cell_below hb h.2.2.1, pw_cell_below hb h.2.2.2.1, pw_cell_below hb h.2.2.2.2.1, pw_cell_below hb h.2.2.2.2.2.1, pw_cell_below hb h.2.2.2.2.2.2.1, pw_cell_below hb h.2.2.2.2.2.2.2⟩
set_option maxHeartbeats 8000000 in
set_option maxRecDepth 100000 in
theorem merge_Add.two (k base g : Nat) (m r : S28) (A : Option Addr) (c : Nat) (p1 p2 p3 : Int) (p4 : List Int) (p5 : Bool) (w : World) (hM : MAt w base g m true) (hb : base ≤ w.heap.size) (hr : Kd.C (Kd.int .i64) w A r.f3.length r.f3) (hc : r.f3.length ≤ c) (h : merge_Two.f k m.f0 m.f1 m.f2 m.f3 r.f0 r.f1 r.f2 r.f3 = some (p1, p2, p3, p4, p5)) (o : S28) (ok : Bool) (m' : S28) (h2 : (if p5 = true then some (z28, false, (⟨p1, p2, p3, p4⟩ : S28)) else (merge_copied.f r.f0 r.f1 r.f2 r.f3).bind fun c => some (m, true, (⟨c.1, c.2.1, c.2.2.1, c.2.2.2⟩ : S28))) = some (o, ok, m')) :
    Calls Try.prog 11 #[.pointer (some ⟨g, 0, none⟩), .agg #[.int .i64 r.f0, .int .i64 r.f1, .int .i64 r.f2, .slice A r.f3.length c]] w fun e w' => ∃ v : Value, e = .returned (.tuple #[.agg #[.int .i64 o.f0, .int .i64 o.f1, .int .i64 o.f2, v], .bool ok]) ∧ Kd.R (Kd.int .i64) 3 w' base (fun _ => True) v o.f3 ∧ MAt w' base g m' true ∧ KeepBut w w' g none ∧ Below base w w' := by
  have hu := Try.underlying28
  obtain ⟨hg, v, hbk, hR⟩ := hM
  obtain ⟨A0, cp, rfl⟩ := Kd.R_slice hR
  have BG := Aside0.mk hbk
  have GG := Aside0.mk hg
  have HR := Aside0.mk hR
  have HC := Aside0.mk hr
  have HCC := Aside0.mk hc
  have HA := Aside0.mk h
  have H2 := Aside0.mk h2
  have HBS := Aside0.mk hb
  clear hbk hR hg hr hc h h2 hb
  obtain ⟨⟨j0, j1, j2, j3, j4⟩, y0, y1, y2, y3, y4⟩ := cell5 BG.out
  go_enter Try.func11, Try.ntmps11
  go_upto_region 6 with (first | ((with_reducible refine gate_dst (N := 3) rfl ?_); refine box_event ?hg (N := 3) ?hd (cs := #[.int .i64 r.f0, .int .i64 r.f1, .int .i64 r.f2, .slice A r.f3.length c]) (t := 28) ?hr ?_; (case hd => rfl); (case hg => rfl); (case hr => first | (go_simp; done) | (go_simp; rfl)); intro gi hgi w1 hbox hb1; have hni : gi ≠ g := (by have := blk_lt BG.out; omega); have GI := Aside0.mk (show w.heap.size ≤ gi by omega); clear hgi; have BI := Aside0.mk hbox; have BG1 := Aside0.mk (blk_below BG.out hb1); have HB1 := Aside0.mk hb1; clear hbox hb1 j0 j1 j2 j3 j4 y0 y1 y2 y3 y4) | ((with_reducible refine gate_dst (N := 4) rfl ?_); refine box_event ?hg (N := 4) ?hd (cs := #[.int .i64 0, .int .i64 0, .int .i64 0, .slice none 0 0]) (t := 28) ?hr ?_; (case hd => rfl); (case hg => rfl); (case hr => first | (go_simp; done) | (go_simp; rfl)); intro gr hgr w2 hbox hb2; have hne : gr ≠ g := (by have := blk_lt BG1.out; omega); have hir : gi ≠ gr := (by have := blk_lt BI.out; omega); have GR := Aside0.mk (show w.heap.size ≤ gr by have := HB1.out.size; omega); clear hgr; have BR2 := Aside0.mk hbox; have BG2 := Aside0.mk (blk_below BG1.out hb2); have BI2 := Aside0.mk (blk_below BI.out hb2); have HB2 := Aside0.mk (below_step HB1.out hb2); clear hbox hb2 BG1 BI HB1; obtain ⟨⟨j0, j1, j2, j3, j4⟩, y0, y1, y2, y3, y4⟩ := cell5 BG2.out; obtain ⟨⟨k0, k1, k2, k3⟩, z0, z1, z2, z3⟩ := cell4 BR2.out; obtain ⟨⟨i0, i1, i2, i3⟩, u0, u1, u2, u3⟩ := cell4 BI2.out) | fail)
  have HRR := Aside0.mk (Kd.R_reads' (Kd.R_below HR.out HB2.out))
  have hlg : g < w2.heap.size := blk_lt BG2.out
  have hli : gi < w2.heap.size := blk_lt BI2.out
  go_cut [6, 7] (fun v6 v7 wx => ∃ (g6 : Nat) (A3 : Option Addr) (c3 : Nat), v6 = .pointer (some ⟨g6, 0, none⟩) ∧ v7 = .bool p5 ∧ Aside0 (w2.heap.size ≤ g6) ∧ Aside0 (Below w2.heap.size w2 wx) ∧ Aside0 (wx.heap[g6]? = some (.cells #[.int .i64 p1, .int .i64 p2, .int .i64 p3, .slice A3 p4.length c3] 28 (0, 0))) ∧ Aside0 (Kd.R (Kd.int .i64) 3 wx w2.heap.size (fun _ => True) (.slice A3 p4.length c3) p4))
  case first =>
    go_region_held3 (fun w' => Below w2.heap.size w2 w' ∧ w'.cell? ⟨g, 0, none⟩ = some (.int .i64 m.f0) ∧ w'.cell? ⟨g, 1, none⟩ = some (.int .i64 m.f1) ∧ w'.cell? ⟨g, 2, none⟩ = some (.int .i64 m.f2) ∧ w'.cell? ⟨g, 3, none⟩ = some (.slice A0 m.f3.length cp) ∧ w'.cell? ⟨gi, 0, none⟩ = some (.int .i64 r.f0) ∧ w'.cell? ⟨gi, 1, none⟩ = some (.int .i64 r.f1) ∧ w'.cell? ⟨gi, 2, none⟩ = some (.int .i64 r.f2) ∧ w'.cell? ⟨gi, 3, none⟩ = some (.slice A r.f3.length c)) ((refine hold8 ?_ ⟨j0, j1, j2, j3, i0, i1, i2, i3⟩; repeat (first | (with_reducible exact Below.refl _ _) | exact below_step (by repeat (first | (with_reducible exact Below.refl _ _) | apply below_alloc | apply below_drew1)) hb3 | apply below_alloc | apply below_drew1 | (refine below_set ?_ (by first | (have := hb3.size; simp at this ⊢; omega) | (simp; done)))))) (first | ((go_at_call 15; refine (merge_Two.calls k m.f0 m.f1 m.f2 A0 cp m.f3 r.f0 r.f1 r.f2 A c r.f3 p1 p2 p3 p4 p5 _ (by (with_reducible repeat (first | apply Kd.C_alloc | apply Kd.C_drew)); exact HRR.out.2.2) HRR.out.2.1 (by (with_reducible repeat (first | apply Kd.C_alloc | apply Kd.C_drew)); exact Kd.C_below HC.out HB2.out) HCC.out HA.out).mono ?_; rintro e w3 ⟨v, rfl, hR3, hb3⟩; obtain ⟨A3, cp3, rfl⟩ := Kd.R_slice hR3; (try (have hq_ : Below (w2.alloc (Obj.cells #[.int .i64 0, .int .i64 0, .int .i64 0, .slice none 0 0] 28)).drew.heap.size (w2.alloc (Obj.cells #[.int .i64 0, .int .i64 0, .int .i64 0, .slice none 0 0] 28)).drew w3 := (by with_reducible exact hb3); have BQ := Aside0.mk (blk_below (blk_drew (blk_new w2 (Obj.cells #[.int .i64 0, .int .i64 0, .int .i64 0, .slice none 0 0] 28))) hq_); obtain ⟨⟨q0, q1, q2, q3⟩, x0, x1, x2, x3⟩ := cell4 BQ.out; have HQ := Aside0.mk (Kd.R_lower hR3 (show w2.heap.size ≤ (w2.alloc (Obj.cells #[.int .i64 0, .int .i64 0, .int .i64 0, .slice none 0 0] 28)).drew.heap.size by simp)); have HQB := Aside0.mk (below_step (below_drew1 (below_alloc (Below.refl _ _) (Obj.cells #[.int .i64 0, .int .i64 0, .int .i64 0, .slice none 0 0] 28))) hq_); clear hq_)))))
    · go_wp2_with fail
      go_meet
      exact ⟨w3.heap.size, A3, cp3, rfl, rfl, ⟨hb3.size⟩, ⟨below_alloc (below_step (below_drew1 (Below.refl _ _)) hb3) _⟩, ⟨blk_new _ _⟩, ⟨Kd.R_alloc hR3 _⟩⟩
    · go_wp2_with fail
      go_meet
      exact ⟨w2.heap.size, A3, cp3, rfl, rfl, ⟨Nat.le_refl _⟩, ⟨below_set (below_set (below_set (below_set HQB.out (Nat.le_refl _)) (Nat.le_refl _)) (Nat.le_refl _)) (Nat.le_refl _)⟩, ⟨blk4_put BQ.out⟩, ⟨row4_put (by decide) BQ.out HQ.out⟩⟩
  case rest =>
    obtain ⟨g6, A3, c3, rfl, rfl, HG6, HBx, B6, HRx⟩ := hcut
    have HBw := Aside0.mk (below_step HB2.out HBx.out)
    have BGx := Aside0.mk (blk_below BG2.out HBx.out)
    have BRx := Aside0.mk (blk_below BR2.out HBx.out)
    have BIx := Aside0.mk (blk_below BI2.out HBx.out)
    have h6g : g6 ≠ g := (by have := HG6.out; omega)
    have h6r : g6 ≠ gr := (by have := HG6.out; have := blk_lt BR2.out; omega)
    have H := H2.out
    clear hlg hli i0 i1 i2 i3 u0 u1 u2 u3 j0 j1 j2 j3 j4 y0 y1 y2 y3 y4 k0 k1 k2 k3 z0 z1 z2 z3 HA H2
    obtain ⟨⟨j0, j1, j2, j3, j4⟩, y0, y1, y2, y3, y4⟩ := cell5 BGx.out
    obtain ⟨⟨k0, k1, k2, k3⟩, z0, z1, z2, z3⟩ := cell4 BRx.out
    obtain ⟨⟨i0, i1, i2, i3⟩, u0, u1, u2, u3⟩ := cell4 BIx.out
    obtain ⟨⟨l0, l1, l2, l3⟩, x0, x1, x2, x3⟩ := cell4 B6.out
    cases p5 with
    | true =>
      simp only [if_true, Option.some.injEq, Prod.mk.injEq] at H
      obtain ⟨rfl, rfl, rfl⟩ := H
      go_wp2
      refine bodyPost_ret (results_ct rfl _ _ gr 28 #[.int .i64 0, .int .i64 0, .int .i64 0, .slice none 0 0] (0, 0) _ rfl (by exact blk4_put (blk4_far BRx.out hne)) Try.underlying28 rfl (by kernel_rfl)) rfl ?_
      exact ⟨_, rfl, Kd.R_nil _ _ _ _ _, ⟨GG.out, _, blk4_far (blk54_put BGx.out) (Ne.symm hne), row4_put (by decide) (blk4_far BRx.out hne) (row54_put (by decide) BGx.out (Kd.R_lower HRx.out (Nat.le_trans HBS.out HB2.out.size)))⟩, keep4_far (keep54_put (KeepBut.of_below HBw.out g none)) GR.out, bel4 (bel4 (HBw.out.mono HBS.out) GG.out) (Nat.le_trans HBS.out GR.out)⟩
    | false =>
      simp only [Bool.false_eq_true, if_false] at H
      obtain ⟨⟨c1, c2, c3', c4⟩, A2, H⟩ := Option.bind_eq_some_iff.mp H
      simp only [Option.some.injEq, Prod.mk.injEq] at H
      obtain ⟨rfl, rfl, rfl⟩ := H
      have HA2 := Aside0.mk A2
      clear A2
      have hgo : wc.heap.size ≠ g := by have := blk_lt BGx.out; omega
      have hro : gr ≠ wc.heap.size := by have := blk_lt BRx.out; omega
      have hio : gi ≠ wc.heap.size := by have := blk_lt BIx.out; omega
      go_upto_region 11 with fail
      have BG4 := Aside0.mk (blk_alloc BGx.out (Obj.cells #[.int .i64 m.f0, .int .i64 m.f1, .int .i64 m.f2, .slice A0 m.f3.length cp] 28))
      have BR4 := Aside0.mk (blk_alloc BRx.out (Obj.cells #[.int .i64 m.f0, .int .i64 m.f1, .int .i64 m.f2, .slice A0 m.f3.length cp] 28))
      have BI4 := Aside0.mk (blk_alloc BIx.out (Obj.cells #[.int .i64 m.f0, .int .i64 m.f1, .int .i64 m.f2, .slice A0 m.f3.length cp] 28))
      have BO4 := Aside0.mk (blk_new wc (Obj.cells #[.int .i64 m.f0, .int .i64 m.f1, .int .i64 m.f2, .slice A0 m.f3.length cp] 28))
      have HB4 := Aside0.mk (below_alloc HBw.out (Obj.cells #[.int .i64 m.f0, .int .i64 m.f1, .int .i64 m.f2, .slice A0 m.f3.length cp] 28))
      clear BGx BRx BIx HBw HBx B6 HRx i0 i1 i2 i3 u0 u1 u2 u3 j0 j1 j2 j3 j4 y0 y1 y2 y3 y4 k0 k1 k2 k3 z0 z1 z2 z3 l0 l1 l2 l3 x0 x1 x2 x3
      generalize wc.alloc (Obj.cells #[.int .i64 m.f0, .int .i64 m.f1, .int .i64 m.f2, .slice A0 m.f3.length cp] 28) = w4 at BG4 BR4 BI4 BO4 HB4 ⊢
      generalize wc.heap.size = go at hgo hro hio BO4 ⊢
      obtain ⟨⟨i0, i1, i2, i3⟩, u0, u1, u2, u3⟩ := cell4 BI4.out
      go_upto_region 12 with (first | (go_at_call 40; (refine (merge_copied.calls r.f0 r.f1 r.f2 A c r.f3 c1 c2 c3' c4 _ (Kd.C_below HC.out HB4.out) HCC.out HA2.out).mono ?_); rintro e w5 ⟨v, rfl, hR5, hb5⟩; obtain ⟨A5, cp5, rfl⟩ := Kd.R_slice hR5; have BG5 := Aside0.mk (blk_below BG4.out hb5); have BR5 := Aside0.mk (blk_below BR4.out hb5); have BO5 := Aside0.mk (blk_below BO4.out hb5); have HB5 := Aside0.mk (below_step HB4.out hb5); have HR5 := Aside0.mk (Kd.R_lower hR5 (Nat.le_trans HBS.out HB4.out.size)); clear hR5 hb5 i0 i1 i2 i3 u0 u1 u2 u3; obtain ⟨⟨j0, j1, j2, j3, j4⟩, y0, y1, y2, y3, y4⟩ := cell5 BG5.out; obtain ⟨⟨k0, k1, k2, k3⟩, z0, z1, z2, z3⟩ := cell4 BR5.out; obtain ⟨⟨l0, l1, l2, l3⟩, x0, x1, x2, x3⟩ := cell4 BO5.out) | fail)
      have HRm := Aside0.mk (Kd.R_below HR.out HB5.out)
      go_wp2
      refine bodyPost_ret (results_ct rfl _ _ gr 28 #[.int .i64 m.f0, .int .i64 m.f1, .int .i64 m.f2, .slice A0 m.f3.length cp] (0, 0) _ rfl (by exact blk4_put (blk4_far BR5.out hne)) Try.underlying28 rfl (by kernel_rfl)) rfl ?_
      exact ⟨_, rfl, row4_put (by decide) (blk4_far BR5.out hne) (row54_put (by decide) BG5.out HRm.out), ⟨GG.out, _, blk4_far (blk54_put BG5.out) (Ne.symm hne), row4_put (by decide) (blk4_far BR5.out hne) (row54_put (by decide) BG5.out HR5.out)⟩, keep4_far (keep54_put (KeepBut.of_below HB5.out g none)) GR.out, bel4 (bel4 (HB5.out.mono HBS.out) GG.out) (Nat.le_trans HBS.out GR.out)⟩
theorem merge_Add.calls (k base g : Nat) (m r : S28) (has : Bool) (A : Option Addr) (c : Nat) (o : S28) (ok : Bool) (m' : S28) (has' : Bool) (w : World) (hM : MAt w base g m has) (hb : base ≤ w.heap.size) (hr : Kd.C (Kd.int .i64) w A r.f3.length r.f3) (hc : r.f3.length ≤ c) (h : merge_Add.f k m has r = some (o, ok, m', has')) :
    Calls Try.prog 11 #[.pointer (some ⟨g, 0, none⟩), .agg #[.int .i64 r.f0, .int .i64 r.f1, .int .i64 r.f2, .slice A r.f3.length c]] w fun e w' => ∃ v : Value, e = .returned (.tuple #[.agg #[.int .i64 o.f0, .int .i64 o.f1, .int .i64 o.f2, v], .bool ok]) ∧ Kd.R (Kd.int .i64) 3 w' base (fun _ => True) v o.f3 ∧ MAt w' base g m' has' ∧ KeepBut w w' g none ∧ Below base w w' := by
  unfold merge_Add.f at h
  cases has with
  | false =>
    rw [if_pos rfl] at h
    obtain ⟨⟨c1, c2, c3, c4⟩, A1, h⟩ := Option.bind_eq_some_iff.mp h
    simp only [Option.some.injEq, Prod.mk.injEq] at h
    obtain ⟨rfl, rfl, rfl, rfl⟩ := h
    exact merge_Add.fresh base g m r A c c1 c2 c3 c4 w hM hb hr hc A1
  | true =>
    rw [if_neg (by decide)] at h
    obtain ⟨⟨p1, p2, p3, p4, p5⟩, A1, h⟩ := Option.bind_eq_some_iff.mp h
    have e : has' = true := by
      cases p5
      · simp only [Bool.false_eq_true, if_false] at h
        obtain ⟨q, _, h⟩ := Option.bind_eq_some_iff.mp h
        simp only [Option.some.injEq, Prod.mk.injEq] at h
        exact h.2.2.2.symm
      · simp only [if_true, Option.some.injEq, Prod.mk.injEq] at h
        exact h.2.2.2.symm
    subst e
    refine merge_Add.two k base g m r A c p1 p2 p3 p4 p5 w hM hb hr hc A1 o ok m' ?_
    cases p5
    · simp only [Bool.false_eq_true, if_false] at h ⊢
      obtain ⟨q, hq, h⟩ := Option.bind_eq_some_iff.mp h
      simp only [Option.some.injEq, Prod.mk.injEq] at h
      obtain ⟨rfl, rfl, rfl, _⟩ := h
      rw [hq]; rfl
    · simp only [if_true, Option.some.injEq, Prod.mk.injEq] at h ⊢
      obtain ⟨rfl, rfl, rfl, _⟩ := h
      exact ⟨rfl, rfl, rfl⟩
end Go.Proofs.Ytaihieglailmcaa.PG
