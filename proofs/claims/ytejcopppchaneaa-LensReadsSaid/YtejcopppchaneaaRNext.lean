/- Reference 31: last, Ended, fail: what they do. -/
import Derived.Test.YtejcopppchaneaaLPlain
import Derived.Test.YtejcopppchaneaaPFx5
import Derived.Test.YtejcopppchaneaaPFx6
set_option linter.unusedVariables false
set_option linter.unusedSimpArgs false
namespace Go.Proofs.Ytejcopppchaneaa.PF
open Go.RowKit Go.Proofs.YtejcopppchaneaaW.PrintWords Go.Proofs.YtejcopppchaneaaW.PrintLast Go.Proofs.YtejcopppchaneaaW.PrintMore Go.Proofs.Ytejcopppchaneaa.Pure
def lastOf (R : List S30) : S30 := if R.length = 0 then ⟨0, 0, 0, []⟩ else rd_T30 R ((R.length - 1 : Nat) : Int)
def LastPost (w : World) (x : S30) (e : Ending) (w' : World) : Prop := ∃ A3 c3, e = .returned (.agg #[.int .i64 x.f0, .int .i64 x.f1, .int .i64 x.f2, .slice A3 x.f3.length c3]) ∧ x.f3.length ≤ c3 ∧ Kd.C (Kd.int .i64) w' A3 x.f3.length x.f3 ∧ Below w.heap.size w w' 
set_option maxHeartbeats 16000000 in
set_option maxRecDepth 100000 in
theorem rlast.calls_ (A : Option Addr) (c : Nat) (R : List S30) (rest : ByteArray) (closed : Bool) (e0 : Int) (w : World) (hC : Kd.C k30 w A R.length R) (hc : R.length ≤ c) (hl : R.length ≤ 1000) (x : S30) (hx : lastOf R = x) :
    Calls Try.prog 39 #[.agg #[.slice A R.length c, .string rest, .bool closed, .int .i64 e0]] w (LastPost w x) := by
  have hu45 := Try.underlying45
  have hu30 := Try.underlying30
  have HC := Aside0.mk hC
  have HL := Aside0.mk hl
  have HX := Aside0.mk hx
  clear hC hc hl hx
  go_enter Try.func39, Try.ntmps39
  go_upto_region 1 with (first | ((with_reducible refine gate_dst (N := 1) rfl ?_); refine box_event ?hg (N := 1) ?hd (cs := #[.slice A R.length c, .string rest, .bool closed, .int .i64 e0]) (t := 45) ?hr ?_; (case hd => rfl); (case hg => rfl); (case hr => first | (go_simp; done) | (go_simp; rfl)); intro g1 hg_ w1 hbox hb; have G1 := Aside0.mk (show w.heap.size ≤ g1 by omega); clear hg_; have X1 := Aside0.mk hbox; have B1 := Aside0.mk hb; clear hbox hb; skip) | ((with_reducible refine gate_dst (N := 2) rfl ?_); refine box_event ?hg (N := 2) ?hd (cs := #[.int .i64 0, .int .i64 0, .int .i64 0, .slice none 0 0]) (t := 30) ?hr ?_; (case hd => rfl); (case hg => rfl); (case hr => first | (go_simp; done) | (go_simp; rfl)); intro g2 hg_ w2 hbox hb; have G2 := Aside0.mk (show w.heap.size ≤ g2 by have := B1.out.size; omega); have N2 := Aside0.mk (show g1 ≠ g2 by have := blk_lt X1.out; omega); clear hg_; have X2 := Aside0.mk (blk_below X1.out hb); have Y2 := Aside0.mk hbox; have B2 := Aside0.mk (below_step B1.out hb); clear hbox hb; obtain ⟨⟨i0, i1, i2, i3⟩, u0, u1, u2, u3⟩ := cell4 X2.out; obtain ⟨⟨k0, k1, k2, k3⟩, z0, z1, z2, z3⟩ := cell4 Y2.out) | fail)
  by_cases h0 : R.length = 0
  · have c1 : ((R.length : Int) == 0) = true := beq_iff_eq.mpr (by omega)
    have hx := HX.out
    rw [lastOf, if_pos h0] at hx
    subst hx
    clear h0
    go_wp2
    refine bodyPost_ret (results_cell_row rfl _ _ g2 30 #[.int .i64 0, .int .i64 0, .int .i64 0, .slice none 0 0] (0, 0) _ rfl (by exact blk4_put Y2.out) Try.underlying30 rfl (by kernel_rfl)) rfl ?_
    exact ⟨none, 0, rfl, Nat.le_refl _, Kd.C_nil _ _, below4_put B2.out G2.out⟩
  · have c1 : ((R.length : Int) == 0) = false := beq_eq_false_iff_ne.mpr (by omega)
    obtain ⟨m, hm⟩ : ∃ m, R.length = m + 1 := ⟨R.length - 1, by omega⟩
    have hw : IntKind.i64.wrap ((R.length : Int) - 1) = (m : Int) := (i64_w _).trans (by rw [hm]; have := HL.out; rw [jw64 (by omega) (by omega)]; omega)
    obtain ⟨ad, A3, c3, eA, hx0, hx1, hx2, hx3, hl3, hi3⟩ := at_T30 HC.out (m : Int) (by omega) (by omega)
    have hx := HX.out
    rw [lastOf, if_neg h0, show R.length - 1 = m by omega] at hx
    rw [hx] at hx0 hx1 hx2 hx3 hl3 hi3
    replace hx0 := pw_cell_below B2.out hx0
    replace hx1 := pw_cell_below B2.out hx1
    replace hx2 := pw_cell_below B2.out hx2
    replace hx3 := pw_cell_below B2.out hx3
    have HC3 := Aside0.mk hi3
    have HL3 := Aside0.mk hl3
    have HA := Aside0.mk eA
    have d1 := eq_true (show (0 : Int) ≤ (m : Int) by omega)
    have d2 := eq_true (show (m : Int) < (R.length : Int) by omega)
    have d3 : decide ((m : Int) < (R.length : Int)) = true := decide_eq_true (by omega)
    have d4 := eq_true (show m < R.length by omega)
    simp only [Int.toNat_natCast] at hx0 hx1 hx2 hx3
    clear h0 hx HX hl3 hi3
    subst eA
    clear hm
    go_wp2
    refine bodyPost_ret (results_cell_row rfl _ _ g2 30 #[.int .i64 x.f0, .int .i64 x.f1, .int .i64 x.f2, .slice A3 x.f3.length c3] (0, 0) _ rfl (by exact blk4_put Y2.out) Try.underlying30 rfl (by kernel_rfl)) rfl ?_
    exact ⟨A3, c3, rfl, HL3.out, Kd.C_below HC3.out (below4_put B2.out G2.out), below4_put B2.out G2.out⟩
theorem field30 (a b c : Int) (A : Option Addr) (n m : Nat) (w : World) : (Instr.field 30 (.agg #[.int .i64 a, .int .i64 b, .int .i64 c, .slice A n m]) 0).run Try.prog w = .ok (.int .i64 a) w := by
  have hu := Try.underlying30
  simp [Instr.field, go_sem, hu, asAgg]
set_option maxHeartbeats 16000000 in
set_option maxRecDepth 100000 in
theorem rEnded.calls_ (A : Option Addr) (c : Nat) (R : List S30) (rest : ByteArray) (closed : Bool) (e0 : Int) (w : World) (hC : Kd.C k30 w A R.length R) (hc : R.length ≤ c) (hl : R.length ≤ 1000) :
    Calls Try.prog 22 #[.agg #[.slice A R.length c, .string rest, .bool closed, .int .i64 e0]] w fun e w' => e = .returned (.bool ((lastOf R).f0 == 6)) ∧ Below w.heap.size w w' := by
  have hu45 := Try.underlying45
  have hu30 := Try.underlying30
  have HC := Aside0.mk hC
  have HL := Aside0.mk hl
  have HCC := Aside0.mk hc
  clear hC hc hl
  have hfd := field30
  go_enter Try.func22, Try.ntmps22
  go_upto_region 1 with (first | ((with_reducible refine gate_dst (N := 1) rfl ?_); refine box_event ?hg (N := 1) ?hd (cs := #[.slice A R.length c, .string rest, .bool closed, .int .i64 e0]) (t := 45) ?hr ?_; (case hd => rfl); (case hg => rfl); (case hr => first | (go_simp; done) | (go_simp; rfl)); intro g1 hg_ w1 hbox hb; have G1 := Aside0.mk (show w.heap.size ≤ g1 by omega); clear hg_; have X1 := Aside0.mk hbox; have B1 := Aside0.mk hb; clear hbox hb; skip) | fail)
  obtain ⟨⟨i0, i1, i2, i3⟩, u0, u1, u2, u3⟩ := cell4 X1.out
  go_wp2_with (first | (go_at_call 39; (refine (rlast.calls_ A c R rest closed e0 _ (Kd.C_below HC.out B1.out) HCC.out HL.out _ rfl).mono ?_); rintro e w2 ⟨A3, c3, rfl, h1, h2, hb⟩; have B2 := Aside0.mk (below_step B1.out hb); clear h1 h2 hb) | fail)
  go_ret
  exact ⟨rfl, B2.out⟩

set_option maxHeartbeats 16000000 in
set_option maxRecDepth 100000 in
theorem rfail.calls_ (A : Option Addr) (c : Nat) (R : List S30) (rest : ByteArray) (closed : Bool) (e0 : Int) (w : World) (e1 : Int) :
    Calls Try.prog 36 #[.agg #[.slice A R.length c, .string rest, .bool closed, .int .i64 e0], .int .i64 e1] w fun e w' => e = .returned (.tuple #[.agg #[.slice A R.length c, .string rest, .bool closed, .int .i64 e1], .bool false]) ∧ Below w.heap.size w w' := by
  have hu45 := Try.underlying45
  go_enter Try.func36, Try.ntmps36
  go_upto_region 1 with (first | ((with_reducible refine gate_dst (N := 2) rfl ?_); refine box_event ?hg (N := 2) ?hd (cs := #[.slice A R.length c, .string rest, .bool closed, .int .i64 e0]) (t := 45) ?hr ?_; (case hd => rfl); (case hg => rfl); (case hr => first | (go_simp; done) | (go_simp; rfl)); intro g1 hg_ w1 hbox hb; have G1 := Aside0.mk (show w.heap.size ≤ g1 by omega); clear hg_; have X1 := Aside0.mk hbox; have B1 := Aside0.mk hb; clear hbox hb; skip) | ((with_reducible refine gate_dst (N := 4) rfl ?_); refine box_event ?hg (N := 4) ?hd (cs := #[.slice none 0 0, .string ⟨#[]⟩, .bool false, .int .i64 0]) (t := 45) ?hr ?_; (case hd => rfl); (case hg => rfl); (case hr => first | (go_simp; done) | (go_simp; rfl)); intro g2 hg_ w2 hbox hb; have G2 := Aside0.mk (show w.heap.size ≤ g2 by have := B1.out.size; omega); have N2 := Aside0.mk (show g1 ≠ g2 by have := blk_lt X1.out; omega); clear hg_; have X2 := Aside0.mk (blk_below X1.out hb); have Y2 := Aside0.mk hbox; have B2 := Aside0.mk (below_step B1.out hb); clear hbox hb; obtain ⟨⟨i0, i1, i2, i3⟩, u0, u1, u2, u3⟩ := cell4 X2.out; obtain ⟨⟨k0, k1, k2, k3⟩, z0, z1, z2, z3⟩ := cell4 Y2.out) | fail)
  have hne := N2.out
  go_wp2
  refine bodyPost_ret (results_ct rfl _ _ g2 45 #[.slice A R.length c, .string rest, .bool closed, .int .i64 e1] (0, 0) _ rfl (by exact blk4_put (far8 Y2.out (Ne.symm hne) 3 _)) Try.underlying45 rfl (by kernel_rfl)) rfl ?_
  exact ⟨rfl, below4_put (B2.out.setCell (p := ⟨g1, 3, none⟩) G1.out _) G2.out⟩
end Go.Proofs.Ytejcopppchaneaa.PF
