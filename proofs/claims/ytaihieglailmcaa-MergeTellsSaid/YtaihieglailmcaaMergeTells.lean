/- MergeTells over this seat's program, by walking its text: it returns true. -/
import Derived.Test.YtaihieglailmcaaCx
import Derived.Test.YtaihieglailmcaaGRef
import Derived.Test.YtaihieglailmcaaMergeAll
import Derived.Deep.DeepCutAuto
namespace Go.Proofs.Ytaihieglailmcaa.PG
open Go.RowKit Go.Proofs.YtaihieglailmcaaW.PrintWords Go.Proofs.YtaihieglailmcaaW.PrintLast Go.Proofs.YtaihieglailmcaaW.PrintMore Go.Proofs.Ytaihieglailmcaa.Pure
set_option linter.unusedVariables false
set_option linter.unusedSimpArgs false
theorem heap28 : Kd.Heap k28 := Kd.heap_iso _ (Kd.heap_pair (Kd.heap_int _) (Kd.heap_pair (Kd.heap_int _) (Kd.heap_pair (Kd.heap_int _) (Kd.heap_slice _ (Kd.heap_int _)))))
/-- Two records in a block of their own, read as a row. -/
theorem row2 {W : World} {g : Nat} {t : Nat} {a b : S28} {A B : Option Addr} {c d : Nat} (hb : W.heap[g]? = some (.cells #[.int .i64 a.f0, .int .i64 a.f1, .int .i64 a.f2, .slice A a.f3.length c, .int .i64 b.f0, .int .i64 b.f1, .int .i64 b.f2, .slice B b.f3.length d] t (0, 0))) (hA : Kd.C (Kd.int .i64) W A a.f3.length a.f3) (hc : a.f3.length ≤ c) (hB : Kd.C (Kd.int .i64) W B b.f3.length b.f3) (hd : b.f3.length ≤ d) : Kd.C k28 W (some ⟨g, 0, none⟩) 2 [a, b] := by
  refine ⟨rfl, by omega, fun _ => ⟨⟨g, 0, none⟩, rfl, fun j p hj => ?_⟩⟩
  rcases j with _ | _ | j
  · simp only [List.getElem?_cons_zero, Option.some.injEq] at hj
    subst hj
    refine ⟨_, rfl, k28_mk W a hc hA, fun i u hu => ?_⟩
    rw [add_plain]
    rcases i with _ | _ | _ | _ | i
    · exact (blk_cell hb 0).trans hu
    · exact (blk_cell hb 1).trans hu
    · exact (blk_cell hb 2).trans hu
    · exact (blk_cell hb 3).trans hu
    · simp at hu
  · simp only [Nat.zero_add, List.getElem?_cons_succ, List.getElem?_cons_zero, Option.some.injEq] at hj
    subst hj
    refine ⟨_, rfl, k28_mk W b hd hB, fun i u hu => ?_⟩
    rw [add_plain]
    rcases i with _ | _ | _ | _ | i
    · exact (blk_cell hb 4).trans hu
    · exact (blk_cell hb 5).trans hu
    · exact (blk_cell hb 6).trans hu
    · exact (blk_cell hb 7).trans hu
    · simp at hu
  · simp at hj
set_option maxHeartbeats 8000000 in
set_option maxRecDepth 100000 in
theorem tells_few (a b : S28) (l : List S28) (at_ : Int) (A B C : Option Addr) (ca cb cl : Nat) (w : World) (hA : Kd.C (Kd.int .i64) w A a.f3.length a.f3) (hca : a.f3.length ≤ ca) (hB : Kd.C (Kd.int .i64) w B b.f3.length b.f3) (hcb : b.f3.length ≤ cb) (hC : Kd.C k28 w C l.length l) (hcl : l.length ≤ cl) (k1 : Nat) (h1 : juratref27_Few.f k1 l 20 = some false) (k9 : Nat) (h9 : juratlaw27_awake.f k9 = some true) :
    Calls Try.prog 4 #[.agg #[.int .i64 a.f0, .int .i64 a.f1, .int .i64 a.f2, .slice A a.f3.length ca], .agg #[.int .i64 b.f0, .int .i64 b.f1, .int .i64 b.f2, .slice B b.f3.length cb], .slice C l.length cl, .int .i64 at_] w fun e w' => e = .returned (.bool true) ∧ Below w.heap.size w w' := by
  have H1 := Aside0.mk h1
  have H9 := Aside0.mk h9
  have HC := Aside0.mk hC
  clear h1 h9 hC
  go_enter Try.func4, Try.ntmps4
  go_wp2_with (first | (go_at_call 9; (refine (juratref27_Few.calls k1 C cl l 20 false _ (by (with_reducible repeat (first | apply Kd.C_alloc | apply Kd.C_drew)); exact HC.out) hcl H1.out).mono ?_); rintro e w3 ⟨rfl, hd3⟩; have HB3 := Aside0.mk hd3.below; clear hd3) | (go_at_call 10; (with_reducible refine (juratlaw27_awake.calls k9 true _ H9.out).mono ?_); rintro e w4 ⟨rfl, hb4⟩; have HB4 := Aside0.mk hb4; clear hb4) | fail)
  go_ret
  exact ⟨rfl, below_step (below_step (below_alloc (below_alloc (Below.refl _ _) _) _) HB3.out) HB4.out⟩
set_option maxHeartbeats 8000000 in
set_option maxRecDepth 100000 in
theorem tells_two (a b : S28) (l : List S28) (at_ : Int) (A B C : Option Addr) (ca cb cl : Nat) (w : World) (hA : Kd.C (Kd.int .i64) w A a.f3.length a.f3) (hca : a.f3.length ≤ ca) (hB : Kd.C (Kd.int .i64) w B b.f3.length b.f3) (hcb : b.f3.length ≤ cb) (hC : Kd.C k28 w C l.length l) (hcl : l.length ≤ cl) (k1 : Nat) (h1 : juratref27_Few.f k1 l 20 = some true) (k2 : Nat) (h2 : juratref27_Few.f k2 [a, b] 2 = some false) (k9 : Nat) (h9 : juratlaw27_awake.f k9 = some true) :
    Calls Try.prog 4 #[.agg #[.int .i64 a.f0, .int .i64 a.f1, .int .i64 a.f2, .slice A a.f3.length ca], .agg #[.int .i64 b.f0, .int .i64 b.f1, .int .i64 b.f2, .slice B b.f3.length cb], .slice C l.length cl, .int .i64 at_] w fun e w' => e = .returned (.bool true) ∧ Below w.heap.size w w' := by
  have H1 := Aside0.mk h1
  have H2 := Aside0.mk h2
  have H9 := Aside0.mk h9
  clear h1 h2 h9
  have HC := Aside0.mk hC
  have X0 : Aside0 (Cx (fun _ => False) w w [Row k28 C l, Row (Kd.int .i64) B b.f3, Row (Kd.int .i64) A a.f3]) := ⟨(((Cx.start _ w (fun _ h => h.elim)).came (Kd.heap_int _) hA).came (Kd.heap_int _) hB).came heap28 hC⟩
  clear hC hA hB
  go_enter Try.func4, Try.ntmps4
  go_upto_region 1 with fail
  have X1 := Aside0.mk ((X0.out.new #[.int .i64 a.f0, .int .i64 a.f1, .int .i64 a.f2, .slice A a.f3.length ca] 28 (fun h => h)).new #[.int .i64 b.f0, .int .i64 b.f1, .int .i64 b.f2, .slice B b.f3.length cb] 28 (fun h => h))
  clear X0
  have hne : w.heap.size + 1 ≠ w.heap.size := by omega
  have X2 : Aside0 (Cx (fun _ => False) w ((w.alloc (Obj.cells #[.int .i64 a.f0, .int .i64 a.f1, .int .i64 a.f2, .slice A a.f3.length ca] 28)).alloc (Obj.cells #[.int .i64 b.f0, .int .i64 b.f1, .int .i64 b.f2, .slice B b.f3.length cb] 28)) [Blk (w.heap.size + 1) #[.int .i64 b.f0, .int .i64 b.f1, .int .i64 b.f2, .slice B b.f3.length cb] 28, Blk w.heap.size #[.int .i64 a.f0, .int .i64 a.f1, .int .i64 a.f2, .slice A a.f3.length ca] 28, Row k28 C l, Row (Kd.int .i64) B b.f3, Row (Kd.int .i64) A a.f3]) := ⟨by have h := X1.out; simpa using h⟩
  clear X1
  generalize (w.alloc (Obj.cells #[.int .i64 a.f0, .int .i64 a.f1, .int .i64 a.f2, .slice A a.f3.length ca] 28)).alloc (Obj.cells #[.int .i64 b.f0, .int .i64 b.f1, .int .i64 b.f2, .slice B b.f3.length cb] 28) = w1 at X2 ⊢
  obtain ⟨⟨j0, j1, j2, j3⟩, _⟩ := cell4 (X2.out.get 1 rfl)
  obtain ⟨⟨k0, k1', k2', k3'⟩, _⟩ := cell4 (X2.out.get 0 rfl)
  go_wp2_with (first | (go_at_call 9; (refine (juratref27_Few.calls k1 C cl l 20 true _ (X2.out.get 2 rfl) hcl H1.out).mono ?_); rintro e w3 ⟨rfl, hd3⟩; have X3 := Aside0.mk (X2.out.drawn hd3); clear hd3 X2 j0 j1 j2 j3 k0 k1' k2' k3'; obtain ⟨⟨j0, j1, j2, j3⟩, _⟩ := cell4 (X3.out.get 1 rfl); obtain ⟨⟨k0, k1', k2', k3'⟩, _⟩ := cell4 (X3.out.get 0 rfl)) | (go_at_call 9; (refine (juratref27_Few.calls k2 (some ⟨w3.heap.size, 0, none⟩) 2 [a, b] 2 false _ (row2 (blk_new w3 (Obj.cells #[.int .i64 a.f0, .int .i64 a.f1, .int .i64 a.f2, .slice A a.f3.length ca, .int .i64 b.f0, .int .i64 b.f1, .int .i64 b.f2, .slice B b.f3.length cb] 28)) (Kd.C_alloc (X3.out.get 4 rfl) _) hca (Kd.C_alloc (X3.out.get 3 rfl) _) hcb) (Nat.le_refl _) H2.out).mono ?_); rintro e w4 ⟨rfl, hd4⟩; have X4 := Aside0.mk ((X3.out.alloc (Obj.cells #[.int .i64 a.f0, .int .i64 a.f1, .int .i64 a.f2, .slice A a.f3.length ca, .int .i64 b.f0, .int .i64 b.f1, .int .i64 b.f2, .slice B b.f3.length cb] 28)).drawn hd4); clear hd4) | (go_at_call 10; (with_reducible refine (juratlaw27_awake.calls k9 true _ H9.out).mono ?_); rintro e w5 ⟨rfl, hb5⟩; have X5 := Aside0.mk (X4.out.step hb5); clear hb5) | fail)
  go_ret
  exact ⟨rfl, X5.out.hb⟩
set_option maxHeartbeats 16000000 in
set_option maxRecDepth 100000 in
theorem tells_all (a b : S28) (l : List S28) (at_ : Int) (A B C : Option Addr) (ca cb cl : Nat) (w : World) (hA : Kd.C (Kd.int .i64) w A a.f3.length a.f3) (hca : a.f3.length ≤ ca) (hB : Kd.C (Kd.int .i64) w B b.f3.length b.f3) (hcb : b.f3.length ≤ cb) (hC : Kd.C k28 w C l.length l) (hcl : l.length ≤ cl) (k1 : Nat) (h1 : juratref27_Few.f k1 l 20 = some true) (k2 : Nat) (h2 : juratref27_Few.f k2 [a, b] 2 = some true) (k3 : Nat) (p1 p2 p3 : Int) (p4 : List Int) (p5 : Bool) (h3 : merge_Two.f k3 a.f0 a.f1 a.f2 a.f3 b.f0 b.f1 b.f2 b.f3 = some (p1, p2, p3, p4, p5)) (k4 : Nat) (h4 : juratref27_Two.f k4 a.f0 a.f1 a.f2 a.f3 b.f0 b.f1 b.f2 b.f3 = some (p1, p2, p3, p4, p5)) (k5 : Nat) (n e : Int) (h5 : merge_Covers.f k5 a.f0 a.f1 a.f2 a.f3 = some (n, e)) (k6 : Nat) (h6 : juratref27_Covers.f k6 a.f0 a.f1 a.f2 a.f3 = some (n, e)) (k7 : Nat) (tt g : Int) (h7 : merge_Far.f k7 at_ l = some (tt, g)) (k8 : Nat) (h8 : juratref27_Far.f k8 at_ l = some (tt, g)) (k9 : Nat) (h9 : juratlaw27_awake.f k9 = some true) (k10 : Nat) (h10 : juratref24_Same.f k10 p1 p2 p3 p4 p1 p2 p3 p4 = some true) (k11 : Nat) (r : List S28) (h11 : merge_All.f k11 l = some r) (k12 : Nat) (h12 : juratref27_All.f k12 l = some r) (k13 : Nat) (h13 : juratref26_Same.f k13 r r = some true) (k14 : Nat) (c : Bool) (h14 : merge_Canon.f k14 l = some c) (k15 : Nat) (h15 : juratref27_Canon.f k15 l = some c) :
    Calls Try.prog 4 #[.agg #[.int .i64 a.f0, .int .i64 a.f1, .int .i64 a.f2, .slice A a.f3.length ca], .agg #[.int .i64 b.f0, .int .i64 b.f1, .int .i64 b.f2, .slice B b.f3.length cb], .slice C l.length cl, .int .i64 at_] w fun e w' => e = .returned (.bool true) ∧ Below w.heap.size w w' := by
  have H1 := Aside0.mk h1
  have H2 := Aside0.mk h2
  have H3 := Aside0.mk h3
  have H4 := Aside0.mk h4
  have H5 := Aside0.mk h5
  have H6 := Aside0.mk h6
  have H7 := Aside0.mk h7
  have H8 := Aside0.mk h8
  have H9 := Aside0.mk h9
  have H10 := Aside0.mk h10
  have H11 := Aside0.mk h11
  have H12 := Aside0.mk h12
  have H13 := Aside0.mk h13
  have H14 := Aside0.mk h14
  have H15 := Aside0.mk h15
  clear h1 h2 h3 h4 h5 h6 h7 h8 h9 h10 h11 h12 h13 h14 h15
  have X0 : Aside0 (Cx (fun _ => False) w w [Row k28 C l, Row (Kd.int .i64) B b.f3, Row (Kd.int .i64) A a.f3]) := ⟨(((Cx.start _ w (fun _ h => h.elim)).came (Kd.heap_int _) hA).came (Kd.heap_int _) hB).came heap28 hC⟩
  clear hC hA hB
  go_enter Try.func4, Try.ntmps4
  go_upto_region 1 with fail
  have X1 := Aside0.mk ((X0.out.new #[.int .i64 a.f0, .int .i64 a.f1, .int .i64 a.f2, .slice A a.f3.length ca] 28 (fun h => h)).new #[.int .i64 b.f0, .int .i64 b.f1, .int .i64 b.f2, .slice B b.f3.length cb] 28 (fun h => h))
  clear X0
  have hne : w.heap.size + 1 ≠ w.heap.size := by omega
  have X2 : Aside0 (Cx (fun _ => False) w ((w.alloc (Obj.cells #[.int .i64 a.f0, .int .i64 a.f1, .int .i64 a.f2, .slice A a.f3.length ca] 28)).alloc (Obj.cells #[.int .i64 b.f0, .int .i64 b.f1, .int .i64 b.f2, .slice B b.f3.length cb] 28)) [Blk (w.heap.size + 1) #[.int .i64 b.f0, .int .i64 b.f1, .int .i64 b.f2, .slice B b.f3.length cb] 28, Blk w.heap.size #[.int .i64 a.f0, .int .i64 a.f1, .int .i64 a.f2, .slice A a.f3.length ca] 28, Row k28 C l, Row (Kd.int .i64) B b.f3, Row (Kd.int .i64) A a.f3]) := ⟨by have h := X1.out; simpa using h⟩
  clear X1
  generalize (w.alloc (Obj.cells #[.int .i64 a.f0, .int .i64 a.f1, .int .i64 a.f2, .slice A a.f3.length ca] 28)).alloc (Obj.cells #[.int .i64 b.f0, .int .i64 b.f1, .int .i64 b.f2, .slice B b.f3.length cb] 28) = w1 at X2 ⊢
  obtain ⟨⟨ga_0, ga_1, ga_2, ga_3⟩, ga_f0, ga_f1, ga_f2, ga_f3⟩ := cell4 (X2.out.get 1 rfl); obtain ⟨⟨gb_0, gb_1, gb_2, gb_3⟩, gb_f0, gb_f1, gb_f2, gb_f3⟩ := cell4 (X2.out.get 0 rfl)
  go_upto_region 3 with (first | (go_at_call 9; (refine (juratref27_Few.calls k1 C cl l 20 true _ (X2.out.get 2 rfl) hcl H1.out).mono ?_); rintro e w3 ⟨rfl, hd3⟩; have X3 := Aside0.mk (X2.out.drawn hd3); clear hd3 X2; clear ga_0 ga_1 ga_2 ga_3 ga_f0 ga_f1 ga_f2 ga_f3 gb_0 gb_1 gb_2 gb_3 gb_f0 gb_f1 gb_f2 gb_f3; obtain ⟨⟨ga_0, ga_1, ga_2, ga_3⟩, ga_f0, ga_f1, ga_f2, ga_f3⟩ := cell4 (X3.out.get 1 rfl); obtain ⟨⟨gb_0, gb_1, gb_2, gb_3⟩, gb_f0, gb_f1, gb_f2, gb_f3⟩ := cell4 (X3.out.get 0 rfl)) | (go_at_call 9; (refine (juratref27_Few.calls k2 (some ⟨w3.heap.size, 0, none⟩) 2 [a, b] 2 true _ (row2 (blk_new w3 (Obj.cells #[.int .i64 a.f0, .int .i64 a.f1, .int .i64 a.f2, .slice A a.f3.length ca, .int .i64 b.f0, .int .i64 b.f1, .int .i64 b.f2, .slice B b.f3.length cb] 28)) (Kd.C_alloc (X3.out.get 4 rfl) _) hca (Kd.C_alloc (X3.out.get 3 rfl) _) hcb) (Nat.le_refl _) H2.out).mono ?_); rintro e w4 ⟨rfl, hd4⟩; have X4 := Aside0.mk ((X3.out.alloc (Obj.cells #[.int .i64 a.f0, .int .i64 a.f1, .int .i64 a.f2, .slice A a.f3.length ca, .int .i64 b.f0, .int .i64 b.f1, .int .i64 b.f2, .slice B b.f3.length cb] 28)).drawn hd4); clear hd4 X3; clear ga_0 ga_1 ga_2 ga_3 ga_f0 ga_f1 ga_f2 ga_f3 gb_0 gb_1 gb_2 gb_3 gb_f0 gb_f1 gb_f2 gb_f3; obtain ⟨⟨ga_0, ga_1, ga_2, ga_3⟩, ga_f0, ga_f1, ga_f2, ga_f3⟩ := cell4 (X4.out.get 1 rfl); obtain ⟨⟨gb_0, gb_1, gb_2, gb_3⟩, gb_f0, gb_f1, gb_f2, gb_f3⟩ := cell4 (X4.out.get 0 rfl)) | fail)
  go_upto_region 4 with (first | (go_at_call 15; (refine (merge_Two.calls k3 a.f0 a.f1 a.f2 A ca a.f3 b.f0 b.f1 b.f2 B cb b.f3 p1 p2 p3 p4 p5 _ (X4.out.get 4 rfl) hca (X4.out.get 3 rfl) hcb H3.out).mono ?_); rintro e w5 ⟨v, rfl, hR5, hb5⟩; obtain ⟨A5, c5, rfl⟩ := Kd.R_slice hR5; have L5 := Aside0.mk (Kd.R_reads' hR5).2.1; have X5 := Aside0.mk ((X4.out.step hb5).noneS hR5); clear hR5 hb5 X4; clear ga_0 ga_1 ga_2 ga_3 ga_f0 ga_f1 ga_f2 ga_f3 gb_0 gb_1 gb_2 gb_3 gb_f0 gb_f1 gb_f2 gb_f3; obtain ⟨⟨ga_0, ga_1, ga_2, ga_3⟩, ga_f0, ga_f1, ga_f2, ga_f3⟩ := cell4 (X5.out.get 2 rfl); obtain ⟨⟨gb_0, gb_1, gb_2, gb_3⟩, gb_f0, gb_f1, gb_f2, gb_f3⟩ := cell4 (X5.out.get 1 rfl)) | fail)
  have X6 := Aside0.mk (X5.out.new #[.int .i64 p1, .int .i64 p2, .int .i64 p3, .slice A5 p4.length c5] 28 (fun h => h))
  clear X5; clear ga_0 ga_1 ga_2 ga_3 ga_f0 ga_f1 ga_f2 ga_f3 gb_0 gb_1 gb_2 gb_3 gb_f0 gb_f1 gb_f2 gb_f3
  generalize w5.alloc (Obj.cells #[.int .i64 p1, .int .i64 p2, .int .i64 p3, .slice A5 p4.length c5] 28) = w6 at X6 ⊢
  generalize w5.heap.size = b9 at X6 ⊢
  skip; obtain ⟨⟨ga_0, ga_1, ga_2, ga_3⟩, ga_f0, ga_f1, ga_f2, ga_f3⟩ := cell4 (X6.out.get 3 rfl); obtain ⟨⟨gb_0, gb_1, gb_2, gb_3⟩, gb_f0, gb_f1, gb_f2, gb_f3⟩ := cell4 (X6.out.get 2 rfl)
  go_upto_region 5 with (first | (go_at_call 16; (refine (juratref27_Two.calls k4 a.f0 a.f1 a.f2 A ca a.f3 b.f0 b.f1 b.f2 B cb b.f3 p1 p2 p3 p4 p5 _ (X6.out.get 6 rfl) hca (X6.out.get 5 rfl) hcb H4.out).mono ?_); rintro e w7 ⟨v, rfl, hR7, hb7⟩; obtain ⟨A7, c7, rfl⟩ := Kd.R_slice hR7; have L7 := Aside0.mk (Kd.R_reads' hR7).2.1; have X7 := Aside0.mk ((X6.out.step hb7).noneS hR7); clear hR7 hb7 X6; clear ga_0 ga_1 ga_2 ga_3 ga_f0 ga_f1 ga_f2 ga_f3 gb_0 gb_1 gb_2 gb_3 gb_f0 gb_f1 gb_f2 gb_f3; obtain ⟨⟨ga_0, ga_1, ga_2, ga_3⟩, ga_f0, ga_f1, ga_f2, ga_f3⟩ := cell4 (X7.out.get 4 rfl); obtain ⟨⟨gb_0, gb_1, gb_2, gb_3⟩, gb_f0, gb_f1, gb_f2, gb_f3⟩ := cell4 (X7.out.get 3 rfl)) | fail)
  have X8 := Aside0.mk (X7.out.new #[.int .i64 p1, .int .i64 p2, .int .i64 p3, .slice A7 p4.length c7] 28 (fun h => h))
  clear X7; clear ga_0 ga_1 ga_2 ga_3 ga_f0 ga_f1 ga_f2 ga_f3 gb_0 gb_1 gb_2 gb_3 gb_f0 gb_f1 gb_f2 gb_f3
  generalize w7.alloc (Obj.cells #[.int .i64 p1, .int .i64 p2, .int .i64 p3, .slice A7 p4.length c7] 28) = w8 at X8 ⊢
  generalize w7.heap.size = b11 at X8 ⊢
  skip; obtain ⟨⟨ga_0, ga_1, ga_2, ga_3⟩, ga_f0, ga_f1, ga_f2, ga_f3⟩ := cell4 (X8.out.get 5 rfl); obtain ⟨⟨gb_0, gb_1, gb_2, gb_3⟩, gb_f0, gb_f1, gb_f2, gb_f3⟩ := cell4 (X8.out.get 4 rfl); obtain ⟨⟨g9_0, g9_1, g9_2, g9_3⟩, g9_f0, g9_f1, g9_f2, g9_f3⟩ := cell4 (X8.out.get 2 rfl); obtain ⟨⟨g11_0, g11_1, g11_2, g11_3⟩, g11_f0, g11_f1, g11_f2, g11_f3⟩ := cell4 (X8.out.get 0 rfl)
  go_upto_region 9 with (first | (go_at_call 17; (refine (merge_Covers.calls k5 a.f0 a.f1 a.f2 A ca a.f3 n e _ (X8.out.get 8 rfl) hca H5.out).mono ?_); rintro e' w9 ⟨rfl, hb9⟩; have X9 := Aside0.mk (X8.out.step hb9); clear hb9 X8; clear ga_0 ga_1 ga_2 ga_3 ga_f0 ga_f1 ga_f2 ga_f3 gb_0 gb_1 gb_2 gb_3 gb_f0 gb_f1 gb_f2 gb_f3 g9_0 g9_1 g9_2 g9_3 g9_f0 g9_f1 g9_f2 g9_f3 g11_0 g11_1 g11_2 g11_3 g11_f0 g11_f1 g11_f2 g11_f3; obtain ⟨⟨ga_0, ga_1, ga_2, ga_3⟩, ga_f0, ga_f1, ga_f2, ga_f3⟩ := cell4 (X9.out.get 5 rfl); obtain ⟨⟨gb_0, gb_1, gb_2, gb_3⟩, gb_f0, gb_f1, gb_f2, gb_f3⟩ := cell4 (X9.out.get 4 rfl); obtain ⟨⟨g9_0, g9_1, g9_2, g9_3⟩, g9_f0, g9_f1, g9_f2, g9_f3⟩ := cell4 (X9.out.get 2 rfl); obtain ⟨⟨g11_0, g11_1, g11_2, g11_3⟩, g11_f0, g11_f1, g11_f2, g11_f3⟩ := cell4 (X9.out.get 0 rfl)) | (go_at_call 18; (refine (juratref27_Covers.calls k6 a.f0 a.f1 a.f2 A ca a.f3 n e _ (X9.out.get 8 rfl) hca H6.out).mono ?_); rintro e' w10 ⟨rfl, hb10⟩; have X10 := Aside0.mk (X9.out.step hb10); clear hb10 X9; clear ga_0 ga_1 ga_2 ga_3 ga_f0 ga_f1 ga_f2 ga_f3 gb_0 gb_1 gb_2 gb_3 gb_f0 gb_f1 gb_f2 gb_f3 g9_0 g9_1 g9_2 g9_3 g9_f0 g9_f1 g9_f2 g9_f3 g11_0 g11_1 g11_2 g11_3 g11_f0 g11_f1 g11_f2 g11_f3; obtain ⟨⟨ga_0, ga_1, ga_2, ga_3⟩, ga_f0, ga_f1, ga_f2, ga_f3⟩ := cell4 (X10.out.get 5 rfl); obtain ⟨⟨gb_0, gb_1, gb_2, gb_3⟩, gb_f0, gb_f1, gb_f2, gb_f3⟩ := cell4 (X10.out.get 4 rfl); obtain ⟨⟨g9_0, g9_1, g9_2, g9_3⟩, g9_f0, g9_f1, g9_f2, g9_f3⟩ := cell4 (X10.out.get 2 rfl); obtain ⟨⟨g11_0, g11_1, g11_2, g11_3⟩, g11_f0, g11_f1, g11_f2, g11_f3⟩ := cell4 (X10.out.get 0 rfl)) | (go_at_call 19; (refine (merge_Far.calls k7 at_ C cl l tt g _ (X10.out.get 6 rfl) hcl H7.out).mono ?_); rintro e' w11 ⟨rfl, hb11⟩; have X11 := Aside0.mk (X10.out.step hb11); clear hb11 X10; clear ga_0 ga_1 ga_2 ga_3 ga_f0 ga_f1 ga_f2 ga_f3 gb_0 gb_1 gb_2 gb_3 gb_f0 gb_f1 gb_f2 gb_f3 g9_0 g9_1 g9_2 g9_3 g9_f0 g9_f1 g9_f2 g9_f3 g11_0 g11_1 g11_2 g11_3 g11_f0 g11_f1 g11_f2 g11_f3; obtain ⟨⟨ga_0, ga_1, ga_2, ga_3⟩, ga_f0, ga_f1, ga_f2, ga_f3⟩ := cell4 (X11.out.get 5 rfl); obtain ⟨⟨gb_0, gb_1, gb_2, gb_3⟩, gb_f0, gb_f1, gb_f2, gb_f3⟩ := cell4 (X11.out.get 4 rfl); obtain ⟨⟨g9_0, g9_1, g9_2, g9_3⟩, g9_f0, g9_f1, g9_f2, g9_f3⟩ := cell4 (X11.out.get 2 rfl); obtain ⟨⟨g11_0, g11_1, g11_2, g11_3⟩, g11_f0, g11_f1, g11_f2, g11_f3⟩ := cell4 (X11.out.get 0 rfl)) | (go_at_call 20; (refine (juratref27_Far.calls k8 at_ C cl l tt g _ (X11.out.get 6 rfl) hcl H8.out).mono ?_); rintro e' w12 ⟨rfl, hb12⟩; have X12 := Aside0.mk (X11.out.step hb12); clear hb12 X11; clear ga_0 ga_1 ga_2 ga_3 ga_f0 ga_f1 ga_f2 ga_f3 gb_0 gb_1 gb_2 gb_3 gb_f0 gb_f1 gb_f2 gb_f3 g9_0 g9_1 g9_2 g9_3 g9_f0 g9_f1 g9_f2 g9_f3 g11_0 g11_1 g11_2 g11_3 g11_f0 g11_f1 g11_f2 g11_f3; obtain ⟨⟨ga_0, ga_1, ga_2, ga_3⟩, ga_f0, ga_f1, ga_f2, ga_f3⟩ := cell4 (X12.out.get 5 rfl); obtain ⟨⟨gb_0, gb_1, gb_2, gb_3⟩, gb_f0, gb_f1, gb_f2, gb_f3⟩ := cell4 (X12.out.get 4 rfl); obtain ⟨⟨g9_0, g9_1, g9_2, g9_3⟩, g9_f0, g9_f1, g9_f2, g9_f3⟩ := cell4 (X12.out.get 2 rfl); obtain ⟨⟨g11_0, g11_1, g11_2, g11_3⟩, g11_f0, g11_f1, g11_f2, g11_f3⟩ := cell4 (X12.out.get 0 rfl)) | fail)
  go_wp2_with (first | (go_at_call 13; (refine (juratref24_Same.calls k10 p1 p2 p3 A5 c5 p4 p1 p2 p3 A7 c7 p4 true _ (X12.out.get 3 rfl) L5.out (X12.out.get 1 rfl) L7.out H10.out).mono ?_); rintro e' w13 ⟨rfl, hb13⟩; have X13 := Aside0.mk (X12.out.step hb13); clear hb13 X12; clear ga_0 ga_1 ga_2 ga_3 ga_f0 ga_f1 ga_f2 ga_f3 gb_0 gb_1 gb_2 gb_3 gb_f0 gb_f1 gb_f2 gb_f3 g9_0 g9_1 g9_2 g9_3 g9_f0 g9_f1 g9_f2 g9_f3 g11_0 g11_1 g11_2 g11_3 g11_f0 g11_f1 g11_f2 g11_f3) | (go_at_call 22; (refine (merge_All.calls k11 C cl l r _ (X13.out.get 6 rfl) hcl H11.out).mono ?_); rintro e' w14 ⟨v, rfl, hR14, hb14⟩; obtain ⟨A14, c14, rfl⟩ := Kd.R_slice hR14; have L14 := Aside0.mk (Kd.R_reads' hR14).2.1; have X14 := Aside0.mk ((X13.out.step hb14).noneS hR14); clear hR14 hb14 X13) | (go_at_call 12; (refine (juratref27_All.calls k12 (fun k => ¬ False) C cl l r _ (Kd.V_mk hcl (X14.out.footAt 7 rfl)) H12.out).mono ?_); rintro e' w15 ⟨v, rfl, hN15, hb15⟩; obtain ⟨A15, c15, rfl⟩ := Kd.N_slice hN15; have L15 := Aside0.mk (Kd.N_reads' hN15).2.1; have X15 := Aside0.mk ((X14.out.step hb15).share hN15 (fun _ _ h => h)); clear hN15 hb15 X14) | (go_at_call 21; (refine (juratref26_Same.calls k13 A14 c14 r A15 c15 r true _ (X15.out.get 1 rfl) L14.out (X15.out.get 0 rfl) L15.out H13.out).mono ?_); rintro e' w16 ⟨rfl, hb16⟩; have X16 := Aside0.mk (X15.out.step hb16); clear hb16 X15) | (go_at_call 23; (refine (merge_Canon.calls k14 C cl l c _ (X16.out.get 8 rfl) hcl H14.out).mono ?_); rintro e' w17 ⟨rfl, hb17⟩; have X17 := Aside0.mk (X16.out.step hb17); clear hb17 X16) | (go_at_call 24; (refine (juratref27_Canon.calls k15 C cl l c _ (X17.out.get 8 rfl) hcl H15.out).mono ?_); rintro e' w18 ⟨rfl, hb18⟩; have X18 := Aside0.mk (X17.out.step hb18); clear hb18 X17) | (go_at_call 10; (refine (juratlaw27_awake.calls k9 true _ H9.out).mono ?_); rintro e' w19 ⟨rfl, hb19⟩; have X19 := Aside0.mk (X18.out.step hb19); clear hb19 X18) | fail)
  go_ret
  exact ⟨rfl, X19.out.hb⟩
/-- MergeTells returns true. -/
theorem juratlaw27_MergeTells.holds (a b : S28) (l : List S28) (at_ : Int) (A B C : Option Addr) (ca cb cl : Nat) (w : World) (hA : Kd.C (Kd.int .i64) w A a.f3.length a.f3) (hca : a.f3.length ≤ ca) (hB : Kd.C (Kd.int .i64) w B b.f3.length b.f3) (hcb : b.f3.length ≤ cb) (hC : Kd.C k28 w C l.length l) (hcl : l.length ≤ cl) (ga : good28 a) (gb : good28 b) (gl : l.length ≤ maxLen ∧ ∀ x ∈ l, good28 x) (gat : (Lit.int .i64 at_).wf = true) :
    Calls Try.prog 4 #[.agg #[.int .i64 a.f0, .int .i64 a.f1, .int .i64 a.f2, .slice A a.f3.length ca], .agg #[.int .i64 b.f0, .int .i64 b.f1, .int .i64 b.f2, .slice B b.f3.length cb], .slice C l.length cl, .int .i64 at_] w fun e w' => e = .returned (.bool true) ∧ Below w.heap.size w w' := by
  obtain ⟨k9, h9⟩ := awake27_ev.rounds
  by_cases hl : (l.length : Int) > 20
  · exact tells_few a b l at_ A B C ca cb cl w hA hca hB hcb hC hcl 0 (few_no l 20 hl 0) k9 h9
  obtain ⟨k1, h1⟩ := (few_ev l 20 hl (by omega)).rounds
  cases hf : fewB l with
  | false => rw [hf] at h1; exact tells_few a b l at_ A B C ca cb cl w hA hca hB hcb hC hcl k1 h1 k9 h9
  | true =>
    rw [hf] at h1
    obtain ⟨k2, h2⟩ := (few_ev [a, b] 2 (by simp) (by omega)).rounds
    cases hf2 : fewB [a, b] with
    | false => rw [hf2] at h2; exact tells_two a b l at_ A B C ca cb cl w hA hca hB hcb hC hcl k1 h1 k2 h2 k9 h9
    | true =>
      rw [hf2] at h2
      have la := fewB_get hf2 a (by simp)
      have lb := fewB_get hf2 b (by simp)
      have oa := good_okR ga la
      have ob := good_okR gb lb
      have ol : ∀ x ∈ l, okR x := fun x hx => good_okR (gl.2 x hx) (fewB_get hf x hx)
      have hll : l.length ≤ 1000 := by omega
      obtain ⟨k3, h3⟩ := (two_ev a b oa ob).rounds
      obtain ⟨k4, h4⟩ := (rtwo_ev a b oa ob).rounds
      obtain ⟨p1, p2, p3, p4, p5, hp⟩ : ∃ p1 p2 p3 p4 p5, twoS a b = (p1, p2, p3, p4, p5) := ⟨_, _, _, _, _, rfl⟩
      rw [hp] at h3 h4
      have hp4 : p4 = [] := by
        unfold twoS at hp
        split at hp
        · simp only [Prod.mk.injEq] at hp; exact hp.2.2.2.1.symm
        · simp only [Prod.mk.injEq] at hp; exact hp.2.2.2.1.symm
      obtain ⟨k5, h5⟩ := (cov_ev a).rounds
      obtain ⟨k6, h6⟩ := (rcov_ev a).rounds
      obtain ⟨n, e, hne⟩ : ∃ n e, covS a = (n, e) := ⟨_, _, rfl⟩
      rw [hne] at h5 h6
      obtain ⟨k7, h7⟩ := (far_ev at_ l hll).rounds
      obtain ⟨k8, h8⟩ := (rfar_ev at_ l hll).rounds
      obtain ⟨tt, g, htg⟩ : ∃ tt g, (if In at_ then farS at_ l else (0, 2)) = (tt, g) := ⟨_, _, rfl⟩
      rw [htg] at h7 h8
      obtain ⟨k10, h10⟩ := (same24_ev ⟨p1, p2, p3, p4⟩ ⟨p1, p2, p3, p4⟩ (by rw [hp4]; simp)).rounds
      rw [eqR_self] at h10
      obtain ⟨k11, h11⟩ := (all_ev27 l ol hll).rounds
      obtain ⟨k12, h12⟩ := (rall_ev l ol hll).rounds
      obtain ⟨k13, h13⟩ := (same26_ev (allS l) (okR_all l ol) (Nat.le_trans (len_all l) hll)).rounds
      obtain ⟨k14, h14⟩ := (canon_ev l ol hll).rounds
      obtain ⟨k15, h15⟩ := (rcanon_ev l ol hll).rounds
      exact tells_all a b l at_ A B C ca cb cl w hA hca hB hcb hC hcl k1 h1 k2 h2 k3 p1 p2 p3 p4 p5 h3 k4 h4 k5 n e h5 k6 h6 k7 tt g h7 k8 h8 k9 h9 k10 h10 k11 _ h11 k12 h12 k13 h13 k14 _ h14 k15 h15
end Go.Proofs.Ytaihieglailmcaa.PG
