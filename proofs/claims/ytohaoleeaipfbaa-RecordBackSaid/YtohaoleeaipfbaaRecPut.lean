/- record.Put over this seat's program, by walking its text. -/
import Derived.Test.YtohaoleeaipfbaaBldLem
import Derived.Test.YtohaoleeaipfbaaPFx1
import Derived.Test.YtohaoleeaipfbaaPFx1
namespace Go.Proofs.Ytohaoleeaipfbaa.PF
open Go.RowKit Go.Proofs.YtohaoleeaipfbaaW.PrintWords Go.Proofs.YtohaoleeaipfbaaW.PrintLast Go.Proofs.YtohaoleeaipfbaaW.PrintMore
set_option linter.unusedVariables false
set_option linter.unusedSimpArgs false
def record_Put.go (k : Nat) : List Int → Int → List Int → Option (ByteArray × Int)
  | [], _, acc => some (strOfNums acc, 0)
  | x :: r, ah, acc => (varint_Put.f k (wrap64 (x - ah))).bind fun p => if acc.length + p.size ≤ 140737488355328 then record_Put.go k r x (acc ++ bytesOf p) else none
def record_Put.f (k : Nat) (a b c : Int) (l : List Int) : Option (ByteArray × Int) :=
  (record_Check.f k a b c l).bind fun t => if t = true then
    (if a = 4 then (varint_Put.f k (l.length : Int)).bind fun p => if 1 + p.size ≤ 140737488355328 then record_Put.go k l 0 (a % 256 :: bytesOf p) else none
     else (varint_All.f k [b, c]).bind fun p => if 1 + p.size ≤ 140737488355328 then some (strOfNums (a % 256 :: bytesOf p), 0) else none)
  else some ((⟨#[]⟩ : ByteArray), 2)
theorem record_Put.mono_go (k : Nat) : ∀ (l : List Int) (ah : Int) (acc : List Int), LeO (record_Put.go k l ah acc) (record_Put.go (k + 1) l ah acc)
  | [], _, _ => LeO.refl _
  | x :: r, ah, acc => LeO.bind (varint_Put.mono _ _) (fun p => LeO.ite (record_Put.mono_go k r x _) (LeO.none _))
theorem record_Put.mono : ∀ a b c l k, LeO (record_Put.f k a b c l) (record_Put.f (k + 1) a b c l) := fun a b c l k =>
  LeO.bind (record_Check.mono _ _ _ _ _) (fun t => LeO.ite (LeO.ite (LeO.bind (varint_Put.mono _ _) (fun p => LeO.ite (record_Put.mono_go k _ _ _) (LeO.none _))) (LeO.bind (varint_All.mono _ _) (fun p => LeO.refl _))) (LeO.refl _))
theorem pcell4 {w : World} {g : Nat} {a b c d : Value} {t : TypeId} (h : w.heap[g]? = some (.cells #[a, b, c, d] t (0, 0))) : w.cell? ⟨g, 0, none⟩ = some a ∧ w.cell? ⟨g, 1, none⟩ = some b ∧ w.cell? ⟨g, 2, none⟩ = some c ∧ w.cell? ⟨g, 3, none⟩ = some d :=
  ⟨(blk_cell h 0).trans rfl, (blk_cell h 1).trans rfl, (blk_cell h 2).trans rfl, (blk_cell h 3).trans rfl⟩
set_option maxHeartbeats 16000000 in
set_option maxRecDepth 100000 in
theorem record_Put.calls (k : Nat) (a0_0 : Int) (a0_1 : Int) (a0_2 : Int) (A0_3 : Option Addr) (c0_3 : Nat) (l0_3 : List Int) (r1 : ByteArray) (r2 : Int) (w : World) (hr0_3 : Kd.C (Kd.int .i64) w A0_3 l0_3.length l0_3) (hc0_3 : l0_3.length ≤ c0_3) (h : record_Put.f k a0_0 a0_1 a0_2 l0_3 = some (r1, r2)) :
    Calls Try.prog 9 #[.agg #[.int .i64 a0_0, .int .i64 a0_1, .int .i64 a0_2, .slice A0_3 l0_3.length c0_3]] w fun e w' => e = .returned (.tuple #[.string r1, .int .i64 r2]) ∧ Below w.heap.size w w' := by
  have hu24 := Try.underlying24
  have HR0 := Aside0.mk hr0_3
  have HC0 := Aside0.mk hc0_3
  have hm0 : l0_3.length ≤ 9223372036854775807 := hr0_3.2.1
  clear hr0_3 hc0_3
  unfold record_Put.f at h
  obtain ⟨t, A1, h⟩ := Option.bind_eq_some_iff.mp h
  have HA1 := Aside0.mk A1
  have HH := Aside0.mk h
  clear A1 h
  cases t with
  | false =>
    have H := HH.out
    rw [if_neg (by decide)] at H
    simp only [Option.some.injEq, Prod.mk.injEq] at H
    obtain ⟨rfl, rfl⟩ := H
    go_enter Try.func9, Try.ntmps9
    go_wp2_with (first | ((with_reducible refine gate_dst (N := 1) rfl ?_); refine box_event ?hg (N := 1) ?hd (cs := #[.int .i64 a0_0, .int .i64 a0_1, .int .i64 a0_2, .slice A0_3 l0_3.length c0_3]) (t := 24) ?hr ?_; (case hd => rfl); (case hg => rfl); (case hr => first | (go_simp; done) | (go_simp; rfl)); intro gr hgr w1 hbox hb; clear hgr; have HB1 := Aside0.mk hb; clear hb; have BR := Aside0.mk hbox; clear hbox; obtain ⟨k0, k1, k2, k3⟩ := pcell4 BR.out) | (go_at_call 11; (with_reducible refine (record_Check.calls k a0_0 a0_1 a0_2 A0_3 c0_3 l0_3 false _ (Kd.C_below HR0.out HB1.out) HC0.out HA1.out).mono ?_); rintro e w2 ⟨rfl, hb2⟩) | fail)
    go_ret2
    exact ⟨rfl, below_step HB1.out hb2⟩
  | true =>
    have H := HH.out
    rw [if_pos rfl] at H
    have HX := Aside0.mk H
    clear H HH
    go_enter Try.func9, Try.ntmps9
    go_upto_region 3 with (first | ((with_reducible refine gate_dst (N := 1) rfl ?_); refine box_event ?hg (N := 1) ?hd (cs := #[.int .i64 a0_0, .int .i64 a0_1, .int .i64 a0_2, .slice A0_3 l0_3.length c0_3]) (t := 24) ?hr ?_; (case hd => rfl); (case hg => rfl); (case hr => first | (go_simp; done) | (go_simp; rfl)); intro gr hgr w1 hbox hb; have GR := Aside0.mk (show w.heap.size ≤ gr by omega); clear hgr; have HB1 := Aside0.mk hb; clear hb; have BR := Aside0.mk hbox; clear hbox; obtain ⟨k0, k1, k2, k3⟩ := pcell4 BR.out) | (go_at_call 11; (with_reducible refine (record_Check.calls k a0_0 a0_1 a0_2 A0_3 c0_3 l0_3 true _ (Kd.C_below HR0.out HB1.out) HC0.out HA1.out).mono ?_); rintro e w2 ⟨rfl, hb2⟩; have HB2 := Aside0.mk (below_step HB1.out hb2); have BR2 := Aside0.mk (blk_below BR.out hb2); clear hb2 k0 k1 k2 k3) | fail)
    have HR2 := Aside0.mk (Kd.C_below HR0.out HB2.out)
    clear BR HB1 HR0 HA1
    obtain ⟨k0, k1, k2, k3⟩ := pcell4 BR2.out
    go_upto_region 5 with (first | ((with_reducible refine gate_dst (N := 4) rfl ?_); refine box_event ?hg (N := 4) ?hd (cs := #[.pointer none, .slice none 0 0]) (t := 48) ?hr ?_; (case hd => rfl); (case hg => rfl); (case hr => first | (go_simp; done) | (go_simp; rfl)); intro gb hgb w3 hbox hb; have HBd := Aside0.mk (bld_fresh (e := 5) (B := w2.heap.size) (by omega) hbox); clear hgb hbox; have HW3 := Aside0.mk hb; have BR3 := Aside0.mk (blk_below BR2.out hb); clear hb k0 k1 k2 k3; obtain ⟨k0, k1, k2, k3⟩ := pcell4 BR3.out) | (go_at_call 24; (refine (Bld.write_byte w2.heap.size gb [] (a0_0 % 256) _ HBd.out (by decide) HW3.out.size).mono ?_); rintro e w4 ⟨rfl, hBd4, hb4⟩; have HBd4 := Aside0.mk (show Lib.IsBuilder 48 5 w2.heap.size gb (nums .u8 [a0_0 % 256]) w4 from Or.inr hBd4); have HW4 := Aside0.mk (HW3.out.trans hb4); have BR4 := Aside0.mk (blk_below BR2.out HW4.out); clear hBd4 hb4 k0 k1 k2 k3; obtain ⟨k0, k1, k2, k3⟩ := pcell4 BR4.out) | fail)
    clear BR3 HW3 HBd
    have HN : Aside0 (∀ x ∈ [a0_0 % 256], 0 ≤ x ∧ x ≤ 255) := ⟨by intro x hx; rw [List.mem_singleton] at hx; omega⟩
    have H := HX.out
    clear HX
    by_cases h4 : a0_0 = 4
    · rw [if_pos h4] at H
      have c0 : (a0_0 == 4) = true := beq_iff_eq.mpr h4
      have c1 : (a0_0 != 4) = false := bne_eq_false_iff_eq.mpr h4
      clear h4
      obtain ⟨p, A2, H⟩ := Option.bind_eq_some_iff.mp H
      by_cases hlim : 1 + p.size ≤ 140737488355328
      · rw [if_pos hlim] at H
        have HA2 := Aside0.mk A2
        have HLM := Aside0.mk hlim
        have HH := Aside0.mk H
        clear A2 hlim H
        go_upto_region 9 with (first | (go_at_call 28; (with_reducible refine (varint_Put.calls k (l0_3.length : Int) p _ HA2.out).mono ?_); rintro e w5 ⟨rfl, hb5⟩; have HBd5 := Aside0.mk (bld_below HBd4.out hb5); have HW5 := Aside0.mk (below_step HW4.out hb5); have BR5 := Aside0.mk (blk_below BR2.out HW5.out); clear hb5 k0 k1 k2 k3; obtain ⟨k0, k1, k2, k3⟩ := pcell4 BR5.out) | (go_at_call 25; (refine (Bld.write_string w2.heap.size gb _ p _ HBd5.out (by have := HLM.out; simpa [nums] using this) HW5.out.size).mono ?_); rintro e w6 ⟨rfl, hBd6, hb6⟩; rw [strCells_nums, ← nums_append] at hBd6; have HBd6 := Aside0.mk (Or.inr hBd6 : Lib.IsBuilder 48 5 w2.heap.size gb _ w6); have HW6 := Aside0.mk (HW5.out.trans hb6); have BR6 := Aside0.mk (blk_below BR2.out HW6.out); clear hBd6 hb6 k0 k1 k2 k3; obtain ⟨k0, k1, k2, k3⟩ := pcell4 BR6.out) | fail)
        have HN6 := Aside0.mk (isb_append HN.out (isb_bytesOf p))
        clear HBd4 HBd5 HW4 HW5 BR4 BR5 HN
        go_wp2
        go_loopw [34, 5] (fun i ah wr => ∃ (j : Nat) (x : Int) (acc : List Int), j ≤ l0_3.length ∧ i = .int .i64 (j : Int) ∧ ah = .int .i64 x ∧ Aside0 (record_Put.go k (l0_3.drop j) x acc = some (r1, r2)) ∧ Aside0 (∀ x ∈ acc, 0 ≤ x ∧ x ≤ 255) ∧ Aside0 (Lib.IsBuilder 48 5 w2.heap.size gb (nums .u8 acc) wr) ∧ Aside0 (Below w2.heap.size w2 wr)) (fun i _ _ => l0_3.length - (intOf i).toNat)
        case atStart => exact ⟨0, 0, a0_0 % 256 :: bytesOf p, Nat.zero_le _, rfl, rfl, HH, HN6, HBd6, HW6⟩
        case round =>
          obtain ⟨j, x, acc, hj, rfl, rfl, HA, HNa, HBd, HW⟩ := hrel
          clear HH HN6 HBd6 HW6 BR6 k0 k1 k2 k3
          by_cases hlt : j < l0_3.length
          · have H := HA.out
            clear HA
            obtain ⟨ad, eA, hx⟩ := Kd.at_int (Kd.C_below HR2.out HW.out) (j : Int) (by omega) (by omega)
            rw [List.drop_eq_getElem_cons hlt] at H
            have hrd : rd l0_3 (j : Int) = l0_3[j] := by simp [rd, List.getD_eq_getElem?_getD, List.getElem?_eq_getElem hlt]
            rw [hrd] at hx
            clear hrd
            generalize l0_3[j] = y at H hx
            simp only [record_Put.go] at H
            obtain ⟨q, A3, H⟩ := Option.bind_eq_some_iff.mp H
            by_cases hlim2 : acc.length + q.size ≤ 140737488355328
            · rw [if_pos hlim2] at H
              have HA3 := Aside0.mk A3
              have HL2 := Aside0.mk hlim2
              have HH := Aside0.mk H
              clear A3 hlim2 H
              subst eA
              simp only [Int.toNat_natCast] at hx
              go_wp2_with (first | (go_at_call 28; (with_reducible refine (varint_Put.calls k (wrap64 (y - x)) q _ HA3.out).mono ?_); rintro e w7 ⟨rfl, hb7⟩; have HBd7 := Aside0.mk (bld_below HBd.out hb7); have HW7 := Aside0.mk (below_step HW.out hb7); clear hb7) | (go_at_call 25; (refine (Bld.write_string w2.heap.size gb _ q _ HBd7.out (by have := HL2.out; simpa [nums] using this) HW7.out.size).mono ?_); rintro e w8 ⟨rfl, hBd8, hb8⟩; rw [strCells_nums, ← nums_append] at hBd8; have HBd8 := Aside0.mk (Or.inr hBd8 : Lib.IsBuilder 48 5 w2.heap.size gb _ w8); have HW8 := Aside0.mk (HW7.out.trans hb8); clear hBd8 hb8) | fail)
              exact ⟨⟨j + 1, y, acc ++ bytesOf q, by omega, by go_num, rfl, HH, ⟨isb_append HNa.out (isb_bytesOf q)⟩, HBd8, HW8⟩, by simp [intOf]; omega⟩
            · rw [if_neg hlim2] at H; cases H
          · have H := HA.out
            rw [List.drop_eq_nil_of_le (by omega)] at H
            simp only [record_Put.go] at H
            injection H with H
            injection H with e1 e2
            subst e1 e2
            have HB9 := Aside0.mk (show Lib.IsBuilder 48 5 w2.heap.size gb (Lib.byteCells (acc.map fun n => UInt8.ofNat n.toNat)) wr from (nums_cells acc HNa.out) ▸ HBd.out)
            clear HA HBd
            go_wp2_with (first | (go_at_call 27; (with_reducible refine (Try.Builder_String_any w2.heap.size gb _ wr HB9.out HW.out.size).mono ?_); rintro e w9 ⟨rfl, hb9⟩) | fail)
            have HW9 := Aside0.mk (HW.out.trans hb9)
            clear hb9
            go_wp2
            go_ret2
            exact ⟨rfl, below_step HB2.out HW9.out⟩
      · rw [if_neg hlim] at H; cases H
    · rw [if_neg h4] at H
      have c0 : (a0_0 == 4) = false := beq_eq_false_iff_ne.mpr h4
      have c1 : (a0_0 != 4) = true := bne_iff_ne.mpr h4
      clear h4
      obtain ⟨p, A2, H⟩ := Option.bind_eq_some_iff.mp H
      by_cases hlim : 1 + p.size ≤ 140737488355328
      · rw [if_pos hlim] at H
        have HA2 := Aside0.mk A2
        have HLM := Aside0.mk hlim
        simp only [Option.some.injEq, Prod.mk.injEq] at H
        obtain ⟨rfl, rfl⟩ := H
        clear A2 hlim
        go_upto_region 7 with (first | ((with_reducible refine gate_dst (N := 22) rfl ?_); refine Kd.R_lit (Kd.int .i64) _ 3 ?hg (N := 22) ?hd (xs := ([a0_1, a0_2] : List Int)) (inner := [.int .i64 a0_1, .int .i64 a0_2]) (ok := fun _ => True) (okp := fun _ => True) ?hr ?hp (fun _ hk => hk) trivial (Below.refl _ _) (Nat.le_refl _) (by simp) ?_; (case hd => rfl); (case hg => rfl); (case hr => first | (go_simp; done) | (go_simp; rfl)); (case hp => exact (Reps.one (show Kd.M (Kd.int .i64) _ _ _ a0_1 [.int .i64 a0_1] from rfl) (Reps.one (show Kd.M (Kd.int .i64) _ _ _ a0_2 [.int .i64 a0_2] from rfl) (Reps.none _ _)))); intro v w5 ho5 hb hg_ hnew_; clear hg_ hnew_; obtain ⟨Ao, co, eo⟩ := Kd.R_slice ho5; subst eo; have HO5 := Aside0.mk (Kd.R_reads' ho5); have HBd5 := Aside0.mk (bld_below HBd4.out hb); have HW5 := Aside0.mk (below_step HW4.out hb); have BR5 := Aside0.mk (blk_below BR2.out HW5.out); clear ho5 hb k0 k1 k2 k3; obtain ⟨k0, k1, k2, k3⟩ := pcell4 BR5.out) | (go_at_call 26; (refine (varint_All.calls k Ao co [a0_1, a0_2] p _ HO5.out.2.2 HO5.out.2.1 HA2.out).mono ?_); rintro e w6 ⟨rfl, hb6⟩; have HBd6 := Aside0.mk (bld_below HBd5.out hb6); have HW6 := Aside0.mk (below_step HW5.out hb6); have BR6 := Aside0.mk (blk_below BR2.out HW6.out); clear hb6 k0 k1 k2 k3; obtain ⟨k0, k1, k2, k3⟩ := pcell4 BR6.out) | (go_at_call 25; (refine (Bld.write_string w2.heap.size gb _ p _ HBd6.out (by have := HLM.out; simpa [nums] using this) HW6.out.size).mono ?_); rintro e w7 ⟨rfl, hBd7, hb7⟩; rw [strCells_nums, ← nums_append] at hBd7; have HBd7 := Aside0.mk (Or.inr hBd7 : Lib.IsBuilder 48 5 w2.heap.size gb _ w7); have HW7 := Aside0.mk (HW6.out.trans hb7); clear hBd7 hb7 k0 k1 k2 k3) | fail)
        have HB9 := Aside0.mk (show Lib.IsBuilder 48 5 w2.heap.size gb (Lib.byteCells (([a0_0 % 256] ++ bytesOf p).map fun n => UInt8.ofNat n.toNat)) w7 from (nums_cells _ (isb_append HN.out (isb_bytesOf p))) ▸ HBd7.out)
        go_wp2_with (first | (go_at_call 27; (with_reducible refine (Try.Builder_String_any w2.heap.size gb _ w7 HB9.out HW7.out.size).mono ?_); rintro e w9 ⟨rfl, hb9⟩) | fail)
        have HW9 := Aside0.mk (HW7.out.trans hb9)
        clear hb9
        go_wp2
        go_ret2
        exact ⟨rfl, below_step HB2.out HW9.out⟩
      · rw [if_neg hlim] at H; cases H
end Go.Proofs.Ytohaoleeaipfbaa.PF
