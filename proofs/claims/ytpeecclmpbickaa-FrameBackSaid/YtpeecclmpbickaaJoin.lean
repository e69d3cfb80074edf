/- frame.Join over this seat's program, by walking its text. -/
import Derived.Test.YtpeecclmpbickaaBuilder
import Derived.Test.YtpeecclmpbickaaPFx2
namespace Go.Proofs.Ytpeecclmpbickaa.PF
open Go.RowKit Go.Proofs.YtpeecclmpbickaaW.PrintWords Go.Proofs.YtpeecclmpbickaaW.PrintLast Go.Proofs.YtpeecclmpbickaaW.PrintMore
set_option linter.unusedVariables false
set_option linter.unusedSimpArgs false
def frame_Join.go (k : Nat) : List S34 → List Int → Option (ByteArray × Int)
  | [], acc => some (strOfNums acc, 0)
  | x :: r, acc => (frame_Put.f k x.f0 x.f1).bind fun p => if p.2 = 0 then (if acc.length + p.1.size ≤ 140737488355328 then frame_Join.go k r (acc ++ bytesOf p.1) else none) else some ((⟨#[]⟩ : ByteArray), p.2)
def frame_Join.f (k : Nat) (l0 : List S34) : Option (ByteArray × Int) := frame_Join.go k l0 []
theorem frame_Join.mono_go (k : Nat) : ∀ (l : List S34) (acc : List Int), LeO (frame_Join.go k l acc) (frame_Join.go (k + 1) l acc)
  | [], acc => LeO.refl _
  | x :: r, acc => LeO.bind (frame_Put.mono _ _ _) (fun p => LeO.ite (LeO.ite (frame_Join.mono_go k r _) (LeO.none _)) (LeO.refl _))
theorem frame_Join.mono : ∀ l k, LeO (frame_Join.f k l) (frame_Join.f (k + 1) l) := fun l k => frame_Join.mono_go k l []
theorem strCells_nums (s : ByteArray) : Lib.strCells s = nums .u8 (bytesOf s) := by
  rw [Lib.strCells_eq]
  unfold Lib.byteCells nums bytesOf
  rw [List.map_map]
  rfl
theorem nums_cells (l : List Int) : (∀ x ∈ l, 0 ≤ x ∧ x ≤ 255) → nums .u8 l = Lib.byteCells (l.map fun n => UInt8.ofNat n.toNat) := by
  intro h
  unfold Lib.byteCells nums
  rw [List.map_map]
  refine List.map_congr_left (fun x hx => ?_)
  have := h x hx
  simp only [Function.comp, UInt8.toNat_ofNat']
  congr 1; omega
theorem bld_below {T e B b : Nat} {bs : List Value} {w w1 : World} (h : Lib.IsBuilder T e B b bs w) (hb : Below w.heap.size w w1) : Lib.IsBuilder T e B b bs w1 := by
  rcases h with h | h
  · have hlt := h.lt
    obtain ⟨hB, v, hbk, hown, hne⟩ := h
    exact .inl ⟨hB, v, (hb.block b hlt).trans hbk, pw_own_below hown hb, hne⟩
  · have hlt := h.lt
    obtain ⟨hB, v, hbk, hown, hne⟩ := h
    exact .inr ⟨hB, v, (hb.block b hlt).trans hbk, pw_own_below hown hb, hne⟩
theorem isb_append {a b : List Int} (ha : ∀ x ∈ a, 0 ≤ x ∧ x ≤ 255) (hb : ∀ x ∈ b, 0 ≤ x ∧ x ≤ 255) : ∀ x ∈ a ++ b, 0 ≤ x ∧ x ≤ 255 := fun x hx => (List.mem_append.1 hx).elim (ha x) (hb x)
theorem isb_bytesOf (s : ByteArray) : ∀ x ∈ bytesOf s, 0 ≤ x ∧ x ≤ 255 := by
  intro x hx
  unfold bytesOf at hx
  obtain ⟨b, _, rfl⟩ := List.mem_map.1 hx
  have := b.toNat_lt
  omega
theorem strOfNums_bytes (l : List Int) : (⟨(l.map fun n => UInt8.ofNat n.toNat).toArray⟩ : ByteArray) = strOfNums l := rfl
set_option maxHeartbeats 8000000 in
set_option maxRecDepth 100000 in
theorem frame_Join.calls (k : Nat) (A0 : Option Addr) (c0 : Nat) (l0 : List S34) (r1 : ByteArray) (r2 : Int) (w : World) (hr0 : Kd.C k34 w A0 l0.length l0) (hc0 : l0.length ≤ c0) (h : frame_Join.f k l0 = some (r1, r2)) :
    Calls Try.prog 40 #[.slice A0 l0.length c0] w fun e w' => e = .returned (.tuple #[.string r1, .int .i64 r2]) ∧ Below w.heap.size w w' := by
  have HR0 := Aside0.mk hr0
  have H' := Aside0.mk (show frame_Join.go k (l0.drop 0) [] = some (r1, r2) from h)
  have hm0 : l0.length ≤ 9223372036854775807 := hr0.2.1
  clear hr0 h
  go_enter Try.func40, Try.ntmps40
  go_wp2
  go_loopw [11] (fun i wr => ∃ (j : Nat) (acc : List Int), j ≤ l0.length ∧ i = .int .i64 (j : Int) ∧ Aside0 (frame_Join.go k (l0.drop j) acc = some (r1, r2)) ∧ Aside0 (∀ x ∈ acc, 0 ≤ x ∧ x ≤ 255) ∧ Aside0 (Lib.IsBuilder 70 5 w.heap.size w.heap.size (nums .u8 acc) wr) ∧ Aside0 (Below w.heap.size w wr)) (fun i _ => l0.length - (intOf i).toNat)
  case atStart => exact ⟨0, [], Nat.zero_le _, rfl, H', ⟨fun x hx => by cases hx⟩, ⟨Lib.fresh_isBuilder _ _ w⟩, ⟨below_alloc (Below.refl _ _) _⟩⟩
  case round =>
    obtain ⟨j, acc, hj, rfl, HA, HN, HBd, HW⟩ := hrel
    by_cases hlt : j < l0.length
    · have hC := Kd.C_below HR0.out HW.out
      obtain ⟨ad, eA, hx0, hx1⟩ := at_T34 hC (j : Int) (by omega) (by omega)
      subst eA
      simp only [Int.toNat_natCast] at hx0 hx1
      clear hC
      have H := HA.out
      clear HA
      rw [List.drop_eq_getElem_cons hlt] at H
      have hrd : rd_T34 l0 (j : Int) = l0[j] := by simp [rd_T34, List.getD_eq_getElem?_getD, List.getElem?_eq_getElem hlt]
      rw [hrd] at hx0 hx1
      clear hrd
      generalize l0[j] = y at H hx0 hx1
      obtain ⟨f0, f1⟩ := y
      simp only [frame_Join.go] at H
      obtain ⟨⟨p1, p2⟩, A1, H⟩ := Option.bind_eq_some_iff.mp H
      have HA1 := Aside0.mk A1
      clear A1
      simp only at H hx0 hx1
      by_cases h0 : p2 = 0
      · rw [if_pos h0] at H
        by_cases hlim : acc.length + p1.size ≤ 140737488355328
        · rw [if_pos hlim] at H
          have HH := Aside0.mk H
          have HLM := Aside0.mk hlim
          clear H hlim
          subst h0
          go_wp2_with (first | (go_at_call 42; (with_reducible refine (frame_Put.calls k f0 f1 p1 0 _ HA1.out).mono ?_); rintro e w2 ⟨rfl, hb⟩) | fail)
          have hb' : Below wr.heap.size wr w2 := below_then (below_alloc (Below.refl _ _) _) (by simp) hb
          have HB2 := Aside0.mk (bld_below HBd.out hb')
          have HW2 := Aside0.mk (HW.out.trans (hb'.mono HW.out.size))
          clear hb hb' HBd
          refine (Bld.write_string w.heap.size w.heap.size _ p1 w2 HB2.out (by have := HLM.out; simpa [nums] using this) HW2.out.size).mono ?_
          rintro e w3 ⟨rfl, hB3, hb3⟩
          rw [strCells_nums, ← nums_append] at hB3
          have HB3 := Aside0.mk (Or.inr hB3 : Lib.IsBuilder 70 5 w.heap.size w.heap.size _ w3)
          have HW3 := Aside0.mk (HW2.out.trans hb3)
          have HN3 := Aside0.mk (isb_append HN.out (isb_bytesOf p1))
          clear hB3 hb3 HB2
          go_wp2
          exact ⟨⟨j + 1, acc ++ bytesOf p1, by omega, by go_num, HH, HN3, HB3, HW3⟩, by simp [intOf]; omega⟩
        · rw [if_neg hlim] at H; cases H
      · rw [if_neg h0] at H
        injection H with H
        injection H with e1 e2
        subst e1 e2
        have c0b0 : (p2 == 0) = false := beq_eq_false_iff_ne.mpr h0
        have c0b1 : (p2 != 0) = true := bne_iff_ne.mpr h0
        clear h0
        go_wp2_with (first | (go_at_call 42; (with_reducible refine (frame_Put.calls k f0 f1 p1 p2 _ HA1.out).mono ?_); rintro e w2 ⟨rfl, hb⟩) | fail)
        have hb' : Below wr.heap.size wr w2 := below_then (below_alloc (Below.refl _ _) _) (by simp) hb
        have HW2 := Aside0.mk (HW.out.trans (hb'.mono HW.out.size))
        clear hb hb' HBd
        go_wp2
        go_ret2
        exact ⟨rfl, HW2.out⟩
    · have H := HA.out
      rw [List.drop_eq_nil_of_le (by omega)] at H
      simp only [frame_Join.go] at H
      injection H with H
      injection H with e1 e2
      subst e1 e2
      have HB4 := Aside0.mk (show Lib.IsBuilder 70 5 w.heap.size w.heap.size (Lib.byteCells (acc.map fun n => UInt8.ofNat n.toNat)) wr from (nums_cells acc HN.out) ▸ HBd.out)
      clear HA HBd
      go_wp2_with (first | (go_at_call 48; (with_reducible refine (Try.Builder_String_any w.heap.size w.heap.size _ wr HB4.out HW.out.size).mono ?_); rintro e w5 ⟨rfl, hb5⟩) | fail)
      have HW5 := Aside0.mk (HW.out.trans hb5)
      clear hb5
      go_wp2
      go_ret2
      exact ⟨rfl, HW5.out⟩
end Go.Proofs.Ytpeecclmpbickaa.PF
