/- strings.Builder's WriteByte over this seat's program, by walking its text. -/
import Derived.Test.YtohaoleeaipfbaaBuilder
import Derived.Laws.AppendOwn
namespace Go.Proofs.Ytohaoleeaipfbaa.Bld
open Go.RowKit Go.Proofs.YtohaoleeaipfbaaW.PrintWords
set_option maxHeartbeats 2000000 in
set_option maxRecDepth 100000 in
theorem write_byte (B b : Nat) (bs : List Value) (c : Int) (w : World) (h : Lib.IsBuilder 48 5 B b bs w) (hlen : bs.length + 1 ≤ 140737488355328) (hBw : B ≤ w.heap.size) :
    Calls Try.prog 24 #[.pointer (some ⟨b, 0, none⟩), .int .u8 c] w fun e w' => e = .returned .nilIface ∧ (Lib.BuilderAt 48 5 B b (.pointer (some ⟨b, 0, none⟩)) (bs ++ [.int .u8 c]) w' ∧ Below B w w') := by
  obtain ⟨i0, hi, hz0, hz1, hz2⟩ := info_parts (show (Try.prog.info? 5).map (fun i => (i.zero, i.size, i.bytes)) = some (some (.int .u8 0), 1, 1) from by kernel_rfl)
  have ne : (48 : TypeId) ≠ 5 := by decide
  go_enter Try.func24, Try.ntmps24
  go_wp2_with (go_at_call 46; refine (copy_check B b bs _ h).mono ?_)
  rintro e w1 ⟨rfl, h1, hb1⟩
  obtain ⟨hB, v, hbk, hown, hne⟩ := h1
  have c0 : w1.cell? ⟨b, 0, none⟩ = some (.pointer (some ⟨b, 0, none⟩)) := by rw [Lib.cell_of_heap hbk]; rfl
  have c1 : w1.cell? ⟨b, 1, none⟩ = some v := by rw [Lib.cell_of_heap hbk]; rfl
  go_wp2_with (at_builtin; refine wpList_append_own _ rfl _ _ 46 rfl B 5 i0 _ 1 1 Try.underlying46 hi hz0 hz1 hz2 rfl (by decide) v bs.length bs rfl (pw_own_below hown (below_alloc (Below.refl _ _) _)) ⟨w1.heap.size, 0, none⟩ 1 1 [.int .u8 c] rfl rfl ?c1 ?c2 ?c3 ?c4 ?c5 ?_)
  case c1 =>
    intro j u hj
    match j with
    | 0 =>
      simp at hj
      subst hj
      exact (Lib.cell_of_heap (heap_alloc_new w1 _) 0).trans rfl
    | j + 1 => simp at hj
  case c2 => intro u hu; rw [List.mem_singleton.1 hu]; rfl
  case c3 => unfold maxLen; omega
  case c4 => omega
  case c5 => have := hb1.size; have h2 : w1.heap.size ≤ (w1.alloc (Obj.cells #[Value.int IntKind.u8 c] 5)).heap.size := (below_alloc (Below.refl w1.heap.size w1) _).size; omega
  intro v' w2 hown' hgrow _
  have hba : Below B w (w1.alloc (Obj.cells #[Value.int IntKind.u8 c] 5)) := hb1.trans ((below_alloc (Below.refl w1.heap.size w1) _).mono (by have := hb1.size; omega))
  have hlt1 : b < w1.heap.size := by
    rcases Nat.lt_or_ge b w1.heap.size with h' | h'
    · exact h'
    · simp [Array.getElem?_eq_none h'] at hbk
  have hbk' : (w1.alloc (Obj.cells #[Value.int IntKind.u8 c] 5)).heap[b]? = some (.cells #[.pointer (some ⟨b, 0, none⟩), v] 48 (0, 0)) := ((below_alloc (Below.refl w1.heap.size w1) _).block b hlt1).trans hbk
  generalize w1.alloc (Obj.cells #[Value.int IntKind.u8 c] 5) = wa at *
  have hlt : b < wa.heap.size := by
    rcases Nat.lt_or_ge b wa.heap.size with h' | h'
    · exact h'
    · simp [Array.getElem?_eq_none h'] at hbk'
  have hb2 : w2.heap[b]? = some (.cells #[.pointer (some ⟨b, 0, none⟩), v] 48 (0, 0)) := by
    rw [hgrow.block b hlt (fun e => hne e.symm)]
    exact hbk'
  have d0 : w2.cell? ⟨b, 0, none⟩ = some (.pointer (some ⟨b, 0, none⟩)) := by rw [Lib.cell_of_heap hb2]; rfl
  have d1 : w2.cell? ⟨b, 1, none⟩ = some v := by rw [Lib.cell_of_heap hb2]; rfl
  have f1 : w2.frozen? ⟨b, 1, none⟩ = false := Lib.frozen_of_heap hb2 1
  have hB2 : Below B w w2 := hba.grown hgrow (by have := hba.size; omega) (fun k hk => (hown.lt k hk).1)
  obtain ⟨ao, n', cap, rfl⟩ : ∃ ao n' cap, v' = .slice ao n' cap := by
    rcases hown'.2 with ⟨hv, _⟩ | ⟨g, cap, cur, hv, _⟩
    · exact ⟨_, _, _, hv⟩
    · exact ⟨_, _, _, hv⟩
  clear hown hgrow
  go_wp2
  go_ret
  refine ⟨rfl, ?_, ?_⟩
  · exact Lib.BuilderAt.put (T := 48) (e := 5) hB hb2 (bs' := bs ++ [.int .u8 c]) (by simpa using hown') ne
  · exact hB2.setCell (p := ⟨b, 1, none⟩) hB _
end Go.Proofs.Ytohaoleeaipfbaa.Bld
