/- head.New over this seat's program, by walking its text: the head's Put succeeds, and a fresh Match holds it. -/
import Derived.Test.YtohaoleeaipfbaaPFx9
namespace Go.Proofs.Ytohaoleeaipfbaa.PF
open Go.RowKit Go.Proofs.YtohaoleeaipfbaaW.PrintWords Go.Proofs.YtohaoleeaipfbaaW.PrintLast Go.Proofs.YtohaoleeaipfbaaW.PrintMore
set_option linter.unusedVariables false
set_option linter.unusedSimpArgs false
def head_New.f (k : Nat) (a0 : ByteArray) : Option (ByteArray × Int × Bool × Int) := (head_Put.f k a0).bind fun p => if p.2 = 0 then some (p.1, 0, false, 0) else none
theorem head_New.mono : ∀ a0 k, LeO (head_New.f k a0) (head_New.f (k + 1) a0) := fun a0 k => LeO.bind (head_Put.mono _ _) (fun p => LeO.ite (LeO.refl _) (LeO.none _))
set_option maxHeartbeats 8000000 in
set_option maxRecDepth 100000 in
theorem head_New.calls (k : Nat) (a0 : ByteArray) (r1 : ByteArray) (r2 : Int) (r3 : Bool) (r4 : Int) (w0 w : World) (hB : Below w0.heap.size w0 w) (h : head_New.f k a0 = some (r1, r2, r3, r4)) :
    Calls Try.prog 18 #[.string a0] w fun e w' => ∃ g_ : Nat, e = .returned (.tuple #[.pointer (some ⟨g_, 0, none⟩), .int .i64 r4]) ∧ IsS70 w0 w' g_ r1 r2 r3 ∧ Below w0.heap.size w0 w' ∧ Below w.heap.size w w' := by
  unfold head_New.f at h
  obtain ⟨⟨p1, p2⟩, A1, h⟩ := Option.bind_eq_some_iff.mp h
  simp only at h
  by_cases h0 : p2 = 0
  · rw [if_pos h0] at h
    injection h with h
    injection h with e1 h
    injection h with e2 h
    injection h with e3 e4
    subst h0 e1 e2 e3 e4
    have HA1 := Aside0.mk A1
    have HB := Aside0.mk hB
    clear A1 hB
    go_enter Try.func18, Try.ntmps18
    go_wp2_with (first | (go_at_call 14; (with_reducible refine (head_Put.calls k a0 p1 0 _ HA1.out).mono ?_); rintro e w2 ⟨rfl, hb⟩) | fail)
    have HW := Aside0.mk hb
    have HB2 := Aside0.mk (below_step HB.out hb)
    clear hb
    go_wp2
    go_ret2
    exact ⟨_, rfl, IsS70.new w0 w2 p1 0 false HB2.out, below_alloc HB2.out _, below_alloc HW.out _⟩
  · rw [if_neg h0] at h; cases h
end Go.Proofs.Ytohaoleeaipfbaa.PF
