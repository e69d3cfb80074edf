/- LensReads: what its walk leans on. -/
import Derived.Test.YtejcopppchaneaaLRel
import Derived.Test.YtejcopppchaneaaLAwake
import Derived.Test.YtejcopppchaneaaPFx3
set_option linter.unusedVariables false
set_option linter.unusedSimpArgs false
namespace Go.Proofs.Ytejcopppchaneaa.PF
open Go.RowKit Go.Proofs.YtejcopppchaneaaW.PrintWords Go.Proofs.YtejcopppchaneaaW.PrintLast Go.Proofs.YtejcopppchaneaaW.PrintMore Go.Proofs.Ytejcopppchaneaa.Pure
def fewP (l : List ByteArray) : Bool := l.all fun x => decide (x.size ≤ 60)
theorem few09_go (l : List ByteArray) (hl : l.length ≤ 10) : ∀ (d i : Nat), i + d = l.length → Ev (fun k => juratref09_Few.l0 k l 60 (i : Int)) (fewP (l.drop i)) := by
  intro d
  induction d with
  | zero =>
    intro i h
    rw [List.drop_eq_nil_of_le (by omega)]
    exact ev_add 1 (fun k => by rw [juratref09_Few.l0, if_neg (by omega)]; rfl)
  | succ d ih =>
    intro i h
    have h1 : i < l.length := by omega
    rw [List.drop_eq_getElem_cons h1]
    refine Ev.step (fun k => by rw [juratref09_Few.l0, if_pos (by omega), if_pos (by omega), show rdOf ByteArray.empty l (i : Int) = l[i] from by simp [rdOf, List.getD_eq_getElem?_getD, List.getElem?_eq_getElem h1]]) ?_
    rw [show fewP (l[i] :: l.drop (i + 1)) = (decide (l[i].size ≤ 60) && fewP (l.drop (i + 1))) from rfl]
    by_cases h2 : (l[i].size : Int) > 60
    · rw [decide_eq_false (by omega), Bool.false_and]
      exact Ev.congr (fun k => by rw [if_pos h2]) (Ev.now _)
    · rw [decide_eq_true (by omega), Bool.true_and]
      refine Ev.congr (fun k => by rw [if_neg h2, jw64 (by omega) (by omega)]) ?_
      exact_mod_cast ih (i + 1) (by omega)
theorem few09_ev (l : List ByteArray) : ∃ b : Bool, Ev (fun k => juratref09_Few.f k l 10 60) b ∧ (b = true → l.length ≤ 10 ∧ ∀ x ∈ l, x.size ≤ 60) := by
  unfold juratref09_Few.f
  by_cases h : (l.length : Int) > 10
  · exact ⟨false, Ev.congr (fun k => by rw [if_pos h]) (Ev.now _), fun h => by cases h⟩
  · refine ⟨fewP l, Ev.congr (fun k => by rw [if_neg h]) ?_, fun hb => ⟨by omega, fun x hx => of_decide_eq_true (List.all_eq_true.1 hb x hx)⟩⟩
    have := few09_go l (by omega) l.length 0 (by omega)
    rwa [List.drop_zero] at this
def RInv (w wr : World) (g b8 : Nat) (s : LS) (q : RS) (m : Nat) (A : Option Addr) (c : Nat) : Prop :=
  LAt wr g s ∧ wr.heap[b8]? = some (.cells #[.slice A q.R.length c, .string q.rest, .bool q.closed, .int .i64 q.e] 45 (0, 0)) ∧ Kd.F k30 wr (fun k => k ≠ g ∧ k ≠ b8) A q.R.length q.R ∧ q.R.length ≤ c ∧ Rel s q ∧ q.R.length + q.rest.size ≤ m ∧ Below w.heap.size w wr
theorem and7_le (x : Int) : Go.bits .and .i64 x 7 ≤ 9223372036854775807 := by
  unfold Go.bits
  simp only []
  rw [i64_w]
  unfold wrap64
  omega
theorem rel0 : Rel ⟨ByteArray.empty, 0, 0, 0, false, false, 0⟩ ⟨[], ByteArray.empty, false, 0⟩ := ⟨rfl, rfl, rfl, rfl, rfl, rfl, rfl, .inl rfl, ⟨fun _ => rfl, fun _ => rfl⟩, okR_small (by decide) (by decide) (by decide) (by decide)⟩

set_option maxHeartbeats 32000000 in
set_option maxRecDepth 100000 in
theorem lens_New.calls_ (w : World) : Calls Try.prog 20 #[] w fun e w' => ∃ g, e = .returned (.pointer (some ⟨g, 0, none⟩)) ∧ w.heap.size ≤ g ∧ LAt w' g ⟨ByteArray.empty, 0, 0, 0, false, false, 0⟩ ∧ Below w.heap.size w w' := by
  have hu61 := Try.underlying61
  go_enter Try.func20, Try.ntmps20
  go_wp2
  go_ret
  exact ⟨_, rfl, Nat.le_refl _, blk_new _ _, below_alloc (Below.refl _ _) _⟩
end Go.Proofs.Ytejcopppchaneaa.PF
