/- The readings of this seat's types. -/
import Derived.Test.YtejcopppchaneaaOpen
import Derived.Test.YtejcopppchaneaaPFx0
namespace Go.Proofs.Ytejcopppchaneaa.PF
open Go.RowKit Go.Proofs.YtejcopppchaneaaW.PrintWords Go.Proofs.YtejcopppchaneaaW.PrintLast Go.Proofs.YtejcopppchaneaaW.PrintMore
theorem opens_41 : Opens Try.prog 41 (Kd.slice 9 Kd.string) (fun xs : List ByteArray => xs.length ≤ maxLen ∧ ∀ x ∈ xs, (fun s : ByteArray => s.size ≤ maxLen) x) := opens_slice Try.underlying41 (by kernel_rfl) (opens_string (P := Try.prog) Try.underlying9)
theorem opens_28 : Opens Try.prog 28 (Kd.slice 3 (Kd.int .i64)) (fun xs : List Int => xs.length ≤ maxLen ∧ ∀ x ∈ xs, (fun n : Int => (Lit.int .i64 n).wf = true) x) := opens_slice Try.underlying28 (by kernel_rfl) (opens_int (P := Try.prog) Try.underlying3)
def good30 (x : S30) : Prop := (fun n : Int => (Lit.int .i64 n).wf = true) x.f0 ∧ (fun n : Int => (Lit.int .i64 n).wf = true) x.f1 ∧ (fun n : Int => (Lit.int .i64 n).wf = true) x.f2 ∧ (fun xs : List Int => xs.length ≤ maxLen ∧ ∀ x ∈ xs, (fun n : Int => (Lit.int .i64 n).wf = true) x) x.f3
theorem opens_30 : Opens Try.prog 30 k30 good30 := by
  intro H enc w fuel cs x h
  obtain ⟨xs, n, _, _, hlen, hxl, hf⟩ := DataW.trod_struct Try.underlying30 h
  have hN : Try.prog.cellsOf 30 = 4 := by kernel_rfl
  rw [hN] at hlen
  have c0 : Try.prog.cellsOf 3 = 1 := by kernel_rfl
  have h0 : DataW.trod enc Try.prog w 0 (fun _ => true) true n 3 ((cs.drop 0).take (Try.prog.cellsOf 3)) = xs[0]? := hf 0 _ rfl
  rw [c0] at h0
  obtain ⟨a0, K0, G0⟩ := (opens_int (P := Try.prog) Try.underlying3) enc w n _ _ (h0.trans (List.getElem?_eq_getElem (by rw [hxl]; decide)))
  have c1 : Try.prog.cellsOf 3 = 1 := by kernel_rfl
  have h1 : DataW.trod enc Try.prog w 0 (fun _ => true) true n 3 ((cs.drop 1).take (Try.prog.cellsOf 3)) = xs[1]? := hf 1 _ rfl
  rw [c1] at h1
  obtain ⟨a1, K1, G1⟩ := (opens_int (P := Try.prog) Try.underlying3) enc w n _ _ (h1.trans (List.getElem?_eq_getElem (by rw [hxl]; decide)))
  have c2 : Try.prog.cellsOf 3 = 1 := by kernel_rfl
  have h2 : DataW.trod enc Try.prog w 0 (fun _ => true) true n 3 ((cs.drop 2).take (Try.prog.cellsOf 3)) = xs[2]? := hf 2 _ rfl
  rw [c2] at h2
  obtain ⟨a2, K2, G2⟩ := (opens_int (P := Try.prog) Try.underlying3) enc w n _ _ (h2.trans (List.getElem?_eq_getElem (by rw [hxl]; decide)))
  have c3 : Try.prog.cellsOf 28 = 1 := by kernel_rfl
  have h3 : DataW.trod enc Try.prog w 0 (fun _ => true) true n 28 ((cs.drop 3).take (Try.prog.cellsOf 28)) = xs[3]? := hf 3 _ rfl
  rw [c3] at h3
  obtain ⟨a3, K3, G3⟩ := opens_28 enc w n _ _ (h3.trans (List.getElem?_eq_getElem (by rw [hxl]; decide)))
  have e3 : cs.drop 3 = (cs.drop 3).take 1 := drop_last (by rw [hlen])
  rw [← e3] at K3
  exact ⟨⟨a0, a1, a2, a3⟩, (show (k30).K w _ (cs.drop 0) from ⟨_, _, drop_split cs 0 1, K0, ⟨_, _, drop_split cs 1 1, K1, ⟨_, _, drop_split cs 2 1, K2, K3⟩⟩⟩), ⟨G0, G1, G2, G3⟩⟩
theorem opens_22 : Opens Try.prog 22 (Kd.slice 30 k30) (fun xs : List S30 => xs.length ≤ maxLen ∧ ∀ x ∈ xs, good30 x) := opens_slice Try.underlying22 (by kernel_rfl) opens_30
end Go.Proofs.Ytejcopppchaneaa.PF
