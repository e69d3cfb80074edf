/- The readings of this seat's types. -/
import Derived.Test.YtpeecclmpbickaaOpen
import Derived.Test.YtpeecclmpbickaaPFx0
namespace Go.Proofs.Ytpeecclmpbickaa.PF
open Go.RowKit Go.Proofs.YtpeecclmpbickaaW.PrintWords Go.Proofs.YtpeecclmpbickaaW.PrintLast Go.Proofs.YtpeecclmpbickaaW.PrintMore
def good37 (x : S37) : Prop := (fun n : Int => (Lit.int .i64 n).wf = true) x.f0 ∧ (fun s : ByteArray => s.size ≤ maxLen) x.f1
theorem opens_37 : Opens Try.prog 37 k37 good37 := by
  intro H enc w fuel cs x h
  obtain ⟨xs, n, _, _, hlen, hxl, hf⟩ := DataW.trod_struct Try.underlying37 h
  have hN : Try.prog.cellsOf 37 = 2 := by kernel_rfl
  rw [hN] at hlen
  have c0 : Try.prog.cellsOf 3 = 1 := by kernel_rfl
  have h0 : DataW.trod enc Try.prog w 0 (fun _ => true) true n 3 ((cs.drop 0).take (Try.prog.cellsOf 3)) = xs[0]? := hf 0 _ rfl
  rw [c0] at h0
  obtain ⟨a0, K0, G0⟩ := (opens_int (P := Try.prog) Try.underlying3) enc w n _ _ (h0.trans (List.getElem?_eq_getElem (by rw [hxl]; decide)))
  have c1 : Try.prog.cellsOf 9 = 1 := by kernel_rfl
  have h1 : DataW.trod enc Try.prog w 0 (fun _ => true) true n 9 ((cs.drop 1).take (Try.prog.cellsOf 9)) = xs[1]? := hf 1 _ rfl
  rw [c1] at h1
  obtain ⟨a1, K1, G1⟩ := (opens_string (P := Try.prog) Try.underlying9) enc w n _ _ (h1.trans (List.getElem?_eq_getElem (by rw [hxl]; decide)))
  have e1 : cs.drop 1 = (cs.drop 1).take 1 := drop_last (by rw [hlen])
  rw [← e1] at K1
  exact ⟨⟨a0, a1⟩, (show (k37).K w _ (cs.drop 0) from ⟨_, _, drop_split cs 0 1, K0, K1⟩), ⟨G0, G1⟩⟩
theorem opens_43 : Opens Try.prog 43 (Kd.slice 37 k37) (fun xs : List S37 => xs.length ≤ maxLen ∧ ∀ x ∈ xs, good37 x) := opens_slice Try.underlying43 (by kernel_rfl) opens_37
end Go.Proofs.Ytpeecclmpbickaa.PF
