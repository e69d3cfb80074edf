/- The readings of this seat's types. -/
import Derived.Test.YtphmeljhfbahoaaOpen
import Derived.Test.YtphmeljhfbahoaaPQx0
namespace Go.Proofs.Ytphmeljhfbahoaa.PQ
open Go.RowKit Go.Proofs.YtphmeljhfbahoaaW.PrintWords Go.Proofs.YtphmeljhfbahoaaW.PrintLast Go.Proofs.YtphmeljhfbahoaaW.PrintMore
/-! #### struct type 36 -/
structure S36 where
  f0 : Int
  f1 : Int
  f2 : S34
def z36 : S36 := ⟨(0 : Int), (0 : Int), z34⟩
def k36 : Kd S36 := Kd.iso (Kd.pair (Kd.int .i64) (Kd.pair (Kd.int .i64) k34)) (fun x : S36 => (x.f0, x.f1, x.f2))
theorem k36_open {w : World} {x : S36} {cs : List Value} (h : k36.K w x cs) : cs = [.int .i64 x.f0, .int .i64 x.f1, .int .i64 x.f2.f0, .int .i64 x.f2.f1] := by
  obtain ⟨_, _, rfl, rfl, ⟨_, _, rfl, rfl, s2⟩⟩ := h
  obtain rfl := k34_open s2
  exact rfl
theorem k36_openM {w : World} {base : Nat} {ok : Nat → Prop} {x : S36} {cs : List Value} (h : k36.M w base ok x cs) : cs = [.int .i64 x.f0, .int .i64 x.f1, .int .i64 x.f2.f0, .int .i64 x.f2.f1] := by
  obtain ⟨_, _, rfl, rfl, ⟨_, _, rfl, rfl, s2⟩⟩ := h
  obtain rfl := k34_openM s2
  exact rfl
theorem k36_mk (w : World) (x : S36)  : k36.K w x [.int .i64 x.f0, .int .i64 x.f1, .int .i64 x.f2.f0, .int .i64 x.f2.f1] := ⟨[.int .i64 x.f0], [.int .i64 x.f1, .int .i64 x.f2.f0, .int .i64 x.f2.f1], rfl, rfl, ⟨[.int .i64 x.f1], [.int .i64 x.f2.f0, .int .i64 x.f2.f1], rfl, rfl, (k34_mk w x.f2 )⟩⟩
theorem k36_mkM (w : World) (base : Nat) (ok : Nat → Prop) (x : S36)  : k36.M w base ok x [.int .i64 x.f0, .int .i64 x.f1, .int .i64 x.f2.f0, .int .i64 x.f2.f1] := ⟨[.int .i64 x.f0], [.int .i64 x.f1, .int .i64 x.f2.f0, .int .i64 x.f2.f1], rfl, rfl, ⟨[.int .i64 x.f1], [.int .i64 x.f2.f0, .int .i64 x.f2.f1], rfl, rfl, (k34_mkM w base ok x.f2 )⟩⟩
def rd_T36 (xs : List S36) (i : Int) : S36 := xs.getD i.toNat z36
theorem at_T36 {w : World} {A : Option Addr} {n : Nat} {xs : List S36} (h : Kd.C k36 w A n xs) (i : Int) (h0 : 0 ≤ i) (h1 : i < n) : ∃ ad , A = some ad ∧ w.cell? (ad.add (i.toNat * 4)) = some (.int .i64 (rd_T36 xs i).f0) ∧ w.cell? ⟨(ad.add (i.toNat * 4)).block, (ad.add (i.toNat * 4)).off + 1, none⟩ = some (.int .i64 (rd_T36 xs i).f1) ∧ w.cell? ⟨(ad.add (i.toNat * 4)).block, (ad.add (i.toNat * 4)).off + 2, none⟩ = some (.int .i64 (rd_T36 xs i).f2.f0) ∧ w.cell? ⟨(ad.add (i.toNat * 4)).block, (ad.add (i.toNat * 4)).off + 3, none⟩ = some (.int .i64 (rd_T36 xs i).f2.f1) := by
  obtain ⟨ad, c, e, _, hK, hc0⟩ := Kd.C_get h z36 i h0 h1
  have hc : ∀ j u, c[j]? = some u → w.cell? (ad.add (i.toNat * 4 + j)) = some u := hc0
  obtain rfl := k36_open hK
  exact ⟨ad, e, hc 0 _ rfl, by rw [← add_field _ _ 1 (by omega)]; exact hc 1 _ rfl, by rw [← add_field _ _ 2 (by omega)]; exact hc 2 _ rfl, by rw [← add_field _ _ 3 (by omega)]; exact hc 3 _ rfl⟩
def good34 (x : S34) : Prop := (fun n : Int => (Lit.int .i64 n).wf = true) x.f0 ∧ (fun n : Int => (Lit.int .i64 n).wf = true) x.f1
theorem opens_34 : Opens Try.prog 34 k34 good34 := by
  intro H enc w fuel cs x h
  obtain ⟨xs, n, _, _, hlen, hxl, hf⟩ := DataW.trod_struct Try.underlying34 h
  have hN : Try.prog.cellsOf 34 = 2 := by kernel_rfl
  rw [hN] at hlen
  have c0 : Try.prog.cellsOf 3 = 1 := by kernel_rfl
  have h0 : DataW.trod enc Try.prog w 0 (fun _ => true) true n 3 ((cs.drop 0).take (Try.prog.cellsOf 3)) = xs[0]? := hf 0 _ rfl
  rw [c0] at h0
  obtain ⟨a0, K0, G0⟩ := (opens_int (P := Try.prog) Try.underlying3) enc w n _ _ (h0.trans (List.getElem?_eq_getElem (by rw [hxl]; decide)))
  have c1 : Try.prog.cellsOf 3 = 1 := by kernel_rfl
  have h1 : DataW.trod enc Try.prog w 0 (fun _ => true) true n 3 ((cs.drop 1).take (Try.prog.cellsOf 3)) = xs[1]? := hf 1 _ rfl
  rw [c1] at h1
  obtain ⟨a1, K1, G1⟩ := (opens_int (P := Try.prog) Try.underlying3) enc w n _ _ (h1.trans (List.getElem?_eq_getElem (by rw [hxl]; decide)))
  have e1 : cs.drop 1 = (cs.drop 1).take 1 := drop_last (by rw [hlen])
  rw [← e1] at K1
  exact ⟨⟨a0, a1⟩, (show (k34).K w _ (cs.drop 0) from ⟨_, _, drop_split cs 0 1, K0, K1⟩), ⟨G0, G1⟩⟩
theorem opens_28 : Opens Try.prog 28 (Kd.slice 34 k34) (fun xs : List S34 => xs.length ≤ maxLen ∧ ∀ x ∈ xs, good34 x) := opens_slice Try.underlying28 (by kernel_rfl) opens_34
def good36 (x : S36) : Prop := (fun n : Int => (Lit.int .i64 n).wf = true) x.f0 ∧ (fun n : Int => (Lit.int .i64 n).wf = true) x.f1 ∧ good34 x.f2
theorem opens_36 : Opens Try.prog 36 k36 good36 := by
  intro H enc w fuel cs x h
  obtain ⟨xs, n, _, _, hlen, hxl, hf⟩ := DataW.trod_struct Try.underlying36 h
  have hN : Try.prog.cellsOf 36 = 4 := by kernel_rfl
  rw [hN] at hlen
  have c0 : Try.prog.cellsOf 3 = 1 := by kernel_rfl
  have h0 : DataW.trod enc Try.prog w 0 (fun _ => true) true n 3 ((cs.drop 0).take (Try.prog.cellsOf 3)) = xs[0]? := hf 0 _ rfl
  rw [c0] at h0
  obtain ⟨a0, K0, G0⟩ := (opens_int (P := Try.prog) Try.underlying3) enc w n _ _ (h0.trans (List.getElem?_eq_getElem (by rw [hxl]; decide)))
  have c1 : Try.prog.cellsOf 3 = 1 := by kernel_rfl
  have h1 : DataW.trod enc Try.prog w 0 (fun _ => true) true n 3 ((cs.drop 1).take (Try.prog.cellsOf 3)) = xs[1]? := hf 1 _ rfl
  rw [c1] at h1
  obtain ⟨a1, K1, G1⟩ := (opens_int (P := Try.prog) Try.underlying3) enc w n _ _ (h1.trans (List.getElem?_eq_getElem (by rw [hxl]; decide)))
  have c2 : Try.prog.cellsOf 34 = 2 := by kernel_rfl
  have h2 : DataW.trod enc Try.prog w 0 (fun _ => true) true n 34 ((cs.drop 2).take (Try.prog.cellsOf 34)) = xs[2]? := hf 2 _ rfl
  rw [c2] at h2
  obtain ⟨a2, K2, G2⟩ := opens_34 enc w n _ _ (h2.trans (List.getElem?_eq_getElem (by rw [hxl]; decide)))
  have e2 : cs.drop 2 = (cs.drop 2).take 2 := drop_last (by rw [hlen])
  rw [← e2] at K2
  exact ⟨⟨a0, a1, a2⟩, (show (k36).K w _ (cs.drop 0) from ⟨_, _, drop_split cs 0 1, K0, ⟨_, _, drop_split cs 1 1, K1, K2⟩⟩), ⟨G0, G1, G2⟩⟩
theorem opens_22 : Opens Try.prog 22 (Kd.slice 36 k36) (fun xs : List S36 => xs.length ≤ maxLen ∧ ∀ x ∈ xs, good36 x) := opens_slice Try.underlying22 (by kernel_rfl) opens_36
end Go.Proofs.Ytphmeljhfbahoaa.PQ
