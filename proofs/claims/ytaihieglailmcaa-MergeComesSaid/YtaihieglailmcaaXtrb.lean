/- Words of this session beside the print's own: a row that came in or is shared lies in none but its own blocks. -/
import Derived.Test.YtaihieglailmcaaWMore
namespace Go.Proofs.YtaihieglailmcaaW.PrintWords.Kd
open Go.RowKit
theorem F_blk {α : Type} {d : Kd α} {W : World} {ok : Nat → Prop} {ad : Addr} {n g : Nat} {xs : List α} (h : F d W ok (some ad) n xs) (hok : ∀ k, ok k → k ≠ g) (hn : 0 < n) (hs : 0 < d.sz) (z : α) : ad.block ≠ g := by
  rintro rfl
  obtain ⟨W', hW, hno⟩ := emptied W ad.block
  have hC := h W' (fun k hk _ => hW k (hok k hk))
  obtain ⟨ad', c, e, hl, _, hc⟩ := C_get hC z 0 (by omega) (by omega)
  injection e with e
  subst e
  have h0 := hc 0 (c[0]'(by omega)) (List.getElem?_eq_getElem (by omega))
  rw [hno _ (by unfold Addr.add; split <;> rfl)] at h0
  cases h0
theorem V_blk {α : Type} {d : Kd α} {e base c n g : Nat} {W : World} {ok : Nat → Prop} {ad : Addr} {xs : List α} (h : V d e W base ok (.slice (some ad) n c) xs) (hok : ∀ k, ok k → k ≠ g) {i : Int} (h0 : (0 ≤ i) = True) (h1 : (i < (xs.length : Int)) = True) (hs : 0 < d.sz) (z : α) : ad.block ≠ g := by
  obtain ⟨A, c', hv, _, hf⟩ := h
  injection hv with hA hn hc
  subst hA
  have a0 := of_eq_true h0
  have a1 := of_eq_true h1
  exact F_blk hf hok (by omega) hs z
end Go.Proofs.YtaihieglailmcaaW.PrintWords.Kd
