/- Plain lemmas of this session (HRput): numbers, bytes and lists. -/
import Derived.Test.YtohaoleeaipfbaaHVarint
import Derived.Test.YtohaoleeaipfbaaPFx2
namespace Go.Proofs.Ytohaoleeaipfbaa.Pure
open Go.RowKit Go.Proofs.YtohaoleeaipfbaaW.PrintWords Go.Proofs.YtohaoleeaipfbaaW.PrintLast Go.Proofs.YtohaoleeaipfbaaW.PrintMore Go.Proofs.Ytohaoleeaipfbaa.PF
/-! ### varint: several numbers; the reference's Put -/
theorem rput_go : ∀ (n : Nat), n < 9223372036854775808 → Ev (fun k => juratref02_Put.f k (n : Int)) (strOfNums (vput n)) := by
  intro n
  induction n using Nat.strongRecOn with
  | _ n ih =>
    intro hn
    by_cases h : n < 128
    · refine ev_add 1 (fun k => ?_)
      rw [juratref02_Put.f, if_neg (by omega), if_pos (by omega), vput_small h, show (n : Int) % 256 = (n : Int) by omega]
    · have h9 := vput_nine (n := n / 128) (by omega)
      have hB : IsB [((n % 128 + 128 : Nat) : Int)] := by intro x hx; rw [List.mem_singleton] at hx; omega
      refine Ev.step (fun k => by rw [juratref02_Put.f, if_neg (by omega), if_neg (by omega), Option.bind_some, Int.tmod_eq_emod_of_nonneg (by omega), Int.tdiv_eq_ediv_of_nonneg (by omega), jw64 (n := (n : Int) / 128) (by omega) (by omega), jw64 (n := (n : Int) % 128 + 128) (by omega) (by omega), show (n : Int) / 128 = ((n / 128 : Nat) : Int) from rfl, show ((n : Int) % 128 + 128) % 256 = ((n % 128 + 128 : Nat) : Int) by omega]) ?_
      refine Ev.bind (ih (n / 128) (by omega) (by omega)) ?_
      have hsz : (strOfNums [((n % 128 + 128 : Nat) : Int)]).size + (strOfNums (vput (n / 128))).size ≤ 9223372036854775807 := by
        rw [strOfNums_size, strOfNums_size]; simp; omega
      exact ev_is (fun k => by rw [if_pos hsz, ← strOfNums_append hB (isB_vput _), List.singleton_append, ← vput_big h])
theorem rput_ev {n : Int} (h : n < 9223372036854775808) : Ev (fun k => juratref02_Put.f k n) (strOfNums (vp n)) := by
  unfold vp
  by_cases h0 : n < 0
  · rw [if_pos h0]
    exact ev_add 1 (fun k => by rw [juratref02_Put.f, if_pos h0]; rfl)
  · rw [if_neg h0]
    obtain ⟨m, rfl⟩ := Int.eq_ofNat_of_zero_le (by omega : 0 ≤ n)
    rw [Int.toNat_natCast]
    exact rput_go m (by omega)
end Go.Proofs.Ytohaoleeaipfbaa.Pure
