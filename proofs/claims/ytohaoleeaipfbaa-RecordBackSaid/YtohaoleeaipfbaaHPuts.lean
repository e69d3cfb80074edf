/- Plain lemmas of this session (HPuts): numbers, bytes and lists. -/
import Derived.Test.YtohaoleeaipfbaaHVarint
import Derived.Lib.Bytes
import Derived.Test.YtohaoleeaipfbaaPFx2
import Derived.Test.YtohaoleeaipfbaaPFx1
namespace Go.Proofs.Ytohaoleeaipfbaa.Pure
open Go.RowKit Go.Proofs.YtohaoleeaipfbaaW.PrintWords Go.Proofs.YtohaoleeaipfbaaW.PrintLast Go.Proofs.YtohaoleeaipfbaaW.PrintMore Go.Proofs.Ytohaoleeaipfbaa.PF
/-! ### varint: several numbers; the reference's Put -/
theorem rput_go : ∀ (n : Nat), n < 9223372036854775808 → Ev (fun k => juratref02_Put.f k (n : Int)) (strOfNums (vput n)) := by
  intro n
  induction n using Nat.strongRecOn with
  | _ n ih =>
    intro hn
    by_cases h : n < 128
    · refine ev_add 1 (fun k => ?_)
      rw [juratref02_Put.f, if_neg (by omega), if_pos (by omega), vput_small h, show (n : Int) % 256 = (n : Int) by omega]
    · have h9 := vput_nine (n := n / 128) (by omega)
      have hB : IsB [((n % 128 + 128 : Nat) : Int)] := by intro x hx; rw [List.mem_singleton] at hx; omega
      refine Ev.step (fun k => by rw [juratref02_Put.f, if_neg (by omega), if_neg (by omega), Option.bind_some, Int.tmod_eq_emod_of_nonneg (by omega), Int.tdiv_eq_ediv_of_nonneg (by omega), jw64 (n := (n : Int) / 128) (by omega) (by omega), jw64 (n := (n : Int) % 128 + 128) (by omega) (by omega), show (n : Int) / 128 = ((n / 128 : Nat) : Int) from rfl, show ((n : Int) % 128 + 128) % 256 = ((n % 128 + 128 : Nat) : Int) by omega]) ?_
      refine Ev.bind (ih (n / 128) (by omega) (by omega)) ?_
      have hsz : (strOfNums [((n % 128 + 128 : Nat) : Int)]).size + (strOfNums (vput (n / 128))).size ≤ 9223372036854775807 := by
        rw [strOfNums_size, strOfNums_size]; simp; omega
      exact ev_is (fun k => by rw [if_pos hsz, ← strOfNums_append hB (isB_vput _), List.singleton_append, ← vput_big h])
theorem rput_ev {n : Int} (h : n < 9223372036854775808) : Ev (fun k => juratref02_Put.f k n) (strOfNums (vp n)) := by
  unfold vp
  by_cases h0 : n < 0
  · rw [if_pos h0]
    exact ev_add 1 (fun k => by rw [juratref02_Put.f, if_pos h0]; rfl)
  · rw [if_neg h0]
    obtain ⟨m, rfl⟩ := Int.eq_ofNat_of_zero_le (by omega : 0 ≤ n)
    rw [Int.toNat_natCast]
    exact rput_go m (by omega)
/-- Several numbers' bytes. -/
def vps (l : List Int) : List Int := l.flatMap vp
theorem isB_vps (l : List Int) : IsB (vps l) := by
  intro x hx
  unfold vps at hx
  obtain ⟨a, _, h⟩ := List.mem_flatMap.1 hx
  exact isB_vp a x h
theorem vps_len : ∀ (l : List Int), (∀ x ∈ l, x < 9223372036854775808) → (vps l).length ≤ 9 * l.length
  | [], _ => by simp [vps]
  | c :: l, h => by
    have h1 := vps_len l (fun x hx => h x (List.mem_cons_of_mem _ hx))
    have h2 := vp_nine (h c (List.mem_cons_self ..))
    have h3 : vps (c :: l) = vp c ++ vps l := rfl
    rw [h3, List.length_append, List.length_cons]; omega
theorem vps_snoc (l : List Int) (i : Nat) (h : i < l.length) : vps (l.take (i + 1)) = vps (l.take i) ++ vp l[i] := by
  unfold vps
  rw [List.take_succ_eq_append_getElem h, List.flatMap_append]
  simp only [List.flatMap_cons, List.flatMap_nil, List.append_nil]
theorem all_go (l : List Int) (hl : l.length ≤ 1000) (hx : ∀ x ∈ l, x < 9223372036854775808) : ∀ (d i : Nat), i + d = l.length → Ev (fun k => varint_All.l0 k (vps (l.take i)) l (l.length : Int) (i : Int)) (strOfNums (vps l)) := by
  intro d
  induction d with
  | zero =>
    intro i hi
    refine ev_add 1 (fun k => ?_)
    rw [varint_All.l0, if_neg (by omega), List.take_of_length_le (by omega)]
  | succ d ih =>
    intro i hi
    have hlt : i < l.length := by omega
    have e : rd l (i : Int) = l[i] := by simp [rd, List.getD_eq_getElem?_getD, List.getElem?_eq_getElem hlt]
    have hm := hx l[i] (List.getElem_mem hlt)
    refine Ev.step (fun k => by rw [varint_All.l0, if_pos (by omega), if_pos (by omega), if_pos (by omega), e]) ?_
    refine Ev.bind (put_ev hm) ?_
    have h9 := vp_nine hm
    have hln := vps_len (l.take i) (fun x h => hx x (List.mem_of_mem_take h))
    rw [List.length_take] at hln
    refine Ev.congr (fun k => by rw [if_pos (by rw [strOfNums_size]; omega), bytesOf_strOfNums (isB_vp _), ← vps_snoc l i hlt, jw64 (n := (i : Int) + 1) (by omega) (by omega), show (i : Int) + 1 = ((i + 1 : Nat) : Int) from rfl]) ?_
    exact ih (i + 1) (by omega)
theorem all_ev2 (l : List Int) (hl : l.length ≤ 1000) (hx : ∀ x ∈ l, x < 9223372036854775808) : Ev (fun k => varint_All.f k l) (strOfNums (vps l)) := all_go l hl hx l.length 0 (by omega)
end Go.Proofs.Ytohaoleeaipfbaa.Pure
