/- What is proved: what was put is taken as it was, whatever stands behind it, and no other bytes lead there; of bytes that are cut off it is told that they are short (of records of at most 100 Ids, of at most 500 bytes; of others only the chapter's example is asked). Conditions: none beyond the row's own. -/
import Derived.Test.YtohaoleeaipfbaaHRBack
import Derived.Test.YtohaoleeaipfbaaDefRecordBack
namespace Go.Proofs.Ytohaoleeaipfbaa.Pure
open Go.RowKit Go.Proofs.YtohaoleeaipfbaaW.PrintWords Go.Proofs.YtohaoleeaipfbaaW.PrintLast Go.Proofs.YtohaoleeaipfbaaW.PrintMore Go.Proofs.Ytohaoleeaipfbaa.PF
theorem jand1023 (x : Int) : 0 ≤ Go.bits .and .i64 x 1023 := by
  have h2 : Go.bits .and .i64 x 1023 = IntKind.i64.wrap ((BitVec.ofInt 64 x &&& BitVec.ofInt 64 1023).toNat : Int) := rfl
  have h3 : (BitVec.ofInt 64 x &&& BitVec.ofInt 64 1023).toNat ≤ 1023 := by
    rw [BitVec.toNat_and]
    exact Nat.le_trans Nat.and_le_right (by decide)
  rw [h2, IntKind.wrap_i64]
  omega
theorem back28_j2 (s : ByteArray) (hs : s.size ≤ 500) : Ev (fun k => juratlaw28_RecordBack.j2 k s) true := by
  refine Ev.step (fun k => by rw [juratlaw28_RecordBack.j2]) ?_
  refine Ev.bind (rec_take_ev s (by omega)) ?_
  have hlen := rt_ids_len s
  by_cases h : (rt s).2.2.2.2.2 = 0
  · refine Ev.congr (fun k => by rw [if_pos h]) ?_
    obtain ⟨h1, h2, h3, h4⟩ := rt_forth s h
    refine Ev.bind (rec_put_ev _ _ _ _ (by omega)) ?_
    have hp : rput (rt s).1 (rt s).2.1 (rt s).2.2.1 (rt s).2.2.2.1 = (s.extract 0 (rt s).2.2.2.2.1.toNat, 0) := by
      unfold rput
      rw [if_pos h1, h2]
      congr 1
      refine bytesOf_inj ?_
      rw [bytesOf_strOfNums (isB_take (isB_bytesOf s) _), bytesOf_extract, List.drop_zero]
    rw [hp]
    refine Ev.congr (fun k => by rw [if_pos rfl, if_pos (by omega), if_pos (by omega), if_pos (by omega), if_pos rfl]) ?_
    exact Ev.bind awake28_ev (Ev.now _)
  · have h0 := rt_err s h
    refine Ev.congr (fun k => by rw [if_neg h, if_pos h0]) ?_
    exact Ev.bind awake28_ev (Ev.now _)
theorem back28_j1 {a b c : Int} {l : List Int} (hl : l.length ≤ 100) (hc : chk a b c l = true) (ha : 0 ≤ a ∧ a ≤ 255) (s : ByteArray) (hs : s.size ≤ 500) (cut : Int) (x : Bool) (hx : x = false) : Ev (fun k => juratlaw28_RecordBack.j1 k s cut (strOfNums (rp a b c l)) x) true := by
  subst hx
  refine Ev.step (fun k => by rw [juratlaw28_RecordBack.j1, if_neg (by decide)]) ?_
  have h0 := jand1023 cut
  generalize Go.bits .and .i64 cut 1023 = d at h0
  have hrl := rp_len hc hl
  have hsz := strOfNums_size (rp a b c l)
  by_cases hd : d < ((strOfNums (rp a b c l)).size : Int)
  · refine Ev.congr (fun k => by rw [if_pos hd, if_pos h0, if_pos (by omega)]) ?_
    refine Ev.bind (rec_take_ev _ (by rw [size_extract' _ _ _ (by omega)]; omega)) ?_
    have hcut := rt_cut hl hc (s := (strOfNums (rp a b c l)).extract 0 d.toNat) (i := d.toNat) (by omega) (by rw [bytesOf_extract, List.drop_zero, bytesOf_strOfNums (isB_rp ha)])
    rw [hcut]
    have hsame := rsame_ev (er 4) (er 0) (by simp [er])
    rw [decide_eq_true (show _ from ⟨rfl, rfl, rfl, rfl⟩)] at hsame
    refine Ev.bind hsame ?_
    refine Ev.congr (fun k => by rw [if_pos rfl, if_pos (show (er 4).2.2.2.2.1 = 0 from rfl), if_pos (show (er 4).2.2.2.2.2 = 4 from rfl)]) ?_
    exact back28_j2 s hs
  · exact Ev.congr (fun k => by rw [if_neg hd]) (back28_j2 s hs)
theorem RecordBack : juratlaw28_RecordBack.Pure := by
  intro r s cut _ _ _
  obtain ⟨a, b, c, l⟩ := r
  refine Ev.rounds ?_
  simp only
  unfold juratlaw28_RecordBack.f
  have hj : ∀ x : Bool, x = true → Ev (fun k => juratlaw28_RecordBack.j0 k s cut x a b c l) true := by
    rintro x rfl
    exact Ev.step (fun k => by rw [juratlaw28_RecordBack.j0, if_pos rfl]) (Ev.bind awake28_ev (Ev.now _))
  by_cases hl : (l.length : Int) > 100
  · exact Ev.congr (fun k => by rw [if_pos hl]) (hj true rfl)
  · refine Ev.congr (fun k => by rw [if_neg hl]) ?_
    by_cases hs : (s.size : Int) > 500
    · exact hj _ (decide_eq_true hs)
    · rw [decide_eq_false hs]
      refine Ev.step (fun k => by rw [juratlaw28_RecordBack.j0, if_neg (by decide)]) ?_
      refine Ev.bind (rec_put_ev a b c l (by omega)) ?_
      unfold rput
      by_cases hc : chk a b c l = true
      · rw [if_pos hc]
        have ha : 0 ≤ a ∧ a ≤ 255 := by
          unfold chk at hc
          by_cases h4 : a = 4
          · omega
          · simp only [if_neg h4, isR, Bool.and_eq_true, decide_eq_true_eq] at hc
            omega
        have hrl := rp_len hc (l := l) (by omega)
        have hsz := strOfNums_size (rp a b c l)
        refine Ev.congr (fun k => by rw [if_pos rfl, if_pos (by simp only; omega)]) ?_
        refine Ev.bind (rec_take_ev _ (by rw [ByteArray.size_append]; simp only; omega)) ?_
        have hb := rt_back (l := l) (by omega) hc (s := strOfNums (rp a b c l) ++ s) (S := bytesOf s) (by rw [bytesOf_append, bytesOf_strOfNums (isB_rp ha)])
        simp only
        rw [hb]
        have hsame := rsame_ev (a, b, c, l, ((rp a b c l).length : Int), 0) (a, b, c, l, 0, 0) (by simp only; omega)
        rw [decide_eq_true (show _ from ⟨rfl, rfl, rfl, rfl⟩)] at hsame
        refine Ev.bind hsame ?_
        refine Ev.congr (fun k => by rw [if_pos rfl, if_pos (show ((rp a b c l).length : Int) = ((strOfNums (rp a b c l)).size : Int) by omega)]) ?_
        exact back28_j1 (by omega) hc ha s (by omega) cut _ rfl
      · rw [if_neg hc]
        exact Ev.congr (fun k => by rw [if_neg (by simp)]) (back28_j2 s (by omega))
end Go.Proofs.Ytohaoleeaipfbaa.Pure
