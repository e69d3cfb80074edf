/- What is proved: what varint.Put puts of any number is taken as it was, whatever stands behind it; bytes that are taken are those that are put; a greater number has no fewer bytes (of at most 1,000 bytes; of more only the chapter's example is asked). Conditions: none beyond the row's own. -/
import Derived.Test.YtpeecclmpbickaaVarsize
import Derived.Test.YtpeecclmpbickaaPAx3
namespace Go.Proofs.Ytpeecclmpbickaa.Pure
open Go.RowKit Go.Proofs.YtpeecclmpbickaaW.PrintWords Go.Proofs.YtpeecclmpbickaaW.PrintLast Go.Proofs.YtpeecclmpbickaaW.PrintMore Go.Proofs.Ytpeecclmpbickaa.PA
theorem back_j1 (n m : Int) (hn : n < 9223372036854775808) (hm : m < 9223372036854775808) (b : Bool) (hb : b = false) : Ev (fun k => juratlaw02_VarintBack.j1 k n m b) true := by
  subst hb
  refine Ev.step (fun k => by rw [juratlaw02_VarintBack.j1, if_neg (by decide)]) ?_
  by_cases h : n < m
  · refine Ev.congr (fun k => by rw [if_pos h]) ?_
    exact Ev.bind awake02_ev (Ev.now _)
  · refine Ev.congr (fun k => by rw [if_neg h]) ?_
    refine Ev.bind (size_ev hn) (Ev.bind (size_ev hm) ?_)
    have := vp_mono (n := n) (m := m) (by omega)
    refine Ev.congr (fun k => by rw [if_pos (by omega)]) ?_
    exact Ev.bind awake02_ev (Ev.now _)
theorem back_j0 (n m : Int) (s : ByteArray) (hn : n < 9223372036854775808) (hm : m < 9223372036854775808) (b : Bool) (hb : b = false) : Ev (fun k => juratlaw02_VarintBack.j0 k n m s b) true := by
  subst hb
  have hbs := isB_bytesOf s
  refine Ev.step (fun k => by rw [juratlaw02_VarintBack.j0, if_neg (by decide)]) ?_
  refine Ev.bind (take_ev s) ?_
  by_cases h : (vt 9 (bytesOf s)).2.2 = 0
  · have hok := vt_ok 9 _ hbs h
    have hbk := vt_back 9 _ (by omega) hbs h
    rw [bytesOf_length] at hok
    refine Ev.congr (fun k => by rw [if_pos h, if_neg (by omega), if_neg (by omega)]) ?_
    have h63 : (vt 9 (bytesOf s)).1 < 9223372036854775808 := by have := hok.2.1; omega
    refine Ev.bind (put_ev h63) ?_
    refine Ev.congr (fun k => by rw [if_pos (by omega), if_pos (by omega)]) ?_
    refine back_j1 n m hn hm _ ?_
    have e1 : strOfNums (vp (vt 9 (bytesOf s)).1) = s.extract 0 (vt 9 (bytesOf s)).2.1.toNat := by
      refine bytesOf_inj ?_
      rw [bytesOf_strOfNums (isB_vp _), bytesOf_extract, List.drop_zero]
      unfold vp
      rw [if_neg (by omega)]
      exact hbk
    rw [e1]; simp
  · refine Ev.congr (fun k => by rw [if_neg h]) ?_
    exact back_j1 n m hn hm _ rfl
theorem VarintBack : juratlaw02_VarintBack.Pure := by
  intro n m s hn hm hs
  have hn := jwf64 hn
  have hm := jwf64 hm
  refine Ev.rounds ?_
  unfold juratlaw02_VarintBack.f
  by_cases h : (s.size : Int) > 1000
  · refine Ev.congr (fun k => by rw [if_pos h]) ?_
    exact Ev.bind awake02_ev (Ev.now _)
  · refine Ev.congr (fun k => by rw [if_neg h]) ?_
    refine Ev.bind (put_ev hn.2) ?_
    have h9 := vp_nine hn.2
    have hsz : (strOfNums (vp n)).size + s.size ≤ 9223372036854775807 := by rw [strOfNums_size]; omega
    refine Ev.congr (fun k => by rw [if_pos hsz]) ?_
    refine Ev.bind (take_ev _) ?_
    by_cases h0 : n ≥ 0
    · have hv : vt 9 (bytesOf (strOfNums (vp n) ++ s)) = (n, ((vp n).length : Int), 0) := by
        rw [bytesOf_append, bytesOf_strOfNums (isB_vp _)]
        obtain ⟨a, rfl⟩ := Int.eq_ofNat_of_zero_le h0
        rw [vp_nat]
        exact vt_vput (by omega) _
      rw [hv]
      refine Ev.congr (fun k => by rw [if_pos h0, if_pos rfl]) ?_
      refine Ev.bind (size_ev hn.2) ?_
      refine Ev.congr (fun k => by rw [if_pos rfl]) ?_
      exact back_j0 n m s hn.2 hm.2 _ rfl
    · refine Ev.congr (fun k => by rw [if_neg h0]) ?_
      exact back_j0 n m s hn.2 hm.2 _ rfl
end Go.Proofs.Ytpeecclmpbickaa.Pure
