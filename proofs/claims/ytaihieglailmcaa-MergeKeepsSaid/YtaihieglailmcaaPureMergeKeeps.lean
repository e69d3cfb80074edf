/- What was put together covers as many ends, put together again it is the same, and nothing is left: over numbers and lists. -/
import Derived.Test.YtaihieglailmcaaGBase
import Derived.Test.YtaihieglailmcaaDefMergeKeeps
namespace Go.Proofs.Ytaihieglailmcaa.Pure
open Go.RowKit Go.Proofs.YtaihieglailmcaaW.PrintWords Go.Proofs.YtaihieglailmcaaW.PrintLast Go.Proofs.YtaihieglailmcaaW.PrintMore Go.Proofs.Ytaihieglailmcaa.PG
theorem keeps_main (l : List S28) (a : Int) (hx : ∀ x ∈ l, okR x) (hl : l.length ≤ 1000) : Ev (fun k => (merge_All.f k l).bind fun t273 => ((merge_Far.f k a l).bind fun bt276 => ((merge_Far.f k a t273).bind fun bt278 => (if bt276.2 = 0 then (if bt276.1 = bt278.1 then (if bt278.2 = 0 then ((merge_All.f k t273).bind fun t280 => ((juratref26_Same.f k t280 t273).bind fun t283 => (if t283 = true then ((merge_Canon.f k t273).bind fun t284 => (if t284 = true then ((juratlaw27_awake.f k).bind fun t285 => (some t285)) else (some false))) else (some false)))) else (some false)) else (some false)) else ((merge_All.f k t273).bind fun t286 => ((juratref26_Same.f k t286 t273).bind fun t289 => (if t289 = true then ((merge_Canon.f k t273).bind fun t290 => (if t290 = true then ((juratlaw27_awake.f k).bind fun t291 => (some t291)) else (some false))) else (some false)))))))) true := by
  have hok := okR_all l hx
  have hlen : (allS l).length ≤ 1000 := Nat.le_trans (len_all l) hl
  refine Ev.bind (all_ev27 l hx hl) ?_
  refine Ev.bind (far_ev a l hl) ?_
  refine Ev.bind (far_ev a (allS l) hlen) ?_
  have tail : Ev (fun k => (merge_All.f k (allS l)).bind fun t280 => ((juratref26_Same.f k t280 (allS l)).bind fun t283 => (if t283 = true then ((merge_Canon.f k (allS l)).bind fun t284 => (if t284 = true then ((juratlaw27_awake.f k).bind fun t285 => (some t285)) else (some false))) else (some false)))) true := by
    have h1 := all_ev27 (allS l) hok hlen
    rw [all_canon _ (canon_all l)] at h1
    refine Ev.bind h1 ?_
    refine Ev.bind (same26_ev (allS l) hok hlen) ?_
    refine Ev.congr (fun k => by rw [if_pos rfl]) ?_
    have h2 := canon_ev (allS l) hok hlen
    rw [canon_all] at h2
    refine Ev.bind h2 ?_
    refine Ev.congr (fun k => by rw [if_pos rfl]) ?_
    exact Ev.bind awake27_ev (Ev.now true)
  by_cases hI : In a
  · rw [if_pos hI, if_pos hI]
    by_cases he : (farS a l).2 = 0
    · rw [far_all l a he]
      exact Ev.congr (fun k => by rw [if_pos he, if_pos rfl, if_pos he]) tail
    · exact Ev.congr (fun k => by rw [if_neg he]) tail
  · rw [if_neg hI, if_neg hI]
    exact Ev.congr (fun k => by rw [if_neg (by decide)]) tail
theorem keeps_go (l : List S28) (a : Int) (hx : ∀ x ∈ l, okR x) (hl : l.length ≤ 1000) : ∀ (d i : Nat), i + d = l.length → Ev (fun k => juratlaw27_MergeKeeps.l0 k l a (i : Int)) true := by
  intro d
  induction d with
  | zero =>
    intro i h
    refine Ev.step (fun k => by rw [juratlaw27_MergeKeeps.l0, if_neg (by omega)]) ?_
    exact keeps_main l a hx hl
  | succ d ih =>
    intro i h
    have h1 : i < l.length := by omega
    refine Ev.step (fun k => by rw [juratlaw27_MergeKeeps.l0, if_pos (by omega), if_pos (by omega)]) ?_
    by_cases h2 : (rd_T28 l (i : Int)).f2 < 0
    · exact Ev.congr (fun k => by rw [if_pos h2]) (Ev.bind awake27_ev (Ev.now true))
    · refine Ev.congr (fun k => by rw [if_neg h2]) ?_
      by_cases h3 : (rd_T28 l (i : Int)).f2 ≥ 1125899906842624
      · exact Ev.congr (fun k => by rw [if_pos h3]) (Ev.bind awake27_ev (Ev.now true))
      · refine Ev.congr (fun k => by rw [if_neg h3, jw64 (by omega) (by omega)]) ?_
        exact_mod_cast ih (i + 1) (by omega)
theorem MergeKeeps : juratlaw27_MergeKeeps.Pure := by
  intro l a hl ha
  refine Ev.rounds ?_
  unfold juratlaw27_MergeKeeps.f
  by_cases h : (l.length : Int) > 20
  · exact Ev.congr (fun k => by rw [few_no l 20 h, Option.bind_some, if_neg (by decide)]) (Ev.bind awake27_ev (Ev.now true))
  · refine Ev.bind (few_ev l 20 h (by omega)) ?_
    by_cases h2 : fewB l = true
    · refine Ev.congr (fun k => by rw [if_pos h2]) ?_
      exact keeps_go l a (fun x hx => good_okR (hl.2 x hx) (fewB_get h2 x hx)) (by omega) l.length 0 (by omega)
    · exact Ev.congr (fun k => by rw [if_neg h2]) (Ev.bind awake27_ev (Ev.now true))
end Go.Proofs.Ytaihieglailmcaa.Pure
