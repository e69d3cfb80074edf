/- What is proved: of files of at most 300 bytes each, unlike files have unlike heads, none beginning with another one's: a head is done just by its own file's bytes; what was put is taken as it was, whatever stands behind (of more only the chapter's example is asked). Conditions: none beyond the row's own. -/
import Derived.Test.YtohaoleeaipfbaaHHead
import Derived.Test.YtohaoleeaipfbaaPFx13
namespace Go.Proofs.Ytohaoleeaipfbaa.Pure
open Go.RowKit Go.Proofs.YtohaoleeaipfbaaW.PrintWords Go.Proofs.YtohaoleeaipfbaaW.PrintLast Go.Proofs.YtohaoleeaipfbaaW.PrintMore Go.Proofs.Ytohaoleeaipfbaa.PF
theorem fp_uniq {f o : ByteArray} (hf : okF (1, f)) (ho : okF (1, o)) {R R' : List Int} (hR : IsB R) (h : bytesOf (fp 1 f).1 ++ R = bytesOf (fp 1 o).1 ++ R') : f = o := by
  have hb : bytesOf (strOfNums (bytesOf (fp 1 f).1 ++ R)) = bytesOf (fp 1 f).1 ++ R := bytesOf_strOfNums (isB_append (isB_bytesOf _) hR)
  have h1 := ft_fp hf hb
  have h2 := ft_fp ho (hb.trans h)
  rw [h1] at h2
  exact congrArg (fun p : Int × ByteArray × Int × Int => p.2.1) h2
theorem head_unlike {f o : ByteArray} (hf : okF (1, f)) (ho : okF (1, o)) (M : List Int) (hM : IsB M) (hne : f ≠ o) :
    cpl (bytesOf (mk ++ (fp 1 f).1)) (bytesOf (mk ++ (fp 1 o).1) ++ M) < (bytesOf (mk ++ (fp 1 f).1)).length ∧ cpl (bytesOf (mk ++ (fp 1 f).1)) (bytesOf (mk ++ (fp 1 o).1) ++ M) < (bytesOf (mk ++ (fp 1 o).1) ++ M).length := by
  have h1 := cpl_le_l (bytesOf (mk ++ (fp 1 f).1)) (bytesOf (mk ++ (fp 1 o).1) ++ M)
  have h2 := cpl_le_r (bytesOf (mk ++ (fp 1 f).1)) (bytesOf (mk ++ (fp 1 o).1) ++ M)
  constructor
  · rcases Nat.lt_or_eq_of_le h1 with h | h
    · exact h
    · obtain ⟨r, hr⟩ := cpl_eq_l _ _ h
      rw [bytesOf_append, bytesOf_append, List.append_assoc, List.append_assoc] at hr
      have hr := List.append_cancel_left hr
      exact absurd (fp_uniq ho hf hM hr).symm hne
  · rcases Nat.lt_or_eq_of_le h2 with h | h
    · exact h
    · rw [cpl_comm] at h
      obtain ⟨r, hr⟩ := cpl_eq_l _ _ h
      rw [bytesOf_append, bytesOf_append, List.append_assoc, List.append_assoc] at hr
      have hr := List.append_cancel_left hr
      have hB : IsB ([] : List Int) := fun x hx => by cases hx
      exact absurd (fp_uniq hf ho (R := []) (R' := M ++ r) hB (by rw [List.append_nil, hr])) hne
theorem ht_hp {f : ByteArray} (hf : okF (1, f)) (more : ByteArray) : ht (mk ++ (fp 1 f).1 ++ more) = (f, ((mk ++ (fp 1 f).1).size : Int), 0) := by
  have hc : cpl (bytesOf (mk ++ (fp 1 f).1 ++ more)) (bytesOf mk) = 5 := by
    rw [bytesOf_append, bytesOf_append, List.append_assoc, cpl_comm, cpl_app]; rfl
  have hx : bytesOf ((mk ++ (fp 1 f).1 ++ more).extract 5 (mk ++ (fp 1 f).1 ++ more).size) = bytesOf (fp 1 f).1 ++ bytesOf more := by
    rw [bytesOf_extract, ← bytesOf_length, List.take_length, bytesOf_append, bytesOf_append, List.append_assoc]
    exact List.drop_left' rfl
  have h1 := ft_fp hf hx
  simp only at h1
  unfold ht
  rw [if_pos hc, h1, if_pos rfl, if_pos rfl, ByteArray.size_append]
  rfl
theorem binds_j2 (f more : ByteArray) (hf : f.size ≤ 300) (hm : more.size ≤ 300) (b : Bool) (hb : b = false) : Ev (fun k => juratlaw29_HeadBinds.j2 k f more (mk ++ (fp 1 f).1) b) true := by
  subst hb
  have hok : okF (1, f) := by unfold okF; simp only; omega
  have hsz := fp_size (1, f)
  simp only at hsz
  have h5 : mk.size = 5 := rfl
  refine Ev.step (fun k => by rw [juratlaw29_HeadBinds.j2, if_neg (by decide), if_pos (by rw [ByteArray.size_append]; omega)]) ?_
  refine Ev.bind (htake_ev _ (by rw [ByteArray.size_append, ByteArray.size_append]; omega)) ?_
  rw [ht_hp hok]
  refine Ev.congr (fun k => by rw [if_pos rfl, if_pos rfl, if_pos rfl]) ?_
  exact Ev.bind awake29_ev (Ev.now _)
theorem HeadBinds : juratlaw29_HeadBinds.Pure := by
  intro f o more _ _ _
  refine Ev.rounds ?_
  unfold juratlaw29_HeadBinds.f
  have hj : ∀ b : Bool, b = true → Ev (fun k => juratlaw29_HeadBinds.j0 k f o more b) true := by
    rintro b rfl
    exact Ev.step (fun k => by rw [juratlaw29_HeadBinds.j0, if_pos rfl]) (Ev.bind awake29_ev (Ev.now _))
  by_cases hf : (f.size : Int) > 300
  · exact Ev.congr (fun k => by rw [if_pos hf]) (hj true rfl)
  refine Ev.congr (fun k => by rw [if_neg hf]) ?_
  by_cases ho : (o.size : Int) > 300
  · exact Ev.congr (fun k => by rw [if_pos ho]) (hj true rfl)
  refine Ev.congr (fun k => by rw [if_neg ho]) ?_
  by_cases hm : (more.size : Int) > 300
  · exact hj _ (decide_eq_true hm)
  rw [decide_eq_false hm]
  have okf : okF (1, f) := by unfold okF; simp only; omega
  have oko : okF (1, o) := by unfold okF; simp only; omega
  have szf := fp_size (1, f)
  have szo := fp_size (1, o)
  simp only at szf szo
  have h5 : mk.size = 5 := rfl
  refine Ev.step (fun k => by rw [juratlaw29_HeadBinds.j0, if_neg (by decide)]) ?_
  refine Ev.bind (hput_ev f (by omega)) (Ev.bind (hput_ev o (by omega)) (Ev.bind (hnew_ev (by omega)) ?_))
  rw [hp_ok (file := f) (by omega), hp_ok (file := o) (by omega)]
  refine Ev.congr (fun k => by rw [if_pos rfl, if_pos rfl]) ?_
  refine Ev.step (fun k => by rw [juratlaw29_HeadBinds.j1, if_neg (show ¬ (((0 : Int) != 0) = true) by decide), if_pos (by rw [ByteArray.size_append]; omega)]) ?_
  refine Ev.bind (hfeed_ev _ _ (by rw [ByteArray.size_append]; omega) (by rw [ByteArray.size_append, ByteArray.size_append]; omega)) ?_
  by_cases he : f = o
  · subst he
    have hc : cpl (bytesOf (mk ++ (fp 1 f).1)) (bytesOf (mk ++ (fp 1 f).1 ++ more)) = (mk ++ (fp 1 f).1).size := by
      rw [bytesOf_append (mk ++ (fp 1 f).1) more, cpl_app, bytesOf_length]
    rw [hc, if_neg (show ¬ ((mk ++ (fp 1 f).1).size < (mk ++ (fp 1 f).1).size ∧ (mk ++ (fp 1 f).1).size < (mk ++ (fp 1 f).1 ++ more).size) from fun h => Nat.lt_irrefl _ h.1)]
    refine Ev.congr (fun k => by rw [if_pos rfl, if_pos rfl, if_pos rfl]) ?_
    unfold head_Match_Done.f
    refine Ev.congr (fun k => by rw [if_neg (show ¬ (false = true) by decide), Option.bind_some, beq_self_eq_true, if_pos rfl]) ?_
    exact binds_j2 f more (by omega) (by omega) _ rfl
  · have hc := head_unlike okf oko (bytesOf more) (isB_bytesOf _) he
    rw [← bytesOf_append, bytesOf_length, bytesOf_length] at hc
    rw [if_pos hc]
    refine Ev.congr (fun k => by rw [if_neg (fun h => he (toList_inj h))]) ?_
    unfold head_Match_Done.f
    refine Ev.congr (fun k => by rw [if_pos rfl, Option.bind_some, if_neg (show ¬ (false = true) by decide)]) ?_
    exact binds_j2 f more (by omega) (by omega) _ rfl
end Go.Proofs.Ytohaoleeaipfbaa.Pure
