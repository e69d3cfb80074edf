/- Plain lemmas of this session (FJoinR): numbers, bytes and lists. -/
import Derived.Test.YtpeecclmpbickaaFJoin
import Derived.Test.YtpeecclmpbickaaFRput
import Derived.Test.YtpeecclmpbickaaPFx7
namespace Go.Proofs.Ytpeecclmpbickaa.Pure
open Go.RowKit Go.Proofs.YtpeecclmpbickaaW.PrintWords Go.Proofs.YtpeecclmpbickaaW.PrintLast Go.Proofs.YtpeecclmpbickaaW.PrintMore Go.Proofs.Ytpeecclmpbickaa.PF
theorem rfput_ev (kind : Int) (b : ByteArray) (hb : b.size ≤ 140737488351232) : Ev (fun k => juratref04_Put.f k kind b) (fp kind b) := by
  unfold fp juratref04_Put.f
  have hj : ∀ x : Bool, x = true → Ev (fun k => juratref04_Put.j0 k x kind b) ((⟨#[]⟩ : ByteArray), 2) := by
    rintro x rfl
    exact ev_add 1 (fun k => by rw [juratref04_Put.j0, if_pos rfl])
  by_cases h1 : kind < 1
  · rw [if_pos (.inl h1)]
    exact Ev.congr (fun k => by rw [if_pos h1]) (hj true rfl)
  · refine Ev.congr (fun k => by rw [if_neg h1]) ?_
    by_cases h2 : 127 < kind
    · rw [if_pos (.inr h2)]
      exact hj _ (by simp; omega)
    · rw [if_neg (by omega)]
      have hd : decide (kind > 127) = false := by simp; omega
      rw [hd]
      refine Ev.step (fun k => by rw [juratref04_Put.j0, if_neg (by decide)]) ?_
      by_cases h3 : 67108864 < b.size
      · rw [if_pos h3]
        exact ev_is (fun k => by rw [if_pos (by omega)])
      · rw [if_neg h3]
        refine Ev.congr (fun k => by rw [if_neg (by omega), Option.bind_some, show kind % 256 = kind by omega]) ?_
        refine Ev.bind (rput_ev (by omega)) ?_
        have h9 := vp_nine (n := (b.size : Int)) (by omega)
        have e1 : (strOfNums [kind]).size + (strOfNums (vp b.size)).size ≤ 9223372036854775807 := by rw [strOfNums_size, strOfNums_size]; simp; omega
        have e2 : (strOfNums [kind] ++ strOfNums (vp b.size)).size + b.size ≤ 9223372036854775807 := by rw [ByteArray.size_append, strOfNums_size, strOfNums_size]; simp; omega
        exact ev_is (fun k => by rw [if_pos e1, if_pos e2])
theorem rjoin_go (m : List (Int × ByteArray)) (hm : ∀ x ∈ m, x.2.size ≤ 3000) (hl : m.length ≤ 20000) : ∀ (d i : Nat) (acc : List Int), i + d = m.length → IsB acc → acc.length ≤ 4000 * i → Ev (fun k => juratref04_Join.l0 k (m.map toR) (strOfNums acc) (i : Int)) (jn (m.drop i) acc) := by
  intro d
  induction d with
  | zero =>
    intro i acc hi hb hacc
    rw [List.drop_eq_nil_of_le (by omega)]
    exact ev_add 1 (fun k => by rw [juratref04_Join.l0, if_neg (by rw [List.length_map]; omega)]; rfl)
  | succ d ih =>
    intro i acc hi hb hacc
    have hlt : i < m.length := by omega
    have hx := hm m[i] (List.getElem_mem hlt)
    have hs := fp_size m[i]
    rw [List.drop_eq_getElem_cons hlt]
    simp only [jn]
    refine Ev.step (fun k => by rw [juratref04_Join.l0, if_pos (by rw [List.length_map]; omega), if_pos (by omega), rdR m i hlt]) ?_
    refine Ev.bind (rfput_ev m[i].1 m[i].2 (by omega)) ?_
    by_cases h0 : (fp m[i].1 m[i].2).2 = 0
    · rw [if_pos h0]
      have := ih (i + 1) (acc ++ bytesOf (fp m[i].1 m[i].2).1) (by omega) (isB_append hb (isB_bytesOf _)) (by rw [List.length_append, bytesOf_length]; omega)
      rw [strOfNums_append hb (isB_bytesOf _), strOfNums_bytesOf] at this
      refine Ev.congr (fun k => ?_) this
      rw [if_pos h0, if_pos (by rw [strOfNums_size]; omega), jw64 (n := (i : Int) + 1) (by omega) (by omega)]
      rfl
    · rw [if_neg h0]
      exact ev_is (fun k => by rw [if_neg h0])
theorem rjoin_ev (m : List (Int × ByteArray)) (h : ∀ x ∈ m, x.2.size ≤ 3000) (hl : m.length ≤ 20000) : Ev (fun k => juratref04_Join.f k (m.map toR)) (jn m []) :=
  rjoin_go m h hl m.length 0 [] (by omega) (fun x hx => by cases hx) (by simp)
end Go.Proofs.Ytpeecclmpbickaa.Pure
