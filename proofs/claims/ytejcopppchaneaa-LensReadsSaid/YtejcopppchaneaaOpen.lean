/- Arguments as the rows hand them, read as the print's kinds: whole numbers, bools, texts, rows of these and of records. -/
import Derived.Test.YtejcopppchaneaaWWords
import Derived.ChangeArms
import Derived.DataReads
namespace Go.Proofs.YtejcopppchaneaaW.PrintWords
open Go.RowKit
/-- Whatever reads as data of type t is of kind K, and good. -/
def Opens {α : Type} (P : Program) (t : TypeId) (K : Kd α) (G : α → Prop) : Prop :=
  ∀ {H : Type} (enc : TypeId × Value → H) (w : World) (fuel : Nat) (cs : List Value) (x : DataW H × List MemPlace), DataW.trod enc P w 0 (fun _ => true) true fuel t cs = some x → ∃ a, K.K w a cs ∧ G a
theorem opens_int {P : Program} {t : TypeId} {k : IntKind} (ht : P.underlying t = some (.int k)) : Opens P t (Kd.int k) (fun n => (Lit.int k n).wf = true) := by
  intro H enc w fuel cs x h
  obtain ⟨n, rfl, _, hw⟩ := DataW.trod_int ht h
  exact ⟨n, rfl, hw⟩
theorem opens_bool {P : Program} {t : TypeId} (ht : P.underlying t = some .bool) : Opens P t Kd.bool (fun _ => True) := by
  intro H enc w fuel cs x h
  obtain ⟨n, rfl, _⟩ := DataW.trod_bool ht h
  exact ⟨n, rfl, trivial⟩
theorem opens_string {P : Program} {t : TypeId} (ht : P.underlying t = some .string) : Opens P t Kd.string (fun s => s.size ≤ maxLen) := by
  intro H enc w fuel cs x h
  obtain ⟨s, rfl, _, hs⟩ := DataW.trod_string ht h
  exact ⟨s, rfl, hs⟩
theorem exists_list {α : Type} {Q : Nat → α → Prop} : ∀ (n : Nat), (∀ i, i < n → ∃ a, Q i a) → ∃ xs : List α, xs.length = n ∧ ∀ j p, xs[j]? = some p → Q j p
  | 0, _ => ⟨[], rfl, fun j p h => by simp at h⟩
  | n + 1, h => by
    obtain ⟨xs, hl, hq⟩ := exists_list n (fun i hi => h i (by omega))
    obtain ⟨a, ha⟩ := h n (by omega)
    refine ⟨xs ++ [a], by simp [hl], fun j p hj => ?_⟩
    rcases Nat.lt_or_ge j xs.length with h1 | h1
    · rw [List.getElem?_append_left h1] at hj
      exact hq j p hj
    · rw [List.getElem?_append_right h1] at hj
      have h2 : j = xs.length := by
        have := (List.getElem?_eq_some_iff.1 hj).1
        simp at this
        omega
      subst h2
      simp at hj
      subst hj
      rw [hl]; exact ha
theorem opens_slice {α : Type} {P : Program} {t e : TypeId} {K : Kd α} {G : α → Prop} (ht : P.underlying t = some (.slice e)) (hc : P.cellsOf e = K.sz) (he : Opens P e K G) :
    Opens P t (Kd.slice e K) (fun xs => xs.length ≤ maxLen ∧ ∀ x ∈ xs, G x) := by
  intro H enc w fuel cs x h
  rcases DataW.trod_slice ht h with ⟨rfl, _⟩ | ⟨a, len, cap, elems, rest, n, _, rfl, _, _, hl, hm, hlen, hel, _, _⟩
  · exact ⟨[], ⟨none, 0, rfl, Nat.le_refl _, ⟨rfl, by simp, fun h => by simp at h⟩⟩, ⟨by simp, fun x hx => by cases hx⟩⟩
  · obtain ⟨xs, hxl, hxs⟩ := exists_list (Q := fun i b => ∃ c, c.length = K.sz ∧ (K.K w b c ∧ G b) ∧ ∀ j u, c[j]? = some u → w.cell? (a.add (i * K.sz + j)) = some u) len (fun i hi => by
      have h1 := hel i hi
      have h2 : elems[i]? = some (elems[i]'(by omega)) := List.getElem?_eq_getElem (by omega)
      rw [h2] at h1
      obtain ⟨c, hcc, htr⟩ := Option.bind_eq_some_iff.1 h1
      obtain ⟨b, hK, hG⟩ := he enc w n c _ htr
      obtain ⟨_, hcl, hat⟩ := World.cells?_some hcc
      refine ⟨b, c, by rw [hcl, hc], ⟨hK, hG⟩, fun j u hu => ?_⟩
      have hj : j < P.cellsOf e := by
        have := (List.getElem?_eq_some_iff.1 hu).1
        omega
      have h3 := hat j hj
      rw [hu, hc] at h3
      have h4 : (a.add (i * K.sz)).add j = a.add (i * K.sz + j) := by
        unfold Addr.add
        by_cases h5 : i * K.sz = 0 <;> by_cases h6 : j = 0 <;> simp [h5, h6, Nat.add_assoc]
      rwa [h4] at h3)
    subst hxl
    refine ⟨xs, ⟨some a, cap, rfl, hl, ⟨rfl, by unfold maxLen at hm; omega, fun _ => ⟨a, rfl, fun j p hj => ?_⟩⟩⟩, ⟨by omega, fun p hp => ?_⟩⟩
    · obtain ⟨c, h1, h2, h3⟩ := hxs j p hj
      exact ⟨c, h1, h2.1, h3⟩
    · obtain ⟨j, hj, rfl⟩ := List.mem_iff_getElem.1 hp
      obtain ⟨c, h1, h2, h3⟩ := hxs j _ (List.getElem?_eq_getElem hj)
      exact h2.2
theorem drop_split (cs : List Value) (a b : Nat) : cs.drop a = (cs.drop a).take b ++ cs.drop (a + b) := by
  rw [← List.drop_drop, List.take_append_drop]
theorem drop_last {cs : List Value} {a b : Nat} (h : cs.length = a + b) : cs.drop a = (cs.drop a).take b := by
  rw [List.take_of_length_le (by rw [List.length_drop]; omega)]
end Go.Proofs.YtejcopppchaneaaW.PrintWords
