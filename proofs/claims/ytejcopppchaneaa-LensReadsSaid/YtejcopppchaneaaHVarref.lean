/- Plain lemmas of this session (HVarref): numbers, bytes and lists. -/
import Derived.Test.YtejcopppchaneaaHVarint
import Derived.Test.YtejcopppchaneaaPFx4
namespace Go.Proofs.Ytejcopppchaneaa.Pure
open Go.RowKit Go.Proofs.YtejcopppchaneaaW.PrintWords Go.Proofs.YtejcopppchaneaaW.PrintLast Go.Proofs.YtejcopppchaneaaW.PrintMore Go.Proofs.Ytejcopppchaneaa.PF
/-! ### varint: the document's reference -/
def lead : List Int → Nat
  | [] => 0
  | c :: l => if c < 128 then 0 else lead l + 1
def valL : List Int → Int
  | [] => 0
  | c :: l => c % 128 + 128 * valL l
theorem lead_le : ∀ l : List Int, lead l ≤ l.length
  | [] => Nat.le_refl _
  | c :: l => by
    simp only [lead]
    split
    · omega
    · have := lead_le l; simp; omega
theorem valL_bound : ∀ l : List Int, 0 ≤ valL l ∧ valL l < 128 ^ l.length
  | [] => by simp [valL]
  | c :: l => by
    have := valL_bound l
    simp only [valL, List.length_cons, Int.pow_succ]
    omega
theorem vt_rt : ∀ (r : Nat) (l : List Int), r ≤ 9 → IsB l → vt r l = if r ≤ lead l then (0, 0, 5) else if lead l = l.length then (0, 0, 4) else if l.getD (lead l) 0 = 0 ∧ (0 < lead l ∨ r < 9) then (0, 0, 3) else (valL (l.take (lead l + 1)), (lead l : Int) + 1, 0) := by
  intro r
  induction r with
  | zero => intro l _ _; rw [if_pos (by omega)]; rfl
  | succ r ih =>
    intro l hr hb
    cases l with
    | nil => rw [show lead ([] : List Int) = 0 from rfl, if_neg (by omega), if_pos (show (0 : Nat) = ([] : List Int).length from rfl)]; rfl
    | cons c l =>
      have hc := (isB_cons hb).1
      by_cases h1 : c < 128
      · have hz : lead (c :: l) = 0 := by simp only [lead]; rw [if_pos h1]
        rw [hz, if_neg (by omega), if_neg (by simp), show (c :: l).getD 0 0 = c from rfl]
        simp only [vt]
        rw [if_pos h1]
        by_cases h2 : c = 0 ∧ r < 8
        · rw [if_pos h2, if_pos ⟨h2.1, by omega⟩]
        · rw [if_neg h2, if_neg (fun h => h2 ⟨h.1, by omega⟩)]
          refine Prod.ext ?_ rfl
          simp [valL]; omega
      · have hz : lead (c :: l) = lead l + 1 := by simp only [lead]; rw [if_neg h1]
        have := ih l (by omega) (isB_cons hb).2
        rw [hz, show (c :: l).getD (lead l + 1) 0 = l.getD (lead l) 0 from rfl]
        have hv : vt (r + 1) (c :: l) = if (vt r l).2.2 = 0 then (c % 128 + 128 * (vt r l).1, (vt r l).2.1 + 1, 0) else (0, 0, (vt r l).2.2) := by
          simp only [vt]; rw [if_neg h1]
        rw [hv]
        by_cases h2 : r ≤ lead l
        · rw [if_pos h2] at this
          rw [this, if_neg (show ¬ ((5 : Int) = 0) by decide), if_pos (show r + 1 ≤ lead l + 1 by omega)]
        · rw [if_neg h2] at this
          rw [if_neg (show ¬ (r + 1 ≤ lead l + 1) by omega)]
          by_cases h3 : lead l = l.length
          · rw [if_pos h3] at this
            rw [this, if_neg (show ¬ ((4 : Int) = 0) by decide), if_pos (show lead l + 1 = (c :: l).length by simp; exact h3)]
          · rw [if_neg h3] at this
            rw [if_neg (show ¬ (lead l + 1 = (c :: l).length) by simp; exact h3)]
            by_cases h4 : l.getD (lead l) 0 = 0
            · rw [if_pos ⟨h4, by omega⟩] at this
              rw [this, if_neg (show ¬ ((3 : Int) = 0) by decide), if_pos (show l.getD (lead l) 0 = 0 ∧ (0 < lead l + 1 ∨ r + 1 < 9) from ⟨h4, by omega⟩)]
            · rw [if_neg (fun h => h4 h.1)] at this
              rw [this, if_pos rfl, if_neg (fun h => h4 h.1)]
              refine Prod.ext ?_ (Prod.ext ?_ rfl)
              · simp [valL]
              · simp only; omega
theorem lead_at : ∀ (l : List Int) (i : Nat), i < lead l → 128 ≤ l.getD i 0
  | [], i, h => by simp [lead] at h
  | c :: l, i, h => by
    simp only [lead] at h
    split at h
    · omega
    · cases i with
      | zero => simp; omega
      | succ i => simp only [List.getD_cons_succ]; exact lead_at l i (by omega)
theorem lead_stop : ∀ (l : List Int), lead l < l.length → l.getD (lead l) 0 < 128
  | [], h => by simp at h
  | c :: l, h => by
    simp only [lead] at h ⊢
    split
    · simp; omega
    · rename_i h1
      rw [if_neg h1] at h
      simp only [List.getD_cons_succ]
      exact lead_stop l (by simp at h; omega)
theorem bt_getD (s : ByteArray) (i : Nat) : bt s (i : Int) = (bytesOf s).getD i 0 := by rw [← rd_bytesOf]; rfl
theorem rtake_l1 (s : ByteArray) (p : Nat) (hp : p < s.size) (hp8 : p ≤ 8) : ∀ (d k : Nat), d ≤ p + 1 → d < k →
    juratref02_Take.l1 k s (p : Int) (valL (((bytesOf s).take (p + 1)).drop d)) ((d : Int) - 1) = some (valL ((bytesOf s).take (p + 1)), (p : Int) + 1, 0) := by
  intro d
  induction d with
  | zero =>
    intro k _ hk
    obtain ⟨k, rfl⟩ : ∃ m, k = m + 1 := ⟨k - 1, by omega⟩
    rw [juratref02_Take.l1, if_neg (by omega), List.drop_zero, jw64 (by omega) (by omega)]
  | succ d ih =>
    intro k hd hk
    obtain ⟨k, rfl⟩ : ∃ m, k = m + 1 := ⟨k - 1, by omega⟩
    have e0 : (((d + 1 : Nat) : Int) - 1) = (d : Int) := by omega
    have hc := bt_range s (d : Int)
    have hlen : ((bytesOf s).take (p + 1)).length = p + 1 := by rw [List.length_take, bytesOf_length]; omega
    have hb := valL_bound (((bytesOf s).take (p + 1)).drop (d + 1))
    rw [List.length_drop, hlen] at hb
    have hle : (128 : Int) ^ (p + 1 - (d + 1)) ≤ 128 ^ 8 := by
      have h3 : (128 : Nat) ^ (p + 1 - (d + 1)) ≤ 128 ^ 8 := Nat.pow_le_pow_right (by decide) (by omega)
      have h4 : ((128 ^ (p + 1 - (d + 1)) : Nat) : Int) ≤ ((128 ^ 8 : Nat) : Int) := by exact_mod_cast h3
      rwa [Int.natCast_pow, Int.natCast_pow] at h4
    have hstep : ((bytesOf s).take (p + 1)).drop d = bt s (d : Int) :: ((bytesOf s).take (p + 1)).drop (d + 1) := by
      rw [List.drop_eq_getElem_cons (by omega)]
      congr 1
      rw [List.getElem_take, bt_get s d (by omega)]
    have := ih k (by omega) (by omega)
    rw [hstep] at this
    simp only [valL] at this
    rw [e0, juratref02_Take.l1, if_pos (by omega), if_pos (by omega), if_pos (by omega)]
    rw [jw64 (n := bt s (d : Int)) (by omega) (by omega), Int.tmod_eq_emod_of_nonneg hc.1, jw64 (n := valL _ * 128) (by omega) (by omega), jw64 (n := (d : Int) - 1) (by omega) (by omega)]
    rw [jw64 (by omega) (by omega), Int.mul_comm _ 128, Int.add_comm]
    exact this
theorem rtake_j1 (s : ByteArray) (p : Nat) (hp : p = lead (bytesOf s)) : Ev (fun k => juratref02_Take.j1 k s (p : Int)) (vt 9 (bytesOf s)) := by
  have hb := isB_bytesOf s
  have hle := lead_le (bytesOf s)
  rw [vt_rt 9 _ (by omega) hb, ← hp]
  rw [bytesOf_length] at hle ⊢
  by_cases h9 : 9 ≤ p
  · rw [if_pos h9]
    exact ev_add 1 (fun k => by rw [juratref02_Take.j1, if_pos (by omega)])
  · rw [if_neg h9]
    by_cases hs : p = s.size
    · rw [if_pos hs]
      exact ev_add 1 (fun k => by rw [juratref02_Take.j1, if_neg (by omega), if_pos (by omega)])
    · rw [if_neg hs]
      have hc : (bytesOf s).getD p 0 = bt s (p : Int) := (bt_getD s p).symm
      rw [hc]
      have hl1 : ∀ b : Bool, b = false → Ev (fun k => juratref02_Take.j2 k s (p : Int) b) (valL ((bytesOf s).take (p + 1)), (p : Int) + 1, 0) := by
        rintro b rfl
        refine Ev.step (fun k => by rw [juratref02_Take.j2, if_neg (by decide)]) ?_
        refine ⟨p + 2, fun k hk => ?_⟩
        have := rtake_l1 s p (by omega) (by omega) (p + 1) k (by omega) (by omega)
        rw [List.drop_eq_nil_of_le (by rw [List.length_take]; omega), show (((p + 1 : Nat) : Int) - 1) = (p : Int) by omega] at this
        exact this
      by_cases h0 : bt s (p : Int) = 0
      · refine Ev.step (fun k => by rw [juratref02_Take.j1, if_neg (by omega), if_neg (by omega), if_pos (by omega), if_pos (by omega), if_pos h0]) ?_
        by_cases hp0 : 0 < p
        · rw [if_pos ⟨h0, by omega⟩]
          exact ev_add 1 (fun k => by rw [juratref02_Take.j2, if_pos (by simp; omega)])
        · rw [if_neg (fun h => by omega)]
          exact hl1 _ (by simp; omega)
      · rw [if_neg (fun h => h0 h.1)]
        refine Ev.step (fun k => by rw [juratref02_Take.j1, if_neg (by omega), if_neg (by omega), if_pos (by omega), if_pos (by omega), if_neg h0]) ?_
        exact hl1 _ rfl
theorem rtake_l0 (s : ByteArray) (hs : s.size ≤ 140737488351232) : ∀ (d i : Nat), i + d = lead (bytesOf s) → Ev (fun k => juratref02_Take.l0 k s (i : Int)) (vt 9 (bytesOf s)) := by
  have hle := lead_le (bytesOf s)
  rw [bytesOf_length] at hle
  intro d
  induction d with
  | zero =>
    intro i hi
    by_cases hl : i < s.size
    · have hst := lead_stop (bytesOf s) (by rw [bytesOf_length]; omega)
      rw [← bt_getD] at hst
      refine Ev.step (fun k => by rw [juratref02_Take.l0, if_pos (by omega), if_pos (by omega), if_neg (by rw [show i = lead (bytesOf s) by omega]; omega)]) ?_
      exact rtake_j1 s i (by omega)
    · refine Ev.step (fun k => by rw [juratref02_Take.l0, if_neg (by omega)]) ?_
      exact rtake_j1 s i (by omega)
  | succ d ih =>
    intro i hi
    have hat := lead_at (bytesOf s) i (by omega)
    rw [← bt_getD] at hat
    refine Ev.step (fun k => by rw [juratref02_Take.l0, if_pos (by omega), if_pos (by omega), if_pos (by omega), jw64 (n := (i : Int) + 1) (by omega) (by omega), show (i : Int) + 1 = ((i + 1 : Nat) : Int) from rfl]) ?_
    exact ih (i + 1) (by omega)
theorem rtake_ev (s : ByteArray) (hs : s.size ≤ 140737488351232) : Ev (fun k => juratref02_Take.f k s) (vt 9 (bytesOf s)) := rtake_l0 s hs (lead (bytesOf s)) 0 (by omega)
end Go.Proofs.Ytejcopppchaneaa.Pure
