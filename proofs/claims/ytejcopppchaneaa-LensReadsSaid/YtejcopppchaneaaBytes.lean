/- Plain lemmas of this session (Bytes): numbers, bytes and lists. -/
import Derived.Test.YtejcopppchaneaaWMore
import Derived.Test.YtejcopppchaneaaWLast
import Derived.Laws.BitsLemmas
namespace Go.Proofs.Ytejcopppchaneaa.Pure
open Go.RowKit Go.Proofs.YtejcopppchaneaaW.PrintWords Go.Proofs.YtejcopppchaneaaW.PrintLast Go.Proofs.YtejcopppchaneaaW.PrintMore
/-! ### numbers -/
theorem jw64 {n : Int} (h0 : -9223372036854775808 ≤ n) (h1 : n < 9223372036854775808) : wrap64 n = n := by unfold wrap64; omega
theorem jwu64 {n : Int} : IntKind.u64.wrap n = n % 18446744073709551616 := by
  simp [IntKind.wrap, IntKind.bits, IntKind.signed]
theorem jwraps_u64 (n : Int) (h₀ : 0 ≤ n) (h₁ : n < 2 ^ 64) : IntKind.u64.wrap n = n := by rw [jwu64]; omega
theorem jwraps_i64 (n : Int) (h₀ : 0 ≤ n) (h₁ : n < 2 ^ 63) : IntKind.i64.wrap n = n := by
  rw [IntKind.wrap_i64]; omega
theorem jand32 {x : Int} (h0 : 0 ≤ x) (h1 : x < 18446744073709551616) : Go.bits .and .u64 x 4294967295 = x % 4294967296 :=
  bits_mask .u64 64 (by decide) jwraps_u64 32 (by decide) x h0 (by omega)
theorem jand1 {x : Int} (h0 : 0 ≤ x) (h1 : x < 9223372036854775808) : Go.bits .and .i64 x 1 = x % 2 :=
  bits_mask .i64 63 (by decide) jwraps_i64 1 (by decide) x h0 (by omega)
theorem jwf64 {a : Int} (h : (Lit.int .i64 a).wf = true) : -9223372036854775808 ≤ a ∧ a < 9223372036854775808 := by
  have h' : IntKind.i64.min ≤ a ∧ a ≤ IntKind.i64.max := by simpa [Lit.wf] using h
  have e1 : IntKind.i64.min = -9223372036854775808 := by decide
  have e2 : IntKind.i64.max = 9223372036854775807 := by decide
  omega
theorem ev_is {α : Type} {g : Nat → Option α} {r : α} (h : ∀ k, g k = some r) : Ev g r := ⟨0, fun k _ => h k⟩
theorem ev_add {α : Type} {g : Nat → Option α} {r : α} (n : Nat) (h : ∀ k, g (k + n) = some r) : Ev g r := ⟨n, fun k hk => by rw [show k = (k - n) + n by omega]; exact h _⟩
/-! ### bytes as lists of numbers -/
def IsB (l : List Int) : Prop := ∀ x ∈ l, 0 ≤ x ∧ x ≤ 255
theorem isB_bytesOf (s : ByteArray) : IsB (bytesOf s) := by
  intro x hx
  unfold bytesOf at hx
  obtain ⟨b, _, rfl⟩ := List.mem_map.1 hx
  have := b.toNat_lt
  omega
theorem isB_cons {c : Int} {l : List Int} (h : IsB (c :: l)) : (0 ≤ c ∧ c ≤ 255) ∧ IsB l := ⟨h c (List.mem_cons_self ..), fun x hx => h x (List.mem_cons_of_mem _ hx)⟩
theorem isB_append {a b : List Int} (ha : IsB a) (hb : IsB b) : IsB (a ++ b) := by
  intro x hx
  rcases List.mem_append.1 hx with h | h
  · exact ha x h
  · exact hb x h
theorem isB_drop {l : List Int} (h : IsB l) (i : Nat) : IsB (l.drop i) := fun x hx => h x (List.mem_of_mem_drop hx)
theorem isB_take {l : List Int} (h : IsB l) (i : Nat) : IsB (l.take i) := fun x hx => h x (List.mem_of_mem_take hx)
theorem bytesOf_append (a b : ByteArray) : bytesOf (a ++ b) = bytesOf a ++ bytesOf b := by simp [bytesOf]
theorem bytesOf_extract (a : ByteArray) (i j : Nat) : bytesOf (a.extract i j) = ((bytesOf a).take j).drop i := by
  simp [bytesOf, List.map_drop, List.map_take, List.drop_take]
theorem bytesOf_inj {a b : ByteArray} (h : bytesOf a = bytesOf b) : a = b := by
  have h2 : a.data.toList = b.data.toList := by
    unfold bytesOf at h
    refine List.map_inj_right (f := fun b : UInt8 => (b.toNat : Int)) ?_ |>.1 h
    intro x y hxy
    exact UInt8.toNat_inj.1 (by omega)
  have h3 : a.data = b.data := by rw [← Array.toArray_toList (xs := a.data), h2, Array.toArray_toList]
  cases a; cases b; simp at h3; rw [h3]
theorem bytesOf_strOfNums {l : List Int} (h : IsB l) : bytesOf (strOfNums l) = l := by
  unfold bytesOf
  rw [strOfNums_data, List.map_map]
  conv => rhs; rw [← List.map_id l]
  refine List.map_congr_left (fun x hx => ?_)
  have := h x hx
  simp only [Function.comp, id, UInt8.toNat_ofNat']
  omega
theorem strOfNums_bytesOf (s : ByteArray) : strOfNums (bytesOf s) = s := bytesOf_inj (bytesOf_strOfNums (isB_bytesOf s))
theorem strOfNums_append {a b : List Int} (ha : IsB a) (hb : IsB b) : strOfNums (a ++ b) = strOfNums a ++ strOfNums b :=
  bytesOf_inj (by rw [bytesOf_strOfNums (isB_append ha hb), bytesOf_append, bytesOf_strOfNums ha, bytesOf_strOfNums hb])
theorem bt_get (s : ByteArray) (i : Nat) (h : i < s.size) : bt s (i : Int) = (bytesOf s)[i]'(by rw [bytesOf_length]; exact h) := by
  rw [← rd_bytesOf]
  unfold rd
  rw [List.getD_eq_getElem?_getD, Int.toNat_natCast, List.getElem?_eq_getElem (by rw [bytesOf_length]; exact h)]
  rfl
theorem drop_cons (s : ByteArray) (i : Nat) (h : i < s.size) : (bytesOf s).drop i = bt s (i : Int) :: (bytesOf s).drop (i + 1) := by
  rw [bt_get s i h]
  exact List.drop_eq_getElem_cons _
/-! ### numbers as bytes: the plain law -/
def vput (n : Nat) : List Int := if n < 128 then [(n : Int)] else ((n % 128 + 128 : Nat) : Int) :: vput (n / 128)
termination_by n
decreasing_by omega
theorem vput_small {n : Nat} (h : n < 128) : vput n = [(n : Int)] := by rw [vput, if_pos h]
theorem vput_big {n : Nat} (h : ¬ n < 128) : vput n = ((n % 128 + 128 : Nat) : Int) :: vput (n / 128) := by rw [vput, if_neg h]
theorem isB_vput : ∀ (n : Nat), IsB (vput n) := by
  intro n
  induction n using Nat.strongRecOn with
  | _ n ih =>
    by_cases h : n < 128
    · rw [vput_small h]
      intro x hx
      rw [List.mem_singleton] at hx
      omega
    · rw [vput_big h]
      intro x hx
      rcases List.mem_cons.1 hx with hx | hx
      · omega
      · exact ih (n / 128) (by omega) x hx
theorem vput_pos (n : Nat) : 0 < (vput n).length := by
  by_cases h : n < 128
  · rw [vput_small h]; simp
  · rw [vput_big h]; simp
theorem vput_len : ∀ (m n : Nat), n < 128 ^ (m + 1) → (m = 0 ∨ 128 ^ m ≤ n) → (vput n).length = m + 1 := by
  intro m
  induction m with
  | zero => intro n h _; rw [vput_small (by omega)]; rfl
  | succ m ih =>
    intro n h1 h2
    have h3 : 128 ^ (m + 1) ≤ n := by rcases h2 with h2 | h2; · omega
                                      · exact h2
    have hp : 0 < 128 ^ m := Nat.pow_pos (by decide)
    rw [Nat.pow_succ] at h1 h3
    rw [vput_big (by omega), List.length_cons, ih (n / 128) (by rw [Nat.div_lt_iff_lt_mul (by decide)]; exact h1) ?_]
    refine .inr ?_
    rw [Nat.le_div_iff_mul_le (by decide)]; exact h3
theorem vput_le : ∀ (m n : Nat), n < 128 ^ (m + 1) → (vput n).length ≤ m + 1 := by
  intro m
  induction m with
  | zero => intro n h; rw [vput_small (by omega)]; simp
  | succ m ih =>
    intro n h1
    by_cases h : n < 128
    · rw [vput_small h]; simp
    · rw [Nat.pow_succ] at h1
      have := ih (n / 128) (by rw [Nat.div_lt_iff_lt_mul (by decide)]; exact h1)
      rw [vput_big h, List.length_cons]
      omega
theorem vput_nine {n : Nat} (h : n < 9223372036854775808) : (vput n).length ≤ 9 := vput_le 8 n (by omega)
theorem vput_mono : ∀ (n m : Nat), m ≤ n → (vput m).length ≤ (vput n).length := by
  intro n
  induction n using Nat.strongRecOn with
  | _ n ih =>
    intro m h
    by_cases hm : m < 128
    · rw [vput_small hm]
      have := vput_pos n
      simp; omega
    · rw [vput_big hm, vput_big (n := n) (by omega), List.length_cons, List.length_cons]
      have := ih (n / 128) (by omega) (m / 128) (Nat.div_le_div_right h)
      omega
/-- A number's bytes; of one below 0 none. -/
def vp (n : Int) : List Int := if n < 0 then [] else vput n.toNat
theorem isB_vp (n : Int) : IsB (vp n) := by
  unfold vp
  split
  · intro x hx; cases hx
  · exact isB_vput _
theorem vp_nat (n : Nat) : vp (n : Int) = vput n := by unfold vp; rw [if_neg (by omega), Int.toNat_natCast]
theorem vp_nine {n : Int} (h : n < 9223372036854775808) : (vp n).length ≤ 9 := by
  unfold vp
  split
  · simp
  · exact vput_nine (by omega)
theorem vp_mono {n m : Int} (h : m ≤ n) : (vp m).length ≤ (vp n).length := by
  unfold vp
  by_cases hm : m < 0
  · rw [if_pos hm]; simp
  · rw [if_neg hm, if_neg (by omega)]
    exact vput_mono _ _ (by omega)
/-- What is taken: the number, how many bytes, what is wrong. -/
def vt : Nat → List Int → Int × Int × Int
  | 0, _ => (0, 0, 5)
  | _ + 1, [] => (0, 0, 4)
  | r + 1, c :: l => if c < 128 then (if c = 0 ∧ r < 8 then (0, 0, 3) else (c, 1, 0)) else if (vt r l).2.2 = 0 then (c % 128 + 128 * (vt r l).1, (vt r l).2.1 + 1, 0) else (0, 0, (vt r l).2.2)
theorem vt_err : ∀ (r : Nat) (l : List Int), (vt r l).2.2 ≠ 0 → (vt r l).1 = 0 ∧ (vt r l).2.1 = 0 := by
  intro r l
  cases r with
  | zero => intro _; exact ⟨rfl, rfl⟩
  | succ r =>
    cases l with
    | nil => intro _; exact ⟨rfl, rfl⟩
    | cons c l =>
      simp only [vt]
      split
      · split
        · intro _; exact ⟨rfl, rfl⟩
        · intro h; exact absurd rfl h
      · split
        · intro h; exact absurd rfl h
        · intro _; exact ⟨rfl, rfl⟩
theorem vt_eta {r : Nat} {l : List Int} (h : (vt r l).2.2 ≠ 0) : vt r l = (0, 0, (vt r l).2.2) := by
  have := vt_err r l h
  refine Prod.ext this.1 (Prod.ext this.2 rfl)
theorem vt_codes : ∀ (r : Nat) (l : List Int), (vt r l).2.2 = 0 ∨ (vt r l).2.2 = 3 ∨ (vt r l).2.2 = 4 ∨ (vt r l).2.2 = 5 := by
  intro r
  induction r with
  | zero => intro l; simp [vt]
  | succ r ih =>
    intro l
    cases l with
    | nil => simp [vt]
    | cons c l =>
      simp only [vt]
      split
      · split <;> simp
      · split
        · simp
        · exact ih l
/-- What is taken whole: its bounds. -/
theorem vt_ok : ∀ (r : Nat) (l : List Int), IsB l → (vt r l).2.2 = 0 → 0 ≤ (vt r l).1 ∧ (vt r l).1 < (128 : Int) ^ r ∧ 1 ≤ (vt r l).2.1 ∧ (vt r l).2.1 ≤ l.length ∧ (vt r l).2.1 ≤ r ∧ (r ≤ 8 → 0 < (vt r l).1) := by
  intro r
  induction r with
  | zero => intro l _ h; simp [vt] at h
  | succ r ih =>
    intro l hb
    cases l with
    | nil => intro h; simp [vt] at h
    | cons c l =>
      have hc := (isB_cons hb).1
      have hp : (0 : Int) < 128 ^ r := Int.pow_pos (by decide)
      have hp2 : (128 : Int) ^ (r + 1) = 128 ^ r * 128 := Int.pow_succ _ _
      simp only [vt]
      split
      · split
        · intro h; simp at h
        · rename_i h1 h2
          intro _
          simp only [List.length_cons]
          refine ⟨hc.1, by omega, by omega, by omega, by omega, fun h => ?_⟩
          rcases Int.lt_or_eq_of_le hc.1 with h3 | h3
          · exact h3
          · exact absurd ⟨h3.symm, by omega⟩ h2
      · rename_i h1
        split
        · rename_i h2
          intro _
          have := ih l (isB_cons hb).2 h2
          simp only [List.length_cons]
          refine ⟨by omega, ?_, by omega, by omega, by omega, fun h => ?_⟩
          · rw [hp2]; omega
          · have := this.2.2.2.2.2 (by omega); omega
        · rename_i h2
          intro h; exact absurd h h2
/-- Bytes that are taken are those that are put. -/
theorem vt_back : ∀ (r : Nat) (l : List Int), r ≤ 9 → IsB l → (vt r l).2.2 = 0 → vput (vt r l).1.toNat = l.take (vt r l).2.1.toNat := by
  intro r
  induction r with
  | zero => intro l _ _ h; simp [vt] at h
  | succ r ih =>
    intro l hr hb
    cases l with
    | nil => intro h; simp [vt] at h
    | cons c l =>
      have hc := (isB_cons hb).1
      simp only [vt]
      split
      · split
        · intro h; simp at h
        · intro _
          simp only
          rw [vput_small (by omega), Int.toNat_of_nonneg hc.1]
          rfl
      · rename_i h1
        split
        · rename_i h2
          intro _
          have h3 := vt_ok r l (isB_cons hb).2 h2
          have h4 := ih l (by omega) (isB_cons hb).2 h2
          have h5 := h3.2.2.2.2.2 (by omega)
          obtain ⟨y, hy⟩ := Int.eq_ofNat_of_zero_le h3.1
          obtain ⟨j, hj⟩ := Int.eq_ofNat_of_zero_le (show 0 ≤ (vt r l).2.1 by omega)
          simp only
          rw [hy, hj] at h4 ⊢
          rw [hy] at h5
          simp only [Int.toNat_natCast] at h4
          rw [vput_big (by omega)]
          rw [show ((c % 128 + 128 * (y : Int)).toNat / 128) = y by omega, h4, show ((j : Int) + 1).toNat = j + 1 by omega, List.take_succ_cons]
          congr 1
          omega
        · rename_i h2
          intro h; exact absurd h h2
/-- What was put is taken as it was. -/
theorem vt_put : ∀ (r n : Nat) (s : List Int), 1 ≤ r → r ≤ 9 → n < 128 ^ r → (r < 9 → 0 < n) → vt r (vput n ++ s) = ((n : Int), ((vput n).length : Int), 0) := by
  intro r
  induction r with
  | zero => intro n s h; omega
  | succ r ih =>
    intro n s _ hr hn hz
    by_cases h : n < 128
    · rw [vput_small h]
      simp only [List.singleton_append, vt]
      rw [if_pos (by omega), if_neg (by omega)]
      rfl
    · rw [vput_big h, List.cons_append]
      simp only [vt]
      rw [Nat.pow_succ] at hn
      have hr1 : 1 ≤ r := by
        rcases Nat.eq_zero_or_pos r with h0 | h0
        · subst h0; simp at hn; omega
        · exact h0
      rw [ih (n / 128) s hr1 (by omega) (by rw [Nat.div_lt_iff_lt_mul (by decide)]; exact hn) (by omega)]
      rw [if_neg (by omega), if_pos rfl]
      simp only [List.length_cons]
      refine Prod.ext ?_ (Prod.ext ?_ rfl)
      · simp only; omega
      · simp only; omega
theorem vt_vput {n : Nat} (h : n < 9223372036854775808) (s : List Int) : vt 9 (vput n ++ s) = ((n : Int), ((vput n).length : Int), 0) := vt_put 9 n s (by omega) (by omega) (by omega) (by omega)
end Go.Proofs.Ytejcopppchaneaa.Pure
