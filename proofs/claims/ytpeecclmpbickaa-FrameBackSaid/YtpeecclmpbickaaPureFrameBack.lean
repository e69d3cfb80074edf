/- What is proved: what frame.Join joined is split as it was, and no other bytes lead there; of bytes that are cut off just the whole frames are told (of at most 20 frames of at most 500 bytes each, and of at most 2,000 bytes; of others only the chapter's example is asked). Conditions: none beyond the row's own. -/
import Derived.Test.YtpeecclmpbickaaFBack
import Derived.Test.YtpeecclmpbickaaFFrameR
import Derived.Test.YtpeecclmpbickaaDefFrameBack
namespace Go.Proofs.Ytpeecclmpbickaa.Pure
open Go.RowKit Go.Proofs.YtpeecclmpbickaaW.PrintWords Go.Proofs.YtpeecclmpbickaaW.PrintLast Go.Proofs.YtpeecclmpbickaaW.PrintMore Go.Proofs.Ytpeecclmpbickaa.PF
theorem sameR_ev (m : List (Int × ByteArray)) (hm : m.length ≤ 1000000000) : Ev (fun k => juratlaw04_same.f k (m.map toF) (m.map toR)) true := same_ev m hm
theorem flatF_mem : ∀ (m : List (Int × ByteArray)) (x : Int × ByteArray), x ∈ m → (bytesOf (fp x.1 x.2).1).length ≤ (flatF m).length
  | y :: r, x, h => by
    have h4 : flatF (y :: r) = bytesOf (fp y.1 y.2).1 ++ flatF r := rfl
    rw [h4, List.length_append]
    rcases List.mem_cons.1 h with h | h
    · rw [h]; omega
    · have := flatF_mem r x h; omega
theorem back_j2 (s : ByteArray) (hs : s.size ≤ 2000) : Ev (fun k => juratlaw04_FrameBack.j2 k s) true := by
  refine Ev.step (fun k => by rw [juratlaw04_FrameBack.j2]) ?_
  refine Ev.bind (fsplit_ev s (by omega)) ?_
  by_cases h : (spl (s.size + 1) s [] 0).2.2 = 0
  · refine Ev.congr (fun k => by rw [if_pos h]) ?_
    have hb := spl_back (s.size + 1) s [] 0 (fun x hx => by cases hx) (by simp [flatF]) (by omega) (by omega) h
    have hlen := spl_len s (s.size + 1) [] 0 (by simp) (by omega)
    have hbd : ∀ x ∈ (spl (s.size + 1) s [] 0).1, x.2.size ≤ 3000 := by
      intro x hx
      have h1 := fp_bytes (hb.1 x hx)
      have h2 : (bytesOf (fp x.1 x.2).1).length ≤ (flatF (spl (s.size + 1) s [] 0).1).length := by
        exact flatF_mem _ x hx
      rw [hb.2, h1] at h2
      simp [bytesOf_length] at h2
      omega
    refine Ev.bind (join_ev _ hbd (by omega)) ?_
    rw [jn_ok _ _ hb.1, List.nil_append, hb.2, strOfNums_bytesOf]
    refine Ev.congr (fun k => by rw [if_pos rfl, if_pos rfl]) ?_
    exact Ev.bind awake04_ev (Ev.now _)
  · refine Ev.congr (fun k => by rw [if_neg h]) ?_
    have he : (spl (s.size + 1) s [] 0).1 = [] := by
      have key : ∀ (d : Nat) (acc : List (Int × ByteArray)) (i : Nat), (spl d s acc i).2.2 ≠ 0 → (spl d s acc i).1 = [] := by
        intro d
        induction d with
        | zero => intro acc i h; simp [spl] at h
        | succ d ih =>
          intro acc i
          simp only [spl]
          split
          · split
            · exact ih _ _
            · intro _; rfl
          · intro h; exact absurd rfl h
      exact key _ _ _ h
    rw [he]
    refine Ev.congr (fun k => by rw [if_pos (by rfl)]) ?_
    exact Ev.bind awake04_ev (Ev.now _)
theorem jand16383 (x : Int) : 0 ≤ Go.bits .and .i64 x 16383 := by
  have h2 : Go.bits .and .i64 x 16383 = IntKind.i64.wrap ((BitVec.ofInt 64 x &&& BitVec.ofInt 64 16383).toNat : Int) := rfl
  have h3 : (BitVec.ofInt 64 x &&& BitVec.ofInt 64 16383).toNat ≤ 16383 := by
    rw [BitVec.toNat_and]
    exact Nat.le_trans Nat.and_le_right (by decide)
  rw [h2, IntKind.wrap_i64]
  omega
theorem back_j1 (m : List (Int × ByteArray)) (hm : ∀ x ∈ m, okF x) (s : ByteArray) (hs : s.size ≤ 2000) (cut : Int) (hl : (flatF m).length ≤ 100000000) (b : Bool) (hb : b = false) :
    Ev (fun k => juratlaw04_FrameBack.j1 k s cut (strOfNums (flatF m)) b) true := by
  subst hb
  refine Ev.step (fun k => by rw [juratlaw04_FrameBack.j1, if_neg (by decide)]) ?_
  have h0 := jand16383 cut
  generalize Go.bits .and .i64 cut 16383 = c at h0
  by_cases h : c < ((strOfNums (flatF m)).size : Int)
  · refine Ev.congr (fun k => by rw [if_pos h, if_pos h0, if_pos (by omega)]) ?_
    have hsz := strOfNums_size (flatF m)
    have hes : ((strOfNums (flatF m)).extract 0 c.toNat).size = c.toNat := by rw [size_extract' _ _ _ (by omega)]; omega
    refine Ev.bind (fsplit_ev _ (by omega)) ?_
    have hcut := spl_cut m (((strOfNums (flatF m)).extract 0 c.toNat).size + 1) ((strOfNums (flatF m)).extract 0 c.toNat) [] 0 c.toNat hm (by rw [List.drop_zero, bytesOf_extract, List.drop_zero, bytesOf_strOfNums (isB_flatF m)]) (by omega) (by omega)
    rcases hcut with h1 | h1
    · refine Ev.congr (fun k => by rw [if_pos h1]) ?_
      exact back_j2 s hs
    · refine Ev.congr (fun k => by rw [if_neg (by rw [h1.1]; decide), if_pos h1.1, if_neg (by have := h1.2; simp only; omega)]) ?_
      exact back_j2 s hs
  · refine Ev.congr (fun k => by rw [if_neg h]) ?_
    exact back_j2 s hs
theorem flatF_len : ∀ (m : List (Int × ByteArray)), (∀ x ∈ m, x.2.size ≤ 500) → (flatF m).length ≤ 510 * m.length
  | [], _ => by simp [flatF]
  | x :: r, h => by
    have h1 := flatF_len r (fun y hy => h y (List.mem_cons_of_mem _ hy))
    have h2 := h x (List.mem_cons_self ..)
    have h3 := fp_size x
    have h4 : flatF (x :: r) = bytesOf (fp x.1 x.2).1 ++ flatF r := rfl
    rw [h4, List.length_append, bytesOf_length, List.length_cons]
    omega
theorem FrameBack : juratlaw04_FrameBack.Pure := by
  intro l s cut _ _ _
  refine Ev.rounds ?_
  unfold juratlaw04_FrameBack.f
  obtain ⟨m, hm⟩ : ∃ m, m = l.map ofR := ⟨_, rfl⟩
  have hl : l = m.map toR := by rw [hm, map_ofR]
  rw [hl]
  have hj0 : ∀ b : Bool, b = true → Ev (fun k => juratlaw04_FrameBack.j0 k (m.map toR) s cut b) true := by
    rintro b rfl
    refine Ev.step (fun k => by rw [juratlaw04_FrameBack.j0, if_pos rfl]) ?_
    exact Ev.bind awake04_ev (Ev.now _)
  obtain ⟨b, hb, hq⟩ := few_ev m
  refine Ev.bind hb ?_
  cases b with
  | false => exact Ev.congr (fun k => by rw [if_neg (by decide)]) (hj0 true rfl)
  | true =>
    obtain ⟨h1, h2⟩ := hq rfl
    refine Ev.congr (fun k => by rw [if_pos rfl]) ?_
    by_cases hs2 : (s.size : Int) > 2000
    · exact hj0 _ (by simp; omega)
    · have hd : decide ((s.size : Int) > 2000) = false := by simp; omega
      rw [hd]
      refine Ev.step (fun k => by rw [juratlaw04_FrameBack.j0, if_neg (by decide)]) ?_
      have h3 : ∀ x ∈ m, x.2.size ≤ 3000 := fun x hx => by have := h2 x hx; omega
      refine Ev.bind (mine_ev m h1) (Ev.bind (join_ev m h3 (by omega)) ?_)
      by_cases h0 : (jn m []).2 = 0
      · have hok := jn_zero m [] h0
        have hfl := flatF_len m h2
        rw [jn_ok m [] hok, List.nil_append]
        refine Ev.congr (fun k => by rw [if_pos rfl]) ?_
        have hsz := strOfNums_size (flatF m)
        refine Ev.bind (fsplit_ev (strOfNums (flatF m)) (by omega)) ?_
        rw [spl_join m ((strOfNums (flatF m)).size + 1) (strOfNums (flatF m)) [] 0 hok (by rw [List.drop_zero, bytesOf_strOfNums (isB_flatF m)]) (by omega) (by omega), List.nil_append]
        refine Ev.bind (sameR_ev m (by omega)) ?_
        refine Ev.congr (fun k => by rw [if_pos rfl, if_pos rfl]) ?_
        exact back_j1 m hok s (by omega) cut (by omega) _ rfl
      · refine Ev.congr (fun k => by rw [if_neg h0]) ?_
        exact back_j2 s (by omega)
end Go.Proofs.Ytpeecclmpbickaa.Pure
