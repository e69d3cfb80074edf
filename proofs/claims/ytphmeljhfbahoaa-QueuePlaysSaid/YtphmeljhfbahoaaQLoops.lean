/- The queue's Fill, Drain and Merge; the chapter's example. -/
import Derived.Test.YtphmeljhfbahoaaQMeth
import Derived.Test.YtphmeljhfbahoaaPQx3
import Derived.Deep.LoopGhost
set_option linter.unusedVariables false
set_option linter.unusedSimpArgs false
namespace Go.Proofs.Ytphmeljhfbahoaa.PQ
open Go.Conc Go.RowKit Go.Proofs.YtphmeljhfbahoaaW.PrintWords Go.Proofs.YtphmeljhfbahoaaW.PrintLast Go.Proofs.YtphmeljhfbahoaaW.PrintMore
/-- What a step of a queue keeps of Below. -/
def Fam (base : Nat) (w w' : World) : Prop := ∀ B w0, B ≤ base → B ≤ w.heap.size → Below B w0 w → Below B w0 w'
theorem Fam.then_ {base : Nat} {w w1 w2 : World} (h : Fam base w w1) (hle : w.heap.size ≤ w1.heap.size) (k : Fam base w1 w2) : Fam base w w2 :=
  fun B w0 h1 h2 h3 => k B w0 h1 (Nat.le_trans h2 hle) (h B w0 h1 h2 h3)
theorem Fam.alloc (base : Nat) (w : World) (o : Obj) : Fam base w (w.alloc o) := fun B w0 _ h2 h3 => h3.alloc h2 o
theorem Fam.below {base : Nat} {w w1 : World} (h : Below w.heap.size w w1) : Fam base w w1 := fun B w0 h1 h2 h3 => h3.trans (h.mono h2)
theorem Fam.refl (base : Nat) (w : World) : Fam base w w := fun _ _ _ _ h => h
theorem QAt.grown {W W2 : World} {base g c cap : Nat} {l : List S34} {closed : Bool} {row : Option Nat} {n : Nat} (hq : QAt W base g c cap l closed) (hg : W.grownBy W2 row) (hr : ∀ k, row = some k → n ≤ k) (h1 : g < n) (h2 : c < n) : QAt W2 base g c cap l closed :=
  hq.kept (Kept.of_grown hg (Kept.refl W (fun k => n ≤ k)) (fun k e => .inl (hr k e))) (by omega) (by omega)
section
variable (base g c cap : Nat) (q : List S34) (w : World) (hQ : QAt w base g c cap q false) (A : Option Addr) (cp : Nat) (xs : List S34) (hx : ∀ W', Kept w W' (fun k => k = c) → Kd.C k34 W' A xs.length xs) (hl : xs.length ≤ 5000)
include hQ hx hl
set_option maxHeartbeats 4000000 in
theorem queue_Fill.calls_ (n : Nat) (hn : n = min xs.length (cap - q.length)) (hcap : q.length ≤ cap) : Calls Try.prog 16 #[.pointer (some ⟨g, 0, none⟩), .slice A xs.length cp] w fun e w' => e = .returned (.int .i64 (n : Int)) ∧ QAt w' base g c cap (q ++ xs.take n) false ∧ Kept w w' (fun k => k = c) ∧ Fam base w w' := by
  have HQ := Aside0.mk hQ
  have HX := Aside0.mk hx
  have HN := Aside0.mk hn
  clear hQ hx hn
  go_enter Try.func16, Try.ntmps16
  go_wp2
  go_loopw [9] (fun v9 wr => ∃ j : Nat, j ≤ xs.length ∧ v9 = .int .i64 (j : Int) ∧ Aside0 (q.length + j ≤ cap) ∧ Aside0 (QAt wr base g c cap (q ++ xs.take j) false) ∧ Aside0 (Kept w wr (fun k => k = c)) ∧ Aside0 (Fam base w wr)) (fun i _ => xs.length - (intOf i).toNat)
  case atStart => exact ⟨0, Nat.zero_le _, rfl, ⟨by omega⟩, ⟨by simpa using HQ.out⟩, ⟨Kept.refl _ _⟩, ⟨Fam.refl _ _⟩⟩
  case round =>
    obtain ⟨j, hj, rfl, L, Q, K, F⟩ := hrel
    by_cases hlt : j < xs.length
    · obtain ⟨ad, eA, hc0, hc1⟩ := at_T34 (HX.out _ K.out) (j : Int) (by omega) (by omega)
      subst eA
      simp only [Int.toNat_natCast] at hc0 hc1
      have hrd : rd_T34 xs (j : Int) = xs[j] := by simp [rd_T34, List.getD_eq_getElem?_getD, List.getElem?_eq_getElem hlt]
      rw [hrd] at hc0 hc1
      have T := Aside0.mk (show q ++ xs.take (j + 1) = (q ++ xs.take j) ++ [xs[j]] by rw [List.take_succ_eq_append_getElem hlt, List.append_assoc])
      have TL := Aside0.mk (show (q ++ xs.take j).length = q.length + j by simp; omega)
      clear hrd
      generalize xs[j] = y at hc0 hc1 T
      have hn0 := World.new_ne wr _ hc0
      have hn1 := World.new_ne wr _ hc1
      by_cases hr : q.length + j < cap
      · go_upto_region 4 with fail
        have Q1 := Aside0.mk (Q.out.below (below_alloc (Below.refl _ _) (.cells #[.int .i64 y.f0, .int .i64 y.f1] 34)))
        have K1 := Aside0.mk (K.out.alloc (.cells #[.int .i64 y.f0, .int .i64 y.f1] 34))
        have F1 := Aside0.mk (F.out.then_ K.out.1 (Fam.alloc base wr (.cells #[.int .i64 y.f0, .int .i64 y.f1] 34)))
        go_wp2_with (first | (go_at_call 14; (refine (queue_Put.room base g c cap _ y _ Q1.out (by rw [TL.out]; exact hr)).mono ?_); rintro e w5 ⟨rfl, hq5, hk5, hf5⟩; have Q2 := Aside0.mk hq5; have K2 := Aside0.mk (K1.out.then_ hk5 (fun _ h => .inl h)); have F2 : Aside0 (Fam base w w5) := ⟨F1.out.then_ K1.out.1 hf5⟩; clear hq5 hk5 hf5) | fail)
        go_roundw
        case rel => exact ⟨j + 1, by omega, by go_num, ⟨by omega⟩, ⟨by rw [T.out]; exact Q2.out⟩, K2, F2⟩
        case measure => simp [intOf]; omega
      · have hnj : n = j := by rw [HN.out]; have := L.out; omega
        subst hnj
        go_upto_region 4 with fail
        have Q1 := Aside0.mk (Q.out.below (below_alloc (Below.refl _ _) (.cells #[.int .i64 y.f0, .int .i64 y.f1] 34)))
        have K1 := Aside0.mk (K.out.alloc (.cells #[.int .i64 y.f0, .int .i64 y.f1] 34))
        have F1 := Aside0.mk (F.out.then_ K.out.1 (Fam.alloc base wr (.cells #[.int .i64 y.f0, .int .i64 y.f1] 34)))
        go_wp2_with (first | (go_at_call 14; (refine (queue_Put.full base g c cap _ y _ Q1.out (by rw [TL.out]; omega)).mono ?_); rintro e w5 ⟨rfl, hq5, hk5, hf5⟩; have Q2 := Aside0.mk hq5; have K2 := Aside0.mk (K1.out.then_ hk5 (fun _ h => .inl h)); have F2 : Aside0 (Fam base w w5) := ⟨F1.out.then_ K1.out.1 hf5⟩; clear hq5 hk5 hf5) | fail)
        refine bodyPost_ret (v := .int .i64 (n : Int)) (by simp [results, Try.results16, go_sem]) rfl ?_
        exact ⟨rfl, Q2.out, K2.out, F2.out⟩
    · have hnj : n = xs.length := by rw [HN.out]; have := L.out; omega
      have hjj : j = xs.length := by omega
      subst hnj
      subst hjj
      go_wp2
      refine bodyPost_ret (v := .int .i64 (xs.length : Int)) (by simp [results, Try.results16, go_sem]) rfl ?_
      exact ⟨rfl, Q.out, K.out, F.out⟩
end
theorem queue_Fill.over (base g c cap : Nat) (q : List S34) (A : Option Addr) (cp : Nat) (xs : List S34) (w : World) (hQ : QAt w base g c cap q true) (hx : Kd.C k34 w A xs.length xs) (hc : xs.length ≤ cp) (hl : xs.length ≤ 5000) : Calls Try.prog 16 #[.pointer (some ⟨g, 0, none⟩), .slice A xs.length cp] w fun e w' => e = .returned (.int .i64 0) ∧ Below w.heap.size w w' := by
  by_cases h0 : xs.length = 0
  · obtain rfl := List.eq_nil_of_length_eq_zero h0
    clear hx hc hl h0 hQ
    go_enter Try.func16, Try.ntmps16
    go_wp2
    go_loop [9] (fun v9 => v9 = .int .i64 0) (fun _ => 0)
    case atStart => rfl
    case round =>
      subst hrel
      go_wp2
      go_ret
      exact ⟨rfl, Below.refl _ _⟩
  · obtain ⟨ad, e, hc0, hc1⟩ := at_T34 hx 0 (Int.le_refl _) (by omega)
    subst e
    have ea : ad.add 0 = ad := by simp [Addr.add]
    simp only [Int.toNat_zero, Nat.zero_mul, ea] at hc0 hc1
    clear ea
    generalize rd_T34 xs 0 = y at hc0 hc1
    have hp : decide ((0 : Int) < (xs.length : Int)) = true := decide_eq_true (by omega)
    have hn0 := World.new_ne w _ hc0
    have hn1 := World.new_ne w _ hc1
    have hp' : 0 < xs.length := by omega
    have Q1 := Aside0.mk (hQ.below (below_alloc (Below.refl _ _) (.cells #[.int .i64 y.f0, .int .i64 y.f1] 34)))
    clear hx hQ
    go_enter Try.func16, Try.ntmps16
    go_wp2
    refine wp_loop_rounds 1 ?_; rw [rounds_succ]
    go_wp2_with (first | (go_at_call 14; (refine (queue_Put.over base g c cap q y _ Q1.out).mono ?_); rintro e w3 ⟨rfl, hb3⟩; have B3 := Aside0.mk hb3; clear hb3) | fail)
    go_ret
    exact ⟨rfl, below_step (below_alloc (Below.refl _ _) _) B3.out⟩
set_option maxHeartbeats 4000000 in
theorem queue_Drain.calls_ (w0 : World) (g c cap : Nat) (l : List S34) (closed : Bool) (w : World) (hb0 : Below w0.heap.size w0 w) (hQ : QAt w w0.heap.size g c cap l closed) (hl : l.length ≤ 5000) :
    Calls Try.prog 17 #[.pointer (some ⟨g, 0, none⟩)] w fun e w' => ∃ v, e = .returned v ∧ Kd.R k34 34 w' w0.heap.size (fun k => w.heap.size ≤ k) v l ∧ QAt w' w0.heap.size g c cap [] closed ∧ Kept w w' (fun k => k = c) ∧ Below w0.heap.size w0 w' := by
  have HLT := Aside0.mk hQ.lt
  have HQ := Aside0.mk hQ
  have HB := Aside0.mk hb0
  clear hQ hb0
  go_enter Try.func17, Try.ntmps17
  go_wp2
  go_loopg [3] (l.length + 1) (fun kq v3 wr => ∃ done rest : List S34, Aside0 (done ++ rest = l) ∧ Aside0 (rest.length < kq ∧ kq ≤ l.length + 1) ∧ Aside0 (Kd.R k34 34 wr w0.heap.size (fun k => w.heap.size ≤ k) v3 done) ∧ Aside0 (QAt wr w0.heap.size g c cap rest closed) ∧ Aside0 (Kept w wr (fun k => k = c)) ∧ Aside0 (Below w0.heap.size w0 wr))
  case atStart => exact ⟨[], l, ⟨rfl⟩, ⟨by omega⟩, ⟨Kd.R_nil _ _ _ _ _⟩, HQ, ⟨Kept.refl _ _⟩, HB⟩
  case round =>
    obtain ⟨done, rest, E, M, O, Q, K, B⟩ := hrel
    obtain ⟨Ao, co, rfl⟩ := Kd.R_slice O.out
    cases gk with
    | zero => exact absurd M.out (by omega)
    | succ k1 =>
      cases rest with
      | nil =>
        have ED : Aside0 (done = l) := ⟨by have := E.out; simpa using this⟩
        go_wp2_with (first | (go_at_call 9; (refine (queue_Len.calls_ _ g c cap ([] : List S34) closed _ Q.out).mono ?_); rintro e w6 ⟨rfl, rfl⟩) | fail)
        refine bodyPost_ret (v := .slice Ao done.length co) (by simp [results, Try.results17, go_sem]) rfl ?_
        exact ⟨_, rfl, ED.out ▸ O.out, Q.out, K.out, B.out⟩
      | cons x rest =>
        have hp : decide (((x :: rest).length : Int) > 0) = true := decide_eq_true (by rw [List.length_cons]; omega)
        have LD := Aside0.mk (show done.length + 1 ≤ l.length by have := congrArg List.length E.out; simp at this; omega)
        generalize hn : ((x :: rest).length : Int) = n at hp
        have HN := Aside0.mk hn
        clear hn
        go_upto_region 4 with (first | (go_at_call 9; (refine (queue_Len.calls_ _ g c cap (x :: rest) closed _ Q.out).mono ?_); rintro e w6 ⟨rfl, rfl⟩; rw [HN.out]) | (go_at_call 13; (refine (queue_Take.some_ _ g c cap x rest closed _ Q.out).mono ?_); rintro e w7 ⟨rfl, hq7, hk7, hb7⟩; have Q2 := Aside0.mk hq7; have O2 := Aside0.mk (Kd.R_kept O.out hk7 (fun k hk e => by have := HLT.out.2; omega)); have B2 := Aside0.mk (hb7 _ _ (Nat.le_refl _) B.out.size B.out); have K2 := Aside0.mk (K.out.then_ hk7 (fun _ h => .inl h)); clear hq7 hk7 hb7) | fail)
        have BK := Aside0.mk (blk_new w7 (.cells #[.int .i64 x.f0, .int .i64 x.f1] 34))
        have Q3 := Aside0.mk (Q2.out.below (below_alloc (Below.refl _ _) (.cells #[.int .i64 x.f0, .int .i64 x.f1] 34)))
        have O3 := Aside0.mk (Kd.R_alloc O2.out (.cells #[.int .i64 x.f0, .int .i64 x.f1] 34))
        have B3 := Aside0.mk (below_alloc B2.out (.cells #[.int .i64 x.f0, .int .i64 x.f1] 34))
        have K3 := Aside0.mk (K2.out.alloc (.cells #[.int .i64 x.f0, .int .i64 x.f1] 34))
        clear Q2 O2 B2 K2 Q O K B
        generalize w7.alloc (.cells #[.int .i64 x.f0, .int .i64 x.f1] 34) = w8 at BK Q3 O3 B3 K3 ⊢
        generalize w7.heap.size = b4 at BK ⊢
        obtain ⟨⟨i0, i1⟩, u0, u1⟩ := cell2 BK.out
        go_wp2_with (first | (at_builtin; refine Kd.R_append k34 (w0 := w0) w0.heap.size rfl (.tmp 14) (.tmp 16) 28 34 (.agg #[(.int .i64 0), (.int .i64 0)]) 16 rfl Try.underlying28 info34 rfl (by decide) (by omega) (.slice Ao done.length co) done x [.int .i64 x.f0, .int .i64 x.f1] (fun k => w.heap.size ≤ k) (fun _ => False) rfl rfl ?aP (fun _ hk => hk.elim) ?aF ?aO ?aB ?aS ?aL ?_; (case aP => exact k34_mkM _ _ _ x); (case aB => exact B3.out); (case aF => exact (fun k hk => Nat.le_trans K3.out.1 hk)); (case aO => exact O3.out); (case aS => exact B3.out.size); (case aL => have := LD.out; omega); intro v9 w9 ho hb hg hat; have O4 := Aside0.mk ho; have B4 := Aside0.mk hb; have Q4 := Aside0.mk (Q3.out.grown hg O3.out.1 HLT.out.1 HLT.out.2); have K4 := Aside0.mk (Kept.of_grown hg K3.out (fun k e => .inr (O3.out.1 k e))); clear ho hb hg hat) | fail)
        go_roundg k1
        case measure => have := M.out; simp at this; omega
        case rel => exact ⟨done ++ [x], rest, ⟨by have := E.out; simpa using this⟩, ⟨by have := M.out; simp at this; omega⟩, O4, Q4, K4, B4⟩
set_option maxHeartbeats 4000000 in
theorem juratlaw33_awake.calls_ (w : World) : Calls Try.prog 6 #[] w fun e w' => e = .returned (.bool true) ∧ Below w.heap.size w w' := by
  have hu34 := Try.underlying34
  go_enter Try.func6, Try.ntmps6
  go_upto_region 2 with (first | (go_at_call 7; (refine (queue_New.ok 1 _ (by omega) (by omega)).mono ?_); rintro e w1 ⟨g, c, rfl, hq1, hb1⟩; have Q1 := Aside0.mk hq1; have B1 := Aside0.mk hb1; clear hq1 hb1) | fail)
  go_upto_region 3 with (first | (go_at_call 14; (refine (queue_Put.room w.heap.size g c 1 [] (⟨3, 0⟩ : S34) _ Q1.out (by decide)).mono ?_); rintro e w2 ⟨rfl, hq2, _, hf2⟩; have Q2 := Aside0.mk hq2; have B2 := Aside0.mk (hf2 _ _ (Nat.le_refl _) B1.out.size B1.out); clear hq2 hf2) | fail)
  go_upto_region 4 with (first | (go_at_call 14; (refine (queue_Put.full w.heap.size g c 1 ([] ++ [(⟨3, 0⟩ : S34)]) (⟨4, 0⟩ : S34) _ Q2.out (by decide)).mono ?_); rintro e w3 ⟨rfl, hq3, _, hf3⟩; have Q3 := Aside0.mk hq3; have B3 := Aside0.mk (hf3 _ _ (Nat.le_refl _) B2.out.size B2.out); clear hq3 hf3) | fail)
  go_upto_region 5 with (first | (go_at_call 13; (refine (queue_Take.some_ w.heap.size g c 1 (⟨3, 0⟩ : S34) [] false _ Q3.out).mono ?_); rintro e w4 ⟨rfl, hq4, _, hf4⟩; have Q4 := Aside0.mk (hq4.below (below_alloc (Below.refl _ _) (.cells #[.int .i64 3, .int .i64 0] 34))); have B4 := Aside0.mk (below_alloc (hf4 _ _ (Nat.le_refl _) B3.out.size B3.out) (.cells #[.int .i64 3, .int .i64 0] 34)); have K4 := Aside0.mk (blk_new w4 (.cells #[.int .i64 3, .int .i64 0] 34)); have G4 := Aside0.mk hq4.lt; clear hq4 hf4) | fail)
  go_upto_region 6 with (first | (go_at_call 15; (refine (queue_Close.ok w.heap.size g c 1 [] _ Q4.out).mono ?_); rintro e w5 ⟨rfl, hq5, hk5, hf5⟩; have Q5 := Aside0.mk hq5; have K5 := Aside0.mk (blk_kept K4.out hk5 (by have := G4.out; omega)); have B5 := Aside0.mk (hf5 _ _ (Nat.le_refl _) B4.out.size B4.out); clear hq5 hk5 hf5) | fail)
  go_upto_region 7 with (first | (go_at_call 14; (refine (queue_Put.over w.heap.size g c 1 [] (⟨0, 0⟩ : S34) _ Q5.out).mono ?_); rintro e w6 ⟨rfl, hb6⟩; have Q6 := Aside0.mk (Q5.out.below hb6); have K6 := Aside0.mk (blk_below K5.out hb6); have B6 := Aside0.mk (below_step B5.out hb6); clear hb6) | fail)
  obtain ⟨⟨i0, i1⟩, u0, u1⟩ := cell2 K6.out
  go_wp2_with (first | (go_at_call 12; (refine (queue_Over.calls_ w.heap.size g c 1 [] true _ Q6.out).mono ?_); rintro e w7 ⟨rfl, rfl⟩) | fail)
  go_ret
  exact ⟨rfl, B6.out⟩
end Go.Proofs.Ytphmeljhfbahoaa.PQ
