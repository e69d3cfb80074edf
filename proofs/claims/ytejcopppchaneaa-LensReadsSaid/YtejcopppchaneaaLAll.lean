/- lens.All: what it does. -/
import Derived.Test.YtejcopppchaneaaLPlain
set_option linter.unusedVariables false
set_option linter.unusedSimpArgs false
namespace Go.Proofs.Ytejcopppchaneaa.PF
open Go.RowKit Go.Proofs.YtejcopppchaneaaW.PrintWords Go.Proofs.YtejcopppchaneaaW.PrintLast Go.Proofs.YtejcopppchaneaaW.PrintMore Go.Proofs.Ytejcopppchaneaa.Pure
theorem LAt.rkeep {α : Type} {d : Kd α} {w w' : World} {base e g : Nat} {s : LS} {v : Value} {xs : List α} (hM : LAt w g s) (h : d.R e w base (fun _ => True) v xs) (ht : ∀ q, q ∈ e :: d.E → q ≠ 61) (hK : KeepBut w w' g none) : d.R e w' base (fun _ => True) v xs :=
  Kd.R_mono (Kd.R_keep (Kd.R_types h hM ht) hK (fun _ hk => hk.2)) (fun _ _ => trivial)
theorem LAt.below {w w' : World} {g : Nat} {s : LS} (h : LAt w g s) (hb : Below w.heap.size w w') : LAt w' g s := blk_below h hb
theorem LAt.over {w w' : World} {g : Nat} {s : LS} {u : Value} {ys : List S30} {ok : Nat → Prop} {b' : Nat} (h : LAt w g s) (hv : Kd.R k30 30 w b' ok u ys) (hg : w.grownBy w' u.ownBlock) : LAt w' g s := blk_grown h hg (Kd.R_ne hv h (by decide))
set_option maxHeartbeats 16000000 in
set_option maxRecDepth 100000 in
theorem lens_All.calls_ (x : ByteArray) (hz : x.size ≤ 600) (r : List S30 × Int) (hr : allS x = r) (w : World) :
    Calls Try.prog 9 #[.string x] w fun e w' => ∃ v : Value, e = .returned (.tuple #[v, .int .i64 r.2]) ∧ Kd.R k30 30 w' w.heap.size (fun _ => True) v r.1 ∧ Below w.heap.size w w' := by
  have hu30 := Try.underlying30
  have hu61 := Try.underlying61
  have hmf : ∀ (fn : Fn) (first cap : Array Value) (w : World), (Instr.makeFunc fn first cap).run Try.prog w = .ok (.func fn first cap) w := fun _ _ _ _ => rfl
  have HZ := Aside0.mk hz
  have HR0 := Aside0.mk hr
  clear hz hr
  go_enter Try.func9, Try.ntmps9
  go_upto_region 4 with fail
  have L0 : Aside0 (LAt (w.alloc (.cells #[.string x, .int .i64 0, .int .i64 0, .int .i64 0, .slice none 0 0, .bool true, .bool false, .int .i64 0] 61)) w.heap.size ⟨x, 0, 0, 0, true, false, 0⟩) := ⟨blk_new _ _⟩
  have B0 := Aside0.mk (below_alloc (Below.refl w.heap.size w) (.cells #[.string x, .int .i64 0, .int .i64 0, .int .i64 0, .slice none 0 0, .bool true, .bool false, .int .i64 0] 61))
  have HG := Aside0.mk (Nat.le_refl w.heap.size)
  obtain ⟨g, hg⟩ : ∃ g, w.heap.size = g := ⟨_, rfl⟩
  have HG : Aside0 (w.heap.size ≤ g) := ⟨by omega⟩
  have L0' : Aside0 (LAt (w.alloc (.cells #[.string x, .int .i64 0, .int .i64 0, .int .i64 0, .slice none 0 0, .bool true, .bool false, .int .i64 0] 61)) g ⟨x, 0, 0, 0, true, false, 0⟩) := ⟨hg ▸ L0.out⟩
  clear L0
  generalize w.alloc (.cells #[.string x, .int .i64 0, .int .i64 0, .int .i64 0, .slice none 0 0, .bool true, .bool false, .int .i64 0] 61) = w0 at L0' B0 ⊢
  (try rw [hg])
  clear hg
  go_loopg [6] (x.size + 1) (fun kq v6 wr => ∃ (s : LS) (acc : List S30), Aside0 (allL kq s acc = r) ∧ Aside0 (s.rest.size < kq) ∧ Aside0 (acc.length + s.rest.size ≤ 600) ∧ Aside0 (LOk s) ∧ Aside0 (LAt wr g s) ∧ Aside0 (Kd.R k30 30 wr w.heap.size (fun _ => True) v6 acc) ∧ Aside0 (Below w.heap.size w wr))
  case atStart => exact ⟨⟨x, 0, 0, 0, true, false, 0⟩, [], HR0, ⟨Nat.lt_succ_self _⟩, ⟨by have := HZ.out; simpa using this⟩, ⟨⟨HZ.out, okR_small (by simp) (by simp) (by simp) (by simp)⟩⟩, L0', ⟨Kd.R_nil _ _ _ _ _⟩, B0⟩
  case round =>
    obtain ⟨s, acc, HA, HK, HL, HO, L, O, B⟩ := hrel
    obtain ⟨Ao, co, rfl⟩ := Kd.R_slice O.out
    cases gk with
    | zero => exact absurd HK.out (by omega)
    | succ k1 =>
      have NK := fun a b => nextL_ok s HO.out a b
      have TG := fun a b => takeS_good s a b
      have ha := HA.out
      unfold allL at ha
      obtain ⟨⟨q1, q2, q3, q4, q5, q6⟩, hp⟩ : ∃ q, takeS s = q := ⟨_, rfl⟩
      rw [hp] at ha NK TG
      have HP := Aside0.mk hp
      have NKA := Aside0.mk NK
      have TGA := Aside0.mk TG
      clear hp NK TG HA
      by_cases h6 : q6 = 0
      · by_cases h5 : q5 = 0
        · subst h6; subst h5
          rw [if_neg (by simp), if_pos rfl] at ha
          subst ha
          have e6 : True := trivial
          have NX : Aside0 (Calls Try.prog 15 #[.pointer (some ⟨g, 0, none⟩)] wr fun e w' => ∃ v : Value, e = .returned (.tuple #[.agg #[.int .i64 0, .int .i64 0, .int .i64 0, v], .bool false, .int .i64 0]) ∧ Kd.R (Kd.int .i64) 3 w' wr.heap.size (fun _ => True) v [] ∧ LAt w' g ⟨s.rest, s.k, s.n, s.r, s.closed, s.ended, 0⟩ ∧ KeepBut wr w' g none ∧ Below w.heap.size wr w') := ⟨lens_Next.stop w.heap.size g s.rest s.k s.n s.r s.closed s.ended s.e q1 q2 q3 q4 0 0 wr L.out HG.out B.out.size HO.out.1 HO.out.2 (fun h => (rt_good s.rest (by have := HO.out.1; omega) h).1) HP.out (.inr rfl)⟩
          go_upto_region 5 with (first | (go_at_call 15; (with_reducible refine NX.out.mono ?_); rintro e w2 ⟨v, rfl, hR, hL2, hK, hb⟩; obtain ⟨A, c, rfl⟩ := Kd.R_slice hR; have L2 := Aside0.mk hL2; have O2 := Aside0.mk (LAt.rkeep L.out O.out (by decide) hK); have B2 := Aside0.mk (B.out.trans hb); have R2 := Aside0.mk (Kd.R_lower hR B.out.size); clear hR hL2 hK hb) | fail)
          have O3 := Aside0.mk (Kd.R_alloc O2.out (.cells #[.int .i64 0, .int .i64 0, .int .i64 0, .slice A ([] : List Int).length c] 30))
          have B3 := Aside0.mk (below_alloc B2.out (.cells #[.int .i64 0, .int .i64 0, .int .i64 0, .slice A ([] : List Int).length c] 30))
          go_wp2
          (try simp only [Exit.inBlock, Exit.then])
          refine bodyPost_ret (results_tmp2 rfl _ _ _) rfl ?_
          exact ⟨_, rfl, O3.out, B3.out⟩
        · subst h6
          rw [if_neg (by simp), if_neg (by simpa using h5)] at ha
          have HA := Aside0.mk ha
          obtain ⟨t1, t2⟩ := TGA.out rfl h5
          obtain ⟨t3, t4, t5, t6⟩ := NKA.out rfl h5
          have T3 := Aside0.mk t3
          have T4 := Aside0.mk t4
          have T5 := Aside0.mk t5
          have T6 := Aside0.mk t6
          have T1 := Aside0.mk t1
          have HX : Aside0 (xOf (rt s.rest) = ⟨q1, q2, q3, q4⟩) := ⟨by rw [← t1]; rfl⟩
          have HN : Aside0 (nextL s = ⟨s.rest.extract q5.toNat s.rest.size, q1, q2, q3, s.closed, q1 == 6, 0⟩) := ⟨by unfold nextL; rw [← t1]⟩
          have H5 : Aside0 (1 ≤ q5 ∧ q5 ≤ s.rest.size) := ⟨by rw [← t1] at t5 t6; exact ⟨t5, t6⟩⟩
          clear ha t1 t2 t3 t4 t5 t6 h5
          have NX : Aside0 (Calls Try.prog 15 #[.pointer (some ⟨g, 0, none⟩)] wr fun e w' => ∃ v : Value, e = .returned (.tuple #[.agg #[.int .i64 q1, .int .i64 q2, .int .i64 q3, v], .bool true, .int .i64 0]) ∧ Kd.R (Kd.int .i64) 3 w' wr.heap.size (fun _ => True) v q4 ∧ LAt w' g ⟨s.rest.extract q5.toNat s.rest.size, q1, q2, q3, s.closed, q1 == 6, 0⟩ ∧ KeepBut wr w' g none ∧ Below w.heap.size wr w') := ⟨lens_Next.go_ w.heap.size g s.rest s.k s.n s.r s.closed s.ended s.e q1 q2 q3 q4 q5 0 wr L.out HG.out B.out.size HO.out.1 HO.out.2 (fun h => (rt_good s.rest (by have := HO.out.1; omega) h).1) HP.out rfl H5.out.1 H5.out.2⟩
          go_upto_region 5 with (first | (go_at_call 15; (with_reducible refine NX.out.mono ?_); rintro e w2 ⟨v, rfl, hR, hL2, hK, hb⟩; obtain ⟨A, c, rfl⟩ := Kd.R_slice hR; have L2 := Aside0.mk hL2; have O2 := Aside0.mk (LAt.rkeep L.out O.out (by decide) hK); have B2 := Aside0.mk (B.out.trans hb); have R2 := Aside0.mk (Kd.R_lower hR B.out.size); clear hR hL2 hK hb) | fail)
          have O3 := Aside0.mk (Kd.R_alloc O2.out (.cells #[.int .i64 q1, .int .i64 q2, .int .i64 q3, .slice A q4.length c] 30))
          have B3 := Aside0.mk (below_alloc B2.out (.cells #[.int .i64 q1, .int .i64 q2, .int .i64 q3, .slice A q4.length c] 30))
          have R3 := Aside0.mk (Kd.R_alloc R2.out (.cells #[.int .i64 q1, .int .i64 q2, .int .i64 q3, .slice A q4.length c] 30))
          have L3 := Aside0.mk (L2.out.below (below_alloc (Below.refl _ _) (.cells #[.int .i64 q1, .int .i64 q2, .int .i64 q3, .slice A q4.length c] 30)))
          have X3 := Aside0.mk (blk_new w2 (.cells #[.int .i64 q1, .int .i64 q2, .int .i64 q3, .slice A q4.length c] 30))
          clear O2 B2 R2 L2 O B L
          generalize w2.alloc (.cells #[.int .i64 q1, .int .i64 q2, .int .i64 q3, .slice A q4.length c] 30) = w3 at O3 B3 R3 L3 X3 ⊢
          generalize w2.heap.size = gx at X3 ⊢
          obtain ⟨⟨l0, l1, l2, l3⟩, m0, m1, m2, m3⟩ := cell4 X3.out
          go_wp2_with (first | (at_builtin; refine Kd.R_append k30 (w0 := w) w.heap.size rfl (.tmp 29) (.tmp 31) 22 30 (.agg #[(.int .i64 0), (.int .i64 0), (.int .i64 0), (.slice none 0 0)]) 48 rfl Try.underlying22 info30 rfl (by decide) (by omega) (.slice Ao acc.length co) acc ⟨q1, q2, q3, q4⟩ [.int .i64 q1, .int .i64 q2, .int .i64 q3, .slice A q4.length c] (fun _ => True) (fun k_ => True ∧ some k_ ≠ (Value.slice Ao acc.length co).ownBlock) rfl ?aX ?aP (fun _ hk => hk) (fun _ _ => trivial) ?aO ?aB ?aS ?aL ?_; (case aX => first | (go_simp; done) | (go_simp; rfl)); (case aP => exact k30_mkM _ _ _ ⟨q1, q2, q3, q4⟩ (Kd.R_apartR R3.out O3.out (by decide))); (case aO => exact O3.out); (case aB => exact B3.out); (case aS => exact B3.out.size); (case aL => have := HL.out; omega); intro v1 w4 ho4 hb4 hg4 hat4; have O4 := Aside0.mk ho4; have L4 := Aside0.mk (LAt.over L3.out O3.out hg4); have B4 := Aside0.mk hb4; clear hat4 hg4 ho4 hb4) | fail)
          go_roundg k1
          case measure => omega
          case rel =>
            refine ⟨nextL s, acc ++ [⟨q1, q2, q3, q4⟩], ⟨by have := HA.out; rw [HX.out] at this; exact this⟩, ⟨by have := HK.out; have := T4.out; omega⟩, ⟨by have := HL.out; have := T4.out; rw [List.length_append, List.length_singleton]; omega⟩, T3, ⟨by rw [HN.out]; exact L4.out⟩, O4, B4⟩
      · rw [if_pos (by simpa using h6)] at ha
        subst ha
        have e6 : (q6 != 0) = true := bne_iff_ne.mpr h6
        have NX : Aside0 (Calls Try.prog 15 #[.pointer (some ⟨g, 0, none⟩)] wr fun e w' => ∃ v : Value, e = .returned (.tuple #[.agg #[.int .i64 0, .int .i64 0, .int .i64 0, v], .bool false, .int .i64 q6]) ∧ Kd.R (Kd.int .i64) 3 w' wr.heap.size (fun _ => True) v [] ∧ LAt w' g ⟨s.rest, s.k, s.n, s.r, s.closed, s.ended, q6⟩ ∧ KeepBut wr w' g none ∧ Below w.heap.size wr w') := ⟨lens_Next.stop w.heap.size g s.rest s.k s.n s.r s.closed s.ended s.e q1 q2 q3 q4 q5 q6 wr L.out HG.out B.out.size HO.out.1 HO.out.2 (fun h => (rt_good s.rest (by have := HO.out.1; omega) h).1) HP.out (.inl h6)⟩
        clear h6
        go_upto_region 5 with (first | (go_at_call 15; (with_reducible refine NX.out.mono ?_); rintro e w2 ⟨v, rfl, hR, hL2, hK, hb⟩; obtain ⟨A, c, rfl⟩ := Kd.R_slice hR; have L2 := Aside0.mk hL2; have O2 := Aside0.mk (LAt.rkeep L.out O.out (by decide) hK); have B2 := Aside0.mk (B.out.trans hb); have R2 := Aside0.mk (Kd.R_lower hR B.out.size); clear hR hL2 hK hb) | fail)
        have O3 := Aside0.mk (Kd.R_alloc O2.out (.cells #[.int .i64 0, .int .i64 0, .int .i64 0, .slice A ([] : List Int).length c] 30))
        have B3 := Aside0.mk (below_alloc B2.out (.cells #[.int .i64 0, .int .i64 0, .int .i64 0, .slice A ([] : List Int).length c] 30))
        go_wp2
        (try simp only [Exit.inBlock, Exit.then])
        refine bodyPost_ret (results_tmp2 rfl _ _ _) rfl ?_
        exact ⟨_, rfl, Kd.R_nil _ _ _ _ _, B3.out⟩
end Go.Proofs.Ytejcopppchaneaa.PF
