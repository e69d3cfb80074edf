/- The act Fill, done by a queue and by the document's. -/
import Derived.Test.YtphmeljhfbahoaaQDoes
set_option linter.unusedVariables false
set_option linter.unusedSimpArgs false
namespace Go.Proofs.Ytphmeljhfbahoaa.PQ
open Go.Conc Go.RowKit Go.Proofs.YtphmeljhfbahoaaW.PrintWords Go.Proofs.YtphmeljhfbahoaaW.PrintLast Go.Proofs.YtphmeljhfbahoaaW.PrintMore
/-- A store into a box of the act's own; the row is told anew. -/
theorem DI.box {base g c cap : Nat} {S : Nat → Prop} {w W W' : World} {l lr lr' : List S34} {closed : Bool} {A A' : Option Addr} {b4 b5 b6 b : Nat} {v4 v5 v6 : Array Value} (h : DI base g c cap S w W l closed A lr b4 b5 b6 v4 v5 v6) (hs : STt S w g c b4 b5 b6) (hk : Kept W W' (fun k => k = b)) (hf : Fam base W W') (hb : w.heap.size ≤ b ∧ b ≠ b4 ∧ b ≠ b5 ∧ b ≠ b6) (hr : Rd W' (S6 S b4 b6) A' lr') : DI base g c cap S w W' l closed A' lr' b4 b5 b6 v4 v5 v6 := by
  obtain ⟨h1, h2, h3, h4, h5, h6, h7⟩ := h
  obtain ⟨⟨s1, s2⟩, s3, ⟨s4, s5, s6⟩, ⟨n1, n2, n3⟩, s7, s8⟩ := hs
  obtain ⟨q1, q2, q3, q4⟩ := hb
  exact ⟨blk_kept h1 hk (Ne.symm q2), blk_kept h2 hk (Ne.symm q3), blk_kept h3 hk (Ne.symm q4), h4.kept hk (by omega) (by omega), hr, h6.then_ hk (fun k e => .inr (by rw [e]; exact q1)), h7.then_ h6.1 hf⟩
theorem fam3 {base b : Nat} {W : World} (hb : base ≤ b) (a' b' c' : Value) : Fam base W (((W.setCell ⟨b, 0, none⟩ a').setCell ⟨b, 1, none⟩ b').setCell ⟨b, 2, none⟩ c') := fun B u h1 _ h3 => bel3 h3 (Nat.le_trans h1 hb)
theorem kept3 (W : World) (b : Nat) (a' b' c' : Value) : Kept W (((W.setCell ⟨b, 0, none⟩ a').setCell ⟨b, 1, none⟩ b').setCell ⟨b, 2, none⟩ c') (fun k => k = b) := (((Kept.refl W (fun k => k = b)).setCell (.inl rfl) _).setCell (.inl rfl) _).setCell (.inl rfl) _
def doesR21.T : Bool × List (List Nat × List Nat) := (true, [([], []), ([], []), ([], []), ([1, 2], [1, 2]), ([3], [3]), ([0, 4], [0, 4]), ([5], [5]), ([6], [6]), ([6], [6]), ([], []), ([9, 7, 5, 0, 1, 2, 3, 4, 5, 6, 7, 9], [7, 9]), ([8, 10, 0, 1, 2, 3, 4, 5, 6, 7, 8, 9, 10], [8])])
def doesR21.B : List Nat := [0, 0, 0, 6, 14, 31, 63, 127, 127, 0, 767, 2047]
theorem doesR21.tab : rtab .any (opsOf Try.f8 21) = doesR21.T := by kernel_rfl
theorem doesR21.bits : waitsOk doesR21.T.2 doesR21.B = true := by kernel_rfl
def doesR25.T : Bool × List (List Nat × List Nat) := (true, [([], []), ([], []), ([], []), ([1, 2], [1, 2]), ([], []), ([3, 4], [3, 4]), ([0, 3, 0], [0]), ([5, 6, 0, 1, 2, 3, 4, 5, 6], [5])])
def doesR25.B : List Nat := [0, 0, 0, 6, 0, 30, 15, 127]
theorem doesR25.tab : rtab .any (opsOf Try.f8 25) = doesR25.T := by kernel_rfl
theorem doesR25.bits : waitsOk doesR25.T.2 doesR25.B = true := by kernel_rfl
set_option maxHeartbeats 16000000 in
set_option maxRecDepth 100000 in
theorem does.fill (S : Nat → Prop) (base g c cap : Nat) (l : List S34) (closed : Bool) (A : Option Addr) (cc : Nat) (nn : Int) (x : S34) (w : World) (hQ : QAt w base g c cap l closed) (hR : Rd w S A l) (hSg : S g) (hSc : S c) (hS : ∀ k, S k → k < w.heap.size) (hc : l.length ≤ cc) (hl : l.length ≤ cap) (hcap : cap ≤ 4096) (hbase : base ≤ w.heap.size) :
    Calls Try.prog 8 #[.pointer (some ⟨g, 0, none⟩), .agg #[.slice A l.length cc, .int .i64 (cap : Int), .bool closed], .agg #[.int .i64 3, .int .i64 nn, .int .i64 x.f0, .int .i64 x.f1]] w (DPost S base g c cap w) := by
  have hu30 := Try.underlying30
  have hu34 := Try.underlying34
  have hu36 := Try.underlying36
  have HL := Aside0.mk hl
  have HC := Aside0.mk hc
  have HCAP := Aside0.mk hcap
  have GL := Aside0.mk hQ.lt
  have D0 : Aside0 (DI base g c cap S w (((w.alloc (.cells #[.slice A l.length cc, .int .i64 (cap : Int), .bool closed] 30)).alloc (.cells #[.int .i64 3, .int .i64 nn, .int .i64 x.f0, .int .i64 x.f1] 36)).alloc (.cells #[.slice none 0 0, .int .i64 0, .bool false] 30)) l closed A l w.heap.size (w.heap.size + 1) (w.heap.size + 1 + 1) #[.slice A l.length cc, .int .i64 (cap : Int), .bool closed] #[.int .i64 3, .int .i64 nn, .int .i64 x.f0, .int .i64 x.f1] #[.slice none 0 0, .int .i64 0, .bool false]) := ⟨DI.start hQ hR hSg hSc hS #[.slice A l.length cc, .int .i64 (cap : Int), .bool closed] #[.int .i64 3, .int .i64 nn, .int .i64 x.f0, .int .i64 x.f1] #[.slice none 0 0, .int .i64 0, .bool false]⟩
  have ST : Aside0 (STt S w g c w.heap.size (w.heap.size + 1) (w.heap.size + 1 + 1)) := ⟨⟨hSg, hSc⟩, hS, ⟨Nat.le_refl _, by omega, by omega⟩, ⟨by omega, by omega, by omega⟩, hQ.lt⟩
  have BS := Aside0.mk hbase
  clear hbase hQ hR hSg hSc hS hc hl hcap
  go_enter Try.func8, Try.ntmps8
  go_upto_region 1 with fail
  generalize ((w.alloc (.cells #[.slice A l.length cc, .int .i64 (cap : Int), .bool closed] 30)).alloc (.cells #[.int .i64 3, .int .i64 nn, .int .i64 x.f0, .int .i64 x.f1] 36)).alloc (.cells #[.slice none 0 0, .int .i64 0, .bool false] 30) = w1 at D0 ⊢
  generalize w.heap.size + 1 + 1 = b6 at D0 ST ⊢
  generalize w.heap.size + 1 = b5 at D0 ST ⊢
  obtain ⟨b4, hb4⟩ : ∃ b4, w.heap.size = b4 := ⟨_, rfl⟩
  rw [hb4] at D0 ST
  have HB4 := Aside0.mk hb4
  (try rw [hb4])
  clear hb4
  have n45 := ST.out.2.2.2.1.1
  have n46 := ST.out.2.2.2.1.2.1
  have n56 := ST.out.2.2.2.1.2.2
  have n54 := Ne.symm n45
  have n64 := Ne.symm n46
  have n65 := Ne.symm n56
  have D := D0
  clear D0
  obtain ⟨⟨i0, i1, i2⟩, u0, u1, u2⟩ := cell3 D.out.1; obtain ⟨⟨j0, j1, j2, j3⟩, v0, v1, v2, v3⟩ := cell4_ D.out.2.1; obtain ⟨⟨k0, k1, k2⟩, z0, z1, z2⟩ := cell3 D.out.2.2.1
  obtain ⟨xs, hxl, hev⟩ := like_ev x.f0 x.f1 nn
  obtain ⟨kl, hkl⟩ := hev.rounds
  have XL := Aside0.mk hxl
  have KL := Aside0.mk hkl
  clear hxl hev hkl
  go_upto_region 19 with (first | (go_at_call 24; have F := juratlaw33_like.calls kl x.f0 x.f1 nn xs w1 KL.out; (with_reducible refine F.mono ?_); clear F; rintro e w2 ⟨vx, rfl, hR, hb⟩; obtain ⟨Ax, cx, rfl⟩ := Kd.R_slice hR; have RX := Aside0.mk (Rd.new hR (D.out.s6 ST.out)); have HCX := Aside0.mk (Kd.R_reads' hR).2.1; have DN := Aside0.mk (D.out.below ST.out hb); clear D; have D := DN; clear DN; clear hb hR; clear i0 i1 i2 u0 u1 u2 j0 j1 j2 j3 v0 v1 v2 v3 k0 k1 k2 z0 z1 z2; obtain ⟨⟨i0, i1, i2⟩, u0, u1, u2⟩ := cell3 D.out.1; obtain ⟨⟨j0, j1, j2, j3⟩, v0, v1, v2, v3⟩ := cell4_ D.out.2.1; obtain ⟨⟨k0, k1, k2⟩, z0, z1, z2⟩ := cell3 D.out.2.2.1) | fail)
  go_loopw [17, 18] (fun v17 v18 wr => ∃ (j n : Nat) (lw : List S34) (A3 : Option Addr) (c3 : Nat), j ≤ xs.length ∧ n ≤ j ∧ v18 = .int .i64 (j : Int) ∧ v17 = .int .i64 (n : Int) ∧ Aside0 (∃ m, fillP (cap : Int) closed lw (xs.drop j) = ((fillP (cap : Int) closed l xs).1, m) ∧ n + m = (fillP (cap : Int) closed l xs).2) ∧ Aside0 (lw.length ≤ c3) ∧ Aside0 (lw.length ≤ cap) ∧ Aside0 (DI base g c cap S w wr l closed A3 lw b4 b5 b6 #[.slice A3 lw.length c3, .int .i64 (cap : Int), .bool closed] #[.int .i64 3, .int .i64 nn, .int .i64 x.f0, .int .i64 x.f1] #[.slice none 0 0, .int .i64 0, .bool false]) ∧ Aside0 (Rd wr (S6 S b4 b6) Ax xs)) (fun _ i _ => xs.length - (intOf i).toNat)
  case atStart => exact ⟨0, 0, l, A, cc, Nat.zero_le _, Nat.le_refl _, rfl, rfl, ⟨⟨_, rfl, by simp⟩⟩, HC, HL, D, RX⟩
  case round =>
    clear D RX
    clear i0 i1 i2 u0 u1 u2 j0 j1 j2 j3 v0 v1 v2 v3 k0 k1 k2 z0 z1 z2
    obtain ⟨j, n, lw, A3, c3, hj, hnj, rfl, rfl, FI, HC3, HL3, D, RX⟩ := hrel
    have hj7 : j ≤ 7 := Nat.le_trans hj XL.out
    obtain ⟨⟨i0, i1, i2⟩, u0, u1, u2⟩ := cell3 D.out.1; obtain ⟨⟨j0, j1, j2, j3⟩, v0, v1, v2, v3⟩ := cell4_ D.out.2.1; obtain ⟨⟨k0, k1, k2⟩, z0, z1, z2⟩ := cell3 D.out.2.2.1
    by_cases hlt : j < xs.length
    · obtain ⟨ad, eA, hx0, hx1⟩ := at_T34 RX.out.now (j : Int) (by omega) (by omega)
      subst eA
      simp only [Int.toNat_natCast] at hx0 hx1
      have hrd : rd_T34 xs (j : Int) = xs[j] := rdT34_get xs j hlt
      rw [hrd] at hx0 hx1
      have TJ := Aside0.mk (show xs.drop j = xs[j] :: xs.drop (j + 1) from List.drop_eq_getElem_cons hlt)
      clear hrd
      generalize xs[j] = y at hx0 hx1 TJ
      obtain ⟨⟨l2, code⟩, hps⟩ : ∃ q, putS (cap : Int) lw closed y = q := ⟨_, rfl⟩
      have HL4 := Aside0.mk (put_len HL3.out hps)
      go_upto_region 21 with fail
      go_cut [19, 20] (fun v19 v20 wx => ∃ (b19 : Nat) (A4 : Option Addr) (c4 : Nat), v19 = .pointer (some ⟨b19, 0, none⟩) ∧ v20 = .int .i64 code ∧ Aside0 (b19 ≠ b4 ∧ b19 ≠ b6) ∧ Aside0 (wx.heap[b19]? = some (.cells #[.slice A4 l2.length c4, .int .i64 (cap : Int), .bool closed] 30 (0, 0))) ∧ Aside0 (l2.length ≤ c4) ∧ Aside0 (DI base g c cap S w wx l closed A4 l2 b4 b5 b6 #[.slice A3 lw.length c3, .int .i64 (cap : Int), .bool closed] #[.int .i64 3, .int .i64 nn, .int .i64 x.f0, .int .i64 x.f1] #[.slice none 0 0, .int .i64 0, .bool false]) ∧ Aside0 (Rd wx (S6 S b4 b6) (some ad) xs))
      case first =>
        refine start_ (n := 12) (S := (fun w' => w'.cell? ⟨b4, 0, none⟩ = some (.slice A3 lw.length c3) ∧ w'.cell? ⟨b4, 1, none⟩ = some (.int .i64 (cap : Int)) ∧ w'.cell? ⟨b4, 2, none⟩ = some (.bool closed) ∧ w'.cell? (ad.add (j * 2)) = some (.int .i64 y.f0) ∧ w'.cell? ⟨(ad.add (j * 2)).block, (ad.add (j * 2)).off + 1, none⟩ = some (.int .i64 y.f1))) (ds := [10]) #[false, false, false, false, false, false, false, false, false, false, false, false] (by kernel_rfl) rfl rfl ⟨i0, i1, i2, hx0, hx1⟩ (fun hHeld => ?_); refine with_tabW doesR21.tab doesR21.bits (fun HT_ HW_ => ?_)
        have hb := below_drew1 (Below.refl wr.heap.size wr)
        have hxn0 := pw_cell_below hb hx0
        have hxn1 := pw_cell_below hb hx1
        have RXN := Aside0.mk (RX.out.below hb)
        clear hx0 hx1 RX
        have hx0 := hxn0
        have hx1 := hxn1
        have RX := RXN
        clear hxn0 hxn1 RXN
        have DN := Aside0.mk (D.out.below ST.out hb); clear D; have D := DN; clear DN
        clear hb
        clear i0 i1 i2 u0 u1 u2 j0 j1 j2 j3 v0 v1 v2 v3 k0 k1 k2 z0 z1 z2
        generalize wr.drew = w4 at D RX hx0 hx1 hHeld ⊢
        obtain ⟨⟨i0, i1, i2⟩, u0, u1, u2⟩ := cell3 D.out.1; obtain ⟨⟨j0, j1, j2, j3⟩, v0, v1, v2, v3⟩ := cell4_ D.out.2.1; obtain ⟨⟨k0, k1, k2⟩, z0, z1, z2⟩ := cell3 D.out.2.2.1
        refine take_ (i := 0) (N := some 86) (v := ?_) (a' := ?_) #[true, false, false, false, false, false, false, false, false, false, false, false] rfl rfl (take_ofW HT_.out HW_.out (by kernel_rfl)) (fun _ _ _ h => h) (Or.inl ⟨by rfl, ?_⟩) hHeld ?_ ?_
        rotate_left
        · rintro w' ⟨s0, s1, s2, s3, s4⟩
          go_simp
          with_reducible rfl
        rotate_left
        · simp only [Act.put, List.setIfInBounds_toArray, List.set_cons_zero, List.set_cons_succ, i64_w, i32_w]
          rfl
        refine pure_ (i := 1) (N := some 87) (v := ?_) (a' := ?_) #[true, true, false, false, false, false, false, false, false, false, false, false] rfl rfl (any_of HT_.out (by kernel_rfl)) (fun _ _ _ h => h) (Or.inl ⟨by rfl, ?_⟩) ?_ ?_
        rotate_left
        · intro w'
          go_simp
          with_reducible rfl
        rotate_left
        · simp only [Act.put, List.setIfInBounds_toArray, List.set_cons_zero, List.set_cons_succ, i64_w, i32_w]
          rfl
        refine pure_ (i := 2) (N := some 88) (v := ?_) (a' := ?_) #[true, true, true, false, false, false, false, false, false, false, false, false] rfl rfl (any_of HT_.out (by kernel_rfl)) (fun _ _ _ h => h) (Or.inl ⟨by rfl, ?_⟩) ?_ ?_
        rotate_left
        · intro w'
          go_simp
          with_reducible rfl
        rotate_left
        · simp only [Act.put, List.setIfInBounds_toArray, List.set_cons_zero, List.set_cons_succ, i64_w, i32_w]
          rfl
        refine pure_ (i := 3) (N := some 89) (v := ?_) (a' := ?_) #[true, true, true, true, false, false, false, false, false, false, false, false] rfl rfl (any_of HT_.out (by kernel_rfl)) (fun _ _ _ h => h) (Or.inl ⟨by rfl, ?_⟩) ?_ ?_
        rotate_left
        · intro w'
          go_simp
          with_reducible rfl
        rotate_left
        · simp only [Act.put, List.setIfInBounds_toArray, List.set_cons_zero, List.set_cons_succ, i64_w, i32_w]
          rfl
        refine take_ (i := 4) (N := some 90) (v := ?_) (a' := ?_) #[true, true, true, true, true, false, false, false, false, false, false, false] rfl rfl (take_ofW HT_.out HW_.out (by kernel_rfl)) (fun _ _ _ h => h) (Or.inl ⟨by rfl, ?_⟩) hHeld ?_ ?_
        rotate_left
        · rintro w' ⟨s0, s1, s2, s3, s4⟩
          go_simp
          with_reducible rfl
        rotate_left
        · simp only [Act.put, List.setIfInBounds_toArray, List.set_cons_zero, List.set_cons_succ, i64_w, i32_w]
          rfl
        refine two_ (i := 5) (j := 9) (Ni := some 91) (Nj := some 19) #[true, true, true, true, true, true, false, false, false, false, false, false] #[true, true, true, true, true, false, false, false, false, true, false, false] rfl rfl rfl rfl (two_of HT_.out (by kernel_rfl)) (by decide) (by decide) (fun K hK => ?_) (fun K hK => ?_)
        · skip
          refine goes_ Try.func22 (by kernel_rfl) rfl #[.agg #[.slice A3 lw.length c3, .int .i64 (cap : Int), .bool closed], .agg #[.int .i64 y.f0, .int .i64 y.f1]] (by rfl) rfl rfl (by (try simp only [List.map_toArray, List.map_cons, List.map_nil]); first | done | rfl) ?_
          refine (rPut.all A3 c3 lw (cap : Int) closed y _ D.out.2.2.2.2.1.now HC3.out (Nat.le_trans HL3.out (Nat.le_trans HCAP.out (by omega)))).mono ?_
          rintro e w5 ⟨A4, c4, rfl, hR, hc4, hb⟩
          refine ⟨_, rfl, ?_⟩
          have RN := Aside0.mk (hR _ (D.out.s6 ST.out) D.out.2.2.2.2.1)
          (try (have RWN := Aside0.mk (hR (fun k => S6 S b4 b6 k ∨ k = b19) (fun k e => by rcases e with e | rfl; exact D.out.s6 ST.out k e; exact blk_lt K19.out) RW.out); have RX7N := Aside0.mk (RX7.out.below hb); have K19N := Aside0.mk (blk_below K19.out hb); clear RW RX7 K19; have RW := RWN; have RX7 := RX7N; have K19 := K19N; clear RWN RX7N K19N))
          have hxn0 := pw_cell_below hb hx0
          have hxn1 := pw_cell_below hb hx1
          have RXN := Aside0.mk (RX.out.below hb)
          clear hx0 hx1 RX
          have hx0 := hxn0
          have hx1 := hxn1
          have RX := RXN
          clear hxn0 hxn1 RXN
          have DN := Aside0.mk (D.out.below ST.out hb); clear D; have D := DN; clear DN
          clear i0 i1 i2 u0 u1 u2 j0 j1 j2 j3 v0 v1 v2 v3 k0 k1 k2 z0 z1 z2
          obtain ⟨⟨i0, i1, i2⟩, u0, u1, u2⟩ := cell3 D.out.1; obtain ⟨⟨j0, j1, j2, j3⟩, v0, v1, v2, v3⟩ := cell4_ D.out.2.1; obtain ⟨⟨k0, k1, k2⟩, z0, z1, z2⟩ := cell3 D.out.2.2.1
          have DN := Aside0.mk (D.out.row RN.out)
          clear D
          have D := DN
          clear DN RN
          have HC4 := Aside0.mk hc4
          clear hc4 hb hR
          rw [hps] at D HC4 ⊢
          (try rw [hps] at RW)
          (try simp only at RW)
          simp only at D HC4 ⊢
          refine hK.out _ _ ⟨i0, i1, i2, hx0, hx1⟩ (fun hHeld => ?_)
          clear hK K
          refine norm_ (a' := ?_) ?_ ?_
          rotate_left
          · show Act.put _ (some 91) _ = _
            simp only [Act.put, List.setIfInBounds_toArray, List.set_cons_zero, List.set_cons_succ, i64_w, i32_w]
            rfl
          refine pure_ (i := 6) (N := some 85) (v := ?_) (a' := ?_) #[true, true, true, true, true, true, true, false, false, false, false, false] rfl rfl (any_of HT_.out (by kernel_rfl)) (fun _ _ _ h => h) (Or.inl ⟨by rfl, ?_⟩) ?_ ?_
          rotate_left
          · intro w'
            go_simp
            with_reducible rfl
          rotate_left
          · simp only [Act.put, List.setIfInBounds_toArray, List.set_cons_zero, List.set_cons_succ, i64_w, i32_w]
            rfl
          refine pure_ (i := 7) (N := some 92) (v := ?_) (a' := ?_) #[true, true, true, true, true, true, true, true, false, false, false, false] rfl rfl (any_of HT_.out (by kernel_rfl)) (fun _ _ _ h => h) (Or.inl ⟨by rfl, ?_⟩) ?_ ?_
          rotate_left
          · intro w'
            go_simp
            with_reducible rfl
          rotate_left
          · simp only [Act.put, List.setIfInBounds_toArray, List.set_cons_zero, List.set_cons_succ, i64_w, i32_w]
            rfl
          refine pure_ (i := 8) (N := some 93) (v := ?_) (a' := ?_) #[true, true, true, true, true, true, true, true, true, false, false, false] rfl rfl (any_of HT_.out (by kernel_rfl)) (fun _ _ _ h => h) (Or.inl ⟨by rfl, ?_⟩) ?_ ?_
          rotate_left
          · intro w'
            go_simp
            with_reducible rfl
          rotate_left
          · simp only [Act.put, List.setIfInBounds_toArray, List.set_cons_zero, List.set_cons_succ, i64_w, i32_w]
            rfl
          refine one_ (i := 9) (N := some 19) #[true, true, true, true, true, true, true, true, true, true, false, false] rfl rfl (one_of HT_.out (by kernel_rfl)) (by decide) (fun K hK => ?_)
          refine box_step ?hg (N := 19) ?hd (cs := #[.slice none 0 0, .int .i64 0, .bool false]) (t := 30) ?hr ?_; (case hd => rfl); (case hg => rfl); (case hr => first | (go_simp; done) | (go_simp; rfl))
          intro b19 hg9 w9 hbox hb
          have N19 := Aside0.mk (show w.heap.size ≤ b19 ∧ b19 ≠ b4 ∧ b19 ≠ b5 ∧ b19 ≠ b6 from by have h1 := blk_lt D.out.1; have h2 := blk_lt D.out.2.1; have h3 := blk_lt D.out.2.2.1; have h4 := D.out.2.2.2.2.2.1.1; exact ⟨by omega, by omega, by omega, by omega⟩)
          have RW := Aside0.mk ((D.out.2.2.2.2.1.more (T := (fun k => S6 S b4 b6 k ∨ k = b19)) (fun k e => e.imp id (fun h => Nat.le_of_eq (by rw [h, hg9])))).below hb)
          have RX7 := Aside0.mk ((RX.out.more (T := (fun k => S6 S b4 b6 k ∨ k = b19)) (fun k e => e.imp id (fun h => Nat.le_of_eq (by rw [h, hg9])))).below hb)
          have K19 := Aside0.mk hbox
          have hxn0 := pw_cell_below hb hx0
          have hxn1 := pw_cell_below hb hx1
          have RXN := Aside0.mk (RX.out.below hb)
          clear hx0 hx1 RX
          have hx0 := hxn0
          have hx1 := hxn1
          have RX := RXN
          clear hxn0 hxn1 RXN
          have DN := Aside0.mk (D.out.below ST.out hb); clear D; have D := DN; clear DN
          clear i0 i1 i2 u0 u1 u2 j0 j1 j2 j3 v0 v1 v2 v3 k0 k1 k2 z0 z1 z2
          obtain ⟨⟨i0, i1, i2⟩, u0, u1, u2⟩ := cell3 D.out.1; obtain ⟨⟨j0, j1, j2, j3⟩, v0, v1, v2, v3⟩ := cell4_ D.out.2.1; obtain ⟨⟨k0, k1, k2⟩, z0, z1, z2⟩ := cell3 D.out.2.2.1
          clear hb hg9 hbox
          refine hK.out _ _ ⟨i0, i1, i2, hx0, hx1⟩ (fun hHeld => ?_)
          clear hK K
          refine norm_ (a' := ?_) ?_ ?_
          rotate_left
          · show Act.put _ (some 19) _ = _
            simp only [Act.put, List.setIfInBounds_toArray, List.set_cons_zero, List.set_cons_succ, i64_w, i32_w]
            rfl
          refine last_ (i := 10) (N := none) #[true, true, true, true, true, true, true, true, true, true, true, false] rfl rfl (one_of HT_.out (by kernel_rfl)) (by decide) (fun K hK => ?_)
          have fz0 := blk_frozen K19.out 0
          have fz1 := blk_frozen K19.out 1
          have fz2 := blk_frozen K19.out 2
          obtain ⟨⟨e0, e1, e2⟩, _⟩ := cell3 K19.out
          refine skip_ (w1 := ?_) (by rfl) rfl ?_ ?_
          rotate_left
          · go_simp
            rfl
          refine hK.out _ _ ?_
          clear hK K
          refine pure_ (i := 11) (N := some 20) (v := ?_) (a' := ?_) #[true, true, true, true, true, true, true, true, true, true, true, true] rfl rfl (any_of HT_.out (by kernel_rfl)) (fun _ _ _ h => h) (Or.inl ⟨by rfl, ?_⟩) ?_ ?_
          rotate_left
          · intro w'
            go_simp
            with_reducible rfl
          rotate_left
          · simp only [Act.put, List.setIfInBounds_toArray, List.set_cons_zero, List.set_cons_succ, i64_w, i32_w]
            rfl
          refine done_ (done_of HT_.out (by kernel_rfl)) ?_
          go_wp2_with fail
          go_meet
          refine ⟨b19, A4, c4, rfl, rfl, ⟨N19.out.2.1, N19.out.2.2.2⟩, ⟨put3 K19.out⟩, HC4, ⟨D.out.box ST.out (kept3 _ b19 _ _ _) (fam3 (Nat.le_trans BS.out N19.out.1) _ _ _) N19.out ((RW.out.kept (kept3 _ b19 _ _ _) (fun k e => .inl (.inr e))).less (fun k e => .inl e))⟩, ⟨(RX7.out.kept (kept3 _ b19 _ _ _) (fun k e => .inl (.inr e))).less (fun k e => .inl e)⟩⟩
        · skip
          refine box_step ?hg (N := 19) ?hd (cs := #[.slice none 0 0, .int .i64 0, .bool false]) (t := 30) ?hr ?_; (case hd => rfl); (case hg => rfl); (case hr => first | (go_simp; done) | (go_simp; rfl))
          intro b19 hg9 w9 hbox hb
          have N19 := Aside0.mk (show w.heap.size ≤ b19 ∧ b19 ≠ b4 ∧ b19 ≠ b5 ∧ b19 ≠ b6 from by have h1 := blk_lt D.out.1; have h2 := blk_lt D.out.2.1; have h3 := blk_lt D.out.2.2.1; have h4 := D.out.2.2.2.2.2.1.1; exact ⟨by omega, by omega, by omega, by omega⟩)
          have RW := Aside0.mk ((D.out.2.2.2.2.1.more (T := (fun k => S6 S b4 b6 k ∨ k = b19)) (fun k e => e.imp id (fun h => Nat.le_of_eq (by rw [h, hg9])))).below hb)
          have RX7 := Aside0.mk ((RX.out.more (T := (fun k => S6 S b4 b6 k ∨ k = b19)) (fun k e => e.imp id (fun h => Nat.le_of_eq (by rw [h, hg9])))).below hb)
          have K19 := Aside0.mk hbox
          have hxn0 := pw_cell_below hb hx0
          have hxn1 := pw_cell_below hb hx1
          have RXN := Aside0.mk (RX.out.below hb)
          clear hx0 hx1 RX
          have hx0 := hxn0
          have hx1 := hxn1
          have RX := RXN
          clear hxn0 hxn1 RXN
          have DN := Aside0.mk (D.out.below ST.out hb); clear D; have D := DN; clear DN
          clear i0 i1 i2 u0 u1 u2 j0 j1 j2 j3 v0 v1 v2 v3 k0 k1 k2 z0 z1 z2
          obtain ⟨⟨i0, i1, i2⟩, u0, u1, u2⟩ := cell3 D.out.1; obtain ⟨⟨j0, j1, j2, j3⟩, v0, v1, v2, v3⟩ := cell4_ D.out.2.1; obtain ⟨⟨k0, k1, k2⟩, z0, z1, z2⟩ := cell3 D.out.2.2.1
          clear hb hg9 hbox
          refine hK.out _ _ ⟨i0, i1, i2, hx0, hx1⟩ (fun hHeld => ?_)
          clear hK K
          refine norm_ (a' := ?_) ?_ ?_
          rotate_left
          · show Act.put _ (some 19) _ = _
            simp only [Act.put, List.setIfInBounds_toArray, List.set_cons_zero, List.set_cons_succ, i64_w, i32_w]
            rfl
          refine one_ (i := 5) (N := some 91) #[true, true, true, true, true, true, false, false, false, true, false, false] rfl rfl (one_of HT_.out (by kernel_rfl)) (by decide) (fun K hK => ?_)
          refine goes_ Try.func22 (by kernel_rfl) rfl #[.agg #[.slice A3 lw.length c3, .int .i64 (cap : Int), .bool closed], .agg #[.int .i64 y.f0, .int .i64 y.f1]] (by rfl) rfl rfl (by (try simp only [List.map_toArray, List.map_cons, List.map_nil]); first | done | rfl) ?_
          refine (rPut.all A3 c3 lw (cap : Int) closed y _ D.out.2.2.2.2.1.now HC3.out (Nat.le_trans HL3.out (Nat.le_trans HCAP.out (by omega)))).mono ?_
          rintro e w5 ⟨A4, c4, rfl, hR, hc4, hb⟩
          refine ⟨_, rfl, ?_⟩
          have RN := Aside0.mk (hR _ (D.out.s6 ST.out) D.out.2.2.2.2.1)
          (try (have RWN := Aside0.mk (hR (fun k => S6 S b4 b6 k ∨ k = b19) (fun k e => by rcases e with e | rfl; exact D.out.s6 ST.out k e; exact blk_lt K19.out) RW.out); have RX7N := Aside0.mk (RX7.out.below hb); have K19N := Aside0.mk (blk_below K19.out hb); clear RW RX7 K19; have RW := RWN; have RX7 := RX7N; have K19 := K19N; clear RWN RX7N K19N))
          have hxn0 := pw_cell_below hb hx0
          have hxn1 := pw_cell_below hb hx1
          have RXN := Aside0.mk (RX.out.below hb)
          clear hx0 hx1 RX
          have hx0 := hxn0
          have hx1 := hxn1
          have RX := RXN
          clear hxn0 hxn1 RXN
          have DN := Aside0.mk (D.out.below ST.out hb); clear D; have D := DN; clear DN
          clear i0 i1 i2 u0 u1 u2 j0 j1 j2 j3 v0 v1 v2 v3 k0 k1 k2 z0 z1 z2
          obtain ⟨⟨i0, i1, i2⟩, u0, u1, u2⟩ := cell3 D.out.1; obtain ⟨⟨j0, j1, j2, j3⟩, v0, v1, v2, v3⟩ := cell4_ D.out.2.1; obtain ⟨⟨k0, k1, k2⟩, z0, z1, z2⟩ := cell3 D.out.2.2.1
          have DN := Aside0.mk (D.out.row RN.out)
          clear D
          have D := DN
          clear DN RN
          have HC4 := Aside0.mk hc4
          clear hc4 hb hR
          rw [hps] at D HC4 ⊢
          (try rw [hps] at RW)
          (try simp only at RW)
          simp only at D HC4 ⊢
          refine hK.out _ _ ⟨i0, i1, i2, hx0, hx1⟩ (fun hHeld => ?_)
          clear hK K
          refine norm_ (a' := ?_) ?_ ?_
          rotate_left
          · show Act.put _ (some 91) _ = _
            simp only [Act.put, List.setIfInBounds_toArray, List.set_cons_zero, List.set_cons_succ, i64_w, i32_w]
            rfl
          refine pure_ (i := 6) (N := some 85) (v := ?_) (a' := ?_) #[true, true, true, true, true, true, true, false, false, true, false, false] rfl rfl (any_of HT_.out (by kernel_rfl)) (fun _ _ _ h => h) (Or.inl ⟨by rfl, ?_⟩) ?_ ?_
          rotate_left
          · intro w'
            go_simp
            with_reducible rfl
          rotate_left
          · simp only [Act.put, List.setIfInBounds_toArray, List.set_cons_zero, List.set_cons_succ, i64_w, i32_w]
            rfl
          refine pure_ (i := 7) (N := some 92) (v := ?_) (a' := ?_) #[true, true, true, true, true, true, true, true, false, true, false, false] rfl rfl (any_of HT_.out (by kernel_rfl)) (fun _ _ _ h => h) (Or.inl ⟨by rfl, ?_⟩) ?_ ?_
          rotate_left
          · intro w'
            go_simp
            with_reducible rfl
          rotate_left
          · simp only [Act.put, List.setIfInBounds_toArray, List.set_cons_zero, List.set_cons_succ, i64_w, i32_w]
            rfl
          refine pure_ (i := 8) (N := some 93) (v := ?_) (a' := ?_) #[true, true, true, true, true, true, true, true, true, true, false, false] rfl rfl (any_of HT_.out (by kernel_rfl)) (fun _ _ _ h => h) (Or.inl ⟨by rfl, ?_⟩) ?_ ?_
          rotate_left
          · intro w'
            go_simp
            with_reducible rfl
          rotate_left
          · simp only [Act.put, List.setIfInBounds_toArray, List.set_cons_zero, List.set_cons_succ, i64_w, i32_w]
            rfl
          refine last_ (i := 10) (N := none) #[true, true, true, true, true, true, true, true, true, true, true, false] rfl rfl (one_of HT_.out (by kernel_rfl)) (by decide) (fun K hK => ?_)
          have fz0 := blk_frozen K19.out 0
          have fz1 := blk_frozen K19.out 1
          have fz2 := blk_frozen K19.out 2
          obtain ⟨⟨e0, e1, e2⟩, _⟩ := cell3 K19.out
          refine skip_ (w1 := ?_) (by rfl) rfl ?_ ?_
          rotate_left
          · go_simp
            rfl
          refine hK.out _ _ ?_
          clear hK K
          refine pure_ (i := 11) (N := some 20) (v := ?_) (a' := ?_) #[true, true, true, true, true, true, true, true, true, true, true, true] rfl rfl (any_of HT_.out (by kernel_rfl)) (fun _ _ _ h => h) (Or.inl ⟨by rfl, ?_⟩) ?_ ?_
          rotate_left
          · intro w'
            go_simp
            with_reducible rfl
          rotate_left
          · simp only [Act.put, List.setIfInBounds_toArray, List.set_cons_zero, List.set_cons_succ, i64_w, i32_w]
            rfl
          refine done_ (done_of HT_.out (by kernel_rfl)) ?_
          go_wp2_with fail
          go_meet
          refine ⟨b19, A4, c4, rfl, rfl, ⟨N19.out.2.1, N19.out.2.2.2⟩, ⟨put3 K19.out⟩, HC4, ⟨D.out.box ST.out (kept3 _ b19 _ _ _) (fam3 (Nat.le_trans BS.out N19.out.1) _ _ _) N19.out ((RW.out.kept (kept3 _ b19 _ _ _) (fun k e => .inl (.inr e))).less (fun k e => .inl e))⟩, ⟨(RX7.out.kept (kept3 _ b19 _ _ _) (fun k e => .inl (.inr e))).less (fun k e => .inl e)⟩⟩
      case rest =>
        obtain ⟨b19, A4, c4, rfl, rfl, N19, K19, HC4, DX, RXX⟩ := hcut
        clear D RX i0 i1 i2 u0 u1 u2 j0 j1 j2 j3 v0 v1 v2 v3 k0 k1 k2 z0 z1 z2 hx0 hx1
        have D := DX
        have RX := RXX
        clear DX RXX
        have n194 := N19.out.1
        have n419 := Ne.symm n194
        obtain ⟨⟨e0, e1, e2⟩, _⟩ := cell3 K19.out
        obtain ⟨⟨i0, i1, i2⟩, u0, u1, u2⟩ := cell3 D.out.1; obtain ⟨⟨j0, j1, j2, j3⟩, v0, v1, v2, v3⟩ := cell4_ D.out.2.1; obtain ⟨⟨k0, k1, k2⟩, z0, z1, z2⟩ := cell3 D.out.2.2.1
        by_cases hcode : code = 0
        · subst hcode
          go_wp2_with fail
          have DN := Aside0.mk (D.out.put4 ST.out (.slice A4 l2.length c4) (.int .i64 (cap : Int)) (.bool closed))
          have RXN := Aside0.mk (RX.out.kept (kept3 _ b4 (.slice A4 l2.length c4) (.int .i64 (cap : Int)) (.bool closed)) (fun k e => .inl (.inr (.inl e))))
          exact ⟨⟨j + 1, n + 1, l2, A4, c4, by omega, by omega, by go_num, by go_num, ⟨by
            obtain ⟨m, hm, hn2⟩ := FI.out
            rw [TJ.out, fillP, hps] at hm
            simp only at hm
            injection hm with hm1 hm2
            simp only [if_true] at hm2
            exact ⟨(fillP (cap : Int) closed l2 (xs.drop (j + 1))).2, Prod.ext hm1 rfl, by omega⟩⟩, HC4, HL4, DN, RXN⟩, by simp [intOf]; omega⟩
        · have hc0 : (code == 0) = false := beq_false_of_ne hcode
          go_wp2_with fail
          have DN := Aside0.mk (D.out.put4 ST.out (.slice A4 l2.length c4) (.int .i64 (cap : Int)) (.bool closed))
          have RXN := Aside0.mk (RX.out.kept (kept3 _ b4 (.slice A4 l2.length c4) (.int .i64 (cap : Int)) (.bool closed)) (fun k e => .inl (.inr (.inl e))))
          exact ⟨⟨j + 1, n, l2, A4, c4, by omega, by omega, by go_num, rfl, ⟨by
            obtain ⟨m, hm, hn2⟩ := FI.out
            rw [TJ.out, fillP, hps] at hm
            simp only at hm
            injection hm with hm1 hm2
            rw [if_neg hcode] at hm2
            exact ⟨(fillP (cap : Int) closed l2 (xs.drop (j + 1))).2, Prod.ext hm1 rfl, by omega⟩⟩, HC4, HL4, DN, RXN⟩, by simp [intOf]; omega⟩
    · have hjj : j = xs.length := by omega
      have NE : Aside0 ((((fillP (cap : Int) closed l xs).2 : Nat) : Int) = (n : Int)) := ⟨by
        obtain ⟨m, hm, hn2⟩ := FI.out
        rw [List.drop_eq_nil_of_le (by omega), fillP] at hm
        injection hm with hm1 hm2
        omega⟩
      have LWE : Aside0 ((fillP (cap : Int) closed l xs).1 = lw) := ⟨by
        obtain ⟨m, hm, hn2⟩ := FI.out
        rw [List.drop_eq_nil_of_le (by omega), fillP] at hm
        injection hm with hm1 hm2
        exact hm1.symm⟩
      have HC2 := HC3
      have HL2 := HL3
      subst hjj
      go_upto_region 25 with fail
      refine start_ (n := 8) (S := (fun w' => w'.cell? ⟨b4, 0, none⟩ = some (.slice A3 lw.length c3) ∧ w'.cell? ⟨b4, 1, none⟩ = some (.int .i64 (cap : Int)) ∧ w'.cell? ⟨b4, 2, none⟩ = some (.bool closed))) (ds := [6]) #[false, false, false, false, false, false, false, false] (by kernel_rfl) rfl rfl ⟨i0, i1, i2⟩ (fun hHeld => ?_); refine with_tabW doesR25.tab doesR25.bits (fun HT_ HW_ => ?_)
      have hb := below_drew1 (Below.refl wr.heap.size wr)
      have RXN := Aside0.mk (RX.out.below hb)
      clear RX
      have RX := RXN
      clear RXN
      have DN := Aside0.mk (D.out.below ST.out hb); clear D; have D := DN; clear DN
      clear hb
      clear i0 i1 i2 u0 u1 u2 j0 j1 j2 j3 v0 v1 v2 v3 k0 k1 k2 z0 z1 z2
      generalize wr.drew = w4 at D RX hHeld ⊢
      obtain ⟨⟨i0, i1, i2⟩, u0, u1, u2⟩ := cell3 D.out.1; obtain ⟨⟨j0, j1, j2, j3⟩, v0, v1, v2, v3⟩ := cell4_ D.out.2.1; obtain ⟨⟨k0, k1, k2⟩, z0, z1, z2⟩ := cell3 D.out.2.2.1
      refine take_ (i := 0) (N := some 99) (v := ?_) (a' := ?_) #[true, false, false, false, false, false, false, false] rfl rfl (take_ofW HT_.out HW_.out (by kernel_rfl)) (fun _ _ _ h => h) (Or.inl ⟨by rfl, ?_⟩) hHeld ?_ ?_
      rotate_left
      · rintro w' ⟨s0, s1, s2⟩
        go_simp
        with_reducible rfl
      rotate_left
      · simp only [Act.put, List.setIfInBounds_toArray, List.set_cons_zero, List.set_cons_succ, i64_w, i32_w]
        rfl
      refine pure_ (i := 1) (N := some 100) (v := ?_) (a' := ?_) #[true, true, false, false, false, false, false, false] rfl rfl (any_of HT_.out (by kernel_rfl)) (fun _ _ _ h => h) (Or.inl ⟨by rfl, ?_⟩) ?_ ?_
      rotate_left
      · intro w'
        go_simp
        with_reducible rfl
      rotate_left
      · simp only [Act.put, List.setIfInBounds_toArray, List.set_cons_zero, List.set_cons_succ, i64_w, i32_w]
        rfl
      refine pure_ (i := 2) (N := some 101) (v := ?_) (a' := ?_) #[true, true, true, false, false, false, false, false] rfl rfl (any_of HT_.out (by kernel_rfl)) (fun _ _ _ h => h) (Or.inl ⟨by rfl, ?_⟩) ?_ ?_
      rotate_left
      · intro w'
        go_simp
        with_reducible rfl
      rotate_left
      · simp only [Act.put, List.setIfInBounds_toArray, List.set_cons_zero, List.set_cons_succ, i64_w, i32_w]
        rfl
      refine pure_ (i := 4) (N := some 103) (v := ?_) (a' := ?_) #[true, true, true, false, true, false, false, false] rfl rfl (any_of HT_.out (by kernel_rfl)) (fun _ _ _ h => h) (Or.inl ⟨by rfl, ?_⟩) ?_ ?_
      rotate_left
      · intro w'
        go_simp
        with_reducible rfl
      rotate_left
      · simp only [Act.put, List.setIfInBounds_toArray, List.set_cons_zero, List.set_cons_succ, i64_w, i32_w]
        rfl
      refine one_ (i := 3) (N := some 102) #[true, true, true, true, true, false, false, false] rfl rfl (one_of HT_.out (by kernel_rfl)) (by decide) (fun K hK => ?_)
      refine goes_ Try.func16 (by kernel_rfl) rfl #[.pointer (some ⟨g, 0, none⟩), .slice Ax xs.length cx] (by rfl) rfl rfl (by (try simp only [List.map_toArray, List.map_cons, List.map_nil]); first | done | rfl) ?_
      refine (queue_Fill.all base g c cap l closed _ D.out.2.2.2.1 Ax cx xs (fun W' hk => (RX.out.kept hk (fun k e => .inl (.inl (by rw [e]; exact ST.out.1.2)))).now) HCX.out (Nat.le_trans XL.out (by omega)) HL.out).mono ?_
      rintro e w5 ⟨rfl, hq, hk, hf⟩
      refine ⟨_, rfl, ?_⟩
      rw [LWE.out] at hq
      have DN := Aside0.mk (D.out.call ST.out hq (hk.mono (fun k e => .inr e)) hf)
      clear hq hk hf D
      clear i0 i1 i2 u0 u1 u2 j0 j1 j2 j3 v0 v1 v2 v3 k0 k1 k2 z0 z1 z2
      have D := DN
      clear DN
      obtain ⟨⟨i0, i1, i2⟩, u0, u1, u2⟩ := cell3 D.out.1; obtain ⟨⟨j0, j1, j2, j3⟩, v0, v1, v2, v3⟩ := cell4_ D.out.2.1; obtain ⟨⟨k0, k1, k2⟩, z0, z1, z2⟩ := cell3 D.out.2.2.1
      rw [NE.out]
      refine hK.out _ _ ⟨i0, i1, i2⟩ (fun hHeld => ?_)
      clear hK K
      refine norm_ (a' := ?_) ?_ ?_
      rotate_left
      · show Act.put _ (some 102) _ = _
        simp only [Act.put, List.setIfInBounds_toArray, List.set_cons_zero, List.set_cons_succ, i64_w, i32_w]
        rfl
      refine pure_ (i := 5) (N := some 104) (v := ?_) (a' := ?_) #[true, true, true, true, true, true, false, false] rfl rfl (any_of HT_.out (by kernel_rfl)) (fun _ _ _ h => h) (Or.inl ⟨by rfl, ?_⟩) ?_ ?_
      rotate_left
      · intro w'
        go_simp
        with_reducible rfl
      rotate_left
      · simp only [Act.put, List.setIfInBounds_toArray, List.set_cons_zero, List.set_cons_succ, i64_w, i32_w]
        rfl
      refine last_ (i := 6) (N := none) #[true, true, true, true, true, true, true, false] rfl rfl (one_of HT_.out (by kernel_rfl)) (by decide) (fun K hK => ?_)
      refine skip_ (w1 := ?_) (by rfl) rfl ?_ ?_
      rotate_left
      · go_simp
        rfl
      refine hK.out _ _ ?_
      clear hK K
      refine pure_ (i := 7) (N := some 7) (v := ?_) (a' := ?_) #[true, true, true, true, true, true, true, true] rfl rfl (any_of HT_.out (by kernel_rfl)) (fun _ _ _ h => h) (Or.inl ⟨by rfl, ?_⟩) ?_ ?_
      rotate_left
      · intro w'
        go_simp
        with_reducible rfl
      rotate_left
      · simp only [Act.put, List.setIfInBounds_toArray, List.set_cons_zero, List.set_cons_succ, i64_w, i32_w]
        rfl
      refine done_ (done_of HT_.out (by kernel_rfl)) ?_
      go_wp2
      refine bodyPost_ret (results_ct rfl _ _ b6 30 #[.slice A3 lw.length c3, .int .i64 (cap : Int), .bool closed] (0, 0) _ rfl (by exact put3 D.out.2.2.1) Try.underlying30 rfl (by kernel_rfl)) rfl ?_
      have D9 := D.out.put6 ST.out (.slice A3 lw.length c3) (.int .i64 (cap : Int)) (.bool closed)
      refine DPost.mk ⟨A3, c3, lw, closed, rfl, D9.2.2.2.1, D9.2.2.2.2.1.less (fun k e => .inl e), HC2.out, HL2.out, D9.2.2.2.2.2.1, D9.2.2.2.2.2.2⟩
end Go.Proofs.Ytphmeljhfbahoaa.PQ
