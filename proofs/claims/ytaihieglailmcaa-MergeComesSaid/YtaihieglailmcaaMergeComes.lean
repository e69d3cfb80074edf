/- MergeComes over this seat's program, by walking its text: it returns true. -/
import Derived.Test.YtaihieglailmcaaCx
import Derived.Test.YtaihieglailmcaaGRef1
import Derived.Test.YtaihieglailmcaaMergeAll
import Derived.Test.YtaihieglailmcaaMergeNil
import Derived.Deep.DeepCutAuto
import Derived.Deep.RegionHeld3
import Derived.Outline
namespace Go.Proofs.Ytaihieglailmcaa.PG
open Go.RowKit Go.Proofs.YtaihieglailmcaaW.PrintWords Go.Proofs.YtaihieglailmcaaW.PrintLast Go.Proofs.YtaihieglailmcaaW.PrintMore Go.Proofs.Ytaihieglailmcaa.Pure
set_option linter.unusedVariables false
set_option linter.unusedSimpArgs false
theorem heap28 : Kd.Heap k28 := Kd.heap_iso _ (Kd.heap_pair (Kd.heap_int _) (Kd.heap_pair (Kd.heap_int _) (Kd.heap_pair (Kd.heap_int _) (Kd.heap_slice _ (Kd.heap_int _)))))
theorem ownM {w W : World} {g b base n c : Nat} {m : S28} {has : Bool} {R : List (World → Prop)} {A : Option Addr} {xs : List Int} (X : Cx (fun k => k = g) w W R) (hM : MAt W b g m has) (hr : Kd.R (Kd.int .i64) 3 W base (fun _ => True) (.slice A n c) xs) : Cx (fun k => k = g) w W (Row (Kd.int .i64) A xs :: R) := by
  obtain ⟨_, v, hbk, _⟩ := hM
  exact X.own (Kd.R_types hr hbk (by decide)) (fun k hk => hk.2)
theorem at_F28 {W : World} {ok : Nat → Prop} {A : Option Addr} {n : Nat} {xs : List S28} (h : Kd.F k28 W ok A n xs) (i : Nat) (hi : i < n) (hx : i < xs.length) : ∃ ad A3 c3, A = some ad ∧ W.cell? (ad.add (i * 4)) = some (.int .i64 xs[i].f0) ∧ W.cell? ⟨(ad.add (i * 4)).block, (ad.add (i * 4)).off + 1, none⟩ = some (.int .i64 xs[i].f1) ∧ W.cell? ⟨(ad.add (i * 4)).block, (ad.add (i * 4)).off + 2, none⟩ = some (.int .i64 xs[i].f2) ∧ W.cell? ⟨(ad.add (i * 4)).block, (ad.add (i * 4)).off + 3, none⟩ = some (.slice A3 xs[i].f3.length c3) ∧ xs[i].f3.length ≤ c3 ∧ Kd.F (Kd.int .i64) W ok A3 xs[i].f3.length xs[i].f3 := by
  obtain ⟨ad, c, e, _, hK, hc0⟩ := Kd.F_get h z28 (i : Int) (by omega) (by omega)
  have hc : ∀ j u, c[j]? = some u → W.cell? (ad.add (i * 4 + j)) = some u := hc0.1
  have hg : xs.getD (i : Int).toNat z28 = xs[i] := by simp [List.getD_eq_getElem?_getD, List.getElem?_eq_getElem hx]
  rw [hg] at hK
  obtain ⟨A3, c3, rfl, l3, g3⟩ := k28_openF hK
  exact ⟨ad, A3, c3, e, hc 0 _ rfl, by rw [← add_field _ _ 1 (by omega)]; exact hc 1 _ rfl, by rw [← add_field _ _ 2 (by omega)]; exact hc 2 _ rfl, by rw [← add_field _ _ 3 (by omega)]; exact hc 3 _ rfl, l3, g3⟩
theorem hold4 {w w' : World} (hb : Below w.heap.size w w') {a b c d : Addr} {v0 v1 v2 v3 : Value} (h0 : w.cell? a = some v0) (h1 : w.cell? b = some v1) (h2 : w.cell? c = some v2) (h3 : w.cell? d = some v3) : Below w.heap.size w w' ∧ w'.cell? a = some v0 ∧ w'.cell? b = some v1 ∧ w'.cell? c = some v2 ∧ w'.cell? d = some v3 :=
  ⟨hb, pw_cell_below hb h0, pw_cell_below hb h1, pw_cell_below hb h2, pw_cell_below hb h3⟩
theorem N_empty {α : Type} (d : Kd α) {e base g : Nat} {W : World} {ok : Nat → Prop} (hb : W.heap[g]? = some (.cells #[] e (0, 0))) (hge : base ≤ g) (hok : ok g) : Kd.N d e W base ok (.slice (some ⟨g, 0, none⟩) 0 0) ([] : List α) :=
  Kd.R_N ⟨fun k hk => by
    have : g = k := by simpa [Value.ownBlock] using hk
    exact this ▸ hok, [], ⟨by simp, .inr ⟨g, 0, #[], rfl, hge, hb, Nat.le_refl _, by unfold maxLen; omega, by simp, by simp⟩⟩, Reps.none _ _⟩
theorem row1 {W : World} {g t : Nat} {a : S28} {A : Option Addr} {c : Nat} (hb : W.heap[g]? = some (.cells #[.int .i64 a.f0, .int .i64 a.f1, .int .i64 a.f2, .slice A a.f3.length c] t (0, 0))) (hA : Kd.C (Kd.int .i64) W A a.f3.length a.f3) (hc : a.f3.length ≤ c) : Kd.C k28 W (some ⟨g, 0, none⟩) 1 [a] := by
  refine ⟨rfl, by omega, fun _ => ⟨⟨g, 0, none⟩, rfl, fun j p hj => ?_⟩⟩
  rcases j with _ | j
  · simp only [List.getElem?_cons_zero, Option.some.injEq] at hj
    subst hj
    refine ⟨_, rfl, k28_mk W a hc hA, fun i u hu => ?_⟩
    rw [add_plain]
    rcases i with _ | _ | _ | _ | i
    · exact (blk_cell hb 0).trans hu
    · exact (blk_cell hb 1).trans hu
    · exact (blk_cell hb 2).trans hu
    · exact (blk_cell hb 3).trans hu
    · simp at hu
  · simp at hj
/-- One record in a block of its own, as a row that hangs on that block and on its Ids' alone. -/
theorem row1F {W : World} {g t : Nat} {a : S28} {A : Option Addr} {c : Nat} {ok : Nat → Prop} (hb : W.heap[g]? = some (.cells #[.int .i64 a.f0, .int .i64 a.f1, .int .i64 a.f2, .slice A a.f3.length c] t (0, 0))) (hF : Kd.F (Kd.int .i64) W ok A a.f3.length a.f3) (hc : a.f3.length ≤ c) : Kd.F k28 W (fun k => ok k ∨ k = g) (some ⟨g, 0, none⟩) 1 [a] :=
  fun W' hW => row1 ((hW g (Or.inr rfl) (blk_lt hb)).trans hb) (hF W' (fun k hk hlt => hW k (Or.inl hk) hlt)) hc
theorem ok46 {w4 w5 : World} {g gY gE : Nat} {v5 : Value} {W : World} {ok : Nat → Prop} {e : Nat} {xs : List S28} (hgw : g < w4.heap.size) (hgY : w4.heap.size ≤ gY) (hgYW : gY < W.heap.size) (hne : gE ≠ gY) (ho : Kd.N k28 e w5 w4.heap.size ok v5 xs) (hat : v5.ownBlock = some gE ∨ ∃ b, v5.ownBlock = some b ∧ W.heap.size ≤ b) : ∀ k, ((k ≠ g ∧ k < w4.heap.size) ∨ k = gY) → k ≠ g ∧ some k ≠ v5.ownBlock := by
  intro k hk
  rcases hk with hk | hk
  · exact ⟨hk.1, fun he => by have h1 := Kd.N_base ho k he.symm; have h2 := hk.2; omega⟩
  · subst hk
    refine ⟨by omega, fun he => ?_⟩
    rcases hat with h | ⟨b, h, hb⟩
    · rw [h] at he
      injection he with he
      exact hne he.symm
    · rw [h] at he
      injection he with he
      omega
/-- Two rows put together: the walk of one statement. -/
def NextRel (g : Nat) (w : World) (m' : S28) (has' : Bool) (nx : List S28) (R : List (World → Prop)) (v : Value) (wx : World) : Prop :=
  ∃ (An : Option Addr) (cn : Nat), v = .slice An nx.length cn ∧ nx.length ≤ cn ∧ MAt wx w.heap.size g m' has' ∧ Cx (fun k => k = g) w wx (Row k28 An nx :: R)
theorem hold12 {w w2 : World} (hb : Below w.heap.size w w2) {a0 a1 a2 a3 a4 a5 a6 a7 a8 a9 a10 a11 : Addr} {v0 v1 v2 v3 v4 v5 v6 v7 v8 v9 v10 v11 : Value} (h : w.cell? a0 = some v0 ∧ w.cell? a1 = some v1 ∧ w.cell? a2 = some v2 ∧ w.cell? a3 = some v3 ∧ w.cell? a4 = some v4 ∧ w.cell? a5 = some v5 ∧ w.cell? a6 = some v6 ∧ w.cell? a7 = some v7 ∧ w.cell? a8 = some v8 ∧ w.cell? a9 = some v9 ∧ w.cell? a10 = some v10 ∧ w.cell? a11 = some v11) : w2.cell? a0 = some v0 ∧ w2.cell? a1 = some v1 ∧ w2.cell? a2 = some v2 ∧ w2.cell? a3 = some v3 ∧ w2.cell? a4 = some v4 ∧ w2.cell? a5 = some v5 ∧ w2.cell? a6 = some v6 ∧ w2.cell? a7 = some v7 ∧ w2.cell? a8 = some v8 ∧ w2.cell? a9 = some v9 ∧ w2.cell? a10 = some v10 ∧ w2.cell? a11 = some v11 := by
  obtain ⟨h0, h1, h2, h3, h4, h5, h6, h7, h8, h9, h10, h11⟩ := h
  exact ⟨pw_cell_below hb h0, pw_cell_below hb h1, pw_cell_below hb h2, pw_cell_below hb h3, pw_cell_below hb h4, pw_cell_below hb h5, pw_cell_below hb h6, pw_cell_below hb h7, pw_cell_below hb h8, pw_cell_below hb h9, pw_cell_below hb h10, pw_cell_below hb h11⟩
def comesR11.T : Bool × List (List Nat × List Nat) := (true, [([], []), ([], []), ([1], [1]), ([2], [2]), ([0, 3], [0, 3]), ([4], [4]), ([5], [5]), ([6, 5, 5], [5, 6]), ([7], [7]), ([7], [7]), ([9, 7], [7, 9]), ([10, 7], [7, 10]), ([8, 11, 7, 7], [7, 8, 11]), ([12, 7], [7, 12]), ([7, 13, 5], [5, 7, 13]), ([5, 14], [5, 14]), ([15, 12], [15]), ([16], [16]), ([17, 16], [16, 17]), ([18, 16, 16], [16, 18]), ([19], [19]), ([19], [19]), ([20, 21, 19, 19], [19, 20, 21]), ([22, 19], [19, 22]), ([19, 23, 16], [16, 19, 23]), ([16, 24], [16, 24])])
def comesR11.B : List Nat := [0, 0, 2, 6, 15, 31, 63, 127, 255, 255, 767, 1791, 4095, 8191, 16383, 32767, 65535, 131071, 262143, 524287, 1048575, 1048575, 4194303, 8388607, 16777215, 33554431]
theorem comesR11.tab : rtab .any (opsOf Try.f3 11) = comesR11.T := by kernel_rfl
theorem comesR11.bits : waitsOk comesR11.T.2 comesR11.B = true := by kernel_rfl
def comesR17.T : Bool × List (List Nat × List Nat) := (true, [([], []), ([0], [0]), ([1], [1]), ([2], [2]), ([2], [2]), ([4, 2], [2, 4]), ([5, 2], [2, 5]), ([3, 6, 2, 2], [2, 3, 6]), ([7, 2], [2, 7]), ([2, 8], [2, 8]), ([9, 7], [9]), ([10], [10]), ([10, 11], [10, 11]), ([12, 10], [12]), ([13], [13]), ([13], [13]), ([14, 15, 13, 13], [13, 14, 15]), ([16, 13], [13, 16]), ([13, 17], [13, 17])])
def comesR17.B : List Nat := [0, 1, 3, 7, 7, 23, 55, 127, 255, 511, 1023, 2047, 4095, 8191, 16383, 16383, 65535, 131071, 262143]
theorem comesR17.tab : rtab .any (opsOf Try.f3 17) = comesR17.T := by kernel_rfl
theorem comesR17.bits : waitsOk comesR17.T.2 comesR17.B = true := by kernel_rfl
/-- What a round of MergeComes comes to: what Add tells, what the document's All tells. -/
theorem comes_round (m : S28) (has : Bool) (hs : List S28) (y : S28) (hy : okR y) (hhs : hs = if has = true then [m] else []) (hom : has = true → okR m) : ∃ k2 o ok m' k3 nx, merge_Add.f k2 m has y = some (o, ok, m', true) ∧ juratref27_All.f k3 (hs ++ [y]) = some nx ∧ ((ok = false ∧ nx = [m'] ∧ ∃ kz, juratref24_Same.f kz o.f0 o.f1 o.f2 o.f3 0 0 0 [] = some true) ∨ (ok = true ∧ nx = [o, m'] ∧ ∃ kz, juratref24_Same.f kz o.f0 o.f1 o.f2 o.f3 o.f0 o.f1 o.f2 o.f3 = some true)) ∧ okR m' := by
  cases has with
  | false =>
    obtain rfl : hs = [] := by simpa using hhs
    obtain ⟨k3, h3⟩ := (rall_ev [y] (by simpa using hy) (by simp)).rounds
    obtain ⟨kz, hz⟩ := (same24_ev z28 z28 (by simp [z28])).rounds
    rw [eqR_self] at hz
    refine ⟨0, z28, false, y, k3, [y], ?_, h3, Or.inl ⟨rfl, rfl, kz, hz⟩, hy⟩
    unfold merge_Add.f
    rw [if_pos rfl, copied_is _ _ _ _ hy.2.2.2]
    rfl
  | true =>
    have hm := hom rfl
    obtain rfl : hs = [m] := by simpa using hhs
    obtain ⟨k3, h3⟩ := (rall_ev [m, y] (by intro x hx; rcases List.mem_cons.1 hx with rfl | hx; exact hm; rcases List.mem_cons.1 hx with rfl | hx; exact hy; cases hx) (by simp)).rounds
    obtain ⟨k2, h2⟩ := (two_ev m y hm hy).rounds
    have e : allS [m, y] = if cmb m y = true then [jn2 m y] else [m, y] := by
      simp only [allS, allGo]
    rw [e] at h3
    by_cases hc : cmb m y = true
    · rw [if_pos hc] at h3
      obtain ⟨kz, hz⟩ := (same24_ev z28 z28 (by simp [z28])).rounds
      rw [eqR_self] at hz
      refine ⟨k2, z28, false, jn2 m y, k3, _, ?_, h3, Or.inl ⟨rfl, rfl, kz, hz⟩, okR_jn hm hc⟩
      unfold merge_Add.f
      rw [if_neg (by decide), h2]
      unfold twoS
      rw [if_pos hc]
      rfl
    · rw [if_neg hc] at h3
      obtain ⟨kz, hz⟩ := (same24_ev m m (by have := hm.2.2.2; omega)).rounds
      rw [eqR_self] at hz
      refine ⟨k2, m, true, y, k3, _, ?_, h3, Or.inr ⟨rfl, rfl, kz, hz⟩, hy⟩
      unfold merge_Add.f
      rw [if_neg (by decide), h2]
      unfold twoS
      rw [if_neg hc]
      simp only [Option.bind_some, Bool.false_eq_true, if_false]
      rw [copied_is _ _ _ _ hy.2.2.2]
      rfl
set_option maxHeartbeats 16000000 in
set_option maxRecDepth 100000 in
theorem comes_loop (l : List S28) (fl : Int) (C : Option Addr) (cl : Nat) (w : World) (hC : Kd.C k28 w C l.length l) (hcl : l.length ≤ cl) (hl : l.length ≤ 1000) (hok : ∀ x ∈ l, okR x) (k1 : Nat) (h1 : juratref27_Few.f k1 l 20 = some true) (k9 : Nat) (h9 : juratlaw27_awake.f k9 = some true) :
    Calls Try.prog 3 #[.slice C l.length cl, .int .u32 fl] w fun e w' => e = .returned (.bool true) ∧ Below w.heap.size w w' := by
  have hu := Try.underlying28
  obtain ⟨i0, hi, hz0, hz1, hz2⟩ := info_parts info28
  have H1 := Aside0.mk h1
  have H9 := Aside0.mk h9
  have HL := Aside0.mk hl
  have HOK := Aside0.mk hok
  have HCC := Aside0.mk hC
  clear h1 h9 hl hok
  go_enter Try.func3, Try.ntmps3
  go_upto_region 3 with (first | (go_at_call 9; (refine (juratref27_Few.calls k1 C cl l 20 true _ (by (with_reducible repeat (first | apply Kd.C_alloc | apply Kd.C_drew)); exact HCC.out) hcl H1.out).mono ?_); rintro e w1 ⟨rfl, hd1⟩; have HB1 := Aside0.mk hd1.below; clear hd1) | fail)
  go_wp2
  obtain ⟨g, hg⟩ : ∃ g, w1.heap.size = g := ⟨_, rfl⟩
  have hgw : w.heap.size ≤ g := hg ▸ HB1.out.size
  have X0 := Aside0.mk ((((Cx.start (fun k => k = g) w (fun k hk => hk ▸ hgw)).step HB1.out).alloc (Obj.cells #[.int .i64 0, .int .i64 0, .int .i64 0, .slice none 0 0, .bool false] 30)).came heap28 hC)
  have hM0 : MAt (w1.alloc (Obj.cells #[.int .i64 0, .int .i64 0, .int .i64 0, .slice none 0 0, .bool false] 30)) w.heap.size g z28 false := ⟨hgw, _, hg ▸ blk_new _ _, Kd.R_nil _ _ _ _ _⟩
  have M0 := Aside0.mk hM0
  clear HB1 hM0 hC HCC
  generalize w1.alloc (Obj.cells #[.int .i64 0, .int .i64 0, .int .i64 0, .slice none 0 0, .bool false] 30) = w2 at X0 M0 ⊢
  rw [hg]
  clear hg
  go_loopw [8, 7] (fun i vh wr => ∃ (j : Nat) (m : S28) (has : Bool) (Ah : Option Addr) (ch : Nat) (hs : List S28), j ≤ l.length ∧ i = .int .i64 (j : Int) ∧ vh = .slice Ah hs.length ch ∧ Aside0 (hs.length ≤ ch) ∧ Aside0 (hs = if has = true then [m] else []) ∧ Aside0 (has = true → okR m) ∧ Aside0 (MAt wr w.heap.size g m has) ∧ Aside0 (Cx (fun k => k = g) w wr [Row k28 Ah hs, Row k28 C l])) (fun i _ _ => l.length - (intOf i).toNat)
  case atStart => exact ⟨0, z28, false, none, 0, [], Nat.zero_le _, rfl, rfl, ⟨Nat.le_refl _⟩, ⟨rfl⟩, ⟨fun h => by cases h⟩, M0, ⟨X0.out.nilRow⟩⟩
  case round =>
    obtain ⟨j, m, has, Ah, ch, hs, hj, rfl, rfl, HCH, HHS, HOM, HM, X⟩ := hrel
    clear M0 X0
    by_cases hlt : j < l.length
    · have hy := HOK.out _ (List.getElem_mem hlt)
      obtain ⟨ad, A3, c3, eA, hx0, hx1, hx2, hx3, hl3, hF3⟩ := at_F28 (X.out.footAt 1 rfl : Kd.F k28 wr (fun k => ¬ k = g) C l.length l) j hlt hlt
      subst eA
      obtain ⟨y, hyl⟩ : ∃ y, l[j] = y := ⟨_, rfl⟩
      rw [hyl] at hy hx0 hx1 hx2 hx3 hl3 hF3
      have HYL := Aside0.mk hyl
      clear hyl
      have XY := Aside0.mk (X.out.add (P := Row (Kd.int .i64) A3 y.f3) hF3)
      clear X
      have HY := Aside0.mk hy
      have HL3 := Aside0.mk hl3
      clear hy hl3 hF3
      obtain ⟨k2, o, ok, m', k3, nx, hadd, hall, hpl, hom'⟩ := comes_round m has hs y HY.out HHS.out HOM.out
      obtain ⟨ys, hys⟩ : ∃ ys, ys = hs ++ [y] := ⟨_, rfl⟩
      rw [← hys] at hall
      obtain ⟨has', hh'⟩ : ∃ has', has' = true := ⟨_, rfl⟩
      rw [← hh'] at hadd
      have HADD := Aside0.mk hadd
      have HYS := Aside0.mk hys
      have HALL := Aside0.mk hall
      have HPL := Aside0.mk hpl
      have HOM' := Aside0.mk hom'
      have HH' := Aside0.mk hh'
      clear hadd hall hpl hom' hys hh'
      go_upto_region 10 with (first | (go_at_call 11; (refine (merge_Add.calls k2 w.heap.size g m y has A3 c3 o ok m' has' _ HM.out XY.out.hb.size (XY.out.get 0 rfl) HL3.out HADD.out).mono ?_); rintro e w3 ⟨v, rfl, hRv, hM3, hK3, hB3⟩; obtain ⟨Av, cv, rfl⟩ := Kd.R_slice hRv; have X3 := Aside0.mk (ownM (XY.out.kept hK3 (XY.out.hb.trans hB3) rfl) hM3 hRv); have M3 := Aside0.mk hM3; have HLV := Aside0.mk (Kd.R_reads' hRv).2.1; clear hRv hM3 hK3 hB3) | fail)
      have hbg : w3.heap.size ≠ g := by
        obtain ⟨_, _, h, _⟩ := M3.out
        have := blk_lt h
        omega
      have X4 := Aside0.mk (X3.out.new #[.int .i64 o.f0, .int .i64 o.f1, .int .i64 o.f2, .slice Av o.f3.length cv] 28 hbg)
      have M4 := Aside0.mk (M3.out.below (below_alloc (Below.refl _ _) (Obj.cells #[.int .i64 o.f0, .int .i64 o.f1, .int .i64 o.f2, .slice Av o.f3.length cv] 28)))
      clear X3 M3 HM hx0 hx1 hx2 hx3
      generalize w3.alloc (Obj.cells #[.int .i64 o.f0, .int .i64 o.f1, .int .i64 o.f2, .slice Av o.f3.length cv] 28) = w4 at X4 M4 ⊢
      generalize w3.heap.size = b9 at hbg X4 ⊢
      obtain ⟨ad', A3', c3', eA, hx0, hx1, hx2, hx3, hl3, hF3⟩ := at_F28 (X4.out.footAt 4 rfl : Kd.F k28 w4 (fun k => ¬ k = g) (some ad) l.length l) j hlt hlt
      injection eA with eA
      subst eA
      rw [HYL.out] at hx0 hx1 hx2 hx3 hl3 hF3
      have XZ := Aside0.mk (X4.out.add (P := Row (Kd.int .i64) A3' y.f3) hF3)
      have HL4 := Aside0.mk hl3
      clear X4 hF3 hl3
      have hzs := HL.out
      have hj0 : (0 : Int) ≤ (j : Int) := by omega
      have hj1 : (j : Int) < (l.length : Int) := by omega
      have FH := Aside0.mk (Kd.F_bound (XZ.out.footAt 4 rfl : Kd.F k28 w4 (fun k => ¬ k = g) Ah hs.length hs))
      have FY := Aside0.mk (Kd.F_bound (XZ.out.footAt 0 rfl : Kd.F (Kd.int .i64) w4 (fun k => ¬ k = g) A3' y.f3.length y.f3))
      have HGW := Aside0.mk (show g < w4.heap.size by obtain ⟨_, _, h, _⟩ := M4.out; exact blk_lt h)
      have HHL := Aside0.mk (show hs.length ≤ 1 by rw [HHS.out]; split <;> simp)
      go_cut [11] (fun v11 wx => ∃ (A7 : Option Addr) (c7 : Nat), v11 = .slice A7 nx.length c7 ∧ Aside0 (nx.length ≤ c7) ∧ Aside0 (Cx (fun k => k = g) w wx [Row k28 A7 nx, Row (Kd.int .i64) A3' y.f3, Blk b9 #[.int .i64 o.f0, .int .i64 o.f1, .int .i64 o.f2, .slice Av o.f3.length cv] 28, Row (Kd.int .i64) Av o.f3, Row (Kd.int .i64) A3 y.f3, Row k28 Ah hs, Row k28 (some ad) l]) ∧ Aside0 (MAt wx w.heap.size g m' has'))
      case first =>
        go_region_held3 (fun w' => Below w4.heap.size w4 w' ∧ w'.cell? (ad.add (j * 4)) = some (.int .i64 y.f0) ∧ w'.cell? ⟨(ad.add (j * 4)).block, (ad.add (j * 4)).off + 1, none⟩ = some (.int .i64 y.f1) ∧ w'.cell? ⟨(ad.add (j * 4)).block, (ad.add (j * 4)).off + 2, none⟩ = some (.int .i64 y.f2) ∧ w'.cell? ⟨(ad.add (j * 4)).block, (ad.add (j * 4)).off + 3, none⟩ = some (.slice A3' y.f3.length c3')) ((refine hold4 ?_ hx0 hx1 hx2 hx3; repeat (first | (with_reducible exact Below.refl _ _) | (with_reducible exact hb7') | (with_reducible exact hb6) | (with_reducible exact hb5) | apply below_alloc | apply below_drew1))) ((first | ((go_at_call 12; refine (juratref27_All.calls k3 (fun k => k ≠ g) A6 c6 ys nx _ (Kd.V_mk (Kd.N_reads' ho6).2.1 (Kd.N_F ho6)) HALL.out).mono ?_); rintro e w7 ⟨v7, rfl, ho7, hb7⟩; obtain ⟨A7, c7, rfl⟩ := Kd.N_slice ho7; have hb7' := below_step hb6 hb7) | (refine Kd.N_append_rows_step k28 (w0 := w4) (W := (w4.alloc (Obj.cells #[] 28)).drew) w4.heap.size (by rfl) (.tmp 38) (.tmp 39) 22 28 (.agg #[(.int .i64 0), (.int .i64 0), (.int .i64 0), (.slice none 0 0)]) 48 rfl Try.underlying22 info28 rfl (by decide) (by omega) (.slice (some ⟨w4.heap.size, 0, none⟩) 0 0) [] hs Ah hs.length ch (fun k => k ≠ g) (fun k => k ≠ g ∧ k < w4.heap.size) rfl rfl (N_empty _ (blk_drew (blk_new w4 (Obj.cells #[] 28))) (by simp) (by have h1 := HGW.out; simp; omega)) (Kd.F_drew (Kd.F_alloc FH.out _)) (fun k hk => ⟨hk.1, by have h1 := hk.2; simp [Value.ownBlock]; omega⟩) (fun k hk => by have h1 := HGW.out; simp at hk; omega) (by repeat (first | (with_reducible exact Below.refl _ _) | apply below_alloc | apply below_drew1)) (by simp) (by have := HHL.out; simp; omega) ?_; intro v5 w5 ho5 hb5 hg5 hat5; rw [List.nil_append] at ho5; obtain ⟨A5, c5, rfl⟩ := Kd.N_slice ho5; skip) | (refine Kd.N_append_rows_step k28 (w0 := w4) (W := ((w4.alloc (Obj.cells #[] 28)).alloc (Obj.cells #[.int .i64 y.f0, .int .i64 y.f1, .int .i64 y.f2, .slice A3' y.f3.length c3'] 28)).drew) w4.heap.size (by rfl) (.tmp 38) (.tmp 39) 22 28 (.agg #[(.int .i64 0), (.int .i64 0), (.int .i64 0), (.slice none 0 0)]) 48 rfl Try.underlying22 info28 rfl (by decide) (by omega) (.slice (some ⟨w4.heap.size, 0, none⟩) 0 0) [] hs Ah hs.length ch (fun k => k ≠ g) (fun k => k ≠ g ∧ k < w4.heap.size) rfl rfl (N_empty _ (blk_drew (blk_alloc (blk_new w4 (Obj.cells #[] 28)) (Obj.cells #[.int .i64 y.f0, .int .i64 y.f1, .int .i64 y.f2, .slice A3' y.f3.length c3'] 28))) (by simp) (by have h1 := HGW.out; simp; omega)) (Kd.F_drew (Kd.F_alloc (Kd.F_alloc FH.out _) _)) (fun k hk => ⟨hk.1, by have h1 := hk.2; simp [Value.ownBlock]; omega⟩) (fun k hk => by have h1 := HGW.out; simp at hk; omega) (by repeat (first | (with_reducible exact Below.refl _ _) | apply below_alloc | apply below_drew1)) (by simp; omega) (by have := HHL.out; simp; omega) ?_; intro v5 w5 ho5 hb5 hg5 hat5; rw [List.nil_append] at ho5; obtain ⟨A5, c5, rfl⟩ := Kd.N_slice ho5; have HYB := Aside0.mk (blk_grown (blk_drew (blk_new1 w4 (Obj.cells #[] 28) (Obj.cells #[.int .i64 y.f0, .int .i64 y.f1, .int .i64 y.f2, .slice A3' y.f3.length c3'] 28))) hg5 (by simp [Value.ownBlock]))) | (refine Kd.N_append_rows_step k28 (w0 := w4) (W := ((w4.alloc (Obj.cells #[.int .i64 y.f0, .int .i64 y.f1, .int .i64 y.f2, .slice A3' y.f3.length c3'] 28)).alloc (Obj.cells #[] 28)).drew) w4.heap.size (by rfl) (.tmp 38) (.tmp 39) 22 28 (.agg #[(.int .i64 0), (.int .i64 0), (.int .i64 0), (.slice none 0 0)]) 48 rfl Try.underlying22 info28 rfl (by decide) (by omega) (.slice (some ⟨w4.heap.size + 1, 0, none⟩) 0 0) [] hs Ah hs.length ch (fun k => k ≠ g) (fun k => k ≠ g ∧ k < w4.heap.size) rfl rfl (N_empty _ (blk_drew (blk_new1 w4 (Obj.cells #[.int .i64 y.f0, .int .i64 y.f1, .int .i64 y.f2, .slice A3' y.f3.length c3'] 28) (Obj.cells #[] 28))) (by simp) (by have h1 := HGW.out; simp; omega)) (Kd.F_drew (Kd.F_alloc (Kd.F_alloc FH.out _) _)) (fun k hk => ⟨hk.1, by have h1 := hk.2; simp [Value.ownBlock]; omega⟩) (fun k hk => by have h1 := HGW.out; simp at hk; omega) (by repeat (first | (with_reducible exact Below.refl _ _) | apply below_alloc | apply below_drew1)) (by simp; omega) (by have := HHL.out; simp; omega) ?_; intro v5 w5 ho5 hb5 hg5 hat5; rw [List.nil_append] at ho5; obtain ⟨A5, c5, rfl⟩ := Kd.N_slice ho5; have HYB := Aside0.mk (blk_grown (blk_drew (blk_alloc (blk_new w4 (Obj.cells #[.int .i64 y.f0, .int .i64 y.f1, .int .i64 y.f2, .slice A3' y.f3.length c3'] 28)) (Obj.cells #[] 28))) hg5 (by simp [Value.ownBlock]))) | (refine Kd.N_append_step k28 (w0 := w4) (W := w5) w4.heap.size (by rfl) (.tmp 40) (.tmp 45) 22 28 (.agg #[(.int .i64 0), (.int .i64 0), (.int .i64 0), (.slice none 0 0)]) 48 rfl Try.underlying22 info28 rfl (by decide) (by omega) (.slice A5 hs.length c5) hs y [.int .i64 y.f0, .int .i64 y.f1, .int .i64 y.f2, .slice A3' y.f3.length c3'] (fun k => k ≠ g) (fun k => k ≠ g ∧ k < w4.heap.size) rfl (by rfl) (k28_mkF w5 _ y HL4.out (Kd.F_below FY.out hb5)) (fun k hk => ⟨hk.1, fun he => by have h1 := Kd.N_base ho5 k he.symm; have h2 := hk.2; omega⟩) (fun k hk => by have h1 := HGW.out; have h2 := hb5.size; omega) ho5 hb5 hb5.size (by have := HHL.out; omega) ?_; intro v6 w6 ho6 hb6 hg6 hat6; rw [← HYS.out] at ho6; obtain ⟨A6, c6, rfl⟩ := Kd.N_slice ho6) | (refine Kd.N_append_rows_step k28 (w0 := w4) (W := w5) w4.heap.size (by rfl) (.tmp 40) (.tmp 45) 22 28 (.agg #[(.int .i64 0), (.int .i64 0), (.int .i64 0), (.slice none 0 0)]) 48 rfl Try.underlying22 info28 rfl (by decide) (by omega) (.slice A5 hs.length c5) hs [y] (some ⟨w4.heap.size + 1, 0, none⟩) 1 1 (fun k => k ≠ g) (fun k => (k ≠ g ∧ k < w4.heap.size) ∨ k = w4.heap.size + 1) rfl (by rfl) ho5 (row1F HYB.out (Kd.F_below FY.out hb5) HL4.out) (ok46 (gE := w4.heap.size) HGW.out (by omega) ?yw (by omega) ho5 hat5) (fun k hk => by have h1 := HGW.out; have h2 := hb5.size; omega) hb5 hb5.size (by have := HHL.out; omega) ?_; (case yw => first | (simp; done) | (simp; omega)); intro v6 w6 ho6 hb6 hg6 hat6; rw [← HYS.out] at ho6; obtain ⟨A6, c6, rfl⟩ := Kd.N_slice ho6) | (refine Kd.N_append_rows_step k28 (w0 := w4) (W := w5) w4.heap.size (by rfl) (.tmp 40) (.tmp 45) 22 28 (.agg #[(.int .i64 0), (.int .i64 0), (.int .i64 0), (.slice none 0 0)]) 48 rfl Try.underlying22 info28 rfl (by decide) (by omega) (.slice A5 hs.length c5) hs [y] (some ⟨w4.heap.size, 0, none⟩) 1 1 (fun k => k ≠ g) (fun k => (k ≠ g ∧ k < w4.heap.size) ∨ k = w4.heap.size) rfl (by rfl) ho5 (row1F HYB.out (Kd.F_below FY.out hb5) HL4.out) (ok46 (gE := w4.heap.size + 1) HGW.out (Nat.le_refl _) ?yw (by omega) ho5 hat5) (fun k hk => by have h1 := HGW.out; have h2 := hb5.size; omega) hb5 hb5.size (by have := HHL.out; omega) ?_; (case yw => first | (simp; done) | (simp; omega)); intro v6 w6 ho6 hb6 hg6 hat6; rw [← HYS.out] at ho6; obtain ⟨A6, c6, rfl⟩ := Kd.N_slice ho6)))
        all_goals (go_wp2_with fail; go_meet; exact ⟨A7, c7, rfl, ⟨(Kd.N_reads' ho7).2.1⟩, ⟨(XZ.out.step hb7').share ho7 (fun k hk => by have h1 := HGW.out; have h2 := hb6.size; omega)⟩, ⟨M4.out.below hb7'⟩⟩)
      case rest =>
        obtain ⟨A7, c7, rfl, HL7, X7, M7⟩ := hcut
        clear XZ M4 hx0 hx1 hx2 hx3 FH FY HGW HHL HALL
        have HS := HPL.out
        rcases HS with ⟨rfl, hnx, ⟨kz, hz⟩⟩ | ⟨rfl, hnx, ⟨kz, hz⟩⟩
        · subst hnx
          have HZ := Aside0.mk hz
          clear hz HPL
          obtain ⟨⟨b0, b1, b2, b3⟩, _⟩ := cell4 (X7.out.get 2 rfl)
          go_upto_region 11 with fail
          go_cut [73] (fun v73 wx => v73 = .bool false ∧ Aside0 (Cx (fun k => k = g) w wx [Row k28 A7 [m'], Row k28 (some ad) l]) ∧ Aside0 (MAt wx w.heap.size g m' has'))
          case first =>
            refine start_ (n := 26) (S := (fun w' => w'.cell? ⟨b9, 0, none⟩ = some (.int .i64 o.f0) ∧ w'.cell? ⟨b9, 1, none⟩ = some (.int .i64 o.f1) ∧ w'.cell? ⟨b9, 2, none⟩ = some (.int .i64 o.f2) ∧ w'.cell? ⟨b9, 3, none⟩ = some (.slice Av o.f3.length cv))) (ds := [22]) #[false, false, false, false, false, false, false, false, false, false, false, false, false, false, false, false, false, false, false, false, false, false, false, false, false, false] (by kernel_rfl) rfl rfl ⟨b0, b1, b2, b3⟩ (fun hHeld => ?_); refine with_tabW comesR11.tab comesR11.bits (fun HT_ HW_ => ?_)
            clear b0 b1 b2 b3
            have X8 := Aside0.mk X7.out.drew
            have M8 := Aside0.mk (M7.out.below (below_drew (Below.refl _ _)))
            clear X7 M7
            generalize wc.drew = wd at X8 M8 hHeld ⊢
            refine pure_ (i := 0) (N := some 48) (v := ?_) (a' := ?_) #[true, false, false, false, false, false, false, false, false, false, false, false, false, false, false, false, false, false, false, false, false, false, false, false, false, false] rfl rfl (any_of HT_.out (by kernel_rfl)) (fun _ _ _ h => h) (Or.inl ⟨by rfl, ?_⟩) ?_ ?_
            rotate_left
            · intro w'
              go_simp
              with_reducible rfl
            rotate_left
            · simp only [Act.put, List.setIfInBounds_toArray, List.set_cons_zero, List.set_cons_succ, i64_w, i32_w]
              rfl
            refine pure_ (i := 1) (N := some 49) (v := ?_) (a' := ?_) #[true, true, false, false, false, false, false, false, false, false, false, false, false, false, false, false, false, false, false, false, false, false, false, false, false, false] rfl rfl (any_of HT_.out (by kernel_rfl)) (fun _ _ _ h => h) (Or.inl ⟨by rfl, ?_⟩) ?_ ?_
            rotate_left
            · intro w'
              go_simp
              with_reducible rfl
            rotate_left
            · simp only [Act.put, List.setIfInBounds_toArray, List.set_cons_zero, List.set_cons_succ, i64_w, i32_w]
              rfl
            refine pure_ (i := 2) (N := some 50) (v := ?_) (a' := ?_) #[true, true, true, false, false, false, false, false, false, false, false, false, false, false, false, false, false, false, false, false, false, false, false, false, false, false] rfl rfl (any_of HT_.out (by kernel_rfl)) (fun _ _ _ h => h) (Or.inl ⟨by rfl, ?_⟩) ?_ ?_
            rotate_left
            · intro w'
              go_simp
              with_reducible rfl
            rotate_left
            · simp only [Act.put, List.setIfInBounds_toArray, List.set_cons_zero, List.set_cons_succ, i64_w, i32_w]
              rfl
            refine pure_ (i := 3) (N := some 51) (v := ?_) (a' := ?_) #[true, true, true, true, false, false, false, false, false, false, false, false, false, false, false, false, false, false, false, false, false, false, false, false, false, false] rfl rfl (any_of HT_.out (by kernel_rfl)) (fun _ _ _ h => h) (Or.inl ⟨by rfl, ?_⟩) ?_ ?_
            rotate_left
            · intro w'
              go_simp
              with_reducible rfl
            rotate_left
            · simp only [Act.put, List.setIfInBounds_toArray, List.set_cons_zero, List.set_cons_succ, i64_w, i32_w]
              rfl
            refine pure_ (i := 4) (N := some 52) (v := ?_) (a' := ?_) #[true, true, true, true, true, false, false, false, false, false, false, false, false, false, false, false, false, false, false, false, false, false, false, false, false, false] rfl rfl (any_of HT_.out (by kernel_rfl)) (fun _ _ _ h => h) (Or.inl ⟨by rfl, ?_⟩) ?_ ?_
            rotate_left
            · intro w'
              go_simp
              with_reducible rfl
            rotate_left
            · simp only [Act.put, List.setIfInBounds_toArray, List.set_cons_zero, List.set_cons_succ, i64_w, i32_w]
              rfl
            refine pure_ (i := 5) (N := some 53) (v := ?_) (a' := ?_) #[true, true, true, true, true, true, false, false, false, false, false, false, false, false, false, false, false, false, false, false, false, false, false, false, false, false] rfl rfl (any_of HT_.out (by kernel_rfl)) (fun _ _ _ h => h) (Or.inl ⟨by rfl, ?_⟩) ?_ ?_
            rotate_left
            · intro w'
              go_simp
              with_reducible rfl
            rotate_left
            · simp only [Act.put, List.setIfInBounds_toArray, List.set_cons_zero, List.set_cons_succ, i64_w, i32_w]
              rfl
            refine pure_ (i := 6) (N := some 54) (v := ?_) (a' := ?_) #[true, true, true, true, true, true, true, false, false, false, false, false, false, false, false, false, false, false, false, false, false, false, false, false, false, false] rfl rfl (any_of HT_.out (by kernel_rfl)) (fun _ _ _ h => h) (Or.inl ⟨by rfl, ?_⟩) ?_ ?_
            rotate_left
            · intro w'
              go_simp
              with_reducible rfl
            rotate_left
            · simp only [Act.put, List.setIfInBounds_toArray, List.set_cons_zero, List.set_cons_succ, i64_w, i32_w]
              rfl
            refine pure_ (i := 7) (N := some 55) (v := ?_) (a' := ?_) #[true, true, true, true, true, true, true, true, false, false, false, false, false, false, false, false, false, false, false, false, false, false, false, false, false, false] rfl rfl (any_of HT_.out (by kernel_rfl)) (fun _ _ _ h => h) (Or.inl ⟨by rfl, ?_⟩) ?_ ?_
            rotate_left
            · intro w'
              go_simp
              with_reducible rfl
            rotate_left
            · simp only [Act.put, List.setIfInBounds_toArray, List.set_cons_zero, List.set_cons_succ, i64_w, i32_w]
              rfl
            refine pure_ (i := 8) (N := some 56) (v := undef) (a' := ?_) #[true, true, true, true, true, true, true, true, true, false, false, false, false, false, false, false, false, false, false, false, false, false, false, false, false, false] rfl rfl (any_of HT_.out (by kernel_rfl)) (fun _ _ _ h => h) (Or.inr ⟨by rfl, rfl⟩) ?_ ?_
            rotate_left
            · simp only [Act.put, List.setIfInBounds_toArray, List.set_cons_zero, List.set_cons_succ, i64_w, i32_w]
              rfl
            refine pure_ (i := 9) (N := some 57) (v := undef) (a' := ?_) #[true, true, true, true, true, true, true, true, true, true, false, false, false, false, false, false, false, false, false, false, false, false, false, false, false, false] rfl rfl (any_of HT_.out (by kernel_rfl)) (fun _ _ _ h => h) (Or.inr ⟨by rfl, rfl⟩) ?_ ?_
            rotate_left
            · simp only [Act.put, List.setIfInBounds_toArray, List.set_cons_zero, List.set_cons_succ, i64_w, i32_w]
              rfl
            refine pure_ (i := 10) (N := some 58) (v := undef) (a' := ?_) #[true, true, true, true, true, true, true, true, true, true, true, false, false, false, false, false, false, false, false, false, false, false, false, false, false, false] rfl rfl (any_of HT_.out (by kernel_rfl)) (fun _ _ _ h => h) (Or.inr ⟨by rfl, rfl⟩) ?_ ?_
            rotate_left
            · simp only [Act.put, List.setIfInBounds_toArray, List.set_cons_zero, List.set_cons_succ, i64_w, i32_w]
              rfl
            refine pure_ (i := 11) (N := some 59) (v := undef) (a' := ?_) #[true, true, true, true, true, true, true, true, true, true, true, true, false, false, false, false, false, false, false, false, false, false, false, false, false, false] rfl rfl (any_of HT_.out (by kernel_rfl)) (fun _ _ _ h => h) (Or.inr ⟨by rfl, rfl⟩) ?_ ?_
            rotate_left
            · simp only [Act.put, List.setIfInBounds_toArray, List.set_cons_zero, List.set_cons_succ, i64_w, i32_w]
              rfl
            refine pure_ (i := 12) (N := some 60) (v := undef) (a' := ?_) #[true, true, true, true, true, true, true, true, true, true, true, true, true, false, false, false, false, false, false, false, false, false, false, false, false, false] rfl rfl (any_of HT_.out (by kernel_rfl)) (fun _ _ _ h => h) (Or.inr ⟨by rfl, rfl⟩) ?_ ?_
            rotate_left
            · simp only [Act.put, List.setIfInBounds_toArray, List.set_cons_zero, List.set_cons_succ, i64_w, i32_w]
              rfl
            refine pure_ (i := 13) (N := some 61) (v := undef) (a' := ?_) #[true, true, true, true, true, true, true, true, true, true, true, true, true, true, false, false, false, false, false, false, false, false, false, false, false, false] rfl rfl (any_of HT_.out (by kernel_rfl)) (fun _ _ _ h => h) (Or.inr ⟨by rfl, rfl⟩) ?_ ?_
            rotate_left
            · simp only [Act.put, List.setIfInBounds_toArray, List.set_cons_zero, List.set_cons_succ, i64_w, i32_w]
              rfl
            refine pure_ (i := 14) (N := some 62) (v := ?_) (a' := ?_) #[true, true, true, true, true, true, true, true, true, true, true, true, true, true, true, false, false, false, false, false, false, false, false, false, false, false] rfl rfl (any_of HT_.out (by kernel_rfl)) (fun _ _ _ h => h) (Or.inl ⟨by rfl, ?_⟩) ?_ ?_
            rotate_left
            · intro w'
              go_simp
              with_reducible rfl
            rotate_left
            · simp only [Act.put, List.setIfInBounds_toArray, List.set_cons_zero, List.set_cons_succ, i64_w, i32_w]
              rfl
            refine pure_ (i := 15) (N := some 63) (v := ?_) (a' := ?_) #[true, true, true, true, true, true, true, true, true, true, true, true, true, true, true, true, false, false, false, false, false, false, false, false, false, false] rfl rfl (any_of HT_.out (by kernel_rfl)) (fun _ _ _ h => h) (Or.inl ⟨by rfl, ?_⟩) ?_ ?_
            rotate_left
            · intro w'
              go_simp
              with_reducible rfl
            rotate_left
            · simp only [Act.put, List.setIfInBounds_toArray, List.set_cons_zero, List.set_cons_succ, i64_w, i32_w]
              rfl
            refine pure_ (i := 16) (N := some 64) (v := ?_) (a' := ?_) #[true, true, true, true, true, true, true, true, true, true, true, true, true, true, true, true, true, false, false, false, false, false, false, false, false, false] rfl rfl (any_of HT_.out (by kernel_rfl)) (fun _ _ _ h => h) (Or.inl ⟨by rfl, ?_⟩) ?_ ?_
            rotate_left
            · intro w'
              go_simp
              with_reducible rfl
            rotate_left
            · simp only [Act.put, List.setIfInBounds_toArray, List.set_cons_zero, List.set_cons_succ, i64_w, i32_w]
              rfl
            refine pure_ (i := 17) (N := some 65) (v := ?_) (a' := ?_) #[true, true, true, true, true, true, true, true, true, true, true, true, true, true, true, true, true, true, false, false, false, false, false, false, false, false] rfl rfl (any_of HT_.out (by kernel_rfl)) (fun _ _ _ h => h) (Or.inl ⟨by rfl, ?_⟩) ?_ ?_
            rotate_left
            · intro w'
              go_simp
              with_reducible rfl
            rotate_left
            · simp only [Act.put, List.setIfInBounds_toArray, List.set_cons_zero, List.set_cons_succ, i64_w, i32_w]
              rfl
            refine pure_ (i := 18) (N := some 66) (v := ?_) (a' := ?_) #[true, true, true, true, true, true, true, true, true, true, true, true, true, true, true, true, true, true, true, false, false, false, false, false, false, false] rfl rfl (any_of HT_.out (by kernel_rfl)) (fun _ _ _ h => h) (Or.inl ⟨by rfl, ?_⟩) ?_ ?_
            rotate_left
            · intro w'
              go_simp
              with_reducible rfl
            rotate_left
            · simp only [Act.put, List.setIfInBounds_toArray, List.set_cons_zero, List.set_cons_succ, i64_w, i32_w]
              rfl
            refine pure_ (i := 19) (N := some 67) (v := ?_) (a' := ?_) #[true, true, true, true, true, true, true, true, true, true, true, true, true, true, true, true, true, true, true, true, false, false, false, false, false, false] rfl rfl (any_of HT_.out (by kernel_rfl)) (fun _ _ _ h => h) (Or.inl ⟨by rfl, ?_⟩) ?_ ?_
            rotate_left
            · intro w'
              go_simp
              with_reducible rfl
            rotate_left
            · simp only [Act.put, List.setIfInBounds_toArray, List.set_cons_zero, List.set_cons_succ, i64_w, i32_w]
              rfl
            refine take_ (i := 20) (N := some 68) (v := ?_) (a' := ?_) #[true, true, true, true, true, true, true, true, true, true, true, true, true, true, true, true, true, true, true, true, true, false, false, false, false, false] rfl rfl (take_ofW HT_.out HW_.out (by kernel_rfl)) (fun _ _ _ h => h) (Or.inl ⟨by rfl, ?_⟩) hHeld ?_ ?_
            rotate_left
            · rintro w' ⟨s0, s1, s2, s3⟩
              go_simp
              with_reducible rfl
            rotate_left
            · simp only [Act.put, List.setIfInBounds_toArray, List.set_cons_zero, List.set_cons_succ, i64_w, i32_w]
              rfl
            refine pure_ (i := 21) (N := some 69) (v := ?_) (a' := ?_) #[true, true, true, true, true, true, true, true, true, true, true, true, true, true, true, true, true, true, true, true, true, true, false, false, false, false] rfl rfl (any_of HT_.out (by kernel_rfl)) (fun _ _ _ h => h) (Or.inl ⟨by rfl, ?_⟩) ?_ ?_
            rotate_left
            · intro w'
              go_simp
              with_reducible rfl
            rotate_left
            · simp only [Act.put, List.setIfInBounds_toArray, List.set_cons_zero, List.set_cons_succ, i64_w, i32_w]
              rfl
            refine last_ (i := 22) (N := some 70) #[true, true, true, true, true, true, true, true, true, true, true, true, true, true, true, true, true, true, true, true, true, true, true, false, false, false] rfl rfl (one_of HT_.out (by kernel_rfl)) (by decide) (fun K hK => ?_)
            refine goes_ Try.func13 (by kernel_rfl) rfl #[.agg #[.int .i64 o.f0, .int .i64 o.f1, .int .i64 o.f2, .slice Av o.f3.length cv], .agg #[.int .i64 0, .int .i64 0, .int .i64 0, .slice none 0 0]] (by rfl) rfl rfl (by (try simp only [List.map_toArray, List.map_cons, List.map_nil]); first | done | rfl) ?_
            refine (juratref24_Same.calls kz o.f0 o.f1 o.f2 Av cv o.f3 0 0 0 none 0 [] true _ (X8.out.get 3 rfl) HLV.out (Kd.C_nil _ _) (Nat.le_refl _) HZ.out).mono ?_
            rintro e w9 ⟨rfl, hb9⟩
            refine ⟨_, rfl, ?_⟩
            have X9 := Aside0.mk (X8.out.step hb9)
            have M9 := Aside0.mk (M8.out.below hb9)
            clear X8 M8 hb9
            refine hK.out _ _ ?_
            clear hK K
            refine norm_ (a' := ?_) ?_ ?_
            rotate_left
            · show Act.put _ (some 70) _ = _
              simp only [Act.put, List.setIfInBounds_toArray, List.set_cons_zero, List.set_cons_succ, i64_w, i32_w]
              rfl
            refine pure_ (i := 23) (N := some 71) (v := ?_) (a' := ?_) #[true, true, true, true, true, true, true, true, true, true, true, true, true, true, true, true, true, true, true, true, true, true, true, true, false, false] rfl rfl (any_of HT_.out (by kernel_rfl)) (fun _ _ _ h => h) (Or.inl ⟨by rfl, ?_⟩) ?_ ?_
            rotate_left
            · intro w'
              go_simp
              with_reducible rfl
            rotate_left
            · simp only [Act.put, List.setIfInBounds_toArray, List.set_cons_zero, List.set_cons_succ, i64_w, i32_w]
              rfl
            refine pure_ (i := 24) (N := some 72) (v := ?_) (a' := ?_) #[true, true, true, true, true, true, true, true, true, true, true, true, true, true, true, true, true, true, true, true, true, true, true, true, true, false] rfl rfl (any_of HT_.out (by kernel_rfl)) (fun _ _ _ h => h) (Or.inl ⟨by rfl, ?_⟩) ?_ ?_
            rotate_left
            · intro w'
              go_simp
              with_reducible rfl
            rotate_left
            · simp only [Act.put, List.setIfInBounds_toArray, List.set_cons_zero, List.set_cons_succ, i64_w, i32_w]
              rfl
            refine pure_ (i := 25) (N := some 73) (v := ?_) (a' := ?_) #[true, true, true, true, true, true, true, true, true, true, true, true, true, true, true, true, true, true, true, true, true, true, true, true, true, true] rfl rfl (any_of HT_.out (by kernel_rfl)) (fun _ _ _ h => h) (Or.inl ⟨by rfl, ?_⟩) ?_ ?_
            rotate_left
            · intro w'
              go_simp
              with_reducible rfl
            rotate_left
            · simp only [Act.put, List.setIfInBounds_toArray, List.set_cons_zero, List.set_cons_succ, i64_w, i32_w]
              rfl
            refine done_ (done_of HT_.out (by kernel_rfl)) ?_
            go_wp2_with fail
            go_meet
            exact ⟨rfl, ⟨X9.out.pick2 0 6 rfl rfl⟩, M9⟩
          case rest =>
            obtain ⟨rfl, X8, M8⟩ := hcut
            have hcutv : ∀ W : World, (Instr.slice 22 (.slice A7 1 c7) (some (.int .i64 0)) none none).run Try.prog W = .ok (.slice A7 1 c7) W := fun W => (cut_from 22 28 .i64 Try.underlying22 hi 4 hz1 A7 1 c7 0 (by omega) (by omega) W).trans (by have : (if c7 = (0 : Int).toNat then A7 else A7.map (·.add ((0 : Int).toNat * 4))) = A7 := by { split; rfl; cases A7 <;> simp [Addr.add] }; rw [this]; simp)
            have H7 := HL7.out
            go_upto_if 83 with (fail)
            have e' := HH'.out
            subst e'
            go_cut [7] (fun v7 wx => ∃ (has2 : Bool) (m2 : S28) (Ah2 : Option Addr) (ch2 : Nat) (hs2 : List S28), v7 = .slice Ah2 hs2.length ch2 ∧ Aside0 (hs2.length ≤ ch2) ∧ Aside0 (hs2 = if has2 = true then [m2] else []) ∧ Aside0 (has2 = true → okR m2) ∧ Aside0 (MAt wx w.heap.size g m2 has2) ∧ Aside0 (Cx (fun k => k = g) w wx [Row k28 Ah2 hs2, Row k28 (some ad) l]))
            case first =>
              by_cases hfl : (bits BinOp.and IntKind.u32 (fl / 2 ^ min j 32) 1 == 1) = true
              · obtain ⟨zz, hzz⟩ : ∃ zz : S28, zz = z28 := ⟨_, rfl⟩
                obtain ⟨kx, hx⟩ : ∃ kx, juratref24_Same.f kx zz.f0 zz.f1 zz.f2 zz.f3 0 0 0 [] = some true := by
                  obtain ⟨kx, hx⟩ := (same24_ev z28 z28 (by simp [z28])).rounds
                  rw [eqR_self] at hx
                  exact ⟨kx, by rw [hzz]; exact hx⟩
                obtain ⟨ky, hy'⟩ := (same24_ev m' m' (by have := HOM'.out.2.2.2; omega)).rounds
                rw [eqR_self] at hy'
                have hzf : merge_Flush.f z28 false = (zz, false, zz, false) := by rw [hzz]; rfl
                have HZX := Aside0.mk hx
                have HZY := Aside0.mk hy'
                have HZF := Aside0.mk hzf
                clear hx hy' hzf hzz
                go_upto_region 16 with (first | (go_at_call 14; (refine (merge_Flush.calls w.heap.size g m' true m' true z28 false _ M8.out X8.out.hb.size rfl).mono ?_); rintro e w10 ⟨v, rfl, hRv, hM, hK, hB⟩; obtain ⟨Ax, cx, rfl⟩ := Kd.R_slice hRv; have HLX := Aside0.mk (Kd.R_reads' hRv).2.1; have Xa := Aside0.mk (ownM (X8.out.kept hK (X8.out.hb.trans hB) rfl) hM hRv); have Ma := Aside0.mk hM; clear hRv hM hK hB X8 M8) | fail)
                have hbb12 : w10.heap.size ≠ g := by
                  obtain ⟨_, _, h, _⟩ := Ma.out
                  have := blk_lt h
                  omega
                have Xb := Aside0.mk (Xa.out.new #[.int .i64 m'.f0, .int .i64 m'.f1, .int .i64 m'.f2, .slice Ax m'.f3.length cx] 28 hbb12)
                have Mb := Aside0.mk (Ma.out.below (below_alloc (Below.refl _ _) (Obj.cells #[.int .i64 m'.f0, .int .i64 m'.f1, .int .i64 m'.f2, .slice Ax m'.f3.length cx] 28)))
                clear Xa Ma
                generalize w10.alloc (Obj.cells #[.int .i64 m'.f0, .int .i64 m'.f1, .int .i64 m'.f2, .slice Ax m'.f3.length cx] 28) = w10' at Xb Mb ⊢
                generalize w10.heap.size = b12 at hbb12 Xb ⊢
                go_upto_region 17 with (first | (go_at_call 14; (refine (merge_Flush.calls w.heap.size g z28 false zz false zz false _ Mb.out Xb.out.hb.size HZF.out).mono ?_); rintro e w11 ⟨v, rfl, hRv, hM, hK, hB⟩; obtain ⟨Ay, cy, rfl⟩ := Kd.R_slice hRv; have HLY := Aside0.mk (Kd.R_reads' hRv).2.1; have Xc := Aside0.mk (ownM (Xb.out.kept hK (Xb.out.hb.trans hB) rfl) hM hRv); have Mc := Aside0.mk hM; clear hRv hM hK hB Xb Mb) | fail)
                have hbb14 : w11.heap.size ≠ g := by
                  obtain ⟨_, _, h, _⟩ := Mc.out
                  have := blk_lt h
                  omega
                have Xd := Aside0.mk (Xc.out.new #[.int .i64 zz.f0, .int .i64 zz.f1, .int .i64 zz.f2, .slice Ay zz.f3.length cy] 28 hbb14)
                have Md := Aside0.mk (Mc.out.below (below_alloc (Below.refl _ _) (Obj.cells #[.int .i64 zz.f0, .int .i64 zz.f1, .int .i64 zz.f2, .slice Ay zz.f3.length cy] 28)))
                clear Xc Mc
                generalize w11.alloc (Obj.cells #[.int .i64 zz.f0, .int .i64 zz.f1, .int .i64 zz.f2, .slice Ay zz.f3.length cy] 28) = w11' at Xd Md ⊢
                generalize w11.heap.size = b14 at hbb14 Xd ⊢
                obtain ⟨⟨p0, p1, p2, p3⟩, _⟩ := cell4 (Xd.out.get 2 rfl)
                obtain ⟨⟨q0, q1, q2, q3⟩, _⟩ := cell4 (Xd.out.get 0 rfl)
                obtain ⟨adh, Ah', ch', eh, e0, e1, e2, e3, hlh, hFh⟩ := at_F28 (Xd.out.footAt 4 rfl : Kd.F k28 w11' (fun k => ¬ k = g) (A7) 1 [m']) 0 (by omega) (by simp)
                have ez : adh.add (0 * 4) = adh := by unfold Addr.add; rw [if_pos (by rfl)]
                rw [ez] at e0 e1 e2 e3
                clear ez
                subst eh
                simp only [List.getElem_cons_zero] at e0 e1 e2 e3 hlh hFh
                have HLH := Aside0.mk hlh
                have Xe := Aside0.mk (Xd.out.add (P := Row (Kd.int .i64) Ah' m'.f3) hFh)
                clear hlh hFh Xd
                refine start_ (n := 19) (S := (fun w' => w'.cell? ⟨b12, 0, none⟩ = some (.int .i64 m'.f0) ∧ w'.cell? ⟨b12, 1, none⟩ = some (.int .i64 m'.f1) ∧ w'.cell? ⟨b12, 2, none⟩ = some (.int .i64 m'.f2) ∧ w'.cell? ⟨b12, 3, none⟩ = some (.slice Ax m'.f3.length cx) ∧ w'.cell? adh = some (.int .i64 m'.f0) ∧ w'.cell? ⟨(adh).block, (adh).off + 1, none⟩ = some (.int .i64 m'.f1) ∧ w'.cell? ⟨(adh).block, (adh).off + 2, none⟩ = some (.int .i64 m'.f2) ∧ w'.cell? ⟨(adh).block, (adh).off + 3, none⟩ = some (.slice Ah' m'.f3.length ch') ∧ w'.cell? ⟨b14, 0, none⟩ = some (.int .i64 zz.f0) ∧ w'.cell? ⟨b14, 1, none⟩ = some (.int .i64 zz.f1) ∧ w'.cell? ⟨b14, 2, none⟩ = some (.int .i64 zz.f2) ∧ w'.cell? ⟨b14, 3, none⟩ = some (.slice Ay zz.f3.length cy))) (ds := [7, 16]) #[false, false, false, false, false, false, false, false, false, false, false, false, false, false, false, false, false, false, false] (by kernel_rfl) rfl rfl ⟨p0, p1, p2, p3, e0, e1, e2, e3, q0, q1, q2, q3⟩ (fun hHeld => ?_); refine with_tabW comesR17.tab comesR17.bits (fun HT_ HW_ => ?_)
                clear p0 p1 p2 p3 q0 q1 q2 q3 e0 e1 e2 e3
                have Xf := Aside0.mk Xe.out.drew
                have Mf := Aside0.mk (Md.out.below (below_drew (Below.refl _ _)))
                clear Xe Md
                generalize w11'.drew = we at Xf Mf hHeld ⊢
                refine pure_ (i := 0) (N := some 92) (v := ?_) (a' := ?_) #[true, false, false, false, false, false, false, false, false, false, false, false, false, false, false, false, false, false, false] rfl rfl (any_of HT_.out (by kernel_rfl)) (fun _ _ _ h => h) (Or.inl ⟨by rfl, ?_⟩) ?_ ?_
                rotate_left
                · intro w'
                  go_simp
                  with_reducible rfl
                rotate_left
                · simp only [Act.put, List.setIfInBounds_toArray, List.set_cons_zero, List.set_cons_succ, i64_w, i32_w]
                  rfl
                refine pure_ (i := 1) (N := some 93) (v := ?_) (a' := ?_) #[true, true, false, false, false, false, false, false, false, false, false, false, false, false, false, false, false, false, false] rfl rfl (any_of HT_.out (by kernel_rfl)) (fun _ _ _ h => h) (Or.inl ⟨by rfl, ?_⟩) ?_ ?_
                rotate_left
                · intro w'
                  go_simp
                  with_reducible rfl
                rotate_left
                · simp only [Act.put, List.setIfInBounds_toArray, List.set_cons_zero, List.set_cons_succ, i64_w, i32_w]
                  rfl
                refine pure_ (i := 2) (N := some 94) (v := ?_) (a' := ?_) #[true, true, true, false, false, false, false, false, false, false, false, false, false, false, false, false, false, false, false] rfl rfl (any_of HT_.out (by kernel_rfl)) (fun _ _ _ h => h) (Or.inl ⟨by rfl, ?_⟩) ?_ ?_
                rotate_left
                · intro w'
                  go_simp
                  with_reducible rfl
                rotate_left
                · simp only [Act.put, List.setIfInBounds_toArray, List.set_cons_zero, List.set_cons_succ, i64_w, i32_w]
                  rfl
                refine take_ (i := 3) (N := some 95) (v := ?_) (a' := ?_) #[true, true, true, true, false, false, false, false, false, false, false, false, false, false, false, false, false, false, false] rfl rfl (take_ofW HT_.out HW_.out (by kernel_rfl)) (fun _ _ _ h => h) (Or.inl ⟨by rfl, ?_⟩) hHeld ?_ ?_
                rotate_left
                · rintro w' ⟨s0, s1, s2, s3, s4, s5, s6, s7, s8, s9, s10, s11⟩
                  go_simp
                  with_reducible rfl
                rotate_left
                · simp only [Act.put, List.setIfInBounds_toArray, List.set_cons_zero, List.set_cons_succ, i64_w, i32_w]
                  rfl
                refine pure_ (i := 4) (N := some 96) (v := ?_) (a' := ?_) #[true, true, true, true, true, false, false, false, false, false, false, false, false, false, false, false, false, false, false] rfl rfl (any_of HT_.out (by kernel_rfl)) (fun _ _ _ h => h) (Or.inl ⟨by rfl, ?_⟩) ?_ ?_
                rotate_left
                · intro w'
                  go_simp
                  with_reducible rfl
                rotate_left
                · simp only [Act.put, List.setIfInBounds_toArray, List.set_cons_zero, List.set_cons_succ, i64_w, i32_w]
                  rfl
                refine pure_ (i := 5) (N := some 97) (v := ?_) (a' := ?_) #[true, true, true, true, true, true, false, false, false, false, false, false, false, false, false, false, false, false, false] rfl rfl (any_of HT_.out (by kernel_rfl)) (fun _ _ _ h => h) (Or.inl ⟨by rfl, ?_⟩) ?_ ?_
                rotate_left
                · intro w'
                  go_simp
                  with_reducible rfl
                rotate_left
                · simp only [Act.put, List.setIfInBounds_toArray, List.set_cons_zero, List.set_cons_succ, i64_w, i32_w]
                  rfl
                refine take_ (i := 6) (N := some 98) (v := ?_) (a' := ?_) #[true, true, true, true, true, true, true, false, false, false, false, false, false, false, false, false, false, false, false] rfl rfl (take_ofW HT_.out HW_.out (by kernel_rfl)) (fun _ _ _ h => h) (Or.inl ⟨by rfl, ?_⟩) hHeld ?_ ?_
                rotate_left
                · rintro w' ⟨s0, s1, s2, s3, s4, s5, s6, s7, s8, s9, s10, s11⟩
                  go_simp
                  with_reducible rfl
                rotate_left
                · simp only [Act.put, List.setIfInBounds_toArray, List.set_cons_zero, List.set_cons_succ, i64_w, i32_w]
                  rfl
                refine last_ (i := 7) (N := some 99) #[true, true, true, true, true, true, true, true, false, false, false, false, false, false, false, false, false, false, false] rfl rfl (one_of HT_.out (by kernel_rfl)) (by decide) (fun K hK => ?_)
                refine goes_ Try.func13 (by kernel_rfl) rfl #[.agg #[.int .i64 m'.f0, .int .i64 m'.f1, .int .i64 m'.f2, .slice Ax m'.f3.length cx], .agg #[.int .i64 m'.f0, .int .i64 m'.f1, .int .i64 m'.f2, .slice Ah' m'.f3.length ch']] (by rfl) rfl rfl (by (try simp only [List.map_toArray, List.map_cons, List.map_nil]); first | done | rfl) ?_
                refine (juratref24_Same.calls ky m'.f0 m'.f1 m'.f2 Ax cx m'.f3 m'.f0 m'.f1 m'.f2 Ah' ch' m'.f3 true _ (Xf.out.get 4 rfl) HLX.out (Xf.out.get 0 rfl) HLH.out HZY.out).mono ?_
                rintro e w12 ⟨rfl, hb12⟩
                refine ⟨_, rfl, ?_⟩
                have Xg := Aside0.mk (Xf.out.step hb12)
                have Mg := Aside0.mk (Mf.out.below hb12)
                have hHeld' := hold12 hb12 hHeld
                clear Xf Mf hb12 hHeld
                have hHeld := hHeld'
                clear hHeld'
                refine hK.out _ _ ?_
                clear hK K
                refine norm_ (a' := ?_) ?_ ?_
                rotate_left
                · show Act.put _ (some 99) _ = _
                  simp only [Act.put, List.setIfInBounds_toArray, List.set_cons_zero, List.set_cons_succ, i64_w, i32_w]
                  rfl
                refine pure_ (i := 8) (N := some 100) (v := ?_) (a' := ?_) #[true, true, true, true, true, true, true, true, true, false, false, false, false, false, false, false, false, false, false] rfl rfl (any_of HT_.out (by kernel_rfl)) (fun _ _ _ h => h) (Or.inl ⟨by rfl, ?_⟩) ?_ ?_
                rotate_left
                · intro w'
                  go_simp
                  with_reducible rfl
                rotate_left
                · simp only [Act.put, List.setIfInBounds_toArray, List.set_cons_zero, List.set_cons_succ, i64_w, i32_w]
                  rfl
                refine pure_ (i := 9) (N := some 101) (v := ?_) (a' := ?_) #[true, true, true, true, true, true, true, true, true, true, false, false, false, false, false, false, false, false, false] rfl rfl (any_of HT_.out (by kernel_rfl)) (fun _ _ _ h => h) (Or.inl ⟨by rfl, ?_⟩) ?_ ?_
                rotate_left
                · intro w'
                  go_simp
                  with_reducible rfl
                rotate_left
                · simp only [Act.put, List.setIfInBounds_toArray, List.set_cons_zero, List.set_cons_succ, i64_w, i32_w]
                  rfl
                refine pure_ (i := 10) (N := some 102) (v := ?_) (a' := ?_) #[true, true, true, true, true, true, true, true, true, true, true, false, false, false, false, false, false, false, false] rfl rfl (any_of HT_.out (by kernel_rfl)) (fun _ _ _ h => h) (Or.inl ⟨by rfl, ?_⟩) ?_ ?_
                rotate_left
                · intro w'
                  go_simp
                  with_reducible rfl
                rotate_left
                · simp only [Act.put, List.setIfInBounds_toArray, List.set_cons_zero, List.set_cons_succ, i64_w, i32_w]
                  rfl
                refine pure_ (i := 11) (N := some 103) (v := ?_) (a' := ?_) #[true, true, true, true, true, true, true, true, true, true, true, true, false, false, false, false, false, false, false] rfl rfl (any_of HT_.out (by kernel_rfl)) (fun _ _ _ h => h) (Or.inl ⟨by rfl, ?_⟩) ?_ ?_
                rotate_left
                · intro w'
                  go_simp
                  with_reducible rfl
                rotate_left
                · simp only [Act.put, List.setIfInBounds_toArray, List.set_cons_zero, List.set_cons_succ, i64_w, i32_w]
                  rfl
                refine pure_ (i := 12) (N := some 104) (v := ?_) (a' := ?_) #[true, true, true, true, true, true, true, true, true, true, true, true, true, false, false, false, false, false, false] rfl rfl (any_of HT_.out (by kernel_rfl)) (fun _ _ _ h => h) (Or.inl ⟨by rfl, ?_⟩) ?_ ?_
                rotate_left
                · intro w'
                  go_simp
                  with_reducible rfl
                rotate_left
                · simp only [Act.put, List.setIfInBounds_toArray, List.set_cons_zero, List.set_cons_succ, i64_w, i32_w]
                  rfl
                refine pure_ (i := 13) (N := some 105) (v := ?_) (a' := ?_) #[true, true, true, true, true, true, true, true, true, true, true, true, true, true, false, false, false, false, false] rfl rfl (any_of HT_.out (by kernel_rfl)) (fun _ _ _ h => h) (Or.inl ⟨by rfl, ?_⟩) ?_ ?_
                rotate_left
                · intro w'
                  go_simp
                  with_reducible rfl
                rotate_left
                · simp only [Act.put, List.setIfInBounds_toArray, List.set_cons_zero, List.set_cons_succ, i64_w, i32_w]
                  rfl
                refine take_ (i := 14) (N := some 106) (v := ?_) (a' := ?_) #[true, true, true, true, true, true, true, true, true, true, true, true, true, true, true, false, false, false, false] rfl rfl (take_ofW HT_.out HW_.out (by kernel_rfl)) (fun _ _ _ h => h) (Or.inl ⟨by rfl, ?_⟩) hHeld ?_ ?_
                rotate_left
                · rintro w' ⟨s0, s1, s2, s3, s4, s5, s6, s7, s8, s9, s10, s11⟩
                  go_simp
                  with_reducible rfl
                rotate_left
                · simp only [Act.put, List.setIfInBounds_toArray, List.set_cons_zero, List.set_cons_succ, i64_w, i32_w]
                  rfl
                refine pure_ (i := 15) (N := some 107) (v := ?_) (a' := ?_) #[true, true, true, true, true, true, true, true, true, true, true, true, true, true, true, true, false, false, false] rfl rfl (any_of HT_.out (by kernel_rfl)) (fun _ _ _ h => h) (Or.inl ⟨by rfl, ?_⟩) ?_ ?_
                rotate_left
                · intro w'
                  go_simp
                  with_reducible rfl
                rotate_left
                · simp only [Act.put, List.setIfInBounds_toArray, List.set_cons_zero, List.set_cons_succ, i64_w, i32_w]
                  rfl
                refine last_ (i := 16) (N := some 108) #[true, true, true, true, true, true, true, true, true, true, true, true, true, true, true, true, true, false, false] rfl rfl (one_of HT_.out (by kernel_rfl)) (by decide) (fun K hK => ?_)
                refine goes_ Try.func13 (by kernel_rfl) rfl #[.agg #[.int .i64 zz.f0, .int .i64 zz.f1, .int .i64 zz.f2, .slice Ay zz.f3.length cy], .agg #[.int .i64 0, .int .i64 0, .int .i64 0, .slice none 0 0]] (by rfl) rfl rfl (by (try simp only [List.map_toArray, List.map_cons, List.map_nil]); first | done | rfl) ?_
                refine (juratref24_Same.calls kx zz.f0 zz.f1 zz.f2 Ay cy zz.f3 0 0 0 none 0 [] true _ (Xg.out.get 2 rfl) HLY.out (Kd.C_nil _ _) (Nat.le_refl _) HZX.out).mono ?_
                rintro e w13 ⟨rfl, hb13⟩
                refine ⟨_, rfl, ?_⟩
                have Xh := Aside0.mk (Xg.out.step hb13)
                have Mh := Aside0.mk (Mg.out.below hb13)
                clear Xg Mg hb13 hHeld
                refine hK.out _ _ ?_
                clear hK K
                refine norm_ (a' := ?_) ?_ ?_
                rotate_left
                · show Act.put _ (some 108) _ = _
                  simp only [Act.put, List.setIfInBounds_toArray, List.set_cons_zero, List.set_cons_succ, i64_w, i32_w]
                  rfl
                refine pure_ (i := 17) (N := some 109) (v := ?_) (a' := ?_) #[true, true, true, true, true, true, true, true, true, true, true, true, true, true, true, true, true, true, false] rfl rfl (any_of HT_.out (by kernel_rfl)) (fun _ _ _ h => h) (Or.inl ⟨by rfl, ?_⟩) ?_ ?_
                rotate_left
                · intro w'
                  go_simp
                  with_reducible rfl
                rotate_left
                · simp only [Act.put, List.setIfInBounds_toArray, List.set_cons_zero, List.set_cons_succ, i64_w, i32_w]
                  rfl
                refine pure_ (i := 18) (N := some 110) (v := ?_) (a' := ?_) #[true, true, true, true, true, true, true, true, true, true, true, true, true, true, true, true, true, true, true] rfl rfl (any_of HT_.out (by kernel_rfl)) (fun _ _ _ h => h) (Or.inl ⟨by rfl, ?_⟩) ?_ ?_
                rotate_left
                · intro w'
                  go_simp
                  with_reducible rfl
                rotate_left
                · simp only [Act.put, List.setIfInBounds_toArray, List.set_cons_zero, List.set_cons_succ, i64_w, i32_w]
                  rfl
                refine done_ (done_of HT_.out (by kernel_rfl)) ?_
                go_wp2_with fail
                go_meet
                exact ⟨false, zz, none, 0, [], rfl, ⟨Nat.le_refl _⟩, ⟨rfl⟩, ⟨fun h => by cases h⟩, Mh, ⟨(Xh.out.nilRow (d := k28)).pick2 0 7 rfl rfl⟩⟩
              · have hfl' : (bits BinOp.and IntKind.u32 (fl / 2 ^ min j 32) 1 == 1) = false := by simpa using hfl
                clear hfl
                go_wp2_with fail
                go_meet
                exact ⟨true, m', A7, c7, [m'], rfl, ⟨by have := HL7.out; simp at this ⊢; omega⟩, ⟨rfl⟩, ⟨fun _ => HOM'.out⟩, M8, ⟨X8.out.pick2 0 1 rfl rfl⟩⟩
            case rest =>
              obtain ⟨has2, m2, Ah2, ch2, hs2, rfl, HCH2, HHS2, HOM2, M20, X20⟩ := hcut
              obtain ⟨adl, A4, c4, eA, hx0, hx1, hx2, hx3, hl4, hF4⟩ := at_F28 (X20.out.footAt 1 rfl : Kd.F k28 wc (fun k => ¬ k = g) (some ad) l.length l) j hlt hlt
              injection eA with eA
              subst eA
              rw [HYL.out] at hx0 hx1 hx2 hx3 hl4 hF4
              clear hl4 hF4
              obtain ⟨kq, hq⟩ := (same24_ev z28 z28 (by simp [z28])).rounds
              rw [eqR_self] at hq
              have HQ := Aside0.mk (show juratref24_Same.f kq 0 0 0 [] 0 0 0 [] = some true from hq)
              clear hq
              go_upto_region 21 with (first | (go_at_call 11; (refine (merge_Add.nil_ y A4 c4 _).mono ?_); rintro e w21 ⟨rfl, hb21⟩; have Xa := Aside0.mk (X20.out.step hb21); have Ma := Aside0.mk (M20.out.below hb21); clear hb21 X20 M20 hx0 hx1 hx2 hx3) | fail)
              have hbb16 : w21.heap.size ≠ g := by
                obtain ⟨_, _, h, _⟩ := Ma.out
                have := blk_lt h
                omega
              have Xb := Aside0.mk (Xa.out.new #[.int .i64 0, .int .i64 0, .int .i64 0, .slice none 0 0] 28 hbb16)
              have Mb := Aside0.mk (Ma.out.below (below_alloc (Below.refl _ _) (Obj.cells #[.int .i64 0, .int .i64 0, .int .i64 0, .slice none 0 0] 28)))
              clear Xa Ma
              generalize w21.alloc (Obj.cells #[.int .i64 0, .int .i64 0, .int .i64 0, .slice none 0 0] 28) = w21' at Xb Mb ⊢
              generalize w21.heap.size = b16 at hbb16 Xb ⊢
              go_upto_region 22 with (first | (go_at_call 14; (refine (merge_Flush.nil_ _).mono ?_); rintro e w22 ⟨rfl, hb22⟩; have Xc := Aside0.mk (Xb.out.step hb22); have Mc := Aside0.mk (Mb.out.below hb22); clear hb22 Xb Mb) | fail)
              have hbb18 : w22.heap.size ≠ g := by
                obtain ⟨_, _, h, _⟩ := Mc.out
                have := blk_lt h
                omega
              have Xd := Aside0.mk (Xc.out.new #[.int .i64 0, .int .i64 0, .int .i64 0, .slice none 0 0] 28 hbb18)
              have Md := Aside0.mk (Mc.out.below (below_alloc (Below.refl _ _) (Obj.cells #[.int .i64 0, .int .i64 0, .int .i64 0, .slice none 0 0] 28)))
              clear Xc Mc
              generalize w22.alloc (Obj.cells #[.int .i64 0, .int .i64 0, .int .i64 0, .slice none 0 0] 28) = w22' at Xd Md ⊢
              generalize w22.heap.size = b18 at hbb18 Xd ⊢
              obtain ⟨⟨p0, p1, p2, p3⟩, _⟩ := cell4 (Xd.out.get 1 rfl)
              obtain ⟨⟨q0, q1, q2, q3⟩, _⟩ := cell4 (Xd.out.get 0 rfl)
              have tok1 : True := trivial
              go_wp2_with (first | (go_at_call 13; have _t := tok1; (refine (juratref24_Same.calls kq 0 0 0 none 0 [] 0 0 0 none 0 [] true _ (Kd.C_nil _ _) (Nat.le_refl _) (Kd.C_nil _ _) (Nat.le_refl _) HQ.out).mono ?_); rintro e w23 ⟨rfl, hb23⟩; have Xe := Aside0.mk (Xd.out.step hb23); have Me := Aside0.mk (Md.out.below hb23); clear hb23 Xd Md p0 p1 p2 p3 q0 q1 q2 q3 tok1 _t; obtain ⟨⟨q0, q1, q2, q3⟩, _⟩ := cell4 (Xe.out.get 0 rfl)) | (go_at_call 13; (refine (juratref24_Same.calls kq 0 0 0 none 0 [] 0 0 0 none 0 [] true _ (Kd.C_nil _ _) (Nat.le_refl _) (Kd.C_nil _ _) (Nat.le_refl _) HQ.out).mono ?_); rintro e w24 ⟨rfl, hb24⟩; have Xf := Aside0.mk (Xe.out.step hb24); have Mf := Aside0.mk (Me.out.below hb24); clear hb24 Xe Me q0 q1 q2 q3) | fail)
              exact ⟨⟨j + 1, m2, has2, Ah2, ch2, hs2, by omega, by go_num, rfl, HCH2, HHS2, HOM2, Mf, ⟨Xf.out.pick2 2 3 rfl rfl⟩⟩, by simp [intOf]; omega⟩
        · subst hnx
          have HZ := Aside0.mk hz
          clear hz HPL
          obtain ⟨⟨b0, b1, b2, b3⟩, _⟩ := cell4 (X7.out.get 2 rfl)
          obtain ⟨ad7, Aw, cw, eA7, e0, e1, e2, e3, hlw, hFw⟩ := at_F28 (X7.out.footAt 0 rfl : Kd.F k28 wc (fun k => ¬ k = g) A7 2 [o, m']) 0 (by omega) (by simp)
          subst eA7
          simp only [List.getElem_cons_zero] at e0 e1 e2 e3 hlw hFw
          have ez : ad7.add (0 * 4) = ad7 := by unfold Addr.add; rw [if_pos (by rfl)]
          rw [ez] at e0 e1 e2 e3
          clear ez
          have HLW := Aside0.mk hlw
          have XW := Aside0.mk (X7.out.add (P := Row (Kd.int .i64) Aw o.f3) hFw)
          clear hlw hFw
          go_upto_region 11 with fail
          go_cut [73] (fun v73 wx => v73 = .bool false ∧ Aside0 (Cx (fun k => k = g) w wx [Row k28 (some ad7) [o, m'], Row k28 (some ad) l]) ∧ Aside0 (MAt wx w.heap.size g m' has'))
          case first =>
            refine start_ (n := 26) (S := (fun w' => w'.cell? ⟨b9, 0, none⟩ = some (.int .i64 o.f0) ∧ w'.cell? ⟨b9, 1, none⟩ = some (.int .i64 o.f1) ∧ w'.cell? ⟨b9, 2, none⟩ = some (.int .i64 o.f2) ∧ w'.cell? ⟨b9, 3, none⟩ = some (.slice Av o.f3.length cv) ∧ w'.cell? ad7 = some (.int .i64 o.f0) ∧ w'.cell? ⟨(ad7).block, (ad7).off + 1, none⟩ = some (.int .i64 o.f1) ∧ w'.cell? ⟨(ad7).block, (ad7).off + 2, none⟩ = some (.int .i64 o.f2) ∧ w'.cell? ⟨(ad7).block, (ad7).off + 3, none⟩ = some (.slice Aw o.f3.length cw))) (ds := [12]) #[false, false, false, false, false, false, false, false, false, false, false, false, false, false, false, false, false, false, false, false, false, false, false, false, false, false] (by kernel_rfl) rfl rfl ⟨b0, b1, b2, b3, e0, e1, e2, e3⟩ (fun hHeld => ?_); refine with_tabW comesR11.tab comesR11.bits (fun HT_ HW_ => ?_)
            clear b0 b1 b2 b3 e0 e1 e2 e3
            have X8 := Aside0.mk XW.out.drew
            have M8 := Aside0.mk (M7.out.below (below_drew (Below.refl _ _)))
            clear X7 XW M7
            generalize wc.drew = wd at X8 M8 hHeld ⊢
            refine pure_ (i := 0) (N := some 48) (v := ?_) (a' := ?_) #[true, false, false, false, false, false, false, false, false, false, false, false, false, false, false, false, false, false, false, false, false, false, false, false, false, false] rfl rfl (any_of HT_.out (by kernel_rfl)) (fun _ _ _ h => h) (Or.inl ⟨by rfl, ?_⟩) ?_ ?_
            rotate_left
            · intro w'
              go_simp
              with_reducible rfl
            rotate_left
            · simp only [Act.put, List.setIfInBounds_toArray, List.set_cons_zero, List.set_cons_succ, i64_w, i32_w]
              rfl
            refine pure_ (i := 1) (N := some 49) (v := ?_) (a' := ?_) #[true, true, false, false, false, false, false, false, false, false, false, false, false, false, false, false, false, false, false, false, false, false, false, false, false, false] rfl rfl (any_of HT_.out (by kernel_rfl)) (fun _ _ _ h => h) (Or.inl ⟨by rfl, ?_⟩) ?_ ?_
            rotate_left
            · intro w'
              go_simp
              with_reducible rfl
            rotate_left
            · simp only [Act.put, List.setIfInBounds_toArray, List.set_cons_zero, List.set_cons_succ, i64_w, i32_w]
              rfl
            refine pure_ (i := 2) (N := some 50) (v := ?_) (a' := ?_) #[true, true, true, false, false, false, false, false, false, false, false, false, false, false, false, false, false, false, false, false, false, false, false, false, false, false] rfl rfl (any_of HT_.out (by kernel_rfl)) (fun _ _ _ h => h) (Or.inl ⟨by rfl, ?_⟩) ?_ ?_
            rotate_left
            · intro w'
              go_simp
              with_reducible rfl
            rotate_left
            · simp only [Act.put, List.setIfInBounds_toArray, List.set_cons_zero, List.set_cons_succ, i64_w, i32_w]
              rfl
            refine pure_ (i := 3) (N := some 51) (v := ?_) (a' := ?_) #[true, true, true, true, false, false, false, false, false, false, false, false, false, false, false, false, false, false, false, false, false, false, false, false, false, false] rfl rfl (any_of HT_.out (by kernel_rfl)) (fun _ _ _ h => h) (Or.inl ⟨by rfl, ?_⟩) ?_ ?_
            rotate_left
            · intro w'
              go_simp
              with_reducible rfl
            rotate_left
            · simp only [Act.put, List.setIfInBounds_toArray, List.set_cons_zero, List.set_cons_succ, i64_w, i32_w]
              rfl
            refine pure_ (i := 4) (N := some 52) (v := ?_) (a' := ?_) #[true, true, true, true, true, false, false, false, false, false, false, false, false, false, false, false, false, false, false, false, false, false, false, false, false, false] rfl rfl (any_of HT_.out (by kernel_rfl)) (fun _ _ _ h => h) (Or.inl ⟨by rfl, ?_⟩) ?_ ?_
            rotate_left
            · intro w'
              go_simp
              with_reducible rfl
            rotate_left
            · simp only [Act.put, List.setIfInBounds_toArray, List.set_cons_zero, List.set_cons_succ, i64_w, i32_w]
              rfl
            refine pure_ (i := 5) (N := some 53) (v := ?_) (a' := ?_) #[true, true, true, true, true, true, false, false, false, false, false, false, false, false, false, false, false, false, false, false, false, false, false, false, false, false] rfl rfl (any_of HT_.out (by kernel_rfl)) (fun _ _ _ h => h) (Or.inl ⟨by rfl, ?_⟩) ?_ ?_
            rotate_left
            · intro w'
              go_simp
              with_reducible rfl
            rotate_left
            · simp only [Act.put, List.setIfInBounds_toArray, List.set_cons_zero, List.set_cons_succ, i64_w, i32_w]
              rfl
            refine pure_ (i := 6) (N := some 54) (v := ?_) (a' := ?_) #[true, true, true, true, true, true, true, false, false, false, false, false, false, false, false, false, false, false, false, false, false, false, false, false, false, false] rfl rfl (any_of HT_.out (by kernel_rfl)) (fun _ _ _ h => h) (Or.inl ⟨by rfl, ?_⟩) ?_ ?_
            rotate_left
            · intro w'
              go_simp
              with_reducible rfl
            rotate_left
            · simp only [Act.put, List.setIfInBounds_toArray, List.set_cons_zero, List.set_cons_succ, i64_w, i32_w]
              rfl
            refine pure_ (i := 7) (N := some 55) (v := ?_) (a' := ?_) #[true, true, true, true, true, true, true, true, false, false, false, false, false, false, false, false, false, false, false, false, false, false, false, false, false, false] rfl rfl (any_of HT_.out (by kernel_rfl)) (fun _ _ _ h => h) (Or.inl ⟨by rfl, ?_⟩) ?_ ?_
            rotate_left
            · intro w'
              go_simp
              with_reducible rfl
            rotate_left
            · simp only [Act.put, List.setIfInBounds_toArray, List.set_cons_zero, List.set_cons_succ, i64_w, i32_w]
              rfl
            refine take_ (i := 8) (N := some 56) (v := ?_) (a' := ?_) #[true, true, true, true, true, true, true, true, true, false, false, false, false, false, false, false, false, false, false, false, false, false, false, false, false, false] rfl rfl (take_ofW HT_.out HW_.out (by kernel_rfl)) (fun _ _ _ h => h) (Or.inl ⟨by rfl, ?_⟩) hHeld ?_ ?_
            rotate_left
            · rintro w' ⟨s0, s1, s2, s3, s4, s5, s6, s7⟩
              go_simp
              with_reducible rfl
            rotate_left
            · simp only [Act.put, List.setIfInBounds_toArray, List.set_cons_zero, List.set_cons_succ, i64_w, i32_w]
              rfl
            refine pure_ (i := 9) (N := some 57) (v := ?_) (a' := ?_) #[true, true, true, true, true, true, true, true, true, true, false, false, false, false, false, false, false, false, false, false, false, false, false, false, false, false] rfl rfl (any_of HT_.out (by kernel_rfl)) (fun _ _ _ h => h) (Or.inl ⟨by rfl, ?_⟩) ?_ ?_
            rotate_left
            · intro w'
              go_simp
              with_reducible rfl
            rotate_left
            · simp only [Act.put, List.setIfInBounds_toArray, List.set_cons_zero, List.set_cons_succ, i64_w, i32_w]
              rfl
            refine pure_ (i := 10) (N := some 58) (v := ?_) (a' := ?_) #[true, true, true, true, true, true, true, true, true, true, true, false, false, false, false, false, false, false, false, false, false, false, false, false, false, false] rfl rfl (any_of HT_.out (by kernel_rfl)) (fun _ _ _ h => h) (Or.inl ⟨by rfl, ?_⟩) ?_ ?_
            rotate_left
            · intro w'
              go_simp
              with_reducible rfl
            rotate_left
            · simp only [Act.put, List.setIfInBounds_toArray, List.set_cons_zero, List.set_cons_succ, i64_w, i32_w]
              rfl
            refine take_ (i := 11) (N := some 59) (v := ?_) (a' := ?_) #[true, true, true, true, true, true, true, true, true, true, true, true, false, false, false, false, false, false, false, false, false, false, false, false, false, false] rfl rfl (take_ofW HT_.out HW_.out (by kernel_rfl)) (fun _ _ _ h => h) (Or.inl ⟨by rfl, ?_⟩) hHeld ?_ ?_
            rotate_left
            · rintro w' ⟨s0, s1, s2, s3, s4, s5, s6, s7⟩
              go_simp
              with_reducible rfl
            rotate_left
            · simp only [Act.put, List.setIfInBounds_toArray, List.set_cons_zero, List.set_cons_succ, i64_w, i32_w]
              rfl
            refine last_ (i := 12) (N := some 60) #[true, true, true, true, true, true, true, true, true, true, true, true, true, false, false, false, false, false, false, false, false, false, false, false, false, false] rfl rfl (one_of HT_.out (by kernel_rfl)) (by decide) (fun K hK => ?_)
            refine goes_ Try.func13 (by kernel_rfl) rfl #[.agg #[.int .i64 o.f0, .int .i64 o.f1, .int .i64 o.f2, .slice Av o.f3.length cv], .agg #[.int .i64 o.f0, .int .i64 o.f1, .int .i64 o.f2, .slice Aw o.f3.length cw]] (by rfl) rfl rfl (by (try simp only [List.map_toArray, List.map_cons, List.map_nil]); first | done | rfl) ?_
            refine (juratref24_Same.calls kz o.f0 o.f1 o.f2 Av cv o.f3 o.f0 o.f1 o.f2 Aw cw o.f3 true _ (X8.out.get 4 rfl) HLV.out (X8.out.get 0 rfl) HLW.out HZ.out).mono ?_
            rintro e w9 ⟨rfl, hb9⟩
            refine ⟨_, rfl, ?_⟩
            have X9 := Aside0.mk (X8.out.step hb9)
            have M9 := Aside0.mk (M8.out.below hb9)
            clear X8 M8 hb9
            refine hK.out _ _ ?_
            clear hK K
            refine norm_ (a' := ?_) ?_ ?_
            rotate_left
            · show Act.put _ (some 60) _ = _
              simp only [Act.put, List.setIfInBounds_toArray, List.set_cons_zero, List.set_cons_succ, i64_w, i32_w]
              rfl
            refine pure_ (i := 13) (N := some 61) (v := ?_) (a' := ?_) #[true, true, true, true, true, true, true, true, true, true, true, true, true, true, false, false, false, false, false, false, false, false, false, false, false, false] rfl rfl (any_of HT_.out (by kernel_rfl)) (fun _ _ _ h => h) (Or.inl ⟨by rfl, ?_⟩) ?_ ?_
            rotate_left
            · intro w'
              go_simp
              with_reducible rfl
            rotate_left
            · simp only [Act.put, List.setIfInBounds_toArray, List.set_cons_zero, List.set_cons_succ, i64_w, i32_w]
              rfl
            refine pure_ (i := 14) (N := some 62) (v := ?_) (a' := ?_) #[true, true, true, true, true, true, true, true, true, true, true, true, true, true, true, false, false, false, false, false, false, false, false, false, false, false] rfl rfl (any_of HT_.out (by kernel_rfl)) (fun _ _ _ h => h) (Or.inl ⟨by rfl, ?_⟩) ?_ ?_
            rotate_left
            · intro w'
              go_simp
              with_reducible rfl
            rotate_left
            · simp only [Act.put, List.setIfInBounds_toArray, List.set_cons_zero, List.set_cons_succ, i64_w, i32_w]
              rfl
            refine pure_ (i := 15) (N := some 63) (v := ?_) (a' := ?_) #[true, true, true, true, true, true, true, true, true, true, true, true, true, true, true, true, false, false, false, false, false, false, false, false, false, false] rfl rfl (any_of HT_.out (by kernel_rfl)) (fun _ _ _ h => h) (Or.inl ⟨by rfl, ?_⟩) ?_ ?_
            rotate_left
            · intro w'
              go_simp
              with_reducible rfl
            rotate_left
            · simp only [Act.put, List.setIfInBounds_toArray, List.set_cons_zero, List.set_cons_succ, i64_w, i32_w]
              rfl
            refine pure_ (i := 16) (N := some 64) (v := ?_) (a' := ?_) #[true, true, true, true, true, true, true, true, true, true, true, true, true, true, true, true, true, false, false, false, false, false, false, false, false, false] rfl rfl (any_of HT_.out (by kernel_rfl)) (fun _ _ _ h => h) (Or.inl ⟨by rfl, ?_⟩) ?_ ?_
            rotate_left
            · intro w'
              go_simp
              with_reducible rfl
            rotate_left
            · simp only [Act.put, List.setIfInBounds_toArray, List.set_cons_zero, List.set_cons_succ, i64_w, i32_w]
              rfl
            refine pure_ (i := 17) (N := some 65) (v := ?_) (a' := ?_) #[true, true, true, true, true, true, true, true, true, true, true, true, true, true, true, true, true, true, false, false, false, false, false, false, false, false] rfl rfl (any_of HT_.out (by kernel_rfl)) (fun _ _ _ h => h) (Or.inl ⟨by rfl, ?_⟩) ?_ ?_
            rotate_left
            · intro w'
              go_simp
              with_reducible rfl
            rotate_left
            · simp only [Act.put, List.setIfInBounds_toArray, List.set_cons_zero, List.set_cons_succ, i64_w, i32_w]
              rfl
            refine pure_ (i := 18) (N := some 66) (v := ?_) (a' := ?_) #[true, true, true, true, true, true, true, true, true, true, true, true, true, true, true, true, true, true, true, false, false, false, false, false, false, false] rfl rfl (any_of HT_.out (by kernel_rfl)) (fun _ _ _ h => h) (Or.inl ⟨by rfl, ?_⟩) ?_ ?_
            rotate_left
            · intro w'
              go_simp
              with_reducible rfl
            rotate_left
            · simp only [Act.put, List.setIfInBounds_toArray, List.set_cons_zero, List.set_cons_succ, i64_w, i32_w]
              rfl
            refine pure_ (i := 19) (N := some 67) (v := ?_) (a' := ?_) #[true, true, true, true, true, true, true, true, true, true, true, true, true, true, true, true, true, true, true, true, false, false, false, false, false, false] rfl rfl (any_of HT_.out (by kernel_rfl)) (fun _ _ _ h => h) (Or.inl ⟨by rfl, ?_⟩) ?_ ?_
            rotate_left
            · intro w'
              go_simp
              with_reducible rfl
            rotate_left
            · simp only [Act.put, List.setIfInBounds_toArray, List.set_cons_zero, List.set_cons_succ, i64_w, i32_w]
              rfl
            refine pure_ (i := 20) (N := some 68) (v := undef) (a' := ?_) #[true, true, true, true, true, true, true, true, true, true, true, true, true, true, true, true, true, true, true, true, true, false, false, false, false, false] rfl rfl (any_of HT_.out (by kernel_rfl)) (fun _ _ _ h => h) (Or.inr ⟨by rfl, rfl⟩) ?_ ?_
            rotate_left
            · simp only [Act.put, List.setIfInBounds_toArray, List.set_cons_zero, List.set_cons_succ, i64_w, i32_w]
              rfl
            refine pure_ (i := 21) (N := some 69) (v := undef) (a' := ?_) #[true, true, true, true, true, true, true, true, true, true, true, true, true, true, true, true, true, true, true, true, true, true, false, false, false, false] rfl rfl (any_of HT_.out (by kernel_rfl)) (fun _ _ _ h => h) (Or.inr ⟨by rfl, rfl⟩) ?_ ?_
            rotate_left
            · simp only [Act.put, List.setIfInBounds_toArray, List.set_cons_zero, List.set_cons_succ, i64_w, i32_w]
              rfl
            refine pure_ (i := 22) (N := some 70) (v := undef) (a' := ?_) #[true, true, true, true, true, true, true, true, true, true, true, true, true, true, true, true, true, true, true, true, true, true, true, false, false, false] rfl rfl (any_of HT_.out (by kernel_rfl)) (fun _ _ _ h => h) (Or.inr ⟨by rfl, rfl⟩) ?_ ?_
            rotate_left
            · simp only [Act.put, List.setIfInBounds_toArray, List.set_cons_zero, List.set_cons_succ, i64_w, i32_w]
              rfl
            refine pure_ (i := 23) (N := some 71) (v := undef) (a' := ?_) #[true, true, true, true, true, true, true, true, true, true, true, true, true, true, true, true, true, true, true, true, true, true, true, true, false, false] rfl rfl (any_of HT_.out (by kernel_rfl)) (fun _ _ _ h => h) (Or.inr ⟨by rfl, rfl⟩) ?_ ?_
            rotate_left
            · simp only [Act.put, List.setIfInBounds_toArray, List.set_cons_zero, List.set_cons_succ, i64_w, i32_w]
              rfl
            refine pure_ (i := 24) (N := some 72) (v := ?_) (a' := ?_) #[true, true, true, true, true, true, true, true, true, true, true, true, true, true, true, true, true, true, true, true, true, true, true, true, true, false] rfl rfl (any_of HT_.out (by kernel_rfl)) (fun _ _ _ h => h) (Or.inl ⟨by rfl, ?_⟩) ?_ ?_
            rotate_left
            · intro w'
              go_simp
              with_reducible rfl
            rotate_left
            · simp only [Act.put, List.setIfInBounds_toArray, List.set_cons_zero, List.set_cons_succ, i64_w, i32_w]
              rfl
            refine pure_ (i := 25) (N := some 73) (v := ?_) (a' := ?_) #[true, true, true, true, true, true, true, true, true, true, true, true, true, true, true, true, true, true, true, true, true, true, true, true, true, true] rfl rfl (any_of HT_.out (by kernel_rfl)) (fun _ _ _ h => h) (Or.inl ⟨by rfl, ?_⟩) ?_ ?_
            rotate_left
            · intro w'
              go_simp
              with_reducible rfl
            rotate_left
            · simp only [Act.put, List.setIfInBounds_toArray, List.set_cons_zero, List.set_cons_succ, i64_w, i32_w]
              rfl
            refine done_ (done_of HT_.out (by kernel_rfl)) ?_
            go_wp2_with fail
            go_meet
            exact ⟨rfl, ⟨X9.out.pick2 1 7 rfl rfl⟩, M9⟩
          case rest =>
            obtain ⟨rfl, X8, M8⟩ := hcut
            have h7 : 2 ≤ c7 := HL7.out
            have hcutv : ∀ W : World, (Instr.slice 22 (.slice (some ad7) 2 c7) (some (.int .i64 1)) none none).run Try.prog W = .ok (.slice (some (ad7.add 4)) 1 (c7 - 1)) W := fun W => (cut_from 22 28 .i64 Try.underlying22 hi 4 hz1 (some ad7) 2 c7 1 (by omega) (by omega) W).trans (by rw [if_neg (by simp; omega)]; simp)
            have hFr := Kd.F_cut (m := 1) (X8.out.footAt 0 rfl : Kd.F k28 wc (fun k => ¬ k = g) (some ad7) [o, m'].length [o, m']) (by simp) HL7.out
            rw [if_neg (by omega)] at hFr
            have X8' : Aside0 (Cx (fun k => k = g) w wc (Row k28 (some ⟨ad7.block, ad7.off + 4, none⟩) [m'] :: [Row k28 (some ad7) [o, m'], Row k28 (some ad) l])) := ⟨X8.out.add hFr⟩
            clear hFr X8
            go_upto_if 83 with (fail)
            have e' := HH'.out
            subst e'
            go_cut [7] (fun v7 wx => ∃ (has2 : Bool) (m2 : S28) (Ah2 : Option Addr) (ch2 : Nat) (hs2 : List S28), v7 = .slice Ah2 hs2.length ch2 ∧ Aside0 (hs2.length ≤ ch2) ∧ Aside0 (hs2 = if has2 = true then [m2] else []) ∧ Aside0 (has2 = true → okR m2) ∧ Aside0 (MAt wx w.heap.size g m2 has2) ∧ Aside0 (Cx (fun k => k = g) w wx [Row k28 Ah2 hs2, Row k28 (some ad) l]))
            case first =>
              by_cases hfl : (bits BinOp.and IntKind.u32 (fl / 2 ^ min j 32) 1 == 1) = true
              · obtain ⟨zz, hzz⟩ : ∃ zz : S28, zz = z28 := ⟨_, rfl⟩
                obtain ⟨kx, hx⟩ : ∃ kx, juratref24_Same.f kx zz.f0 zz.f1 zz.f2 zz.f3 0 0 0 [] = some true := by
                  obtain ⟨kx, hx⟩ := (same24_ev z28 z28 (by simp [z28])).rounds
                  rw [eqR_self] at hx
                  exact ⟨kx, by rw [hzz]; exact hx⟩
                obtain ⟨ky, hy'⟩ := (same24_ev m' m' (by have := HOM'.out.2.2.2; omega)).rounds
                rw [eqR_self] at hy'
                have hzf : merge_Flush.f z28 false = (zz, false, zz, false) := by rw [hzz]; rfl
                have HZX := Aside0.mk hx
                have HZY := Aside0.mk hy'
                have HZF := Aside0.mk hzf
                clear hx hy' hzf hzz
                go_upto_region 16 with (first | (go_at_call 14; (refine (merge_Flush.calls w.heap.size g m' true m' true z28 false _ M8.out X8'.out.hb.size rfl).mono ?_); rintro e w10 ⟨v, rfl, hRv, hM, hK, hB⟩; obtain ⟨Ax, cx, rfl⟩ := Kd.R_slice hRv; have HLX := Aside0.mk (Kd.R_reads' hRv).2.1; have Xa := Aside0.mk (ownM (X8'.out.kept hK (X8'.out.hb.trans hB) rfl) hM hRv); have Ma := Aside0.mk hM; clear hRv hM hK hB X8' M8) | fail)
                have hbb12 : w10.heap.size ≠ g := by
                  obtain ⟨_, _, h, _⟩ := Ma.out
                  have := blk_lt h
                  omega
                have Xb := Aside0.mk (Xa.out.new #[.int .i64 m'.f0, .int .i64 m'.f1, .int .i64 m'.f2, .slice Ax m'.f3.length cx] 28 hbb12)
                have Mb := Aside0.mk (Ma.out.below (below_alloc (Below.refl _ _) (Obj.cells #[.int .i64 m'.f0, .int .i64 m'.f1, .int .i64 m'.f2, .slice Ax m'.f3.length cx] 28)))
                clear Xa Ma
                generalize w10.alloc (Obj.cells #[.int .i64 m'.f0, .int .i64 m'.f1, .int .i64 m'.f2, .slice Ax m'.f3.length cx] 28) = w10' at Xb Mb ⊢
                generalize w10.heap.size = b12 at hbb12 Xb ⊢
                go_upto_region 17 with (first | (go_at_call 14; (refine (merge_Flush.calls w.heap.size g z28 false zz false zz false _ Mb.out Xb.out.hb.size HZF.out).mono ?_); rintro e w11 ⟨v, rfl, hRv, hM, hK, hB⟩; obtain ⟨Ay, cy, rfl⟩ := Kd.R_slice hRv; have HLY := Aside0.mk (Kd.R_reads' hRv).2.1; have Xc := Aside0.mk (ownM (Xb.out.kept hK (Xb.out.hb.trans hB) rfl) hM hRv); have Mc := Aside0.mk hM; clear hRv hM hK hB Xb Mb) | fail)
                have hbb14 : w11.heap.size ≠ g := by
                  obtain ⟨_, _, h, _⟩ := Mc.out
                  have := blk_lt h
                  omega
                have Xd := Aside0.mk (Xc.out.new #[.int .i64 zz.f0, .int .i64 zz.f1, .int .i64 zz.f2, .slice Ay zz.f3.length cy] 28 hbb14)
                have Md := Aside0.mk (Mc.out.below (below_alloc (Below.refl _ _) (Obj.cells #[.int .i64 zz.f0, .int .i64 zz.f1, .int .i64 zz.f2, .slice Ay zz.f3.length cy] 28)))
                clear Xc Mc
                generalize w11.alloc (Obj.cells #[.int .i64 zz.f0, .int .i64 zz.f1, .int .i64 zz.f2, .slice Ay zz.f3.length cy] 28) = w11' at Xd Md ⊢
                generalize w11.heap.size = b14 at hbb14 Xd ⊢
                obtain ⟨⟨p0, p1, p2, p3⟩, _⟩ := cell4 (Xd.out.get 2 rfl)
                obtain ⟨⟨q0, q1, q2, q3⟩, _⟩ := cell4 (Xd.out.get 0 rfl)
                obtain ⟨adh, Ah', ch', eh, e0, e1, e2, e3, hlh, hFh⟩ := at_F28 (Xd.out.footAt 4 rfl : Kd.F k28 w11' (fun k => ¬ k = g) (some ⟨ad7.block, ad7.off + 4, none⟩) 1 [m']) 0 (by omega) (by simp)
                have ez : adh.add (0 * 4) = adh := by unfold Addr.add; rw [if_pos (by rfl)]
                rw [ez] at e0 e1 e2 e3
                clear ez
                injection eh with eh
                subst eh
                simp only [List.getElem_cons_zero] at e0 e1 e2 e3 hlh hFh
                have HLH := Aside0.mk hlh
                have Xe := Aside0.mk (Xd.out.add (P := Row (Kd.int .i64) Ah' m'.f3) hFh)
                clear hlh hFh Xd
                refine start_ (n := 19) (S := (fun w' => w'.cell? ⟨b12, 0, none⟩ = some (.int .i64 m'.f0) ∧ w'.cell? ⟨b12, 1, none⟩ = some (.int .i64 m'.f1) ∧ w'.cell? ⟨b12, 2, none⟩ = some (.int .i64 m'.f2) ∧ w'.cell? ⟨b12, 3, none⟩ = some (.slice Ax m'.f3.length cx) ∧ w'.cell? (⟨ad7.block, ad7.off + 4, none⟩ : Addr) = some (.int .i64 m'.f0) ∧ w'.cell? ⟨((⟨ad7.block, ad7.off + 4, none⟩ : Addr)).block, ((⟨ad7.block, ad7.off + 4, none⟩ : Addr)).off + 1, none⟩ = some (.int .i64 m'.f1) ∧ w'.cell? ⟨((⟨ad7.block, ad7.off + 4, none⟩ : Addr)).block, ((⟨ad7.block, ad7.off + 4, none⟩ : Addr)).off + 2, none⟩ = some (.int .i64 m'.f2) ∧ w'.cell? ⟨((⟨ad7.block, ad7.off + 4, none⟩ : Addr)).block, ((⟨ad7.block, ad7.off + 4, none⟩ : Addr)).off + 3, none⟩ = some (.slice Ah' m'.f3.length ch') ∧ w'.cell? ⟨b14, 0, none⟩ = some (.int .i64 zz.f0) ∧ w'.cell? ⟨b14, 1, none⟩ = some (.int .i64 zz.f1) ∧ w'.cell? ⟨b14, 2, none⟩ = some (.int .i64 zz.f2) ∧ w'.cell? ⟨b14, 3, none⟩ = some (.slice Ay zz.f3.length cy))) (ds := [7, 16]) #[false, false, false, false, false, false, false, false, false, false, false, false, false, false, false, false, false, false, false] (by kernel_rfl) rfl rfl ⟨p0, p1, p2, p3, e0, e1, e2, e3, q0, q1, q2, q3⟩ (fun hHeld => ?_); refine with_tabW comesR17.tab comesR17.bits (fun HT_ HW_ => ?_)
                clear p0 p1 p2 p3 q0 q1 q2 q3 e0 e1 e2 e3
                have Xf := Aside0.mk Xe.out.drew
                have Mf := Aside0.mk (Md.out.below (below_drew (Below.refl _ _)))
                clear Xe Md
                generalize w11'.drew = we at Xf Mf hHeld ⊢
                refine pure_ (i := 0) (N := some 92) (v := ?_) (a' := ?_) #[true, false, false, false, false, false, false, false, false, false, false, false, false, false, false, false, false, false, false] rfl rfl (any_of HT_.out (by kernel_rfl)) (fun _ _ _ h => h) (Or.inl ⟨by rfl, ?_⟩) ?_ ?_
                rotate_left
                · intro w'
                  go_simp
                  with_reducible rfl
                rotate_left
                · simp only [Act.put, List.setIfInBounds_toArray, List.set_cons_zero, List.set_cons_succ, i64_w, i32_w]
                  rfl
                refine pure_ (i := 1) (N := some 93) (v := ?_) (a' := ?_) #[true, true, false, false, false, false, false, false, false, false, false, false, false, false, false, false, false, false, false] rfl rfl (any_of HT_.out (by kernel_rfl)) (fun _ _ _ h => h) (Or.inl ⟨by rfl, ?_⟩) ?_ ?_
                rotate_left
                · intro w'
                  go_simp
                  with_reducible rfl
                rotate_left
                · simp only [Act.put, List.setIfInBounds_toArray, List.set_cons_zero, List.set_cons_succ, i64_w, i32_w]
                  rfl
                refine pure_ (i := 2) (N := some 94) (v := ?_) (a' := ?_) #[true, true, true, false, false, false, false, false, false, false, false, false, false, false, false, false, false, false, false] rfl rfl (any_of HT_.out (by kernel_rfl)) (fun _ _ _ h => h) (Or.inl ⟨by rfl, ?_⟩) ?_ ?_
                rotate_left
                · intro w'
                  go_simp
                  with_reducible rfl
                rotate_left
                · simp only [Act.put, List.setIfInBounds_toArray, List.set_cons_zero, List.set_cons_succ, i64_w, i32_w]
                  rfl
                refine take_ (i := 3) (N := some 95) (v := ?_) (a' := ?_) #[true, true, true, true, false, false, false, false, false, false, false, false, false, false, false, false, false, false, false] rfl rfl (take_ofW HT_.out HW_.out (by kernel_rfl)) (fun _ _ _ h => h) (Or.inl ⟨by rfl, ?_⟩) hHeld ?_ ?_
                rotate_left
                · rintro w' ⟨s0, s1, s2, s3, s4, s5, s6, s7, s8, s9, s10, s11⟩
                  go_simp
                  with_reducible rfl
                rotate_left
                · simp only [Act.put, List.setIfInBounds_toArray, List.set_cons_zero, List.set_cons_succ, i64_w, i32_w]
                  rfl
                refine pure_ (i := 4) (N := some 96) (v := ?_) (a' := ?_) #[true, true, true, true, true, false, false, false, false, false, false, false, false, false, false, false, false, false, false] rfl rfl (any_of HT_.out (by kernel_rfl)) (fun _ _ _ h => h) (Or.inl ⟨by rfl, ?_⟩) ?_ ?_
                rotate_left
                · intro w'
                  go_simp
                  with_reducible rfl
                rotate_left
                · simp only [Act.put, List.setIfInBounds_toArray, List.set_cons_zero, List.set_cons_succ, i64_w, i32_w]
                  rfl
                refine pure_ (i := 5) (N := some 97) (v := ?_) (a' := ?_) #[true, true, true, true, true, true, false, false, false, false, false, false, false, false, false, false, false, false, false] rfl rfl (any_of HT_.out (by kernel_rfl)) (fun _ _ _ h => h) (Or.inl ⟨by rfl, ?_⟩) ?_ ?_
                rotate_left
                · intro w'
                  go_simp
                  with_reducible rfl
                rotate_left
                · simp only [Act.put, List.setIfInBounds_toArray, List.set_cons_zero, List.set_cons_succ, i64_w, i32_w]
                  rfl
                refine take_ (i := 6) (N := some 98) (v := ?_) (a' := ?_) #[true, true, true, true, true, true, true, false, false, false, false, false, false, false, false, false, false, false, false] rfl rfl (take_ofW HT_.out HW_.out (by kernel_rfl)) (fun _ _ _ h => h) (Or.inl ⟨by rfl, ?_⟩) hHeld ?_ ?_
                rotate_left
                · rintro w' ⟨s0, s1, s2, s3, s4, s5, s6, s7, s8, s9, s10, s11⟩
                  go_simp
                  with_reducible rfl
                rotate_left
                · simp only [Act.put, List.setIfInBounds_toArray, List.set_cons_zero, List.set_cons_succ, i64_w, i32_w]
                  rfl
                refine last_ (i := 7) (N := some 99) #[true, true, true, true, true, true, true, true, false, false, false, false, false, false, false, false, false, false, false] rfl rfl (one_of HT_.out (by kernel_rfl)) (by decide) (fun K hK => ?_)
                refine goes_ Try.func13 (by kernel_rfl) rfl #[.agg #[.int .i64 m'.f0, .int .i64 m'.f1, .int .i64 m'.f2, .slice Ax m'.f3.length cx], .agg #[.int .i64 m'.f0, .int .i64 m'.f1, .int .i64 m'.f2, .slice Ah' m'.f3.length ch']] (by rfl) rfl rfl (by (try simp only [List.map_toArray, List.map_cons, List.map_nil]); first | done | rfl) ?_
                refine (juratref24_Same.calls ky m'.f0 m'.f1 m'.f2 Ax cx m'.f3 m'.f0 m'.f1 m'.f2 Ah' ch' m'.f3 true _ (Xf.out.get 4 rfl) HLX.out (Xf.out.get 0 rfl) HLH.out HZY.out).mono ?_
                rintro e w12 ⟨rfl, hb12⟩
                refine ⟨_, rfl, ?_⟩
                have Xg := Aside0.mk (Xf.out.step hb12)
                have Mg := Aside0.mk (Mf.out.below hb12)
                have hHeld' := hold12 hb12 hHeld
                clear Xf Mf hb12 hHeld
                have hHeld := hHeld'
                clear hHeld'
                refine hK.out _ _ ?_
                clear hK K
                refine norm_ (a' := ?_) ?_ ?_
                rotate_left
                · show Act.put _ (some 99) _ = _
                  simp only [Act.put, List.setIfInBounds_toArray, List.set_cons_zero, List.set_cons_succ, i64_w, i32_w]
                  rfl
                refine pure_ (i := 8) (N := some 100) (v := ?_) (a' := ?_) #[true, true, true, true, true, true, true, true, true, false, false, false, false, false, false, false, false, false, false] rfl rfl (any_of HT_.out (by kernel_rfl)) (fun _ _ _ h => h) (Or.inl ⟨by rfl, ?_⟩) ?_ ?_
                rotate_left
                · intro w'
                  go_simp
                  with_reducible rfl
                rotate_left
                · simp only [Act.put, List.setIfInBounds_toArray, List.set_cons_zero, List.set_cons_succ, i64_w, i32_w]
                  rfl
                refine pure_ (i := 9) (N := some 101) (v := ?_) (a' := ?_) #[true, true, true, true, true, true, true, true, true, true, false, false, false, false, false, false, false, false, false] rfl rfl (any_of HT_.out (by kernel_rfl)) (fun _ _ _ h => h) (Or.inl ⟨by rfl, ?_⟩) ?_ ?_
                rotate_left
                · intro w'
                  go_simp
                  with_reducible rfl
                rotate_left
                · simp only [Act.put, List.setIfInBounds_toArray, List.set_cons_zero, List.set_cons_succ, i64_w, i32_w]
                  rfl
                refine pure_ (i := 10) (N := some 102) (v := ?_) (a' := ?_) #[true, true, true, true, true, true, true, true, true, true, true, false, false, false, false, false, false, false, false] rfl rfl (any_of HT_.out (by kernel_rfl)) (fun _ _ _ h => h) (Or.inl ⟨by rfl, ?_⟩) ?_ ?_
                rotate_left
                · intro w'
                  go_simp
                  with_reducible rfl
                rotate_left
                · simp only [Act.put, List.setIfInBounds_toArray, List.set_cons_zero, List.set_cons_succ, i64_w, i32_w]
                  rfl
                refine pure_ (i := 11) (N := some 103) (v := ?_) (a' := ?_) #[true, true, true, true, true, true, true, true, true, true, true, true, false, false, false, false, false, false, false] rfl rfl (any_of HT_.out (by kernel_rfl)) (fun _ _ _ h => h) (Or.inl ⟨by rfl, ?_⟩) ?_ ?_
                rotate_left
                · intro w'
                  go_simp
                  with_reducible rfl
                rotate_left
                · simp only [Act.put, List.setIfInBounds_toArray, List.set_cons_zero, List.set_cons_succ, i64_w, i32_w]
                  rfl
                refine pure_ (i := 12) (N := some 104) (v := ?_) (a' := ?_) #[true, true, true, true, true, true, true, true, true, true, true, true, true, false, false, false, false, false, false] rfl rfl (any_of HT_.out (by kernel_rfl)) (fun _ _ _ h => h) (Or.inl ⟨by rfl, ?_⟩) ?_ ?_
                rotate_left
                · intro w'
                  go_simp
                  with_reducible rfl
                rotate_left
                · simp only [Act.put, List.setIfInBounds_toArray, List.set_cons_zero, List.set_cons_succ, i64_w, i32_w]
                  rfl
                refine pure_ (i := 13) (N := some 105) (v := ?_) (a' := ?_) #[true, true, true, true, true, true, true, true, true, true, true, true, true, true, false, false, false, false, false] rfl rfl (any_of HT_.out (by kernel_rfl)) (fun _ _ _ h => h) (Or.inl ⟨by rfl, ?_⟩) ?_ ?_
                rotate_left
                · intro w'
                  go_simp
                  with_reducible rfl
                rotate_left
                · simp only [Act.put, List.setIfInBounds_toArray, List.set_cons_zero, List.set_cons_succ, i64_w, i32_w]
                  rfl
                refine take_ (i := 14) (N := some 106) (v := ?_) (a' := ?_) #[true, true, true, true, true, true, true, true, true, true, true, true, true, true, true, false, false, false, false] rfl rfl (take_ofW HT_.out HW_.out (by kernel_rfl)) (fun _ _ _ h => h) (Or.inl ⟨by rfl, ?_⟩) hHeld ?_ ?_
                rotate_left
                · rintro w' ⟨s0, s1, s2, s3, s4, s5, s6, s7, s8, s9, s10, s11⟩
                  go_simp
                  with_reducible rfl
                rotate_left
                · simp only [Act.put, List.setIfInBounds_toArray, List.set_cons_zero, List.set_cons_succ, i64_w, i32_w]
                  rfl
                refine pure_ (i := 15) (N := some 107) (v := ?_) (a' := ?_) #[true, true, true, true, true, true, true, true, true, true, true, true, true, true, true, true, false, false, false] rfl rfl (any_of HT_.out (by kernel_rfl)) (fun _ _ _ h => h) (Or.inl ⟨by rfl, ?_⟩) ?_ ?_
                rotate_left
                · intro w'
                  go_simp
                  with_reducible rfl
                rotate_left
                · simp only [Act.put, List.setIfInBounds_toArray, List.set_cons_zero, List.set_cons_succ, i64_w, i32_w]
                  rfl
                refine last_ (i := 16) (N := some 108) #[true, true, true, true, true, true, true, true, true, true, true, true, true, true, true, true, true, false, false] rfl rfl (one_of HT_.out (by kernel_rfl)) (by decide) (fun K hK => ?_)
                refine goes_ Try.func13 (by kernel_rfl) rfl #[.agg #[.int .i64 zz.f0, .int .i64 zz.f1, .int .i64 zz.f2, .slice Ay zz.f3.length cy], .agg #[.int .i64 0, .int .i64 0, .int .i64 0, .slice none 0 0]] (by rfl) rfl rfl (by (try simp only [List.map_toArray, List.map_cons, List.map_nil]); first | done | rfl) ?_
                refine (juratref24_Same.calls kx zz.f0 zz.f1 zz.f2 Ay cy zz.f3 0 0 0 none 0 [] true _ (Xg.out.get 2 rfl) HLY.out (Kd.C_nil _ _) (Nat.le_refl _) HZX.out).mono ?_
                rintro e w13 ⟨rfl, hb13⟩
                refine ⟨_, rfl, ?_⟩
                have Xh := Aside0.mk (Xg.out.step hb13)
                have Mh := Aside0.mk (Mg.out.below hb13)
                clear Xg Mg hb13 hHeld
                refine hK.out _ _ ?_
                clear hK K
                refine norm_ (a' := ?_) ?_ ?_
                rotate_left
                · show Act.put _ (some 108) _ = _
                  simp only [Act.put, List.setIfInBounds_toArray, List.set_cons_zero, List.set_cons_succ, i64_w, i32_w]
                  rfl
                refine pure_ (i := 17) (N := some 109) (v := ?_) (a' := ?_) #[true, true, true, true, true, true, true, true, true, true, true, true, true, true, true, true, true, true, false] rfl rfl (any_of HT_.out (by kernel_rfl)) (fun _ _ _ h => h) (Or.inl ⟨by rfl, ?_⟩) ?_ ?_
                rotate_left
                · intro w'
                  go_simp
                  with_reducible rfl
                rotate_left
                · simp only [Act.put, List.setIfInBounds_toArray, List.set_cons_zero, List.set_cons_succ, i64_w, i32_w]
                  rfl
                refine pure_ (i := 18) (N := some 110) (v := ?_) (a' := ?_) #[true, true, true, true, true, true, true, true, true, true, true, true, true, true, true, true, true, true, true] rfl rfl (any_of HT_.out (by kernel_rfl)) (fun _ _ _ h => h) (Or.inl ⟨by rfl, ?_⟩) ?_ ?_
                rotate_left
                · intro w'
                  go_simp
                  with_reducible rfl
                rotate_left
                · simp only [Act.put, List.setIfInBounds_toArray, List.set_cons_zero, List.set_cons_succ, i64_w, i32_w]
                  rfl
                refine done_ (done_of HT_.out (by kernel_rfl)) ?_
                go_wp2_with fail
                go_meet
                exact ⟨false, zz, none, 0, [], rfl, ⟨Nat.le_refl _⟩, ⟨rfl⟩, ⟨fun h => by cases h⟩, Mh, ⟨(Xh.out.nilRow (d := k28)).pick2 0 8 rfl rfl⟩⟩
              · have hfl' : (bits BinOp.and IntKind.u32 (fl / 2 ^ min j 32) 1 == 1) = false := by simpa using hfl
                clear hfl
                go_wp2_with fail
                go_meet
                exact ⟨true, m', some ⟨ad7.block, ad7.off + 4, none⟩, (c7 - 1), [m'], rfl, ⟨by have := HL7.out; simp at this ⊢; omega⟩, ⟨rfl⟩, ⟨fun _ => HOM'.out⟩, M8, ⟨X8'.out.pick2 0 2 rfl rfl⟩⟩
            case rest =>
              obtain ⟨has2, m2, Ah2, ch2, hs2, rfl, HCH2, HHS2, HOM2, M20, X20⟩ := hcut
              obtain ⟨adl, A4, c4, eA, hx0, hx1, hx2, hx3, hl4, hF4⟩ := at_F28 (X20.out.footAt 1 rfl : Kd.F k28 wc (fun k => ¬ k = g) (some ad) l.length l) j hlt hlt
              injection eA with eA
              subst eA
              rw [HYL.out] at hx0 hx1 hx2 hx3 hl4 hF4
              clear hl4 hF4
              obtain ⟨kq, hq⟩ := (same24_ev z28 z28 (by simp [z28])).rounds
              rw [eqR_self] at hq
              have HQ := Aside0.mk (show juratref24_Same.f kq 0 0 0 [] 0 0 0 [] = some true from hq)
              clear hq
              go_upto_region 21 with (first | (go_at_call 11; (refine (merge_Add.nil_ y A4 c4 _).mono ?_); rintro e w21 ⟨rfl, hb21⟩; have Xa := Aside0.mk (X20.out.step hb21); have Ma := Aside0.mk (M20.out.below hb21); clear hb21 X20 M20 hx0 hx1 hx2 hx3) | fail)
              have hbb16 : w21.heap.size ≠ g := by
                obtain ⟨_, _, h, _⟩ := Ma.out
                have := blk_lt h
                omega
              have Xb := Aside0.mk (Xa.out.new #[.int .i64 0, .int .i64 0, .int .i64 0, .slice none 0 0] 28 hbb16)
              have Mb := Aside0.mk (Ma.out.below (below_alloc (Below.refl _ _) (Obj.cells #[.int .i64 0, .int .i64 0, .int .i64 0, .slice none 0 0] 28)))
              clear Xa Ma
              generalize w21.alloc (Obj.cells #[.int .i64 0, .int .i64 0, .int .i64 0, .slice none 0 0] 28) = w21' at Xb Mb ⊢
              generalize w21.heap.size = b16 at hbb16 Xb ⊢
              go_upto_region 22 with (first | (go_at_call 14; (refine (merge_Flush.nil_ _).mono ?_); rintro e w22 ⟨rfl, hb22⟩; have Xc := Aside0.mk (Xb.out.step hb22); have Mc := Aside0.mk (Mb.out.below hb22); clear hb22 Xb Mb) | fail)
              have hbb18 : w22.heap.size ≠ g := by
                obtain ⟨_, _, h, _⟩ := Mc.out
                have := blk_lt h
                omega
              have Xd := Aside0.mk (Xc.out.new #[.int .i64 0, .int .i64 0, .int .i64 0, .slice none 0 0] 28 hbb18)
              have Md := Aside0.mk (Mc.out.below (below_alloc (Below.refl _ _) (Obj.cells #[.int .i64 0, .int .i64 0, .int .i64 0, .slice none 0 0] 28)))
              clear Xc Mc
              generalize w22.alloc (Obj.cells #[.int .i64 0, .int .i64 0, .int .i64 0, .slice none 0 0] 28) = w22' at Xd Md ⊢
              generalize w22.heap.size = b18 at hbb18 Xd ⊢
              obtain ⟨⟨p0, p1, p2, p3⟩, _⟩ := cell4 (Xd.out.get 1 rfl)
              obtain ⟨⟨q0, q1, q2, q3⟩, _⟩ := cell4 (Xd.out.get 0 rfl)
              have tok1 : True := trivial
              go_wp2_with (first | (go_at_call 13; have _t := tok1; (refine (juratref24_Same.calls kq 0 0 0 none 0 [] 0 0 0 none 0 [] true _ (Kd.C_nil _ _) (Nat.le_refl _) (Kd.C_nil _ _) (Nat.le_refl _) HQ.out).mono ?_); rintro e w23 ⟨rfl, hb23⟩; have Xe := Aside0.mk (Xd.out.step hb23); have Me := Aside0.mk (Md.out.below hb23); clear hb23 Xd Md p0 p1 p2 p3 q0 q1 q2 q3 tok1 _t; obtain ⟨⟨q0, q1, q2, q3⟩, _⟩ := cell4 (Xe.out.get 0 rfl)) | (go_at_call 13; (refine (juratref24_Same.calls kq 0 0 0 none 0 [] 0 0 0 none 0 [] true _ (Kd.C_nil _ _) (Nat.le_refl _) (Kd.C_nil _ _) (Nat.le_refl _) HQ.out).mono ?_); rintro e w24 ⟨rfl, hb24⟩; have Xf := Aside0.mk (Xe.out.step hb24); have Mf := Aside0.mk (Me.out.below hb24); clear hb24 Xe Me q0 q1 q2 q3) | fail)
              exact ⟨⟨j + 1, m2, has2, Ah2, ch2, hs2, by omega, by go_num, rfl, HCH2, HHS2, HOM2, Mf, ⟨Xf.out.pick2 2 3 rfl rfl⟩⟩, by simp [intOf]; omega⟩
    · clear HCH HHS HOM
      go_wp2_with (first | (go_at_call 10; (with_reducible refine (juratlaw27_awake.calls k9 true _ H9.out).mono ?_); rintro e w5 ⟨rfl, hb5⟩; have X5 := Aside0.mk (X.out.step hb5); clear hb5) | fail)
      go_ret
      exact ⟨rfl, X5.out.hb⟩
set_option maxHeartbeats 8000000 in
set_option maxRecDepth 100000 in
theorem comes_few (l : List S28) (fl : Int) (C : Option Addr) (cl : Nat) (w : World) (hC : Kd.C k28 w C l.length l) (hcl : l.length ≤ cl) (k1 : Nat) (h1 : juratref27_Few.f k1 l 20 = some false) (k9 : Nat) (h9 : juratlaw27_awake.f k9 = some true) :
    Calls Try.prog 3 #[.slice C l.length cl, .int .u32 fl] w fun e w' => e = .returned (.bool true) ∧ Below w.heap.size w w' := by
  have H1 := Aside0.mk h1
  have H9 := Aside0.mk h9
  have HCC := Aside0.mk hC
  clear h1 h9 hC
  go_enter Try.func3, Try.ntmps3
  go_wp2_with (first | (go_at_call 9; (refine (juratref27_Few.calls k1 C cl l 20 false _ (by (with_reducible repeat (first | apply Kd.C_alloc | apply Kd.C_drew)); exact HCC.out) hcl H1.out).mono ?_); rintro e w1 ⟨rfl, hd1⟩; have HB1 := Aside0.mk hd1.below; clear hd1) | (go_at_call 10; (with_reducible refine (juratlaw27_awake.calls k9 true _ H9.out).mono ?_); rintro e w5 ⟨rfl, hb5⟩; have HB5 := Aside0.mk hb5; clear hb5) | fail)
  go_ret
  exact ⟨rfl, below_step HB1.out HB5.out⟩
/-- MergeComes returns true. -/
theorem juratlaw27_MergeComes.holds (l : List S28) (fl : Int) (C : Option Addr) (cl : Nat) (w : World) (hC : Kd.C k28 w C l.length l) (hcl : l.length ≤ cl) (gl : l.length ≤ maxLen ∧ ∀ x ∈ l, good28 x) (gf : (Lit.int .u32 fl).wf = true) :
    Calls Try.prog 3 #[.slice C l.length cl, .int .u32 fl] w fun e w' => e = .returned (.bool true) ∧ Below w.heap.size w w' := by
  obtain ⟨k9, h9⟩ := awake27_ev.rounds
  by_cases hl : (l.length : Int) > 20
  · exact comes_few l fl C cl w hC hcl 0 (few_no l 20 hl 0) k9 h9
  obtain ⟨k1, h1⟩ := (few_ev l 20 hl (by omega)).rounds
  cases hf : fewB l with
  | false => rw [hf] at h1; exact comes_few l fl C cl w hC hcl k1 h1 k9 h9
  | true =>
    rw [hf] at h1
    exact comes_loop l fl C cl w hC hcl (by omega) (fun x hx => good_okR (gl.2 x hx) (fewB_get hf x hx)) k1 h1 k9 h9
end Go.Proofs.Ytaihieglailmcaa.PG
