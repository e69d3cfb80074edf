/- LensReads over this seat's program, by walking its text. -/
import Derived.Test.YtejcopppchaneaaLReadsB
import Derived.Test.YtejcopppchaneaaOpensF
import Derived.Deep.CutBlock
set_option linter.unusedVariables false
set_option linter.unusedSimpArgs false
namespace Go.Proofs.Ytejcopppchaneaa.PF
open Go.RowKit Go.Proofs.YtejcopppchaneaaW.PrintWords Go.Proofs.YtejcopppchaneaaW.PrintLast Go.Proofs.YtejcopppchaneaaW.PrintMore Go.Proofs.Ytejcopppchaneaa.Pure
def readsR28.T : Bool × List (List Nat × List Nat) := (true, [([], []), ([0], [0]), ([], []), ([2], [2]), ([3], [3]), ([1, 4], [1, 4]), ([5, 1], [5]), ([6], [6]), ([7, 6, 6], [6, 7]), ([6], [6]), ([9, 8, 6], [6, 9]), ([8, 10, 6], [6, 8, 10]), ([6, 11], [6, 11])])
def readsR28.B : List Nat := [0, 1, 0, 4, 12, 31, 63, 127, 255, 127, 1023, 2047, 4095]
theorem readsR28.tab : rtab .any (opsOf Try.f5 28) = readsR28.T := by kernel_rfl
theorem readsR28.bits : waitsOk readsR28.T.2 readsR28.B = true := by kernel_rfl
def readsR25.T : Bool × List (List Nat × List Nat) := (true, [([], []), ([], []), ([0, 1], [0, 1]), ([2], [2]), ([3], [3]), ([3], [3]), ([5, 3], [3, 5]), ([4, 6, 3], [3, 4, 6]), ([3, 7], [3, 7]), ([8, 3], [8]), ([9], [9]), ([10, 9, 9], [9, 10]), ([11], [11]), ([11], [11]), ([13, 11], [11, 13]), ([11], [11]), ([15, 11], [11, 15]), ([16, 11], [11, 16]), ([17, 11], [11, 17]), ([14, 18, 11], [11, 14, 18]), ([19, 11], [11, 19]), ([12, 20, 11, 11], [11, 12, 20]), ([21, 11], [11, 21]), ([11, 22, 9], [9, 11, 22]), ([9, 23], [9, 23]), ([24, 21], [24]), ([25], [25]), ([26, 25], [25, 26]), ([27, 25, 25], [25, 27]), ([28], [28]), ([28], [28]), ([29, 30, 28, 28], [28, 29, 30]), ([31, 28], [28, 31]), ([28, 32, 25], [25, 28, 32]), ([25, 33], [25, 33])])
def readsR25.B : List Nat := [0, 0, 3, 7, 15, 15, 47, 127, 255, 511, 1023, 2047, 4095, 4095, 12287, 4095, 36863, 102399, 233471, 520191, 1044479, 2097151, 4194303, 8388607, 16777215, 33554431, 67108863, 134217727, 268435455, 536870911, 536870911, 2147483647, 4294967295, 8589934591, 17179869183]
theorem readsR25.tab : rtab .any (opsOf Try.f5 25) = readsR25.T := by kernel_rfl
theorem readsR25.bits : waitsOk readsR25.T.2 readsR25.B = true := by kernel_rfl
set_option maxHeartbeats 32000000 in
set_option maxRecDepth 100000 in
theorem reads_main (parts : List ByteArray) (asks : List Int) (closed : Bool) (P A : Option Addr) (cp ca : Nat) (w : World) (hP : Kd.C Kd.string w P parts.length parts) (hcp : parts.length ≤ cp) (hA : Kd.C (Kd.int .i64) w A asks.length asks) (hca : asks.length ≤ ca) (h1 : parts.length ≤ 10) (h2 : ∀ x ∈ parts, x.size ≤ 60) (h3 : asks.length ≤ 10) (kf : Nat) (hf : juratref09_Few.f kf parts 10 60 = some true) :
    Calls Try.prog 5 #[.slice P parts.length cp, .slice A asks.length ca, .bool closed] w fun e w' => e = .returned (.bool true) ∧ Below w.heap.size w w' := by
  have hu30 := Try.underlying30
  have hu45 := Try.underlying45
  have d0 : decide ((asks.length : Int) > 10) = false := decide_eq_false (by omega)
  have d0' : decide (10 < asks.length) = false := decide_eq_false (by omega)
  have HP := Aside0.mk hP
  have HA := Aside0.mk hA
  have HCP := Aside0.mk hcp
  have HF := Aside0.mk hf
  have HL1 := Aside0.mk h1
  have HL2 := Aside0.mk h2
  have HL3 := Aside0.mk h3
  clear hP hA hcp hca hf h1 h2 h3
  go_enter Try.func5, Try.ntmps5
  go_upto_region 4 with (first
    | (go_at_call 19; (refine (juratref09_Few.calls kf P cp parts 10 60 true _ HP.out HCP.out HF.out).mono ?_); rintro e wf ⟨rfl, hdr⟩; obtain ⟨mr, rfl⟩ := hdr)
    | (go_at_call 20; (refine (lens_New.calls_ _).mono ?_); rintro e w1 ⟨g, rfl, hg, hL, hb⟩; have L := Aside0.mk hL; have HG := Aside0.mk hg; have HB := Aside0.mk hb; clear hL hg hb)
    | fail)
  go_upto_region 5 with fail
  have B0 := Aside0.mk (below_alloc (below_step (pw_below_drewN (Below.refl w.heap.size w) mr) HB.out) (.cells #[.slice none 0 0, .string ⟨#[]⟩, .bool false, .int .i64 0] 45))
  have L0 := Aside0.mk (blk_below L.out (below_alloc (Below.refl _ _) (.cells #[.slice none 0 0, .string ⟨#[]⟩, .bool false, .int .i64 0] 45)))
  have X0 := Aside0.mk (blk_new w1 (.cells #[.slice none 0 0, .string ⟨#[]⟩, .bool false, .int .i64 0] 45))
  have NG : Aside0 (w.heap.size ≤ g ∧ g ≠ w1.heap.size ∧ w.heap.size ≤ w1.heap.size) := ⟨by have h1 := HG.out; have h2 := blk_lt L.out; have h3 := (below_step (pw_below_drewN (Below.refl w.heap.size w) mr) HB.out).size; have h4 := (pw_below_drewN (Below.refl w.heap.size w) mr).size; exact ⟨by omega, by omega, by omega⟩⟩
  clear L HB HG
  generalize w1.alloc (.cells #[.slice none 0 0, .string ⟨#[]⟩, .bool false, .int .i64 0] 45) = w2 at B0 L0 X0 ⊢
  generalize w1.heap.size = b8 at X0 NG ⊢
  go_wp2
  go_loopw [9] (fun v9 wr => ∃ (i : Nat) (s : LS) (q : RS) (AA : Option Addr) (cc : Nat), v9 = .int .i64 (i : Int) ∧ i ≤ parts.length + 1 ∧ Aside0 (i ≤ parts.length → s.closed = false) ∧ Aside0 (RInv w wr g b8 s q (60 * min i parts.length) AA cc)) (fun i _ => parts.length + 1 - (intOf i).toNat)
  case atStart => exact ⟨0, ⟨ByteArray.empty, 0, 0, 0, false, false, 0⟩, ⟨[], ByteArray.empty, false, 0⟩, none, 0, rfl, Nat.zero_le _, ⟨fun _ => rfl⟩, ⟨⟨L0.out, X0.out, Kd.F_nil _ _ _, Nat.le_refl _, rel0, Nat.le_refl _, B0.out⟩⟩⟩
  case round =>
    obtain ⟨i, s, q, AA, cc, rfl, hi, HC, HI⟩ := hrel
    by_cases hlt : i ≤ parts.length
    · have d1 : decide ((i : Int) ≤ (parts.length : Int)) = true := decide_eq_true (by omega)
      have d2 : decide (i ≤ parts.length) = true := decide_eq_true hlt
      go_upto_if 37 with (fail)
      go_cut [] (fun wx => ∃ (s : LS) (q : RS) (AA : Option Addr) (cc : Nat), Aside0 (i + 1 ≤ parts.length → s.closed = false) ∧ Aside0 (RInv w wx g b8 s q (60 * min (i + 1) parts.length) AA cc))
      case first =>
        obtain ⟨hL, hX, hFR, hcc, hRel, hm, hB⟩ := HI.out
        have L := Aside0.mk hL
        have X := Aside0.mk hX
        have FR := Aside0.mk hFR
        have HCC := Aside0.mk hcc
        have HRel := Aside0.mk hRel
        have HM := Aside0.mk hm
        have HB := Aside0.mk hB
        clear hL hX hFR hcc hRel hm hB HI
        obtain ⟨⟨i0, i1, i2, i3⟩, u0, u1, u2, u3⟩ := cell4 X.out
        by_cases hi2 : i < parts.length
        · have c1 : decide ((i : Int) < (parts.length : Int)) = true := decide_eq_true (by omega)
          have c2 : decide (i < parts.length) = true := decide_eq_true hi2
          have c3 := eq_true hi2
          have c4 := eq_true (show (i : Int) < (parts.length : Int) by omega)
          have c5 := eq_true (show (0 : Int) ≤ (i : Int) by omega)
          obtain ⟨ad, eA, hx⟩ := Kd.at_string HP.out (i : Int) (by omega) (by omega)
          have hxs : (rdOf ByteArray.empty parts (i : Int)).size ≤ 60 := HL2.out _ (by
            rw [show rdOf ByteArray.empty parts (i : Int) = parts[i] from by simp [rdOf, List.getD_eq_getElem?_getD, List.getElem?_eq_getElem hi2]]
            exact List.getElem_mem hi2)
          generalize rdOf ByteArray.empty parts (i : Int) = x at hx hxs
          subst eA
          simp only [Int.toNat_natCast] at hx
          have HXS := Aside0.mk hxs
          have HX := Aside0.mk hx
          have hcl : s.closed = false := HC.out (by omega)
          have hs1 : s.rest.size + x.size ≤ 9223372036854775807 := by have h1 := HRel.out.rest; have h2 := HM.out; have h3 := HL1.out; rw [h1]; omega
          have FE := Aside0.mk (lens_Feed.ok g s _ L.out w.heap.size NG.out.1 x hs1 hcl)
          replace hx := pw_cell_below HB.out hx
          clear hxs hcl hs1
          go_upto_region 11 with (first | (go_at_call 13; (refine FE.out.mono ?_); rintro e w3 ⟨rfl, hL3, hK3, hB3⟩; have L3 := Aside0.mk hL3; have X3 := Aside0.mk (KeepBut.blk hK3 X.out (Ne.symm NG.out.2.1) (by simp)); have FR3 := Aside0.mk (Kd.F_keep FR.out hK3 (fun _ hk => hk.1)); have HB3 := Aside0.mk (HB.out.trans hB3); clear hL3 hK3 hB3 hx i0 i1 i2 i3 u0 u1 u2 u3; have hx := pw_cell_below HB3.out HX.out; obtain ⟨⟨i0, i1, i2, i3⟩, u0, u1, u2, u3⟩ := cell4 X3.out) | fail)
          have hzz := eq_false (show ¬ 9223372036854775807 < q.rest.size + x.size by have h2 := HM.out; have h3 := HL1.out; have h4 := HXS.out; omega)
          go_wp2
          go_region
          all_goals go_wp2
          all_goals go_meet
          all_goals exact ⟨{ s with rest := s.rest ++ x }, { q with rest := q.rest ++ x }, AA, cc, ⟨fun h => HC.out (by omega)⟩, ⟨blk_drew (far8 L3.out (NG.out.2.1) _ _), blk_drew (blk_put (cs' := #[.slice AA q.R.length cc, .string (q.rest ++ x), .bool q.closed, .int .i64 q.e]) X3.out 1 _ rfl), Kd.F_drew (Kd.F_far (p := ⟨b8, 1, none⟩) FR3.out (fun _ hk => hk.2) _), HCC.out, ⟨by rw [HRel.out.rest], HRel.out.closed, HRel.out.e, HRel.out.k, HRel.out.n, HRel.out.r, HRel.out.ended, HRel.out.ids, HRel.out.none, HRel.out.ok⟩, by have h1 := HM.out; have h2 := HXS.out; show q.R.length + (q.rest ++ x).size ≤ _; rw [ByteArray.size_append]; omega, below_drew (HB3.out.setCell (p := ⟨b8, 1, none⟩) NG.out.2.2 _)⟩⟩
        · have c1 : decide ((i : Int) < (parts.length : Int)) = false := decide_eq_false (by omega)
          have c2 : decide (i < parts.length) = false := decide_eq_false hi2
          cases closed with
          | false =>
            go_wp2
            go_meet
            exact ⟨s, q, AA, cc, ⟨fun h => by omega⟩, ⟨L.out, X.out, FR.out, HCC.out, HRel.out, by have := HM.out; omega, HB.out⟩⟩
          | true =>
            have CL := Aside0.mk (lens_Close.calls_ g s _ L.out w.heap.size NG.out.1)
            go_upto_region 14 with (first | (go_at_call 14; (refine CL.out.mono ?_); rintro e w3 ⟨rfl, hL3, hK3, hB3⟩; have L3 := Aside0.mk hL3; have X3 := Aside0.mk (KeepBut.blk hK3 X.out (Ne.symm NG.out.2.1) (by simp)); have FR3 := Aside0.mk (Kd.F_keep FR.out hK3 (fun _ hk => hk.1)); have HB3 := Aside0.mk (HB.out.trans hB3); clear hL3 hK3 hB3 i0 i1 i2 i3 u0 u1 u2 u3; obtain ⟨⟨i0, i1, i2, i3⟩, u0, u1, u2, u3⟩ := cell4 X3.out) | fail)
            go_upto_region 15 with fail
            have L4 : Aside0 (LAt (w3.setCell ⟨b8, 2, none⟩ (.bool true)) g { s with closed := true }) := ⟨far8 L3.out (NG.out.2.1) 2 (.bool true)⟩
            go_wp2_with (first | (go_at_call 13; (refine (lens_Feed.shut g { s with closed := true } _ L4.out ⟨#[120]⟩ rfl).mono ?_); rintro e w4 ⟨rfl, rfl⟩) | fail)
            go_meet
            exact ⟨{ s with closed := true }, { q with closed := true }, AA, cc, ⟨fun h => by omega⟩, ⟨L4.out, blk_put (cs' := #[.slice AA q.R.length cc, .string q.rest, .bool true, .int .i64 q.e]) X3.out 2 _ rfl, Kd.F_far (p := ⟨b8, 2, none⟩) FR3.out (fun _ hk => hk.2) _, HCC.out, ⟨HRel.out.rest, rfl, HRel.out.e, HRel.out.k, HRel.out.n, HRel.out.r, HRel.out.ended, HRel.out.ids, HRel.out.none, HRel.out.ok⟩, by have := HM.out; show q.R.length + q.rest.size ≤ _; omega, HB3.out.setCell (p := ⟨b8, 2, none⟩) NG.out.2.2 _⟩⟩
      case rest =>
        obtain ⟨s, q, AA, cc, HC, HI⟩ := hcut
        go_upto_if 63 with (fail)
        go_cut [10] (fun v10 wx => ∃ n : Int, v10 = .int .i64 n ∧ n ≤ 9223372036854775807 ∧ Aside0 (RInv w wx g b8 s q (60 * min (i + 1) parts.length) AA cc))
        case first =>
          have B := Aside0.mk HI.out.2.2.2.2.2.2
          by_cases hi3 : i < asks.length
          · have c1 : decide ((i : Int) < (asks.length : Int)) = true := decide_eq_true (by omega)
            have c2 : decide (i < asks.length) = true := decide_eq_true hi3
            have c3 := eq_true hi3
            have c4 := eq_true (show (i : Int) < (asks.length : Int) by omega)
            have c5 := eq_true (show (0 : Int) ≤ (i : Int) by omega)
            obtain ⟨ad, eA, hx⟩ := Kd.at_int (Kd.C_below HA.out B.out) (i : Int) (by omega) (by omega)
            subst eA
            simp only [Int.toNat_natCast] at hx
            go_wp2
            go_meet
            exact ⟨_, rfl, and7_le _, HI⟩
          · have c1 : decide ((i : Int) < (asks.length : Int)) = false := decide_eq_false (by omega)
            have c2 : decide (i < asks.length) = false := decide_eq_false hi3
            go_wp2
            go_meet
            exact ⟨30, rfl, by omega, HI⟩
        case rest =>
          obtain ⟨n, rfl, hn, HI⟩ := hcut
          have HN := Aside0.mk hn
          clear hn
          go_wp2
          go_loopw [11] (fun v11 wr => ∃ (k : Nat) (s : LS) (q : RS) (AA : Option Addr) (cc : Nat), v11 = .int .i64 (k : Int) ∧ ((k : Int) ≤ n ∨ k = 0) ∧ Aside0 (i + 1 ≤ parts.length → s.closed = false) ∧ Aside0 (RInv w wr g b8 s q (60 * min (i + 1) parts.length) AA cc)) (fun v _ => n.toNat - (intOf v).toNat)
          case atStart => exact ⟨0, s, q, AA, cc, rfl, .inr rfl, HC, HI⟩
          case round =>
            obtain ⟨k, s, q, AA, cc, rfl, hk0, HC, HI⟩ := hrel
            by_cases hk : (k : Int) < n
            · have d3 : decide ((k : Int) < n) = true := decide_eq_true hk
              obtain ⟨hL, hX, hFR, hcc, hRel, hm, hB⟩ := HI.out
              have L := Aside0.mk hL
              have X := Aside0.mk hX
              have FR := Aside0.mk hFR
              have HCC := Aside0.mk hcc
              have HRel := Aside0.mk hRel
              have HM := Aside0.mk hm
              have HB := Aside0.mk hB
              clear hL hX hFR hcc hRel hm hB HI
              obtain ⟨⟨i0, i1, i2, i3⟩, u0, u1, u2, u3⟩ := cell4 X.out
              have hbd : s.rest.size ≤ 600 ∧ q.R.length ≤ 600 ∧ q.rest.size ≤ 600 := by have h1 := HRel.out.rest; have h2 := HM.out; have h3 := HL1.out; rw [h1]; omega
              rcases rel_step HRel.out (by omega) with ⟨p1, p2, p3, p4⟩ | ⟨p1, p2, p3⟩
              · have hno := nextL_ok s ⟨hbd.1, rel_lastR HRel.out⟩ p1 p2
                have htg := takeS_good s p1 p2
                obtain ⟨⟨q1, q2, q3, q4, q5, q6⟩, hp⟩ : ∃ p, takeS s = p := ⟨_, rfl⟩
                rw [p3] at p4
                rw [hp] at p1 p2 p3 p4 htg
                simp only [xOf] at p1 p2 p3 p4 htg
                subst p1
                have hnl : nextL s = ⟨s.rest.extract q5.toNat s.rest.size, q1, q2, q3, s.closed, q1 == 6, 0⟩ := by unfold nextL; rw [← htg.1]
                have h5 : 1 ≤ q5 ∧ q5 ≤ s.rest.size := by have h1 := hno.2.2; rw [← htg.1] at h1; exact h1
                have NX : Aside0 (Calls Try.prog 15 #[.pointer (some ⟨g, 0, none⟩)] wr fun e w' => ∃ v : Value, e = .returned (.tuple #[.agg #[.int .i64 q1, .int .i64 q2, .int .i64 q3, v], .bool true, .int .i64 0]) ∧ Kd.R (Kd.int .i64) 3 w' wr.heap.size (fun _ => True) v q4 ∧ LAt w' g (nextL s) ∧ KeepBut wr w' g none ∧ Below w.heap.size wr w') := ⟨by rw [hnl]; exact lens_Next.go_ w.heap.size g s.rest s.k s.n s.r s.closed s.ended s.e q1 q2 q3 q4 q5 0 wr L.out NG.out.1 HB.out.size hbd.1 (rel_lastR HRel.out) (fun h => (rt_good s.rest (by omega) h).1) hp rfl h5.1 h5.2⟩
                obtain ⟨s', hs'⟩ : ∃ s', nextL s = s' := ⟨_, rfl⟩
                rw [hs'] at p3 p4 hno NX hnl
                have RN : Aside0 (∀ w1, Kd.F k30 w1 (fun k => k ≠ g ∧ k ≠ b8) AA q.R.length q.R → Calls Try.prog 21 #[.agg #[.slice AA q.R.length cc, .string q.rest, .bool q.closed, .int .i64 q.e]] w1 (NextPost w1 (fun k => k ≠ g ∧ k ≠ b8) (⟨q.R ++ [⟨q1, q2, q3, q4⟩], s'.rest, s.closed, 0⟩, true))) := ⟨fun w1 h => rNext.calls_ AA cc q.R q.rest q.closed q.e _ _ w1 h HCC.out (by omega) (by omega) HRel.out.ok p3⟩
                have hcs : s'.closed = s.closed := by rw [hnl]
                have REL := Aside0.mk p4
                have SZ : Aside0 (q.R.length + 1 + s'.rest.size ≤ 60 * min (i + 1) parts.length ∧ q.R.length ≤ 600 ∧ s'.closed = s.closed) := ⟨by have h1 := hno.2.1; have h2 := HM.out; have h3 := HRel.out.rest; rw [← h3] at h2; exact ⟨by omega, by omega, hcs⟩⟩
                have OK4 := Aside0.mk (show q4.length ≤ 1000 from (by have h1 := p4.ok; rw [lastOf_snoc] at h1; exact h1.2.2.2))
                clear hp p2 p3 p4 htg hno hnl h5 hs' hcs
                go_upto_region 24 with (first | (go_at_call 15; (with_reducible refine NX.out.mono ?_); rintro e w3 ⟨v, rfl, hR3, hL3, hK3, hb3⟩; obtain ⟨A4, c4, rfl⟩ := Kd.R_slice hR3; have L3 := Aside0.mk hL3; have X3 := Aside0.mk (KeepBut.blk hK3 X.out (Ne.symm NG.out.2.1) (by simp)); have FR3 := Aside0.mk (Kd.F_keep FR.out hK3 (fun _ hk => hk.1)); have HB3 := Aside0.mk (HB.out.trans hb3); have R4 := Aside0.mk (Kd.R_lower hR3 HB.out.size); clear hR3 hL3 hK3 hb3 L X FR HB i0 i1 i2 i3 u0 u1 u2 u3; have L := L3; have X := X3; have FR := FR3; have HB := HB3; clear L3 X3 FR3 HB3; obtain ⟨⟨i0, i1, i2, i3⟩, u0, u1, u2, u3⟩ := cell4 X.out) | fail)
                have hb := below_alloc (Below.refl w3.heap.size w3) (.cells #[.int .i64 q1, .int .i64 q2, .int .i64 q3, .slice A4 q4.length c4] 30)
                have D := Aside0.mk (blk_new w3 (.cells #[.int .i64 q1, .int .i64 q2, .int .i64 q3, .slice A4 q4.length c4] 30))
                have RN4 := Aside0.mk (Kd.R_below R4.out hb)
                clear R4
                have R4 := RN4
                clear RN4
                have LN := Aside0.mk (LAt.below L.out hb); have XN := Aside0.mk (blk_below X.out hb); have FN := Aside0.mk (Kd.F_below FR.out hb); have BN := Aside0.mk (below_step HB.out hb); clear L X FR HB i0 i1 i2 i3 u0 u1 u2 u3; have L := LN; have X := XN; have FR := FN; have HB := BN; clear LN XN FN BN; obtain ⟨⟨i0, i1, i2, i3⟩, u0, u1, u2, u3⟩ := cell4 X.out
                clear hb
                generalize w3.alloc (.cells #[.int .i64 q1, .int .i64 q2, .int .i64 q3, .slice A4 q4.length c4] 30) = w4 at L X FR HB D R4 i0 i1 i2 i3 u0 u1 u2 u3 ⊢
                generalize w3.heap.size = b12 at D ⊢
                obtain ⟨⟨l0, l1, l2, l3⟩, m0, m1, m2, m3⟩ := cell4 D.out
                have GW := Aside0.mk (show g < w4.heap.size ∧ b8 < w4.heap.size from ⟨blk_lt L.out, blk_lt X.out⟩)
                go_upto_region 25 with (first | (go_at_call 21; (refine (RN.out _ FR.out).mono ?_); rintro e w5 ⟨v, rfl, ⟨A5, c5, hv, hc5, hF5⟩, hb⟩; replace hv : v = .slice A5 (q.R.length + 1) c5 := (by rw [hv]; show Value.slice A5 (q.R ++ [_]).length c5 = _; rw [List.length_append, List.length_singleton]); subst hv; have H5c := Aside0.mk hc5; have F5 : Aside0 (Kd.F k30 w5 (fun k => k ≠ g ∧ k ≠ b8) A5 (q.R ++ [(⟨q1, q2, q3, q4⟩ : S30)]).length (q.R ++ [⟨q1, q2, q3, q4⟩])) := ⟨Kd.F_mono hF5 (fun k hk => hk.elim id (fun h => by have h1 := GW.out; exact ⟨by omega, by omega⟩))⟩; have LN := Aside0.mk (LAt.below L.out hb); have XN := Aside0.mk (blk_below X.out hb); have FN := Aside0.mk (Kd.F_below FR.out hb); have BN := Aside0.mk (below_step HB.out hb); clear L X FR HB i0 i1 i2 i3 u0 u1 u2 u3; have L := LN; have X := XN; have FR := FN; have HB := BN; clear LN XN FN BN; obtain ⟨⟨i0, i1, i2, i3⟩, u0, u1, u2, u3⟩ := cell4 X.out; have DN := Aside0.mk (blk_below D.out hb); have RN4 := Aside0.mk (Kd.R_below R4.out hb); clear D R4 l0 l1 l2 l3 m0 m1 m2 m3; have D := DN; have R4 := RN4; clear DN RN4; obtain ⟨⟨l0, l1, l2, l3⟩, m0, m1, m2, m3⟩ := cell4 D.out; clear hb hF5 hc5) | fail)
                have hb := below_alloc (Below.refl w5.heap.size w5) (.cells #[.slice A5 (q.R.length + 1) c5, .string s'.rest, .bool s.closed, .int .i64 0] 45)
                have E := Aside0.mk (blk_new w5 (.cells #[.slice A5 (q.R.length + 1) c5, .string s'.rest, .bool s.closed, .int .i64 0] 45))
                have FN5 := Aside0.mk (Kd.F_below F5.out hb)
                clear F5
                have F5 := FN5
                clear FN5
                have LN := Aside0.mk (LAt.below L.out hb); have XN := Aside0.mk (blk_below X.out hb); have FN := Aside0.mk (Kd.F_below FR.out hb); have BN := Aside0.mk (below_step HB.out hb); clear L X FR HB i0 i1 i2 i3 u0 u1 u2 u3; have L := LN; have X := XN; have FR := FN; have HB := BN; clear LN XN FN BN; obtain ⟨⟨i0, i1, i2, i3⟩, u0, u1, u2, u3⟩ := cell4 X.out
                have DN := Aside0.mk (blk_below D.out hb); have RN4 := Aside0.mk (Kd.R_below R4.out hb); clear D R4 l0 l1 l2 l3 m0 m1 m2 m3; have D := DN; have R4 := RN4; clear DN RN4; obtain ⟨⟨l0, l1, l2, l3⟩, m0, m1, m2, m3⟩ := cell4 D.out
                clear hb
                generalize w5.alloc (.cells #[.slice A5 (q.R.length + 1) c5, .string s'.rest, .bool s.closed, .int .i64 0] 45) = w6 at L X FR HB D R4 E F5 i0 i1 i2 i3 u0 u1 u2 u3 l0 l1 l2 l3 m0 m1 m2 m3 ⊢
                generalize w5.heap.size = b15 at E ⊢
                obtain ⟨ad, A6, c6, eA, h0, h1, h2, h3, hl6, hi6⟩ := at_T30 (Kd.F_now F5.out) (q.R.length : Int) (by omega) (by rw [List.length_append, List.length_singleton]; omega)
                subst eA
                have hrd : rd_T30 (q.R ++ [(⟨q1, q2, q3, q4⟩ : S30)]) (q.R.length : Int) = ⟨q1, q2, q3, q4⟩ := by simp [rd_T30, List.getD_eq_getElem?_getD]
                rw [hrd] at h0 h1 h2 h3 hl6 hi6
                clear hrd
                simp only [Int.toNat_natCast] at h0 h1 h2 h3
                have L6 := Aside0.mk hl6
                have C6 := Aside0.mk hi6
                clear hl6 hi6
                obtain ⟨ks, hks⟩ := (rsame_ev (q1, q2, q3, q4, 0, 0) (q1, q2, q3, q4, 0, 0) (by have := OK4.out; show q4.length ≤ _; omega)).rounds
                have KS : Aside0 (juratref24_Same.f ks q1 q2 q3 q4 q1 q2 q3 q4 = some true) := ⟨by simpa using hks⟩
                clear hks
                have hw1 : IntKind.i64.wrap ((q.R.length : Int) + 1 - 1) = (q.R.length : Int) := (i64_w _).trans (by have := SZ.out.2.1; rw [jw64 (by omega) (by omega)]; omega)
                have hw2 : IntKind.i64.wrap (q.R.length : Int) = (q.R.length : Int) := (i64_w _).trans (by have := SZ.out.2.1; rw [jw64 (by omega) (by omega)])
                have cf3 := eq_true (show (0 : Int) ≤ (q.R.length : Int) by omega)
                have cf4 := eq_true (show (q.R.length : Int) < (q.R.length : Int) + 1 by omega)
                have cf5 := eq_true (show q.R.length < q.R.length + 1 by omega)
                obtain ⟨⟨k0, k1, k2, k3⟩, z0, z1, z2, z3⟩ := cell4 E.out
                go_cut [119] (fun v119 wx => v119 = .bool false ∧ Aside0 (LAt wx g s') ∧ Aside0 (wx.heap[b8]? = some (.cells #[.slice AA q.R.length cc, .string q.rest, .bool q.closed, .int .i64 q.e] 45 (0, 0))) ∧ Aside0 (Kd.F k30 wx (fun k => k ≠ g ∧ k ≠ b8) (some ad) (q.R ++ [(⟨q1, q2, q3, q4⟩ : S30)]).length (q.R ++ [⟨q1, q2, q3, q4⟩])) ∧ Aside0 (wx.heap[b15]? = some (.cells #[.slice (some ad) (q.R.length + 1) c5, .string s'.rest, .bool s.closed, .int .i64 0] 45 (0, 0))) ∧ Aside0 (Below w.heap.size w wx))
                case first =>
                  refine start_ (n := 35) (S := (fun w' => w'.cell? ⟨b12, 0, none⟩ = some (.int .i64 q1) ∧ w'.cell? ⟨b12, 1, none⟩ = some (.int .i64 q2) ∧ w'.cell? ⟨b12, 2, none⟩ = some (.int .i64 q3) ∧ w'.cell? ⟨b12, 3, none⟩ = some (.slice A4 q4.length c4) ∧ w'.cell? ⟨b15, 0, none⟩ = some (.slice (some ad) (q.R.length + 1) c5) ∧ w'.cell? ⟨b15, 3, none⟩ = some (.int .i64 0) ∧ w'.cell? (ad.add (q.R.length * 4)) = some (.int .i64 q1) ∧ w'.cell? ⟨(ad.add (q.R.length * 4)).block, (ad.add (q.R.length * 4)).off + 1, none⟩ = some (.int .i64 q2) ∧ w'.cell? ⟨(ad.add (q.R.length * 4)).block, (ad.add (q.R.length * 4)).off + 2, none⟩ = some (.int .i64 q3) ∧ w'.cell? ⟨(ad.add (q.R.length * 4)).block, (ad.add (q.R.length * 4)).off + 3, none⟩ = some (.slice A6 q4.length c6))) (ds := [21]) #[false, false, false, false, false, false, false, false, false, false, false, false, false, false, false, false, false, false, false, false, false, false, false, false, false, false, false, false, false, false, false, false, false, false, false] (by kernel_rfl) rfl rfl ⟨l0, l1, l2, l3, k0, k3, h0, h1, h2, h3⟩ (fun hHeld => ?_); refine with_tabW readsR25.tab readsR25.bits (fun HT_ HW_ => ?_)
                  have hb := below_drew1 (Below.refl w6.heap.size w6)
                  have LN := Aside0.mk (LAt.below L.out hb); have XN := Aside0.mk (blk_below X.out hb); have FN := Aside0.mk (Kd.F_below FR.out hb); have BN := Aside0.mk (below_step HB.out hb); clear L X FR HB i0 i1 i2 i3 u0 u1 u2 u3; have L := LN; have X := XN; have FR := FN; have HB := BN; clear LN XN FN BN; obtain ⟨⟨i0, i1, i2, i3⟩, u0, u1, u2, u3⟩ := cell4 X.out
                  have DN := Aside0.mk (blk_below D.out hb); have RN4 := Aside0.mk (Kd.R_below R4.out hb); clear D R4 l0 l1 l2 l3 m0 m1 m2 m3; have D := DN; have R4 := RN4; clear DN RN4; obtain ⟨⟨l0, l1, l2, l3⟩, m0, m1, m2, m3⟩ := cell4 D.out
                  have EN := Aside0.mk (blk_below E.out hb); have FN5 := Aside0.mk (Kd.F_below F5.out hb); clear E F5 k0 k1 k2 k3 z0 z1 z2 z3; have E := EN; have F5 := FN5; clear EN FN5; obtain ⟨⟨k0, k1, k2, k3⟩, z0, z1, z2, z3⟩ := cell4 E.out
                  have CN6 := Aside0.mk (Kd.C_below C6.out hb); clear C6; have C6 := CN6; clear CN6; replace h0 := pw_cell_below hb h0; replace h1 := pw_cell_below hb h1; replace h2 := pw_cell_below hb h2; replace h3 := pw_cell_below hb h3
                  clear hb
                  generalize w6.drew = w7 at L X FR HB D R4 E F5 C6 h0 h1 h2 h3 hHeld i0 i1 i2 i3 u0 u1 u2 u3 l0 l1 l2 l3 m0 m1 m2 m3 k0 k1 k2 k3 z0 z1 z2 z3 ⊢
                  refine pure_ (i := 0) (N := some 85) (v := ?_) (a' := ?_) #[true, false, false, false, false, false, false, false, false, false, false, false, false, false, false, false, false, false, false, false, false, false, false, false, false, false, false, false, false, false, false, false, false, false, false] rfl rfl (any_of HT_.out (by kernel_rfl)) (fun _ _ _ h => h) (Or.inl ⟨by rfl, ?_⟩) ?_ ?_
                  rotate_left
                  · intro w'
                    go_simp
                    with_reducible rfl
                  rotate_left
                  · simp only [Act.put, List.setIfInBounds_toArray, List.set_cons_zero, List.set_cons_succ, i64_w, i32_w]
                    rfl
                  refine pure_ (i := 1) (N := some 86) (v := ?_) (a' := ?_) #[true, true, false, false, false, false, false, false, false, false, false, false, false, false, false, false, false, false, false, false, false, false, false, false, false, false, false, false, false, false, false, false, false, false, false] rfl rfl (any_of HT_.out (by kernel_rfl)) (fun _ _ _ h => h) (Or.inl ⟨by rfl, ?_⟩) ?_ ?_
                  rotate_left
                  · intro w'
                    go_simp
                    with_reducible rfl
                  rotate_left
                  · simp only [Act.put, List.setIfInBounds_toArray, List.set_cons_zero, List.set_cons_succ, i64_w, i32_w]
                    rfl
                  refine pure_ (i := 2) (N := some 87) (v := ?_) (a' := ?_) #[true, true, true, false, false, false, false, false, false, false, false, false, false, false, false, false, false, false, false, false, false, false, false, false, false, false, false, false, false, false, false, false, false, false, false] rfl rfl (any_of HT_.out (by kernel_rfl)) (fun _ _ _ h => h) (Or.inl ⟨by rfl, ?_⟩) ?_ ?_
                  rotate_left
                  · intro w'
                    go_simp
                    with_reducible rfl
                  rotate_left
                  · simp only [Act.put, List.setIfInBounds_toArray, List.set_cons_zero, List.set_cons_succ, i64_w, i32_w]
                    rfl
                  refine pure_ (i := 3) (N := some 88) (v := ?_) (a' := ?_) #[true, true, true, true, false, false, false, false, false, false, false, false, false, false, false, false, false, false, false, false, false, false, false, false, false, false, false, false, false, false, false, false, false, false, false] rfl rfl (any_of HT_.out (by kernel_rfl)) (fun _ _ _ h => h) (Or.inl ⟨by rfl, ?_⟩) ?_ ?_
                  rotate_left
                  · intro w'
                    go_simp
                    with_reducible rfl
                  rotate_left
                  · simp only [Act.put, List.setIfInBounds_toArray, List.set_cons_zero, List.set_cons_succ, i64_w, i32_w]
                    rfl
                  refine pure_ (i := 4) (N := some 89) (v := ?_) (a' := ?_) #[true, true, true, true, true, false, false, false, false, false, false, false, false, false, false, false, false, false, false, false, false, false, false, false, false, false, false, false, false, false, false, false, false, false, false] rfl rfl (any_of HT_.out (by kernel_rfl)) (fun _ _ _ h => h) (Or.inl ⟨by rfl, ?_⟩) ?_ ?_
                  rotate_left
                  · intro w'
                    go_simp
                    with_reducible rfl
                  rotate_left
                  · simp only [Act.put, List.setIfInBounds_toArray, List.set_cons_zero, List.set_cons_succ, i64_w, i32_w]
                    rfl
                  refine pure_ (i := 5) (N := some 90) (v := ?_) (a' := ?_) #[true, true, true, true, true, true, false, false, false, false, false, false, false, false, false, false, false, false, false, false, false, false, false, false, false, false, false, false, false, false, false, false, false, false, false] rfl rfl (any_of HT_.out (by kernel_rfl)) (fun _ _ _ h => h) (Or.inl ⟨by rfl, ?_⟩) ?_ ?_
                  rotate_left
                  · intro w'
                    go_simp
                    with_reducible rfl
                  rotate_left
                  · simp only [Act.put, List.setIfInBounds_toArray, List.set_cons_zero, List.set_cons_succ, i64_w, i32_w]
                    rfl
                  refine take_ (i := 6) (N := some 91) (v := ?_) (a' := ?_) #[true, true, true, true, true, true, true, false, false, false, false, false, false, false, false, false, false, false, false, false, false, false, false, false, false, false, false, false, false, false, false, false, false, false, false] rfl rfl (take_ofW HT_.out HW_.out (by kernel_rfl)) (fun _ _ _ h => h) (Or.inl ⟨by rfl, ?_⟩) hHeld ?_ ?_
                  rotate_left
                  · rintro w' ⟨s0, s1, s2, s3, s4, s5, s6, s7, s8, s9⟩
                    go_simp
                    with_reducible rfl
                  rotate_left
                  · simp only [Act.put, List.setIfInBounds_toArray, List.set_cons_zero, List.set_cons_succ, i64_w, i32_w]
                    rfl
                  refine pure_ (i := 7) (N := some 92) (v := ?_) (a' := ?_) #[true, true, true, true, true, true, true, true, false, false, false, false, false, false, false, false, false, false, false, false, false, false, false, false, false, false, false, false, false, false, false, false, false, false, false] rfl rfl (any_of HT_.out (by kernel_rfl)) (fun _ _ _ h => h) (Or.inl ⟨by rfl, ?_⟩) ?_ ?_
                  rotate_left
                  · intro w'
                    go_simp
                    with_reducible rfl
                  rotate_left
                  · simp only [Act.put, List.setIfInBounds_toArray, List.set_cons_zero, List.set_cons_succ, i64_w, i32_w]
                    rfl
                  refine pure_ (i := 8) (N := some 93) (v := ?_) (a' := ?_) #[true, true, true, true, true, true, true, true, true, false, false, false, false, false, false, false, false, false, false, false, false, false, false, false, false, false, false, false, false, false, false, false, false, false, false] rfl rfl (any_of HT_.out (by kernel_rfl)) (fun _ _ _ h => h) (Or.inl ⟨by rfl, ?_⟩) ?_ ?_
                  rotate_left
                  · intro w'
                    go_simp
                    with_reducible rfl
                  rotate_left
                  · simp only [Act.put, List.setIfInBounds_toArray, List.set_cons_zero, List.set_cons_succ, i64_w, i32_w]
                    rfl
                  refine pure_ (i := 9) (N := some 94) (v := ?_) (a' := ?_) #[true, true, true, true, true, true, true, true, true, true, false, false, false, false, false, false, false, false, false, false, false, false, false, false, false, false, false, false, false, false, false, false, false, false, false] rfl rfl (any_of HT_.out (by kernel_rfl)) (fun _ _ _ h => h) (Or.inl ⟨by rfl, ?_⟩) ?_ ?_
                  rotate_left
                  · intro w'
                    go_simp
                    with_reducible rfl
                  rotate_left
                  · simp only [Act.put, List.setIfInBounds_toArray, List.set_cons_zero, List.set_cons_succ, i64_w, i32_w]
                    rfl
                  refine pure_ (i := 10) (N := some 95) (v := ?_) (a' := ?_) #[true, true, true, true, true, true, true, true, true, true, true, false, false, false, false, false, false, false, false, false, false, false, false, false, false, false, false, false, false, false, false, false, false, false, false] rfl rfl (any_of HT_.out (by kernel_rfl)) (fun _ _ _ h => h) (Or.inl ⟨by rfl, ?_⟩) ?_ ?_
                  rotate_left
                  · intro w'
                    go_simp
                    with_reducible rfl
                  rotate_left
                  · simp only [Act.put, List.setIfInBounds_toArray, List.set_cons_zero, List.set_cons_succ, i64_w, i32_w]
                    rfl
                  refine pure_ (i := 11) (N := some 96) (v := ?_) (a' := ?_) #[true, true, true, true, true, true, true, true, true, true, true, true, false, false, false, false, false, false, false, false, false, false, false, false, false, false, false, false, false, false, false, false, false, false, false] rfl rfl (any_of HT_.out (by kernel_rfl)) (fun _ _ _ h => h) (Or.inl ⟨by rfl, ?_⟩) ?_ ?_
                  rotate_left
                  · intro w'
                    go_simp
                    with_reducible rfl
                  rotate_left
                  · simp only [Act.put, List.setIfInBounds_toArray, List.set_cons_zero, List.set_cons_succ, i64_w, i32_w]
                    rfl
                  refine take_ (i := 12) (N := some 97) (v := ?_) (a' := ?_) #[true, true, true, true, true, true, true, true, true, true, true, true, true, false, false, false, false, false, false, false, false, false, false, false, false, false, false, false, false, false, false, false, false, false, false] rfl rfl (take_ofW HT_.out HW_.out (by kernel_rfl)) (fun _ _ _ h => h) (Or.inl ⟨by rfl, ?_⟩) hHeld ?_ ?_
                  rotate_left
                  · rintro w' ⟨s0, s1, s2, s3, s4, s5, s6, s7, s8, s9⟩
                    go_simp
                    with_reducible rfl
                  rotate_left
                  · simp only [Act.put, List.setIfInBounds_toArray, List.set_cons_zero, List.set_cons_succ, i64_w, i32_w]
                    rfl
                  refine pure_ (i := 13) (N := some 98) (v := ?_) (a' := ?_) #[true, true, true, true, true, true, true, true, true, true, true, true, true, true, false, false, false, false, false, false, false, false, false, false, false, false, false, false, false, false, false, false, false, false, false] rfl rfl (any_of HT_.out (by kernel_rfl)) (fun _ _ _ h => h) (Or.inl ⟨by rfl, ?_⟩) ?_ ?_
                  rotate_left
                  · intro w'
                    go_simp
                    with_reducible rfl
                  rotate_left
                  · simp only [Act.put, List.setIfInBounds_toArray, List.set_cons_zero, List.set_cons_succ, i64_w, i32_w]
                    rfl
                  refine take_ (i := 14) (N := some 99) (v := ?_) (a' := ?_) #[true, true, true, true, true, true, true, true, true, true, true, true, true, true, true, false, false, false, false, false, false, false, false, false, false, false, false, false, false, false, false, false, false, false, false] rfl rfl (take_ofW HT_.out HW_.out (by kernel_rfl)) (fun _ _ _ h => h) (Or.inl ⟨by rfl, ?_⟩) hHeld ?_ ?_
                  rotate_left
                  · rintro w' ⟨s0, s1, s2, s3, s4, s5, s6, s7, s8, s9⟩
                    go_simp
                    with_reducible rfl
                  rotate_left
                  · simp only [Act.put, List.setIfInBounds_toArray, List.set_cons_zero, List.set_cons_succ, i64_w, i32_w]
                    rfl
                  refine pure_ (i := 15) (N := some 100) (v := ?_) (a' := ?_) #[true, true, true, true, true, true, true, true, true, true, true, true, true, true, true, true, false, false, false, false, false, false, false, false, false, false, false, false, false, false, false, false, false, false, false] rfl rfl (any_of HT_.out (by kernel_rfl)) (fun _ _ _ h => h) (Or.inl ⟨by rfl, ?_⟩) ?_ ?_
                  rotate_left
                  · intro w'
                    go_simp
                    with_reducible rfl
                  rotate_left
                  · simp only [Act.put, List.setIfInBounds_toArray, List.set_cons_zero, List.set_cons_succ, i64_w, i32_w]
                    rfl
                  refine take_ (i := 16) (N := some 101) (v := ?_) (a' := ?_) #[true, true, true, true, true, true, true, true, true, true, true, true, true, true, true, true, true, false, false, false, false, false, false, false, false, false, false, false, false, false, false, false, false, false, false] rfl rfl (take_ofW HT_.out HW_.out (by kernel_rfl)) (fun _ _ _ h => h) (Or.inl ⟨by rfl, ?_⟩) hHeld ?_ ?_
                  rotate_left
                  · rintro w' ⟨s0, s1, s2, s3, s4, s5, s6, s7, s8, s9⟩
                    go_simp
                    with_reducible rfl
                  rotate_left
                  · simp only [Act.put, List.setIfInBounds_toArray, List.set_cons_zero, List.set_cons_succ, i64_w, i32_w]
                    rfl
                  refine pure_ (i := 17) (N := some 102) (v := ?_) (a' := ?_) #[true, true, true, true, true, true, true, true, true, true, true, true, true, true, true, true, true, true, false, false, false, false, false, false, false, false, false, false, false, false, false, false, false, false, false] rfl rfl (any_of HT_.out (by kernel_rfl)) (fun _ _ _ h => h) (Or.inl ⟨by rfl, ?_⟩) ?_ ?_
                  rotate_left
                  · intro w'
                    go_simp
                    with_reducible rfl
                  rotate_left
                  · simp only [Act.put, List.setIfInBounds_toArray, List.set_cons_zero, List.set_cons_succ, i64_w, i32_w]
                    rfl
                  refine pure_ (i := 18) (N := some 103) (v := ?_) (a' := ?_) #[true, true, true, true, true, true, true, true, true, true, true, true, true, true, true, true, true, true, true, false, false, false, false, false, false, false, false, false, false, false, false, false, false, false, false] rfl rfl (any_of HT_.out (by kernel_rfl)) (fun _ _ _ h => h) (Or.inl ⟨by rfl, ?_⟩) ?_ ?_
                  rotate_left
                  · intro w'
                    go_simp
                    with_reducible rfl
                  rotate_left
                  · simp only [Act.put, List.setIfInBounds_toArray, List.set_cons_zero, List.set_cons_succ, i64_w, i32_w]
                    rfl
                  refine pure_ (i := 19) (N := some 104) (v := ?_) (a' := ?_) #[true, true, true, true, true, true, true, true, true, true, true, true, true, true, true, true, true, true, true, true, false, false, false, false, false, false, false, false, false, false, false, false, false, false, false] rfl rfl (any_of HT_.out (by kernel_rfl)) (fun _ _ _ h => h) (Or.inl ⟨by rfl, ?_⟩) ?_ ?_
                  rotate_left
                  · intro w'
                    go_simp
                    with_reducible rfl
                  rotate_left
                  · simp only [Act.put, List.setIfInBounds_toArray, List.set_cons_zero, List.set_cons_succ, i64_w, i32_w]
                    rfl
                  refine take_ (i := 20) (N := some 105) (v := ?_) (a' := ?_) #[true, true, true, true, true, true, true, true, true, true, true, true, true, true, true, true, true, true, true, true, true, false, false, false, false, false, false, false, false, false, false, false, false, false, false] rfl rfl (take_ofW HT_.out HW_.out (by kernel_rfl)) (fun _ _ _ h => h) (Or.inl ⟨by rfl, ?_⟩) hHeld ?_ ?_
                  rotate_left
                  · rintro w' ⟨s0, s1, s2, s3, s4, s5, s6, s7, s8, s9⟩
                    go_simp
                    with_reducible rfl
                  rotate_left
                  · simp only [Act.put, List.setIfInBounds_toArray, List.set_cons_zero, List.set_cons_succ, i64_w, i32_w]
                    rfl
                  refine last_ (i := 21) (N := some 106) #[true, true, true, true, true, true, true, true, true, true, true, true, true, true, true, true, true, true, true, true, true, true, false, false, false, false, false, false, false, false, false, false, false, false, false] rfl rfl (one_of HT_.out (by kernel_rfl)) (by decide) (fun K hK => ?_)
                  refine goes_ Try.func16 (by kernel_rfl) rfl #[.agg #[.int .i64 q1, .int .i64 q2, .int .i64 q3, .slice A4 q4.length c4], .agg #[.int .i64 q1, .int .i64 q2, .int .i64 q3, .slice A6 q4.length c6]] (by rfl) rfl rfl (by (try simp only [List.map_toArray, List.map_cons, List.map_nil]); first | done | rfl) ?_
                  refine (juratref24_Same.calls ks q1 q2 q3 A4 c4 q4 q1 q2 q3 A6 c6 q4 true _ (Kd.R_reads' R4.out).2.2 (Kd.R_reads' R4.out).2.1 C6.out L6.out KS.out).mono ?_
                  rintro e w8 ⟨rfl, hb⟩
                  refine ⟨_, rfl, ?_⟩
                  have LN := Aside0.mk (LAt.below L.out hb); have XN := Aside0.mk (blk_below X.out hb); have FN := Aside0.mk (Kd.F_below FR.out hb); have BN := Aside0.mk (below_step HB.out hb); clear L X FR HB i0 i1 i2 i3 u0 u1 u2 u3; have L := LN; have X := XN; have FR := FN; have HB := BN; clear LN XN FN BN; obtain ⟨⟨i0, i1, i2, i3⟩, u0, u1, u2, u3⟩ := cell4 X.out
                  have DN := Aside0.mk (blk_below D.out hb); have RN4 := Aside0.mk (Kd.R_below R4.out hb); clear D R4 l0 l1 l2 l3 m0 m1 m2 m3; have D := DN; have R4 := RN4; clear DN RN4; obtain ⟨⟨l0, l1, l2, l3⟩, m0, m1, m2, m3⟩ := cell4 D.out
                  have EN := Aside0.mk (blk_below E.out hb); have FN5 := Aside0.mk (Kd.F_below F5.out hb); clear E F5 k0 k1 k2 k3 z0 z1 z2 z3; have E := EN; have F5 := FN5; clear EN FN5; obtain ⟨⟨k0, k1, k2, k3⟩, z0, z1, z2, z3⟩ := cell4 E.out
                  have CN6 := Aside0.mk (Kd.C_below C6.out hb); clear C6; have C6 := CN6; clear CN6; replace h0 := pw_cell_below hb h0; replace h1 := pw_cell_below hb h1; replace h2 := pw_cell_below hb h2; replace h3 := pw_cell_below hb h3
                  clear hb
                  refine hK.out _ _ ?_
                  clear hK K
                  refine norm_ (a' := ?_) ?_ ?_
                  rotate_left
                  · show Act.put _ (some 106) _ = _
                    simp only [Act.put, List.setIfInBounds_toArray, List.set_cons_zero, List.set_cons_succ, i64_w, i32_w]
                    rfl
                  refine pure_ (i := 22) (N := some 107) (v := ?_) (a' := ?_) #[true, true, true, true, true, true, true, true, true, true, true, true, true, true, true, true, true, true, true, true, true, true, true, false, false, false, false, false, false, false, false, false, false, false, false] rfl rfl (any_of HT_.out (by kernel_rfl)) (fun _ _ _ h => h) (Or.inl ⟨by rfl, ?_⟩) ?_ ?_
                  rotate_left
                  · intro w'
                    go_simp
                    with_reducible rfl
                  rotate_left
                  · simp only [Act.put, List.setIfInBounds_toArray, List.set_cons_zero, List.set_cons_succ, i64_w, i32_w]
                    rfl
                  refine pure_ (i := 23) (N := some 108) (v := ?_) (a' := ?_) #[true, true, true, true, true, true, true, true, true, true, true, true, true, true, true, true, true, true, true, true, true, true, true, true, false, false, false, false, false, false, false, false, false, false, false] rfl rfl (any_of HT_.out (by kernel_rfl)) (fun _ _ _ h => h) (Or.inl ⟨by rfl, ?_⟩) ?_ ?_
                  rotate_left
                  · intro w'
                    go_simp
                    with_reducible rfl
                  rotate_left
                  · simp only [Act.put, List.setIfInBounds_toArray, List.set_cons_zero, List.set_cons_succ, i64_w, i32_w]
                    rfl
                  refine pure_ (i := 24) (N := some 109) (v := ?_) (a' := ?_) #[true, true, true, true, true, true, true, true, true, true, true, true, true, true, true, true, true, true, true, true, true, true, true, true, true, false, false, false, false, false, false, false, false, false, false] rfl rfl (any_of HT_.out (by kernel_rfl)) (fun _ _ _ h => h) (Or.inl ⟨by rfl, ?_⟩) ?_ ?_
                  rotate_left
                  · intro w'
                    go_simp
                    with_reducible rfl
                  rotate_left
                  · simp only [Act.put, List.setIfInBounds_toArray, List.set_cons_zero, List.set_cons_succ, i64_w, i32_w]
                    rfl
                  refine pure_ (i := 25) (N := some 110) (v := ?_) (a' := ?_) #[true, true, true, true, true, true, true, true, true, true, true, true, true, true, true, true, true, true, true, true, true, true, true, true, true, true, false, false, false, false, false, false, false, false, false] rfl rfl (any_of HT_.out (by kernel_rfl)) (fun _ _ _ h => h) (Or.inl ⟨by rfl, ?_⟩) ?_ ?_
                  rotate_left
                  · intro w'
                    go_simp
                    with_reducible rfl
                  rotate_left
                  · simp only [Act.put, List.setIfInBounds_toArray, List.set_cons_zero, List.set_cons_succ, i64_w, i32_w]
                    rfl
                  refine pure_ (i := 26) (N := some 111) (v := ?_) (a' := ?_) #[true, true, true, true, true, true, true, true, true, true, true, true, true, true, true, true, true, true, true, true, true, true, true, true, true, true, true, false, false, false, false, false, false, false, false] rfl rfl (any_of HT_.out (by kernel_rfl)) (fun _ _ _ h => h) (Or.inl ⟨by rfl, ?_⟩) ?_ ?_
                  rotate_left
                  · intro w'
                    go_simp
                    with_reducible rfl
                  rotate_left
                  · simp only [Act.put, List.setIfInBounds_toArray, List.set_cons_zero, List.set_cons_succ, i64_w, i32_w]
                    rfl
                  refine pure_ (i := 27) (N := some 112) (v := ?_) (a' := ?_) #[true, true, true, true, true, true, true, true, true, true, true, true, true, true, true, true, true, true, true, true, true, true, true, true, true, true, true, true, false, false, false, false, false, false, false] rfl rfl (any_of HT_.out (by kernel_rfl)) (fun _ _ _ h => h) (Or.inl ⟨by rfl, ?_⟩) ?_ ?_
                  rotate_left
                  · intro w'
                    go_simp
                    with_reducible rfl
                  rotate_left
                  · simp only [Act.put, List.setIfInBounds_toArray, List.set_cons_zero, List.set_cons_succ, i64_w, i32_w]
                    rfl
                  refine pure_ (i := 28) (N := some 113) (v := ?_) (a' := ?_) #[true, true, true, true, true, true, true, true, true, true, true, true, true, true, true, true, true, true, true, true, true, true, true, true, true, true, true, true, true, false, false, false, false, false, false] rfl rfl (any_of HT_.out (by kernel_rfl)) (fun _ _ _ h => h) (Or.inl ⟨by rfl, ?_⟩) ?_ ?_
                  rotate_left
                  · intro w'
                    go_simp
                    with_reducible rfl
                  rotate_left
                  · simp only [Act.put, List.setIfInBounds_toArray, List.set_cons_zero, List.set_cons_succ, i64_w, i32_w]
                    rfl
                  refine pure_ (i := 29) (N := some 114) (v := undef) (a' := ?_) #[true, true, true, true, true, true, true, true, true, true, true, true, true, true, true, true, true, true, true, true, true, true, true, true, true, true, true, true, true, true, false, false, false, false, false] rfl rfl (any_of HT_.out (by kernel_rfl)) (fun _ _ _ h => h) (Or.inr ⟨by rfl, rfl⟩) ?_ ?_
                  rotate_left
                  · simp only [Act.put, List.setIfInBounds_toArray, List.set_cons_zero, List.set_cons_succ, i64_w, i32_w]
                    rfl
                  refine pure_ (i := 30) (N := some 115) (v := undef) (a' := ?_) #[true, true, true, true, true, true, true, true, true, true, true, true, true, true, true, true, true, true, true, true, true, true, true, true, true, true, true, true, true, true, true, false, false, false, false] rfl rfl (any_of HT_.out (by kernel_rfl)) (fun _ _ _ h => h) (Or.inr ⟨by rfl, rfl⟩) ?_ ?_
                  rotate_left
                  · simp only [Act.put, List.setIfInBounds_toArray, List.set_cons_zero, List.set_cons_succ, i64_w, i32_w]
                    rfl
                  refine pure_ (i := 31) (N := some 116) (v := undef) (a' := ?_) #[true, true, true, true, true, true, true, true, true, true, true, true, true, true, true, true, true, true, true, true, true, true, true, true, true, true, true, true, true, true, true, true, false, false, false] rfl rfl (any_of HT_.out (by kernel_rfl)) (fun _ _ _ h => h) (Or.inr ⟨by rfl, rfl⟩) ?_ ?_
                  rotate_left
                  · simp only [Act.put, List.setIfInBounds_toArray, List.set_cons_zero, List.set_cons_succ, i64_w, i32_w]
                    rfl
                  refine pure_ (i := 32) (N := some 117) (v := undef) (a' := ?_) #[true, true, true, true, true, true, true, true, true, true, true, true, true, true, true, true, true, true, true, true, true, true, true, true, true, true, true, true, true, true, true, true, true, false, false] rfl rfl (any_of HT_.out (by kernel_rfl)) (fun _ _ _ h => h) (Or.inr ⟨by rfl, rfl⟩) ?_ ?_
                  rotate_left
                  · simp only [Act.put, List.setIfInBounds_toArray, List.set_cons_zero, List.set_cons_succ, i64_w, i32_w]
                    rfl
                  refine pure_ (i := 33) (N := some 118) (v := ?_) (a' := ?_) #[true, true, true, true, true, true, true, true, true, true, true, true, true, true, true, true, true, true, true, true, true, true, true, true, true, true, true, true, true, true, true, true, true, true, false] rfl rfl (any_of HT_.out (by kernel_rfl)) (fun _ _ _ h => h) (Or.inl ⟨by rfl, ?_⟩) ?_ ?_
                  rotate_left
                  · intro w'
                    go_simp
                    with_reducible rfl
                  rotate_left
                  · simp only [Act.put, List.setIfInBounds_toArray, List.set_cons_zero, List.set_cons_succ, i64_w, i32_w]
                    rfl
                  refine pure_ (i := 34) (N := some 119) (v := ?_) (a' := ?_) #[true, true, true, true, true, true, true, true, true, true, true, true, true, true, true, true, true, true, true, true, true, true, true, true, true, true, true, true, true, true, true, true, true, true, true] rfl rfl (any_of HT_.out (by kernel_rfl)) (fun _ _ _ h => h) (Or.inl ⟨by rfl, ?_⟩) ?_ ?_
                  rotate_left
                  · intro w'
                    go_simp
                    with_reducible rfl
                  rotate_left
                  · simp only [Act.put, List.setIfInBounds_toArray, List.set_cons_zero, List.set_cons_succ, i64_w, i32_w]
                    rfl
                  refine done_ (done_of HT_.out (by kernel_rfl)) ?_
                  go_wp2_with fail
                  go_meet
                  exact ⟨rfl, L, X, F5, E, HB⟩
                case rest =>
                  obtain ⟨rfl, L, X, F5, E, HB⟩ := hcut
                  obtain ⟨⟨i0, i1, i2, i3⟩, u0, u1, u2, u3⟩ := cell4 X.out
                  obtain ⟨⟨k0, k1, k2, k3⟩, z0, z1, z2, z3⟩ := cell4 E.out
                  have hki : wrap64 ((k : Int) + 1) = ((k + 1 : Nat) : Int) := by have := HN.out; rw [jw64 (by omega) (by omega)]; omega
                  go_wp2
                  rw [hki]
                  exact ⟨⟨k + 1, s', ⟨q.R ++ [⟨q1, q2, q3, q4⟩], s'.rest, s.closed, 0⟩, some ad, c5, rfl, .inl (by omega), ⟨fun h => SZ.out.2.2.trans (HC.out h)⟩, ⟨⟨blk4_far L.out NG.out.2.1, (by rw [List.length_append, List.length_singleton]; exact blk4_put X.out), Kd.F_far (p := ⟨b8, 3, none⟩) (Kd.F_far (p := ⟨b8, 2, none⟩) (Kd.F_far (p := ⟨b8, 1, none⟩) (Kd.F_far (p := ⟨b8, 0, none⟩) F5.out (fun _ hk => hk.2) _) (fun _ hk => hk.2) _) (fun _ hk => hk.2) _) (fun _ hk => hk.2) _, H5c.out, REL.out, (by rw [List.length_append, List.length_singleton]; exact SZ.out.1), below4_put HB.out NG.out.2.2⟩⟩⟩, by simp [intOf]; omega⟩
              · obtain ⟨⟨q1, q2, q3, q4, q5, q6⟩, hp⟩ : ∃ p, takeS s = p := ⟨_, rfl⟩
                rw [p2] at p3
                rw [hp] at p1 p2 p3
                simp only at p1 p2 p3
                have NX : Aside0 (Calls Try.prog 15 #[.pointer (some ⟨g, 0, none⟩)] wr fun e w' => ∃ v : Value, e = .returned (.tuple #[.agg #[.int .i64 0, .int .i64 0, .int .i64 0, v], .bool false, .int .i64 q6]) ∧ Kd.R (Kd.int .i64) 3 w' wr.heap.size (fun _ => True) v [] ∧ LAt w' g { s with e := q6 } ∧ KeepBut wr w' g none ∧ Below w.heap.size wr w') := ⟨lens_Next.stop w.heap.size g s.rest s.k s.n s.r s.closed s.ended s.e q1 q2 q3 q4 q5 q6 wr L.out NG.out.1 HB.out.size hbd.1 (rel_lastR HRel.out) (fun h => (rt_good s.rest (by omega) h).1) hp p1⟩
                have RN : Aside0 (∀ w1, Kd.F k30 w1 (fun k => k ≠ g ∧ k ≠ b8) AA q.R.length q.R → Calls Try.prog 21 #[.agg #[.slice AA q.R.length cc, .string q.rest, .bool q.closed, .int .i64 q.e]] w1 (NextPost w1 (fun k => k ≠ g ∧ k ≠ b8) ({ q with e := q6 }, false))) := ⟨fun w1 h => rNext.calls_ AA cc q.R q.rest q.closed q.e _ _ w1 h HCC.out (by omega) (by omega) HRel.out.ok p2⟩
                have REL := Aside0.mk p3
                clear hp p1 p2 p3
                go_upto_region 24 with (first | (go_at_call 15; (with_reducible refine NX.out.mono ?_); rintro e w3 ⟨v, rfl, hR3, hL3, hK3, hb3⟩; obtain ⟨A4, c4, rfl⟩ := Kd.R_slice hR3; have L3 := Aside0.mk hL3; have X3 := Aside0.mk (KeepBut.blk hK3 X.out (Ne.symm NG.out.2.1) (by simp)); have FR3 := Aside0.mk (Kd.F_keep FR.out hK3 (fun _ hk => hk.1)); have HB3 := Aside0.mk (HB.out.trans hb3); have R4 := Aside0.mk (Kd.R_lower hR3 HB.out.size); clear hR3 hL3 hK3 hb3 L X FR HB i0 i1 i2 i3 u0 u1 u2 u3; have L := L3; have X := X3; have FR := FR3; have HB := HB3; clear L3 X3 FR3 HB3; obtain ⟨⟨i0, i1, i2, i3⟩, u0, u1, u2, u3⟩ := cell4 X.out) | fail)
                have hb := below_alloc (Below.refl w3.heap.size w3) (.cells #[.int .i64 0, .int .i64 0, .int .i64 0, .slice A4 0 c4] 30)
                have D := Aside0.mk (blk_new w3 (.cells #[.int .i64 0, .int .i64 0, .int .i64 0, .slice A4 0 c4] 30))
                have RN4 := Aside0.mk (Kd.R_below R4.out hb)
                clear R4
                have R4 := RN4
                clear RN4
                have LN := Aside0.mk (LAt.below L.out hb); have XN := Aside0.mk (blk_below X.out hb); have FN := Aside0.mk (Kd.F_below FR.out hb); have BN := Aside0.mk (below_step HB.out hb); clear L X FR HB i0 i1 i2 i3 u0 u1 u2 u3; have L := LN; have X := XN; have FR := FN; have HB := BN; clear LN XN FN BN; obtain ⟨⟨i0, i1, i2, i3⟩, u0, u1, u2, u3⟩ := cell4 X.out
                clear hb
                generalize w3.alloc (.cells #[.int .i64 0, .int .i64 0, .int .i64 0, .slice A4 0 c4] 30) = w4 at L X FR HB D R4 i0 i1 i2 i3 u0 u1 u2 u3 ⊢
                generalize w3.heap.size = b12 at D ⊢
                obtain ⟨⟨l0, l1, l2, l3⟩, m0, m1, m2, m3⟩ := cell4 D.out
                have GW := Aside0.mk (show g < w4.heap.size ∧ b8 < w4.heap.size from ⟨blk_lt L.out, blk_lt X.out⟩)
                go_upto_region 25 with (first | (go_at_call 21; (refine (RN.out _ FR.out).mono ?_); rintro e w5 ⟨v, rfl, ⟨A5, c5, hv, hc5, hF5⟩, hb⟩; replace hv : v = .slice A5 q.R.length c5 := hv; subst hv; have H5c := Aside0.mk hc5; have F5 : Aside0 (Kd.F k30 w5 (fun k => k ≠ g ∧ k ≠ b8) A5 q.R.length q.R) := ⟨Kd.F_mono hF5 (fun k hk => hk.elim id (fun h => by have h1 := GW.out; exact ⟨by omega, by omega⟩))⟩; have LN := Aside0.mk (LAt.below L.out hb); have XN := Aside0.mk (blk_below X.out hb); have FN := Aside0.mk (Kd.F_below FR.out hb); have BN := Aside0.mk (below_step HB.out hb); clear L X FR HB i0 i1 i2 i3 u0 u1 u2 u3; have L := LN; have X := XN; have FR := FN; have HB := BN; clear LN XN FN BN; obtain ⟨⟨i0, i1, i2, i3⟩, u0, u1, u2, u3⟩ := cell4 X.out; have DN := Aside0.mk (blk_below D.out hb); have RN4 := Aside0.mk (Kd.R_below R4.out hb); clear D R4 l0 l1 l2 l3 m0 m1 m2 m3; have D := DN; have R4 := RN4; clear DN RN4; obtain ⟨⟨l0, l1, l2, l3⟩, m0, m1, m2, m3⟩ := cell4 D.out; clear hb hF5 hc5) | fail)
                have hb := below_alloc (Below.refl w5.heap.size w5) (.cells #[.slice A5 q.R.length c5, .string q.rest, .bool q.closed, .int .i64 q6] 45)
                have E := Aside0.mk (blk_new w5 (.cells #[.slice A5 q.R.length c5, .string q.rest, .bool q.closed, .int .i64 q6] 45))
                have FN5 := Aside0.mk (Kd.F_below F5.out hb)
                clear F5
                have F5 := FN5
                clear FN5
                have LN := Aside0.mk (LAt.below L.out hb); have XN := Aside0.mk (blk_below X.out hb); have FN := Aside0.mk (Kd.F_below FR.out hb); have BN := Aside0.mk (below_step HB.out hb); clear L X FR HB i0 i1 i2 i3 u0 u1 u2 u3; have L := LN; have X := XN; have FR := FN; have HB := BN; clear LN XN FN BN; obtain ⟨⟨i0, i1, i2, i3⟩, u0, u1, u2, u3⟩ := cell4 X.out
                have DN := Aside0.mk (blk_below D.out hb); have RN4 := Aside0.mk (Kd.R_below R4.out hb); clear D R4 l0 l1 l2 l3 m0 m1 m2 m3; have D := DN; have R4 := RN4; clear DN RN4; obtain ⟨⟨l0, l1, l2, l3⟩, m0, m1, m2, m3⟩ := cell4 D.out
                clear hb
                generalize w5.alloc (.cells #[.slice A5 q.R.length c5, .string q.rest, .bool q.closed, .int .i64 q6] 45) = w6 at L X FR HB D R4 E F5 i0 i1 i2 i3 u0 u1 u2 u3 l0 l1 l2 l3 m0 m1 m2 m3 ⊢
                generalize w5.heap.size = b15 at E ⊢
                obtain ⟨⟨k0, k1, k2, k3⟩, z0, z1, z2, z3⟩ := cell4 E.out
                go_cut [119] (fun v119 wx => v119 = .bool false ∧ Aside0 (LAt wx g { s with e := q6 }) ∧ Aside0 (wx.heap[b8]? = some (.cells #[.slice AA q.R.length cc, .string q.rest, .bool q.closed, .int .i64 q.e] 45 (0, 0))) ∧ Aside0 (Kd.F k30 wx (fun k => k ≠ g ∧ k ≠ b8) A5 q.R.length q.R) ∧ Aside0 (wx.heap[b15]? = some (.cells #[.slice A5 q.R.length c5, .string q.rest, .bool q.closed, .int .i64 q6] 45 (0, 0))) ∧ Aside0 (Below w.heap.size w wx))
                case first =>
                  refine start_ (n := 35) (S := (fun w' => w'.cell? ⟨b12, 0, none⟩ = some (.int .i64 0) ∧ w'.cell? ⟨b12, 1, none⟩ = some (.int .i64 0) ∧ w'.cell? ⟨b12, 2, none⟩ = some (.int .i64 0) ∧ w'.cell? ⟨b12, 3, none⟩ = some (.slice A4 0 c4) ∧ w'.cell? ⟨b15, 3, none⟩ = some (.int .i64 q6))) (ds := [31]) #[false, false, false, false, false, false, false, false, false, false, false, false, false, false, false, false, false, false, false, false, false, false, false, false, false, false, false, false, false, false, false, false, false, false, false] (by kernel_rfl) rfl rfl ⟨l0, l1, l2, l3, k3⟩ (fun hHeld => ?_); refine with_tabW readsR25.tab readsR25.bits (fun HT_ HW_ => ?_)
                  have hb := below_drew1 (Below.refl w6.heap.size w6)
                  have LN := Aside0.mk (LAt.below L.out hb); have XN := Aside0.mk (blk_below X.out hb); have FN := Aside0.mk (Kd.F_below FR.out hb); have BN := Aside0.mk (below_step HB.out hb); clear L X FR HB i0 i1 i2 i3 u0 u1 u2 u3; have L := LN; have X := XN; have FR := FN; have HB := BN; clear LN XN FN BN; obtain ⟨⟨i0, i1, i2, i3⟩, u0, u1, u2, u3⟩ := cell4 X.out
                  have DN := Aside0.mk (blk_below D.out hb); have RN4 := Aside0.mk (Kd.R_below R4.out hb); clear D R4 l0 l1 l2 l3 m0 m1 m2 m3; have D := DN; have R4 := RN4; clear DN RN4; obtain ⟨⟨l0, l1, l2, l3⟩, m0, m1, m2, m3⟩ := cell4 D.out
                  have EN := Aside0.mk (blk_below E.out hb); have FN5 := Aside0.mk (Kd.F_below F5.out hb); clear E F5 k0 k1 k2 k3 z0 z1 z2 z3; have E := EN; have F5 := FN5; clear EN FN5; obtain ⟨⟨k0, k1, k2, k3⟩, z0, z1, z2, z3⟩ := cell4 E.out
                  clear hb
                  generalize w6.drew = w7 at L X FR HB D R4 E F5 hHeld i0 i1 i2 i3 u0 u1 u2 u3 l0 l1 l2 l3 m0 m1 m2 m3 k0 k1 k2 k3 z0 z1 z2 z3 ⊢
                  refine pure_ (i := 0) (N := some 85) (v := ?_) (a' := ?_) #[true, false, false, false, false, false, false, false, false, false, false, false, false, false, false, false, false, false, false, false, false, false, false, false, false, false, false, false, false, false, false, false, false, false, false] rfl rfl (any_of HT_.out (by kernel_rfl)) (fun _ _ _ h => h) (Or.inl ⟨by rfl, ?_⟩) ?_ ?_
                  rotate_left
                  · intro w'
                    go_simp
                    with_reducible rfl
                  rotate_left
                  · simp only [Act.put, List.setIfInBounds_toArray, List.set_cons_zero, List.set_cons_succ, i64_w, i32_w]
                    rfl
                  refine pure_ (i := 1) (N := some 86) (v := ?_) (a' := ?_) #[true, true, false, false, false, false, false, false, false, false, false, false, false, false, false, false, false, false, false, false, false, false, false, false, false, false, false, false, false, false, false, false, false, false, false] rfl rfl (any_of HT_.out (by kernel_rfl)) (fun _ _ _ h => h) (Or.inl ⟨by rfl, ?_⟩) ?_ ?_
                  rotate_left
                  · intro w'
                    go_simp
                    with_reducible rfl
                  rotate_left
                  · simp only [Act.put, List.setIfInBounds_toArray, List.set_cons_zero, List.set_cons_succ, i64_w, i32_w]
                    rfl
                  refine pure_ (i := 2) (N := some 87) (v := ?_) (a' := ?_) #[true, true, true, false, false, false, false, false, false, false, false, false, false, false, false, false, false, false, false, false, false, false, false, false, false, false, false, false, false, false, false, false, false, false, false] rfl rfl (any_of HT_.out (by kernel_rfl)) (fun _ _ _ h => h) (Or.inl ⟨by rfl, ?_⟩) ?_ ?_
                  rotate_left
                  · intro w'
                    go_simp
                    with_reducible rfl
                  rotate_left
                  · simp only [Act.put, List.setIfInBounds_toArray, List.set_cons_zero, List.set_cons_succ, i64_w, i32_w]
                    rfl
                  refine pure_ (i := 3) (N := some 88) (v := ?_) (a' := ?_) #[true, true, true, true, false, false, false, false, false, false, false, false, false, false, false, false, false, false, false, false, false, false, false, false, false, false, false, false, false, false, false, false, false, false, false] rfl rfl (any_of HT_.out (by kernel_rfl)) (fun _ _ _ h => h) (Or.inl ⟨by rfl, ?_⟩) ?_ ?_
                  rotate_left
                  · intro w'
                    go_simp
                    with_reducible rfl
                  rotate_left
                  · simp only [Act.put, List.setIfInBounds_toArray, List.set_cons_zero, List.set_cons_succ, i64_w, i32_w]
                    rfl
                  refine pure_ (i := 4) (N := some 89) (v := ?_) (a' := ?_) #[true, true, true, true, true, false, false, false, false, false, false, false, false, false, false, false, false, false, false, false, false, false, false, false, false, false, false, false, false, false, false, false, false, false, false] rfl rfl (any_of HT_.out (by kernel_rfl)) (fun _ _ _ h => h) (Or.inl ⟨by rfl, ?_⟩) ?_ ?_
                  rotate_left
                  · intro w'
                    go_simp
                    with_reducible rfl
                  rotate_left
                  · simp only [Act.put, List.setIfInBounds_toArray, List.set_cons_zero, List.set_cons_succ, i64_w, i32_w]
                    rfl
                  refine pure_ (i := 5) (N := some 90) (v := ?_) (a' := ?_) #[true, true, true, true, true, true, false, false, false, false, false, false, false, false, false, false, false, false, false, false, false, false, false, false, false, false, false, false, false, false, false, false, false, false, false] rfl rfl (any_of HT_.out (by kernel_rfl)) (fun _ _ _ h => h) (Or.inl ⟨by rfl, ?_⟩) ?_ ?_
                  rotate_left
                  · intro w'
                    go_simp
                    with_reducible rfl
                  rotate_left
                  · simp only [Act.put, List.setIfInBounds_toArray, List.set_cons_zero, List.set_cons_succ, i64_w, i32_w]
                    rfl
                  refine take_ (i := 6) (N := some 91) (v := ?_) (a' := ?_) #[true, true, true, true, true, true, true, false, false, false, false, false, false, false, false, false, false, false, false, false, false, false, false, false, false, false, false, false, false, false, false, false, false, false, false] rfl rfl (take_ofW HT_.out HW_.out (by kernel_rfl)) (fun _ _ _ h => h) (Or.inl ⟨by rfl, ?_⟩) hHeld ?_ ?_
                  rotate_left
                  · rintro w' ⟨s0, s1, s2, s3, s4⟩
                    go_simp
                    with_reducible rfl
                  rotate_left
                  · simp only [Act.put, List.setIfInBounds_toArray, List.set_cons_zero, List.set_cons_succ, i64_w, i32_w]
                    rfl
                  refine pure_ (i := 7) (N := some 92) (v := ?_) (a' := ?_) #[true, true, true, true, true, true, true, true, false, false, false, false, false, false, false, false, false, false, false, false, false, false, false, false, false, false, false, false, false, false, false, false, false, false, false] rfl rfl (any_of HT_.out (by kernel_rfl)) (fun _ _ _ h => h) (Or.inl ⟨by rfl, ?_⟩) ?_ ?_
                  rotate_left
                  · intro w'
                    go_simp
                    with_reducible rfl
                  rotate_left
                  · simp only [Act.put, List.setIfInBounds_toArray, List.set_cons_zero, List.set_cons_succ, i64_w, i32_w]
                    rfl
                  refine pure_ (i := 8) (N := some 93) (v := ?_) (a' := ?_) #[true, true, true, true, true, true, true, true, true, false, false, false, false, false, false, false, false, false, false, false, false, false, false, false, false, false, false, false, false, false, false, false, false, false, false] rfl rfl (any_of HT_.out (by kernel_rfl)) (fun _ _ _ h => h) (Or.inl ⟨by rfl, ?_⟩) ?_ ?_
                  rotate_left
                  · intro w'
                    go_simp
                    with_reducible rfl
                  rotate_left
                  · simp only [Act.put, List.setIfInBounds_toArray, List.set_cons_zero, List.set_cons_succ, i64_w, i32_w]
                    rfl
                  refine pure_ (i := 9) (N := some 94) (v := ?_) (a' := ?_) #[true, true, true, true, true, true, true, true, true, true, false, false, false, false, false, false, false, false, false, false, false, false, false, false, false, false, false, false, false, false, false, false, false, false, false] rfl rfl (any_of HT_.out (by kernel_rfl)) (fun _ _ _ h => h) (Or.inl ⟨by rfl, ?_⟩) ?_ ?_
                  rotate_left
                  · intro w'
                    go_simp
                    with_reducible rfl
                  rotate_left
                  · simp only [Act.put, List.setIfInBounds_toArray, List.set_cons_zero, List.set_cons_succ, i64_w, i32_w]
                    rfl
                  refine pure_ (i := 10) (N := some 95) (v := ?_) (a' := ?_) #[true, true, true, true, true, true, true, true, true, true, true, false, false, false, false, false, false, false, false, false, false, false, false, false, false, false, false, false, false, false, false, false, false, false, false] rfl rfl (any_of HT_.out (by kernel_rfl)) (fun _ _ _ h => h) (Or.inl ⟨by rfl, ?_⟩) ?_ ?_
                  rotate_left
                  · intro w'
                    go_simp
                    with_reducible rfl
                  rotate_left
                  · simp only [Act.put, List.setIfInBounds_toArray, List.set_cons_zero, List.set_cons_succ, i64_w, i32_w]
                    rfl
                  refine pure_ (i := 11) (N := some 96) (v := ?_) (a' := ?_) #[true, true, true, true, true, true, true, true, true, true, true, true, false, false, false, false, false, false, false, false, false, false, false, false, false, false, false, false, false, false, false, false, false, false, false] rfl rfl (any_of HT_.out (by kernel_rfl)) (fun _ _ _ h => h) (Or.inl ⟨by rfl, ?_⟩) ?_ ?_
                  rotate_left
                  · intro w'
                    go_simp
                    with_reducible rfl
                  rotate_left
                  · simp only [Act.put, List.setIfInBounds_toArray, List.set_cons_zero, List.set_cons_succ, i64_w, i32_w]
                    rfl
                  refine pure_ (i := 12) (N := some 97) (v := undef) (a' := ?_) #[true, true, true, true, true, true, true, true, true, true, true, true, true, false, false, false, false, false, false, false, false, false, false, false, false, false, false, false, false, false, false, false, false, false, false] rfl rfl (any_of HT_.out (by kernel_rfl)) (fun _ _ _ h => h) (Or.inr ⟨by rfl, rfl⟩) ?_ ?_
                  rotate_left
                  · simp only [Act.put, List.setIfInBounds_toArray, List.set_cons_zero, List.set_cons_succ, i64_w, i32_w]
                    rfl
                  refine pure_ (i := 13) (N := some 98) (v := undef) (a' := ?_) #[true, true, true, true, true, true, true, true, true, true, true, true, true, true, false, false, false, false, false, false, false, false, false, false, false, false, false, false, false, false, false, false, false, false, false] rfl rfl (any_of HT_.out (by kernel_rfl)) (fun _ _ _ h => h) (Or.inr ⟨by rfl, rfl⟩) ?_ ?_
                  rotate_left
                  · simp only [Act.put, List.setIfInBounds_toArray, List.set_cons_zero, List.set_cons_succ, i64_w, i32_w]
                    rfl
                  refine pure_ (i := 14) (N := some 99) (v := undef) (a' := ?_) #[true, true, true, true, true, true, true, true, true, true, true, true, true, true, true, false, false, false, false, false, false, false, false, false, false, false, false, false, false, false, false, false, false, false, false] rfl rfl (any_of HT_.out (by kernel_rfl)) (fun _ _ _ h => h) (Or.inr ⟨by rfl, rfl⟩) ?_ ?_
                  rotate_left
                  · simp only [Act.put, List.setIfInBounds_toArray, List.set_cons_zero, List.set_cons_succ, i64_w, i32_w]
                    rfl
                  refine pure_ (i := 15) (N := some 100) (v := undef) (a' := ?_) #[true, true, true, true, true, true, true, true, true, true, true, true, true, true, true, true, false, false, false, false, false, false, false, false, false, false, false, false, false, false, false, false, false, false, false] rfl rfl (any_of HT_.out (by kernel_rfl)) (fun _ _ _ h => h) (Or.inr ⟨by rfl, rfl⟩) ?_ ?_
                  rotate_left
                  · simp only [Act.put, List.setIfInBounds_toArray, List.set_cons_zero, List.set_cons_succ, i64_w, i32_w]
                    rfl
                  refine pure_ (i := 16) (N := some 101) (v := undef) (a' := ?_) #[true, true, true, true, true, true, true, true, true, true, true, true, true, true, true, true, true, false, false, false, false, false, false, false, false, false, false, false, false, false, false, false, false, false, false] rfl rfl (any_of HT_.out (by kernel_rfl)) (fun _ _ _ h => h) (Or.inr ⟨by rfl, rfl⟩) ?_ ?_
                  rotate_left
                  · simp only [Act.put, List.setIfInBounds_toArray, List.set_cons_zero, List.set_cons_succ, i64_w, i32_w]
                    rfl
                  refine pure_ (i := 17) (N := some 102) (v := undef) (a' := ?_) #[true, true, true, true, true, true, true, true, true, true, true, true, true, true, true, true, true, true, false, false, false, false, false, false, false, false, false, false, false, false, false, false, false, false, false] rfl rfl (any_of HT_.out (by kernel_rfl)) (fun _ _ _ h => h) (Or.inr ⟨by rfl, rfl⟩) ?_ ?_
                  rotate_left
                  · simp only [Act.put, List.setIfInBounds_toArray, List.set_cons_zero, List.set_cons_succ, i64_w, i32_w]
                    rfl
                  refine pure_ (i := 18) (N := some 103) (v := undef) (a' := ?_) #[true, true, true, true, true, true, true, true, true, true, true, true, true, true, true, true, true, true, true, false, false, false, false, false, false, false, false, false, false, false, false, false, false, false, false] rfl rfl (any_of HT_.out (by kernel_rfl)) (fun _ _ _ h => h) (Or.inr ⟨by rfl, rfl⟩) ?_ ?_
                  rotate_left
                  · simp only [Act.put, List.setIfInBounds_toArray, List.set_cons_zero, List.set_cons_succ, i64_w, i32_w]
                    rfl
                  refine pure_ (i := 19) (N := some 104) (v := undef) (a' := ?_) #[true, true, true, true, true, true, true, true, true, true, true, true, true, true, true, true, true, true, true, true, false, false, false, false, false, false, false, false, false, false, false, false, false, false, false] rfl rfl (any_of HT_.out (by kernel_rfl)) (fun _ _ _ h => h) (Or.inr ⟨by rfl, rfl⟩) ?_ ?_
                  rotate_left
                  · simp only [Act.put, List.setIfInBounds_toArray, List.set_cons_zero, List.set_cons_succ, i64_w, i32_w]
                    rfl
                  refine pure_ (i := 20) (N := some 105) (v := undef) (a' := ?_) #[true, true, true, true, true, true, true, true, true, true, true, true, true, true, true, true, true, true, true, true, true, false, false, false, false, false, false, false, false, false, false, false, false, false, false] rfl rfl (any_of HT_.out (by kernel_rfl)) (fun _ _ _ h => h) (Or.inr ⟨by rfl, rfl⟩) ?_ ?_
                  rotate_left
                  · simp only [Act.put, List.setIfInBounds_toArray, List.set_cons_zero, List.set_cons_succ, i64_w, i32_w]
                    rfl
                  refine pure_ (i := 21) (N := some 106) (v := undef) (a' := ?_) #[true, true, true, true, true, true, true, true, true, true, true, true, true, true, true, true, true, true, true, true, true, true, false, false, false, false, false, false, false, false, false, false, false, false, false] rfl rfl (any_of HT_.out (by kernel_rfl)) (fun _ _ _ h => h) (Or.inr ⟨by rfl, rfl⟩) ?_ ?_
                  rotate_left
                  · simp only [Act.put, List.setIfInBounds_toArray, List.set_cons_zero, List.set_cons_succ, i64_w, i32_w]
                    rfl
                  refine pure_ (i := 22) (N := some 107) (v := undef) (a' := ?_) #[true, true, true, true, true, true, true, true, true, true, true, true, true, true, true, true, true, true, true, true, true, true, true, false, false, false, false, false, false, false, false, false, false, false, false] rfl rfl (any_of HT_.out (by kernel_rfl)) (fun _ _ _ h => h) (Or.inr ⟨by rfl, rfl⟩) ?_ ?_
                  rotate_left
                  · simp only [Act.put, List.setIfInBounds_toArray, List.set_cons_zero, List.set_cons_succ, i64_w, i32_w]
                    rfl
                  refine pure_ (i := 23) (N := some 108) (v := ?_) (a' := ?_) #[true, true, true, true, true, true, true, true, true, true, true, true, true, true, true, true, true, true, true, true, true, true, true, true, false, false, false, false, false, false, false, false, false, false, false] rfl rfl (any_of HT_.out (by kernel_rfl)) (fun _ _ _ h => h) (Or.inl ⟨by rfl, ?_⟩) ?_ ?_
                  rotate_left
                  · intro w'
                    go_simp
                    with_reducible rfl
                  rotate_left
                  · simp only [Act.put, List.setIfInBounds_toArray, List.set_cons_zero, List.set_cons_succ, i64_w, i32_w]
                    rfl
                  refine pure_ (i := 24) (N := some 109) (v := ?_) (a' := ?_) #[true, true, true, true, true, true, true, true, true, true, true, true, true, true, true, true, true, true, true, true, true, true, true, true, true, false, false, false, false, false, false, false, false, false, false] rfl rfl (any_of HT_.out (by kernel_rfl)) (fun _ _ _ h => h) (Or.inl ⟨by rfl, ?_⟩) ?_ ?_
                  rotate_left
                  · intro w'
                    go_simp
                    with_reducible rfl
                  rotate_left
                  · simp only [Act.put, List.setIfInBounds_toArray, List.set_cons_zero, List.set_cons_succ, i64_w, i32_w]
                    rfl
                  refine pure_ (i := 25) (N := some 110) (v := ?_) (a' := ?_) #[true, true, true, true, true, true, true, true, true, true, true, true, true, true, true, true, true, true, true, true, true, true, true, true, true, true, false, false, false, false, false, false, false, false, false] rfl rfl (any_of HT_.out (by kernel_rfl)) (fun _ _ _ h => h) (Or.inl ⟨by rfl, ?_⟩) ?_ ?_
                  rotate_left
                  · intro w'
                    go_simp
                    with_reducible rfl
                  rotate_left
                  · simp only [Act.put, List.setIfInBounds_toArray, List.set_cons_zero, List.set_cons_succ, i64_w, i32_w]
                    rfl
                  refine pure_ (i := 26) (N := some 111) (v := ?_) (a' := ?_) #[true, true, true, true, true, true, true, true, true, true, true, true, true, true, true, true, true, true, true, true, true, true, true, true, true, true, true, false, false, false, false, false, false, false, false] rfl rfl (any_of HT_.out (by kernel_rfl)) (fun _ _ _ h => h) (Or.inl ⟨by rfl, ?_⟩) ?_ ?_
                  rotate_left
                  · intro w'
                    go_simp
                    with_reducible rfl
                  rotate_left
                  · simp only [Act.put, List.setIfInBounds_toArray, List.set_cons_zero, List.set_cons_succ, i64_w, i32_w]
                    rfl
                  refine pure_ (i := 27) (N := some 112) (v := ?_) (a' := ?_) #[true, true, true, true, true, true, true, true, true, true, true, true, true, true, true, true, true, true, true, true, true, true, true, true, true, true, true, true, false, false, false, false, false, false, false] rfl rfl (any_of HT_.out (by kernel_rfl)) (fun _ _ _ h => h) (Or.inl ⟨by rfl, ?_⟩) ?_ ?_
                  rotate_left
                  · intro w'
                    go_simp
                    with_reducible rfl
                  rotate_left
                  · simp only [Act.put, List.setIfInBounds_toArray, List.set_cons_zero, List.set_cons_succ, i64_w, i32_w]
                    rfl
                  refine pure_ (i := 28) (N := some 113) (v := ?_) (a' := ?_) #[true, true, true, true, true, true, true, true, true, true, true, true, true, true, true, true, true, true, true, true, true, true, true, true, true, true, true, true, true, false, false, false, false, false, false] rfl rfl (any_of HT_.out (by kernel_rfl)) (fun _ _ _ h => h) (Or.inl ⟨by rfl, ?_⟩) ?_ ?_
                  rotate_left
                  · intro w'
                    go_simp
                    with_reducible rfl
                  rotate_left
                  · simp only [Act.put, List.setIfInBounds_toArray, List.set_cons_zero, List.set_cons_succ, i64_w, i32_w]
                    rfl
                  refine take_ (i := 29) (N := some 114) (v := ?_) (a' := ?_) #[true, true, true, true, true, true, true, true, true, true, true, true, true, true, true, true, true, true, true, true, true, true, true, true, true, true, true, true, true, true, false, false, false, false, false] rfl rfl (take_ofW HT_.out HW_.out (by kernel_rfl)) (fun _ _ _ h => h) (Or.inl ⟨by rfl, ?_⟩) hHeld ?_ ?_
                  rotate_left
                  · rintro w' ⟨s0, s1, s2, s3, s4⟩
                    go_simp
                    with_reducible rfl
                  rotate_left
                  · simp only [Act.put, List.setIfInBounds_toArray, List.set_cons_zero, List.set_cons_succ, i64_w, i32_w]
                    rfl
                  refine pure_ (i := 30) (N := some 115) (v := ?_) (a' := ?_) #[true, true, true, true, true, true, true, true, true, true, true, true, true, true, true, true, true, true, true, true, true, true, true, true, true, true, true, true, true, true, true, false, false, false, false] rfl rfl (any_of HT_.out (by kernel_rfl)) (fun _ _ _ h => h) (Or.inl ⟨by rfl, ?_⟩) ?_ ?_
                  rotate_left
                  · intro w'
                    go_simp
                    with_reducible rfl
                  rotate_left
                  · simp only [Act.put, List.setIfInBounds_toArray, List.set_cons_zero, List.set_cons_succ, i64_w, i32_w]
                    rfl
                  refine last_ (i := 31) (N := some 116) #[true, true, true, true, true, true, true, true, true, true, true, true, true, true, true, true, true, true, true, true, true, true, true, true, true, true, true, true, true, true, true, true, false, false, false] rfl rfl (one_of HT_.out (by kernel_rfl)) (by decide) (fun K hK => ?_)
                  refine goes_ Try.func16 (by kernel_rfl) rfl #[.agg #[.int .i64 0, .int .i64 0, .int .i64 0, .slice A4 ([] : List Int).length c4], .agg #[.int .i64 0, .int .i64 0, .int .i64 0, .slice none ([] : List Int).length 0]] (by rfl) rfl rfl (by (try simp only [List.map_toArray, List.map_cons, List.map_nil]); first | done | rfl) ?_
                  refine (juratref24_Same.calls 3 0 0 0 A4 c4 [] 0 0 0 none 0 [] true _ (Kd.R_reads' R4.out).2.2 (Kd.R_reads' R4.out).2.1 (Kd.C_nil _ _) (Nat.le_refl _) (by kernel_rfl)).mono ?_
                  rintro e w8 ⟨rfl, hb⟩
                  refine ⟨_, rfl, ?_⟩
                  have LN := Aside0.mk (LAt.below L.out hb); have XN := Aside0.mk (blk_below X.out hb); have FN := Aside0.mk (Kd.F_below FR.out hb); have BN := Aside0.mk (below_step HB.out hb); clear L X FR HB i0 i1 i2 i3 u0 u1 u2 u3; have L := LN; have X := XN; have FR := FN; have HB := BN; clear LN XN FN BN; obtain ⟨⟨i0, i1, i2, i3⟩, u0, u1, u2, u3⟩ := cell4 X.out
                  have DN := Aside0.mk (blk_below D.out hb); have RN4 := Aside0.mk (Kd.R_below R4.out hb); clear D R4 l0 l1 l2 l3 m0 m1 m2 m3; have D := DN; have R4 := RN4; clear DN RN4; obtain ⟨⟨l0, l1, l2, l3⟩, m0, m1, m2, m3⟩ := cell4 D.out
                  have EN := Aside0.mk (blk_below E.out hb); have FN5 := Aside0.mk (Kd.F_below F5.out hb); clear E F5 k0 k1 k2 k3 z0 z1 z2 z3; have E := EN; have F5 := FN5; clear EN FN5; obtain ⟨⟨k0, k1, k2, k3⟩, z0, z1, z2, z3⟩ := cell4 E.out
                  clear hb
                  refine hK.out _ _ ?_
                  clear hK K
                  refine norm_ (a' := ?_) ?_ ?_
                  rotate_left
                  · show Act.put _ (some 116) _ = _
                    simp only [Act.put, List.setIfInBounds_toArray, List.set_cons_zero, List.set_cons_succ, i64_w, i32_w]
                    rfl
                  refine pure_ (i := 32) (N := some 117) (v := ?_) (a' := ?_) #[true, true, true, true, true, true, true, true, true, true, true, true, true, true, true, true, true, true, true, true, true, true, true, true, true, true, true, true, true, true, true, true, true, false, false] rfl rfl (any_of HT_.out (by kernel_rfl)) (fun _ _ _ h => h) (Or.inl ⟨by rfl, ?_⟩) ?_ ?_
                  rotate_left
                  · intro w'
                    go_simp
                    with_reducible rfl
                  rotate_left
                  · simp only [Act.put, List.setIfInBounds_toArray, List.set_cons_zero, List.set_cons_succ, i64_w, i32_w]
                    rfl
                  refine pure_ (i := 33) (N := some 118) (v := ?_) (a' := ?_) #[true, true, true, true, true, true, true, true, true, true, true, true, true, true, true, true, true, true, true, true, true, true, true, true, true, true, true, true, true, true, true, true, true, true, false] rfl rfl (any_of HT_.out (by kernel_rfl)) (fun _ _ _ h => h) (Or.inl ⟨by rfl, ?_⟩) ?_ ?_
                  rotate_left
                  · intro w'
                    go_simp
                    with_reducible rfl
                  rotate_left
                  · simp only [Act.put, List.setIfInBounds_toArray, List.set_cons_zero, List.set_cons_succ, i64_w, i32_w]
                    rfl
                  refine pure_ (i := 34) (N := some 119) (v := ?_) (a' := ?_) #[true, true, true, true, true, true, true, true, true, true, true, true, true, true, true, true, true, true, true, true, true, true, true, true, true, true, true, true, true, true, true, true, true, true, true] rfl rfl (any_of HT_.out (by kernel_rfl)) (fun _ _ _ h => h) (Or.inl ⟨by rfl, ?_⟩) ?_ ?_
                  rotate_left
                  · intro w'
                    go_simp
                    with_reducible rfl
                  rotate_left
                  · simp only [Act.put, List.setIfInBounds_toArray, List.set_cons_zero, List.set_cons_succ, i64_w, i32_w]
                    rfl
                  refine done_ (done_of HT_.out (by kernel_rfl)) ?_
                  go_wp2_with fail
                  go_meet
                  exact ⟨rfl, L, X, F5, E, HB⟩
                case rest =>
                  obtain ⟨rfl, L, X, F5, E, HB⟩ := hcut
                  obtain ⟨⟨i0, i1, i2, i3⟩, u0, u1, u2, u3⟩ := cell4 X.out
                  obtain ⟨⟨k0, k1, k2, k3⟩, z0, z1, z2, z3⟩ := cell4 E.out
                  have hki : wrap64 ((k : Int) + 1) = ((k + 1 : Nat) : Int) := by have := HN.out; rw [jw64 (by omega) (by omega)]; omega
                  go_wp2
                  rw [hki]
                  exact ⟨⟨k + 1, { s with e := q6 }, { q with e := q6 }, A5, c5, rfl, .inl (by omega), ⟨fun h => HC.out h⟩, ⟨⟨blk4_far L.out NG.out.2.1, blk4_put X.out, Kd.F_far (p := ⟨b8, 3, none⟩) (Kd.F_far (p := ⟨b8, 2, none⟩) (Kd.F_far (p := ⟨b8, 1, none⟩) (Kd.F_far (p := ⟨b8, 0, none⟩) F5.out (fun _ hk => hk.2) _) (fun _ hk => hk.2) _) (fun _ hk => hk.2) _) (fun _ hk => hk.2) _, H5c.out, REL.out, HM.out, below4_put HB.out NG.out.2.2⟩⟩⟩, by simp [intOf]; omega⟩
            · have d3 : decide ((k : Int) < n) = false := decide_eq_false hk
              obtain ⟨hL, hX, hFR, hcc, hRel, hm, hB⟩ := HI.out
              have L := Aside0.mk hL
              have X := Aside0.mk hX
              have FR := Aside0.mk hFR
              have HCC := Aside0.mk hcc
              have HRel := Aside0.mk hRel
              have HM := Aside0.mk hm
              have HB := Aside0.mk hB
              clear hL hX hFR hcc hRel hm hB HI
              go_upto_region 28 with fail
              obtain ⟨be, hbe⟩ : ∃ b, ((lastOf q.R).f0 == 6) = b := ⟨_, rfl⟩
              have FH : Aside0 (∀ w1, LAt w1 g s → Calls Try.prog 18 #[.pointer (some ⟨g, 0, none⟩)] w1 fun e w' => e = .returned (.int .i64 (q.rest.size : Int)) ∧ w1 = w') := ⟨fun w1 h => by rw [← HRel.out.rest]; exact lens_Held.calls_ g s w1 h⟩
              have FE : Aside0 (∀ w1, LAt w1 g s → Calls Try.prog 17 #[.pointer (some ⟨g, 0, none⟩)] w1 fun e w' => e = .returned (.bool be) ∧ w1 = w') := ⟨fun w1 h => by rw [← hbe, ← HRel.out.ended]; exact lens_Ended.calls_ g s w1 h⟩
              have FQ : Aside0 (∀ w1, Kd.C k30 w1 AA q.R.length q.R → Calls Try.prog 22 #[.agg #[.slice AA q.R.length cc, .string q.rest, .bool q.closed, .int .i64 q.e]] w1 fun e w' => e = .returned (.bool be) ∧ Below w1.heap.size w1 w') := ⟨fun w1 h => by rw [← hbe]; exact rEnded.calls_ AA cc q.R q.rest q.closed q.e w1 h HCC.out (by have h1 := HM.out; have h2 := HL1.out; omega)⟩
              clear hbe
              obtain ⟨⟨i0, i1, i2, i3⟩, u0, u1, u2, u3⟩ := cell4 X.out
              go_cut [133] (fun v133 wx => v133 = .bool false ∧ Aside0 (RInv w wx g b8 s q (60 * min (i + 1) parts.length) AA cc))
              case first =>
                refine start_ (n := 13) (S := (fun w' => w'.cell? ⟨b8, 0, none⟩ = some (.slice AA q.R.length cc) ∧ w'.cell? ⟨b8, 1, none⟩ = some (.string q.rest) ∧ w'.cell? ⟨b8, 2, none⟩ = some (.bool q.closed) ∧ w'.cell? ⟨b8, 3, none⟩ = some (.int .i64 q.e))) (ds := []) #[false, false, false, false, false, false, false, false, false, false, false, false, false] (by kernel_rfl) rfl rfl ⟨i0, i1, i2, i3⟩ (fun hHeld => ?_); refine with_tabW readsR28.tab readsR28.bits (fun HT_ HW_ => ?_)
                have hb := below_drew1 (Below.refl wr.heap.size wr)
                have LN := Aside0.mk (LAt.below L.out hb); have XN := Aside0.mk (blk_below X.out hb); have FN := Aside0.mk (Kd.F_below FR.out hb); have BN := Aside0.mk (below_step HB.out hb); clear L X FR HB i0 i1 i2 i3 u0 u1 u2 u3; have L := LN; have X := XN; have FR := FN; have HB := BN; clear LN XN FN BN; obtain ⟨⟨i0, i1, i2, i3⟩, u0, u1, u2, u3⟩ := cell4 X.out
                clear hb
                generalize wr.drew = w6 at L X FR HB hHeld i0 i1 i2 i3 u0 u1 u2 u3 ⊢
                refine pure_ (i := 0) (N := some 121) (v := ?_) (a' := ?_) #[true, false, false, false, false, false, false, false, false, false, false, false, false] rfl rfl (any_of HT_.out (by kernel_rfl)) (fun _ _ _ h => h) (Or.inl ⟨by rfl, ?_⟩) ?_ ?_
                rotate_left
                · intro w'
                  go_simp
                  with_reducible rfl
                rotate_left
                · simp only [Act.put, List.setIfInBounds_toArray, List.set_cons_zero, List.set_cons_succ, i64_w, i32_w]
                  rfl
                refine pure_ (i := 2) (N := some 123) (v := ?_) (a' := ?_) #[true, false, true, false, false, false, false, false, false, false, false, false, false] rfl rfl (any_of HT_.out (by kernel_rfl)) (fun _ _ _ h => h) (Or.inl ⟨by rfl, ?_⟩) ?_ ?_
                rotate_left
                · intro w'
                  go_simp
                  with_reducible rfl
                rotate_left
                · simp only [Act.put, List.setIfInBounds_toArray, List.set_cons_zero, List.set_cons_succ, i64_w, i32_w]
                  rfl
                refine take_ (i := 3) (N := some 124) (v := ?_) (a' := ?_) #[true, false, true, true, false, false, false, false, false, false, false, false, false] rfl rfl (take_ofW HT_.out HW_.out (by kernel_rfl)) (fun _ _ _ h => h) (Or.inl ⟨by rfl, ?_⟩) hHeld ?_ ?_
                rotate_left
                · rintro w' ⟨s0, s1, s2, s3⟩
                  go_simp
                  with_reducible rfl
                rotate_left
                · simp only [Act.put, List.setIfInBounds_toArray, List.set_cons_zero, List.set_cons_succ, i64_w, i32_w]
                  rfl
                refine pure_ (i := 4) (N := some 125) (v := ?_) (a' := ?_) #[true, false, true, true, true, false, false, false, false, false, false, false, false] rfl rfl (any_of HT_.out (by kernel_rfl)) (fun _ _ _ h => h) (Or.inl ⟨by rfl, ?_⟩) ?_ ?_
                rotate_left
                · intro w'
                  go_simp
                  with_reducible rfl
                rotate_left
                · simp only [Act.put, List.setIfInBounds_toArray, List.set_cons_zero, List.set_cons_succ, i64_w, i32_w]
                  rfl
                refine one_ (i := 1) (N := some 122) #[true, true, true, true, true, false, false, false, false, false, false, false, false] rfl rfl (one_of HT_.out (by kernel_rfl)) (by decide) (fun K hK => ?_)
                refine goes_ Try.func18 (by kernel_rfl) rfl #[.pointer (some ⟨g, 0, none⟩)] (by rfl) rfl rfl (by (try simp only [List.map_toArray, List.map_cons, List.map_nil]); first | done | rfl) ?_
                refine (FH.out _ L.out).mono ?_
                rintro e w5 ⟨rfl, hw5⟩
                refine ⟨_, rfl, ?_⟩
                subst hw5
                refine hK.out _ _ ⟨i0, i1, i2, i3⟩ (fun hHeld => ?_)
                clear hK K
                refine norm_ (a' := ?_) ?_ ?_
                rotate_left
                · show Act.put _ (some 122) _ = _
                  simp only [Act.put, List.setIfInBounds_toArray, List.set_cons_zero, List.set_cons_succ, i64_w, i32_w]
                  rfl
                refine pure_ (i := 5) (N := some 126) (v := ?_) (a' := ?_) #[true, true, true, true, true, true, false, false, false, false, false, false, false] rfl rfl (any_of HT_.out (by kernel_rfl)) (fun _ _ _ h => h) (Or.inl ⟨by rfl, ?_⟩) ?_ ?_
                rotate_left
                · intro w'
                  go_simp
                  with_reducible rfl
                rotate_left
                · simp only [Act.put, List.setIfInBounds_toArray, List.set_cons_zero, List.set_cons_succ, i64_w, i32_w]
                  rfl
                refine pure_ (i := 6) (N := some 127) (v := ?_) (a' := ?_) #[true, true, true, true, true, true, true, false, false, false, false, false, false] rfl rfl (any_of HT_.out (by kernel_rfl)) (fun _ _ _ h => h) (Or.inl ⟨by rfl, ?_⟩) ?_ ?_
                rotate_left
                · intro w'
                  go_simp
                  with_reducible rfl
                rotate_left
                · simp only [Act.put, List.setIfInBounds_toArray, List.set_cons_zero, List.set_cons_succ, i64_w, i32_w]
                  rfl
                refine pure_ (i := 7) (N := some 128) (v := ?_) (a' := ?_) #[true, true, true, true, true, true, true, true, false, false, false, false, false] rfl rfl (any_of HT_.out (by kernel_rfl)) (fun _ _ _ h => h) (Or.inl ⟨by rfl, ?_⟩) ?_ ?_
                rotate_left
                · intro w'
                  go_simp
                  with_reducible rfl
                rotate_left
                · simp only [Act.put, List.setIfInBounds_toArray, List.set_cons_zero, List.set_cons_succ, i64_w, i32_w]
                  rfl
                refine take_ (i := 9) (N := some 130) (v := ?_) (a' := ?_) #[true, true, true, true, true, true, true, true, false, true, false, false, false] rfl rfl (take_ofW HT_.out HW_.out (by kernel_rfl)) (fun _ _ _ h => h) (Or.inl ⟨by rfl, ?_⟩) hHeld ?_ ?_
                rotate_left
                · rintro w' ⟨s0, s1, s2, s3⟩
                  go_simp
                  with_reducible rfl
                rotate_left
                · simp only [Act.put, List.setIfInBounds_toArray, List.set_cons_zero, List.set_cons_succ, i64_w, i32_w]
                  rfl
                refine one_ (i := 8) (N := some 129) #[true, true, true, true, true, true, true, true, true, true, false, false, false] rfl rfl (one_of HT_.out (by kernel_rfl)) (by decide) (fun K hK => ?_)
                refine goes_ Try.func17 (by kernel_rfl) rfl #[.pointer (some ⟨g, 0, none⟩)] (by rfl) rfl rfl (by (try simp only [List.map_toArray, List.map_cons, List.map_nil]); first | done | rfl) ?_
                refine (FE.out _ L.out).mono ?_
                rintro e w5 ⟨rfl, hw5⟩
                refine ⟨_, rfl, ?_⟩
                subst hw5
                refine hK.out _ _ ⟨i0, i1, i2, i3⟩ (fun hHeld => ?_)
                clear hK K
                refine norm_ (a' := ?_) ?_ ?_
                rotate_left
                · show Act.put _ (some 129) _ = _
                  simp only [Act.put, List.setIfInBounds_toArray, List.set_cons_zero, List.set_cons_succ, i64_w, i32_w]
                  rfl
                refine one_ (i := 10) (N := some 131) #[true, true, true, true, true, true, true, true, true, true, true, false, false] rfl rfl (one_of HT_.out (by kernel_rfl)) (by decide) (fun K hK => ?_)
                refine goes_ Try.func22 (by kernel_rfl) rfl #[.agg #[.slice AA q.R.length cc, .string q.rest, .bool q.closed, .int .i64 q.e]] (by rfl) rfl rfl (by (try simp only [List.map_toArray, List.map_cons, List.map_nil]); first | done | rfl) ?_
                refine (FQ.out _ (Kd.F_now FR.out)).mono ?_
                rintro e w6 ⟨rfl, hb⟩
                refine ⟨_, rfl, ?_⟩
                have LN := Aside0.mk (LAt.below L.out hb); have XN := Aside0.mk (blk_below X.out hb); have FN := Aside0.mk (Kd.F_below FR.out hb); have BN := Aside0.mk (below_step HB.out hb); clear L X FR HB i0 i1 i2 i3 u0 u1 u2 u3; have L := LN; have X := XN; have FR := FN; have HB := BN; clear LN XN FN BN; obtain ⟨⟨i0, i1, i2, i3⟩, u0, u1, u2, u3⟩ := cell4 X.out
                clear hb
                refine hK.out _ _ ⟨i0, i1, i2, i3⟩ (fun hHeld => ?_)
                clear hK K
                refine norm_ (a' := ?_) ?_ ?_
                rotate_left
                · show Act.put _ (some 131) _ = _
                  simp only [Act.put, List.setIfInBounds_toArray, List.set_cons_zero, List.set_cons_succ, i64_w, i32_w]
                  rfl
                refine pure_ (i := 11) (N := some 132) (v := ?_) (a' := ?_) #[true, true, true, true, true, true, true, true, true, true, true, true, false] rfl rfl (any_of HT_.out (by kernel_rfl)) (fun _ _ _ h => h) (Or.inl ⟨by rfl, ?_⟩) ?_ ?_
                rotate_left
                · intro w'
                  go_simp
                  with_reducible rfl
                rotate_left
                · simp only [Act.put, List.setIfInBounds_toArray, List.set_cons_zero, List.set_cons_succ, i64_w, i32_w]
                  rfl
                refine pure_ (i := 12) (N := some 133) (v := ?_) (a' := ?_) #[true, true, true, true, true, true, true, true, true, true, true, true, true] rfl rfl (any_of HT_.out (by kernel_rfl)) (fun _ _ _ h => h) (Or.inl ⟨by rfl, ?_⟩) ?_ ?_
                rotate_left
                · intro w'
                  go_simp
                  with_reducible rfl
                rotate_left
                · simp only [Act.put, List.setIfInBounds_toArray, List.set_cons_zero, List.set_cons_succ, i64_w, i32_w]
                  rfl
                refine done_ (done_of HT_.out (by kernel_rfl)) ?_
                go_wp2_with fail
                go_meet
                exact ⟨rfl, ⟨⟨L.out, X.out, FR.out, HCC.out, HRel.out, HM.out, HB.out⟩⟩⟩
              case rest =>
                obtain ⟨rfl, HI⟩ := hcut
                have hwi : wrap64 ((i : Int) + 1) = ((i + 1 : Nat) : Int) := by have := HL1.out; rw [jw64 (by omega) (by omega)]; omega
                go_wp2
                rw [hwi]
                exact ⟨⟨i + 1, s, q, AA, cc, rfl, by omega, HC, HI⟩, by simp [intOf]; omega⟩
    · have d1 : decide ((i : Int) ≤ (parts.length : Int)) = false := decide_eq_false (by omega)
      have d2 : decide (i ≤ parts.length) = false := decide_eq_false hlt
      obtain ⟨L, X, F, hcc, hRel, hm, B⟩ := HI.out
      have HB := Aside0.mk B
      clear L X F hcc hRel hm B HI
      go_wp2_with (first | (go_at_call 8; (refine (juratlaw31_awake.calls_ _).mono ?_); rintro e w6 ⟨rfl, hb⟩; have B6 := Aside0.mk (below_step HB.out hb); clear hb) | fail)
      go_ret
      exact ⟨rfl, B6.out⟩
end Go.Proofs.Ytejcopppchaneaa.PF
