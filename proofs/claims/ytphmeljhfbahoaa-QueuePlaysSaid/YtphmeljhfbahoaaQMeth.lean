/- The queue's other methods; each method as one contract; the nil queue. -/
import Derived.Test.YtphmeljhfbahoaaQBase
import Derived.Test.YtphmeljhfbahoaaXtra
import Derived.Deep.QuietTactic
import Derived.BigQuiet
import Derived.RegionTactic
set_option linter.unusedVariables false
set_option linter.unusedSimpArgs false
namespace Go.Proofs.Ytphmeljhfbahoaa.PQ
open Go.Conc Go.RowKit Go.Proofs.YtphmeljhfbahoaaW.PrintWords Go.Proofs.YtphmeljhfbahoaaW.PrintLast Go.Proofs.YtphmeljhfbahoaaW.PrintMore
theorem bytes34 : ∃ i, Try.prog.info? 34 = some i ∧ i.bytes = 16 := by
  have h : (Try.prog.info? 34).map (·.bytes) = some 16 := by kernel_rfl
  obtain ⟨i, hi, hb⟩ := Option.map_eq_some_iff.1 h
  exact ⟨i, hi, hb⟩
theorem mkc (n : Nat) (hn : n ≤ 4096) (w : World) : (Instr.makeChan 51 (.int .i64 (n : Int))).run Try.prog w = .ok (.chan (some w.heap.size)) (w.alloc (.chan n #[] false 0 0 false)) := by
  obtain ⟨i, hi, hb⟩ := bytes34
  simpa using run_makeChan (P := Try.prog) (w := w) Try.underlying51 hi .i64 n (by omega) (by rw [hb]; omega)
theorem hvs_size (l : List S34) : (hvs l).size = l.length := by simp [hvs]
theorem len_of {w : World} {c cap : Nat} {l : List S34} {closed : Bool} {s r : Nat} (h : w.heap[c]? = some (.chan cap (hvs l) closed s r false)) (ty : TypeId) : (Builtin.len_ #[51] ty #[.chan (some c)]).run Try.prog w = .ok (.int .i64 (l.length : Int)) w := by
  have := run_len_chan (P := Try.prog) 51 ty Try.underlying51 h
  rwa [hvs_size] at this
theorem cap_of {w : World} {c cap : Nat} {l : List S34} {closed : Bool} {s r : Nat} (h : w.heap[c]? = some (.chan cap (hvs l) closed s r false)) (ty : TypeId) : (Builtin.cap_ #[51] ty #[.chan (some c)]).run Try.prog w = .ok (.int .i64 (cap : Int)) w := run_cap_chan (P := Try.prog) 51 ty Try.underlying51 h
theorem queue_New.bad (n : Int) (w : World) (hn : n < 1 ∨ 4096 < n) : Calls Try.prog 7 #[.int .i64 n] w fun e w' => e = .returned (.tuple #[.pointer none, .int .i64 2]) ∧ w = w' := by
  by_cases h1 : n < 1
  · have h2 : decide (n < 1) = true := decide_eq_true h1
    clear hn
    go_enter Try.func7, Try.ntmps7
    go_wp2
    go_ret2
    exact ⟨rfl, rfl⟩
  · have h2 : decide (n < 1) = false := decide_eq_false h1
    have h3 : decide (n > 4096) = true := decide_eq_true (by omega)
    clear hn
    go_enter Try.func7, Try.ntmps7
    go_wp2
    go_ret2
    exact ⟨rfl, rfl⟩
theorem queue_New.ok (n : Nat) (w : World) (h1 : 1 ≤ n) (h2 : n ≤ 4096) : Calls Try.prog 7 #[.int .i64 (n : Int)] w fun e w' => ∃ g c, e = .returned (.tuple #[.pointer (some ⟨g, 0, none⟩), .int .i64 0]) ∧ QAt w' w.heap.size g c n [] false ∧ Below w.heap.size w w' := by
  have hm := mkc n h2
  have e1 : decide ((n : Int) < 1) = false := decide_eq_false (by omega)
  have e2 : decide ((n : Int) > 4096) = false := decide_eq_false (by omega)
  go_enter Try.func7, Try.ntmps7
  go_wp2
  go_ret2
  have hb : Below w.heap.size w ((w.alloc (.chan n #[] false 0 0 false)).alloc (.cells #[.chan (some w.heap.size), .bool false] 53)) := below_alloc (below_alloc (Below.refl _ _) _) _
  have hc : (w.alloc (.chan n #[] false 0 0 false)).heap[w.heap.size]? = some (.chan n #[] false 0 0 false) := blk_new w _
  refine ⟨w.heap.size + 1, w.heap.size, rfl, ⟨by omega, Nat.le_refl _, by omega, ?_, 0, 0, ?_⟩, hb⟩
  · have h := blk_new (w.alloc (.chan n #[] false 0 0 false)) (.cells #[.chan (some w.heap.size), .bool false] 53)
    simpa using h
  · exact blk_below hc (below_alloc (Below.refl _ _) _)
section
variable (base g c cap : Nat) (l : List S34) (closed : Bool) (w : World) (hQ : QAt w base g c cap l closed)
include hQ
theorem queue_Len.calls_ : Calls Try.prog 9 #[.pointer (some ⟨g, 0, none⟩)] w fun e w' => e = .returned (.int .i64 (l.length : Int)) ∧ w = w' := by
  obtain ⟨q1, q2, q3, hbk, s, r, hch⟩ := hQ
  obtain ⟨⟨i0, i1⟩, u0, u1⟩ := cell2 hbk
  have hl := len_of hch
  clear hbk hch
  go_enter Try.func9, Try.ntmps9
  go_wp2
  go_ret
  exact ⟨rfl, rfl⟩
theorem queue_Over.calls_ : Calls Try.prog 12 #[.pointer (some ⟨g, 0, none⟩)] w fun e w' => e = .returned (.bool (closed && decide (l.length = 0))) ∧ w = w' := by
  obtain ⟨q1, q2, q3, hbk, s, r, hch⟩ := hQ
  obtain ⟨⟨i0, i1⟩, u0, u1⟩ := cell2 hbk
  have hl := len_of hch
  clear hbk hch
  cases closed with
  | false =>
    go_enter Try.func12, Try.ntmps12
    go_wp2
    go_ret
    exact ⟨rfl, rfl⟩
  | true =>
    cases l with
    | nil =>
      go_enter Try.func12, Try.ntmps12
      go_wp2
      go_ret
      exact ⟨rfl, rfl⟩
    | cons x l =>
      have hz : (((x :: l).length : Int) == 0) = false := beq_false_of_ne (by simp; omega)
      generalize hk : (x :: l).length = k at hl hz ⊢
      have hk0 : decide (k = 0) = false := decide_eq_false (by rw [← hk]; simp)
      rw [hk0]
      clear hk hk0
      go_enter Try.func12, Try.ntmps12
      go_wp2
      go_ret
      exact ⟨rfl, rfl⟩
theorem queue_Room.calls_ (hl : l.length ≤ cap) (hc : cap ≤ 4096) : Calls Try.prog 10 #[.pointer (some ⟨g, 0, none⟩)] w fun e w' => e = .returned (.int .i64 (if closed = true then 0 else (cap : Int) - (l.length : Int))) ∧ Below w.heap.size w w' := by
  obtain ⟨q1, q2, q3, hbk, s, r, hch⟩ := hQ
  obtain ⟨⟨i0, i1⟩, u0, u1⟩ := cell2 hbk
  cases closed with
  | true =>
    clear hbk hch
    go_enter Try.func10, Try.ntmps10
    go_wp2
    go_ret
    exact ⟨rfl, Below.refl _ _⟩
  | false =>
    have hw : IntKind.i64.wrap ((cap : Int) - (l.length : Int)) = (cap : Int) - (l.length : Int) := by rw [IntKind.wrap_i64]; omega
    go_enter Try.func10, Try.ntmps10
    have hl1 : ∀ ty, (Builtin.len_ #[51] ty #[.chan (some c)]).run Try.prog w.drew = .ok (.int .i64 (l.length : Int)) w.drew := len_of (w := w.drew) hch
    have hl2 : ∀ ty, (Builtin.cap_ #[51] ty #[.chan (some c)]).run Try.prog w.drew = .ok (.int .i64 (cap : Int)) w.drew := cap_of (w := w.drew) hch
    clear hbk hch
    go_upto_region 3 with fail
    go_region
    all_goals
      go_wp2
      go_ret
      exact ⟨rfl, below_drew1 (Below.refl _ _)⟩
end
theorem queue_Close.again (base g c cap : Nat) (l : List S34) (w : World) (hQ : QAt w base g c cap l true) : Calls Try.prog 15 #[.pointer (some ⟨g, 0, none⟩)] w fun e w' => e = .returned (.int .i64 12) ∧ w = w' := by
  obtain ⟨q1, q2, q3, hbk, s, r, hch⟩ := hQ
  obtain ⟨⟨i0, i1⟩, u0, u1⟩ := cell2 hbk
  clear hbk hch
  go_enter Try.func15, Try.ntmps15
  go_wp2
  go_ret
  exact ⟨rfl, rfl⟩
theorem queue_Close.ok (base g c cap : Nat) (l : List S34) (w : World) (hQ : QAt w base g c cap l false) : Calls Try.prog 15 #[.pointer (some ⟨g, 0, none⟩)] w fun e w' => e = .returned (.int .i64 0) ∧ QAt w' base g c cap l true ∧ Kept w w' (fun k => k = g ∨ k = c) ∧ (∀ B w0, B ≤ base → B ≤ w.heap.size → Below B w0 w → Below B w0 w') := by
  obtain ⟨q1, q2, q3, hbk, s, r, hch⟩ := hQ
  obtain ⟨⟨i0, i1⟩, u0, u1⟩ := cell2 hbk
  have hch1 : (w.setCell ⟨g, 1, none⟩ (.bool true)).heap[c]? = some (.chan cap (hvs l) false s r false) := (Below.heap_setCell w ⟨g, 1, none⟩ (.bool true) c (Ne.symm q3)).trans hch
  have hcl : ∀ ats ty, (Builtin.close_ ats ty #[.chan (some c)]).run Try.prog (w.setCell ⟨g, 1, none⟩ (.bool true)) = .ok (.tuple #[]) ((w.setCell ⟨g, 1, none⟩ (.bool true)).setChan c cap (hvs l) true s r false) := fun ats ty => run_close_open (P := Try.prog) ats ty hch1
  have K : Aside0 (Kept w ((w.setCell ⟨g, 1, none⟩ (.bool true)).setChan c cap (hvs l) true s r false) (fun k => k = g ∨ k = c)) := ⟨((Kept.refl w (fun k => k = g ∨ k = c)).setCell (.inl (.inl rfl)) _).then_ (kept_set _ _ _ _ _ _ _ _) (fun k hk => .inl (.inr hk))⟩
  have Q : Aside0 (QAt ((w.setCell ⟨g, 1, none⟩ (.bool true)).setChan c cap (hvs l) true s r false) base g c cap l true) := ⟨q1, q2, q3, (setChan_other _ _ _ _ _ _ _ _ _ (Ne.symm q3)).trans (blk_put (cs := #[.chan (some c), .bool false]) hbk 1 (.bool true) rfl), s, r, heap_setChan _ _ _ _ _ _ _ _ (blk_lt hch1)⟩
  clear hbk hch hch1
  go_enter Try.func15, Try.ntmps15
  go_wp2
  refine bodyPost_ret (v := .int .i64 0) (by simp [results, Try.results15, go_sem]) rfl ?_
  exact ⟨rfl, Q.out, K.out, fun B w0 h1 h2 h3 => below_setChan (h3.setCell (p := ⟨g, 1, none⟩) (Nat.le_trans h1 q1) _) (Nat.le_trans h1 q2) _ _ _ _ _ _⟩
theorem queue_Put.over (base g c cap : Nat) (l : List S34) (x : S34) (w : World) (hQ : QAt w base g c cap l true) : Calls Try.prog 14 #[.pointer (some ⟨g, 0, none⟩), .agg #[.int .i64 x.f0, .int .i64 x.f1]] w fun e w' => e = .returned (.int .i64 12) ∧ Below w.heap.size w w' := by
  obtain ⟨q1, q2, q3, hbk, s, r, hch⟩ := hQ
  obtain ⟨⟨i0, i1⟩, u0, u1⟩ := cell2 hbk
  have hn0 := World.new_ne w _ i0
  have hn1 := World.new_ne w _ i1
  have hg0 := blk_lt hbk
  clear hbk hch
  go_enter Try.func14, Try.ntmps14
  go_wp2
  go_ret
  exact ⟨rfl, below_alloc (Below.refl _ _) _⟩
/-! ### the nil queue -/
theorem nil_Put (x : S34) (w : World) : Calls Try.prog 14 #[.pointer none, .agg #[.int .i64 x.f0, .int .i64 x.f1]] w fun e w' => e = .returned (.int .i64 1) ∧ Below w.heap.size w w' := by
  go_enter Try.func14, Try.ntmps14
  go_wp2
  go_ret
  exact ⟨rfl, below_alloc (Below.refl _ _) _⟩
theorem nil_Take (w : World) : Calls Try.prog 13 #[.pointer none] w fun e w' => e = .returned (.tuple #[.agg #[.int .i64 0, .int .i64 0], .bool false]) ∧ Below w.heap.size w w' := by
  have hu34 := Try.underlying34
  go_enter Try.func13, Try.ntmps13
  go_wp2
  refine bodyPost_ret (v := .tuple #[.agg #[.int .i64 0, .int .i64 0], .bool false]) (by simp [results, Try.results13, go_sem]) rfl ⟨rfl, below_alloc (Below.refl _ _) _⟩
theorem nil_Close (w : World) : Calls Try.prog 15 #[.pointer none] w fun e w' => e = .returned (.int .i64 1) ∧ w = w' := by
  go_enter Try.func15, Try.ntmps15
  go_wp2
  go_ret
  exact ⟨rfl, rfl⟩
theorem nil_Len (w : World) : Calls Try.prog 9 #[.pointer none] w fun e w' => e = .returned (.int .i64 0) ∧ w = w' := by
  go_enter Try.func9, Try.ntmps9
  go_wp2
  go_ret
  exact ⟨rfl, rfl⟩
theorem nil_Room (w : World) : Calls Try.prog 10 #[.pointer none] w fun e w' => e = .returned (.int .i64 0) ∧ w = w' := by
  go_enter Try.func10, Try.ntmps10
  go_wp2
  go_ret
  exact ⟨rfl, rfl⟩
theorem nil_Over (w : World) : Calls Try.prog 12 #[.pointer none] w fun e w' => e = .returned (.bool true) ∧ w = w' := by
  go_enter Try.func12, Try.ntmps12
  go_wp2
  go_ret
  exact ⟨rfl, rfl⟩
theorem nil_Drain (w : World) : Calls Try.prog 17 #[.pointer none] w fun e w' => e = .returned (.slice none 0 0) ∧ w = w' := by
  go_enter Try.func17, Try.ntmps17
  go_wp2
  go_loop [3] (fun v3 => v3 = .slice none 0 0) (fun _ => 0)
  case atStart => rfl
  case round =>
    subst hrel
    go_wp2_with (first | (go_at_call 9; (refine (nil_Len _).mono ?_); rintro e w3 ⟨rfl, rfl⟩) | fail)
    go_ret
    exact ⟨rfl, rfl⟩
theorem nil_Fill (A : Option Addr) (cp : Nat) (xs : List S34) (w : World) (hx : Kd.C k34 w A xs.length xs) (hc : xs.length ≤ cp) (hl : xs.length ≤ 5000) : Calls Try.prog 16 #[.pointer none, .slice A xs.length cp] w fun e w' => e = .returned (.int .i64 0) ∧ Below w.heap.size w w' := by
  by_cases h0 : xs.length = 0
  · obtain rfl := List.eq_nil_of_length_eq_zero h0
    clear hx hc hl h0
    go_enter Try.func16, Try.ntmps16
    go_wp2
    go_loop [9] (fun v9 => v9 = .int .i64 0) (fun _ => 0)
    case atStart => rfl
    case round =>
      subst hrel
      go_wp2
      go_ret
      exact ⟨rfl, Below.refl _ _⟩
  · obtain ⟨ad, e, hc0, hc1⟩ := at_T34 hx 0 (Int.le_refl _) (by omega)
    subst e
    have ea : ad.add 0 = ad := by simp [Addr.add]
    simp only [Int.toNat_zero, Nat.zero_mul, ea] at hc0 hc1
    clear ea
    generalize rd_T34 xs 0 = y at hc0 hc1
    have hp : decide ((0 : Int) < (xs.length : Int)) = true := decide_eq_true (by omega)
    have hn0 := World.new_ne w _ hc0
    have hn1 := World.new_ne w _ hc1
    have hp' : 0 < xs.length := by omega
    clear hx
    go_enter Try.func16, Try.ntmps16
    go_wp2
    refine wp_loop_rounds 1 ?_; rw [rounds_succ]
    go_wp2_with (first | (go_at_call 14; (refine (nil_Put y _).mono ?_); rintro e w3 ⟨rfl, hb3⟩; have B3 := Aside0.mk hb3; clear hb3) | fail)
    go_ret
    exact ⟨rfl, below_step (below_alloc (Below.refl _ _) _) B3.out⟩
end Go.Proofs.Ytphmeljhfbahoaa.PQ
