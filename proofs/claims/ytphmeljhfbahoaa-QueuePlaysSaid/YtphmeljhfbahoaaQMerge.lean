/- The queue's Merge: what two queues tell together. -/
import Derived.Test.YtphmeljhfbahoaaQLoops
import Derived.Test.YtphmeljhfbahoaaQPlain
set_option linter.unusedVariables false
set_option linter.unusedSimpArgs false
namespace Go.Proofs.Ytphmeljhfbahoaa.PQ
open Go.Conc Go.RowKit Go.Proofs.YtphmeljhfbahoaaW.PrintWords Go.Proofs.YtphmeljhfbahoaaW.PrintLast Go.Proofs.YtphmeljhfbahoaaW.PrintMore
def hd (l : List S34) : S34 := l.headD z34
theorem queue_Take.all (base g c cap : Nat) (l : List S34) (closed : Bool) (w : World) (hQ : QAt w base g c cap l closed) :
    Calls Try.prog 13 #[.pointer (some ⟨g, 0, none⟩)] w fun e w' => e = .returned (.tuple #[.agg #[.int .i64 (hd l).f0, .int .i64 (hd l).f1], .bool (!l.isEmpty)]) ∧ QAt w' base g c cap l.tail closed ∧ Kept w w' (fun k => k = c) ∧ Fam base w w' := by
  cases l with
  | nil =>
    cases closed with
    | false => exact queue_Take.none_ base g c cap w hQ
    | true => exact queue_Take.shut_ base g c cap w hQ
  | cons x l => exact queue_Take.some_ base g c cap x l closed w hQ
/-- What stands while two queues are taken together. -/
def MI (w0 w wr : World) (ga ca capa gb cb capb b6 b8 : Nat) (cla clb : Bool) (x y : S34) (qa qb : List S34) : Prop :=
  wr.heap[b6]? = some (.cells #[.int .i64 x.f0, .int .i64 x.f1] 34 (0, 0)) ∧ wr.heap[b8]? = some (.cells #[.int .i64 y.f0, .int .i64 y.f1] 34 (0, 0)) ∧ QAt wr w0.heap.size ga ca capa qa cla ∧ QAt wr w0.heap.size gb cb capb qb clb ∧ Kept w wr (fun k => k = ca ∨ k = cb) ∧ Below w0.heap.size w0 wr
/-- The blocks are apart, and older than what the call makes. -/
def Apart (w0 w : World) (ga ca gb cb b6 b8 : Nat) : Prop := (ga < w.heap.size ∧ ca < w.heap.size ∧ gb < w.heap.size ∧ cb < w.heap.size) ∧ (w.heap.size ≤ b6 ∧ w.heap.size ≤ b8 ∧ b6 ≠ b8) ∧ (ga ≠ cb ∧ gb ≠ ca ∧ ca ≠ cb) ∧ w0.heap.size ≤ w.heap.size
section
variable {w0 w wr W' : World} {ga ca capa gb cb capb b6 b8 : Nat} {cla clb : Bool} {x y : S34} {qa qb : List S34}
theorem MI.step {S : Nat → Prop} (h : MI w0 w wr ga ca capa gb cb capb b6 b8 cla clb x y qa qb) (hA : Apart w0 w ga ca gb cb b6 b8) (hb : Below w0.heap.size w0 W') (hk : Kept wr W' S) (hS : ∀ k, S k → w.heap.size ≤ k ∧ k ≠ b6 ∧ k ≠ b8) : MI w0 w W' ga ca capa gb cb capb b6 b8 cla clb x y qa qb := by
  obtain ⟨h1, h2, h3, h4, h5, h6⟩ := h
  obtain ⟨⟨a1, a2, a3, a4⟩, ⟨a5, a6, a7⟩, _⟩ := hA
  exact ⟨blk_kept h1 hk (fun e => (hS _ e).2.1 rfl), blk_kept h2 hk (fun e => (hS _ e).2.2 rfl), h3.kept hk (fun e => by have := (hS _ e).1; omega) (fun e => by have := (hS _ e).1; omega), h4.kept hk (fun e => by have := (hS _ e).1; omega) (fun e => by have := (hS _ e).1; omega), h5.then_ hk (fun k hk => .inr (hS k hk).1), hb⟩
theorem MI.below (h : MI w0 w wr ga ca capa gb cb capb b6 b8 cla clb x y qa qb) (hA : Apart w0 w ga ca gb cb b6 b8) (hb : Below wr.heap.size wr W') : MI w0 w W' ga ca capa gb cb capb b6 b8 cla clb x y qa qb :=
  h.step hA (below_step h.2.2.2.2.2 hb) (Kept.of_below hb (fun _ => False)) (fun _ e => e.elim)
theorem MI.take_a {qa' : List S34} (h : MI w0 w wr ga ca capa gb cb capb b6 b8 cla clb x y qa qb) (hA : Apart w0 w ga ca gb cb b6 b8) (hq : QAt W' w0.heap.size ga ca capa qa' cla) (hk : Kept wr W' (fun k => k = ca)) (hf : Fam w0.heap.size wr W') : MI w0 w W' ga ca capa gb cb capb b6 b8 cla clb x y qa' qb := by
  obtain ⟨h1, h2, h3, h4, h5, h6⟩ := h
  obtain ⟨⟨a1, a2, a3, a4⟩, ⟨a5, a6, a7⟩, ⟨a8, a9, a10⟩, a11⟩ := hA
  exact ⟨blk_kept h1 hk (by omega), blk_kept h2 hk (by omega), hq, h4.kept hk a9 (Ne.symm a10), h5.then_ hk (fun k e => .inl (.inl e)), hf _ _ (Nat.le_refl _) h6.size h6⟩
theorem MI.take_b {qb' : List S34} (h : MI w0 w wr ga ca capa gb cb capb b6 b8 cla clb x y qa qb) (hA : Apart w0 w ga ca gb cb b6 b8) (hq : QAt W' w0.heap.size gb cb capb qb' clb) (hk : Kept wr W' (fun k => k = cb)) (hf : Fam w0.heap.size wr W') : MI w0 w W' ga ca capa gb cb capb b6 b8 cla clb x y qa qb' := by
  obtain ⟨h1, h2, h3, h4, h5, h6⟩ := h
  obtain ⟨⟨a1, a2, a3, a4⟩, ⟨a5, a6, a7⟩, ⟨a8, a9, a10⟩, a11⟩ := hA
  exact ⟨blk_kept h1 hk (by omega), blk_kept h2 hk (by omega), h3.kept hk a8 a10, hq, h5.then_ hk (fun k e => .inl (.inr e)), hf _ _ (Nat.le_refl _) h6.size h6⟩
theorem kept_put (W : World) (b : Nat) (u v : Value) : Kept W ((W.setCell ⟨b, 0, none⟩ u).setCell ⟨b, 1, none⟩ v) (fun k => k = b) := ((Kept.refl W (fun k => k = b)).setCell (.inl rfl) _).setCell (.inl rfl) _
theorem MI.put6 (h : MI w0 w wr ga ca capa gb cb capb b6 b8 cla clb x y qa qb) (hA : Apart w0 w ga ca gb cb b6 b8) (z : S34) : MI w0 w ((wr.setCell ⟨b6, 0, none⟩ (.int .i64 z.f0)).setCell ⟨b6, 1, none⟩ (.int .i64 z.f1)) ga ca capa gb cb capb b6 b8 cla clb z y qa qb := by
  obtain ⟨h1, h2, h3, h4, h5, h6⟩ := h
  obtain ⟨⟨a1, a2, a3, a4⟩, ⟨a5, a6, a7⟩, ⟨a8, a9, a10⟩, a11⟩ := hA
  have hk := kept_put wr b6 (.int .i64 z.f0) (.int .i64 z.f1)
  exact ⟨blk_put (cs := #[.int .i64 z.f0, .int .i64 x.f1]) (blk_put (cs := #[.int .i64 x.f0, .int .i64 x.f1]) h1 0 _ rfl) 1 _ rfl, blk_kept h2 hk (Ne.symm a7), h3.kept hk (by omega) (by omega), h4.kept hk (by omega) (by omega), h5.then_ hk (fun k e => .inr (by rw [e]; exact a5)), (h6.setCell (p := ⟨b6, 0, none⟩) (Nat.le_trans a11 a5) _).setCell (p := ⟨b6, 1, none⟩) (Nat.le_trans a11 a5) _⟩
theorem MI.put8 (h : MI w0 w wr ga ca capa gb cb capb b6 b8 cla clb x y qa qb) (hA : Apart w0 w ga ca gb cb b6 b8) (z : S34) : MI w0 w ((wr.setCell ⟨b8, 0, none⟩ (.int .i64 z.f0)).setCell ⟨b8, 1, none⟩ (.int .i64 z.f1)) ga ca capa gb cb capb b6 b8 cla clb x z qa qb := by
  obtain ⟨h1, h2, h3, h4, h5, h6⟩ := h
  obtain ⟨⟨a1, a2, a3, a4⟩, ⟨a5, a6, a7⟩, ⟨a8, a9, a10⟩, a11⟩ := hA
  have hk := kept_put wr b8 (.int .i64 z.f0) (.int .i64 z.f1)
  exact ⟨blk_kept h1 hk a7, blk_put (cs := #[.int .i64 z.f0, .int .i64 y.f1]) (blk_put (cs := #[.int .i64 y.f0, .int .i64 y.f1]) h2 0 _ rfl) 1 _ rfl, h3.kept hk (by omega) (by omega), h4.kept hk (by omega) (by omega), h5.then_ hk (fun k e => .inr (by rw [e]; exact a6)), (h6.setCell (p := ⟨b8, 0, none⟩) (Nat.le_trans a11 a6) _).setCell (p := ⟨b8, 1, none⟩) (Nat.le_trans a11 a6) _⟩
/-- The row of what is told: new, and none of the two boxes. -/
abbrev okM (w : World) (b6 b8 : Nat) : Nat → Prop := fun k => w.heap.size ≤ k ∧ k ≠ b6 ∧ k ≠ b8
end
theorem hd_cons (x : S34) (l : List S34) : hd (x :: l) = x := rfl
theorem hd_tail (x : S34) (l : List S34) : (x :: l).tail = l := rfl
set_option maxHeartbeats 16000000 in
set_option maxRecDepth 100000 in
theorem queue_Merge.calls_ (w0 : World) (ga ca capa gb cb capb : Nat) (la lb : List S34) (cla clb : Bool) (w : World) (hb0 : Below w0.heap.size w0 w) (hQa : QAt w w0.heap.size ga ca capa la cla) (hQb : QAt w w0.heap.size gb cb capb lb clb) (hne : ga ≠ cb ∧ gb ≠ ca ∧ ca ≠ cb) (hla : la.length ≤ 1000) (hlb : lb.length ≤ 1000) :
    Calls Try.prog 18 #[.pointer (some ⟨ga, 0, none⟩), .pointer (some ⟨gb, 0, none⟩)] w fun e w' => ∃ v, e = .returned v ∧ Kd.R k34 34 w' w0.heap.size (fun k => w.heap.size ≤ k) v (mergeS la lb) ∧ QAt w' w0.heap.size ga ca capa [] cla ∧ QAt w' w0.heap.size gb cb capb [] clb ∧ Kept w w' (fun k => k = ca ∨ k = cb) ∧ Below w0.heap.size w0 w' := by
  have LA := Aside0.mk hQa.lt
  have LB := Aside0.mk hQb.lt
  have QA := Aside0.mk hQa
  have QB := Aside0.mk hQb
  have HB := Aside0.mk hb0
  have NE := Aside0.mk hne
  have LM := Aside0.mk (merge_len _ la lb rfl)
  clear hQa hQb hb0 hne
  go_enter Try.func18, Try.ntmps18
  go_upto_region 3 with (first | (go_at_call 13; (refine (queue_Take.all _ ga ca capa la cla _ QA.out).mono ?_); rintro e w1 ⟨rfl, hq, hk, hf⟩; have QA1 := Aside0.mk (hq.below (below_alloc (Below.refl _ _) (.cells #[.int .i64 (hd la).f0, .int .i64 (hd la).f1] 34))); have QB1 := Aside0.mk ((QB.out.kept hk NE.out.2.1 (Ne.symm NE.out.2.2)).below (below_alloc (Below.refl _ _) (.cells #[.int .i64 (hd la).f0, .int .i64 (hd la).f1] 34))); have K1 := Aside0.mk (hk.alloc (.cells #[.int .i64 (hd la).f0, .int .i64 (hd la).f1] 34)); have B1 := Aside0.mk ((hf _ _ (Nat.le_refl _) HB.out.size HB.out).alloc (Nat.le_trans HB.out.size hk.1) (.cells #[.int .i64 (hd la).f0, .int .i64 (hd la).f1] 34)); have X1 := Aside0.mk (blk_new w1 (.cells #[.int .i64 (hd la).f0, .int .i64 (hd la).f1] 34)); have G1 := Aside0.mk hk.1; clear hq hk hf) | fail)
  generalize w1.alloc (.cells #[.int .i64 (hd la).f0, .int .i64 (hd la).f1] 34) = w2 at QA1 QB1 K1 B1 X1 ⊢
  generalize w1.heap.size = b6 at X1 G1 ⊢
  go_upto_region 4 with (first | (go_at_call 13; (refine (queue_Take.all _ gb cb capb lb clb _ QB1.out).mono ?_); rintro e w3 ⟨rfl, hq, hk, hf⟩; have QB2 := Aside0.mk (hq.below (below_alloc (Below.refl _ _) (.cells #[.int .i64 (hd lb).f0, .int .i64 (hd lb).f1] 34))); have QA2 := Aside0.mk ((QA1.out.kept hk NE.out.1 NE.out.2.2).below (below_alloc (Below.refl _ _) (.cells #[.int .i64 (hd lb).f0, .int .i64 (hd lb).f1] 34))); have K2 : Aside0 (Kept w (w3.alloc (.cells #[.int .i64 (hd lb).f0, .int .i64 (hd lb).f1] 34)) (fun k => k = ca ∨ k = cb)) := ⟨((K1.out.mono (fun _ e => .inl e)).then_ hk (fun k e => .inl (.inr e))).alloc (.cells #[.int .i64 (hd lb).f0, .int .i64 (hd lb).f1] 34)⟩; have B2 := Aside0.mk ((hf _ _ (Nat.le_refl _) B1.out.size B1.out).alloc (Nat.le_trans B1.out.size hk.1) (.cells #[.int .i64 (hd lb).f0, .int .i64 (hd lb).f1] 34)); have X2 := Aside0.mk (blk_below (blk_kept X1.out hk (by have h1 := LB.out.2; have h2 := G1.out; omega)) (below_alloc (Below.refl _ _) (.cells #[.int .i64 (hd lb).f0, .int .i64 (hd lb).f1] 34))); have Y2 := Aside0.mk (blk_new w3 (.cells #[.int .i64 (hd lb).f0, .int .i64 (hd lb).f1] 34)); have G2 := Aside0.mk (show w.heap.size ≤ w3.heap.size ∧ b6 ≠ w3.heap.size from ⟨Nat.le_trans K1.out.1 hk.1, by have h1 := blk_lt X1.out; have h2 := hk.1; omega⟩); clear hq hk hf) | fail)
  generalize w3.alloc (.cells #[.int .i64 (hd lb).f0, .int .i64 (hd lb).f1] 34) = w4 at QA2 QB2 K2 B2 X2 Y2 ⊢
  generalize w3.heap.size = b8 at Y2 G2 ⊢
  have AP : Aside0 (Apart w0 w ga ca gb cb b6 b8) := ⟨⟨LA.out.1, LA.out.2, LB.out.1, LB.out.2⟩, ⟨G1.out, G2.out.1, G2.out.2⟩, NE.out, HB.out.size⟩
  have MS : Aside0 (MI w0 w w4 ga ca capa gb cb capb b6 b8 cla clb (hd la) (hd lb) la.tail lb.tail) := ⟨X2.out, Y2.out, QA2.out, QB2.out, K2.out, B2.out⟩
  clear QA QB HB NE LA LB QA1 QB1 K1 B1 X1 G1 QA2 QB2 K2 B2 X2 Y2 G2
  go_loopg [5, 7, 9] (la.length + lb.length + 1) (fun kq v5 v7 v9 wr => ∃ done ra rb : List S34, Aside0 (done ++ mergeS ra rb = mergeS la lb) ∧ Aside0 (ra.length + rb.length < kq ∧ kq ≤ la.length + lb.length + 1) ∧ v7 = .bool (!ra.isEmpty) ∧ v9 = .bool (!rb.isEmpty) ∧ Aside0 (Kd.R k34 34 wr w0.heap.size (okM w b6 b8) v5 done) ∧ Aside0 (MI w0 w wr ga ca capa gb cb capb b6 b8 cla clb (hd ra) (hd rb) ra.tail rb.tail))
  case atStart => exact ⟨[], la, lb, ⟨rfl⟩, ⟨by omega⟩, rfl, rfl, ⟨Kd.R_nil _ _ _ _ _⟩, MS⟩
  case round =>
    clear MS
    obtain ⟨done, ra, rb, E, ME, rfl, rfl, O, M⟩ := hrel
    obtain ⟨Ao, co, rfl⟩ := Kd.R_slice O.out
    have LE := Aside0.mk (show done.length + (ra.length + rb.length) = la.length + lb.length by have h := congrArg List.length E.out; rw [List.length_append, merge_len _ ra rb rfl, LM.out] at h; exact h)
    cases gk with
    | zero => exact absurd ME.out (by omega)
    | succ k1 =>
      cases ra with
      | nil =>
        cases rb with
        | nil =>
          have ED : Aside0 (done = mergeS la lb) := ⟨by have h := E.out; rwa [merge_nil_l, List.append_nil] at h⟩
          go_wp2
          refine bodyPost_ret (v := .slice Ao done.length co) (by simp [results, Try.results18, go_sem]) rfl ?_
          exact ⟨_, rfl, by rw [← ED.out]; exact Kd.R_mono O.out (fun k hk => hk.1), M.out.2.2.1, M.out.2.2.2.1, M.out.2.2.2.2.1, M.out.2.2.2.2.2⟩
        | cons y rb =>
          simp only [hd_cons, hd_tail] at M
          have LD := Aside0.mk (show done.length ≤ 5000 by have := LE.out; omega)
          simp only [List.isEmpty_nil, List.isEmpty_cons, Bool.not_true, Bool.not_false] at *
          obtain ⟨⟨i0, i1⟩, u0, u1⟩ := cell2 M.out.1
          obtain ⟨⟨k0, k1_⟩, v0, v1⟩ := cell2 M.out.2.1
          go_upto_region 9 with (first | (at_builtin; refine Kd.R_append k34 (w0 := w0) w0.heap.size rfl (.tmp 43) (.tmp 45) 28 34 (.agg #[(.int .i64 0), (.int .i64 0)]) 16 rfl Try.underlying28 info34 rfl (by decide) (by omega) (.slice Ao done.length co) done y [.int .i64 y.f0, .int .i64 y.f1] (okM w b6 b8) (fun _ => False) rfl rfl ?aP (fun _ hk => hk.elim) ?aF ?aO ?aB ?aS ?aL ?_; (case aP => exact k34_mkM _ _ _ y); (case aB => exact M.out.2.2.2.2.2); (case aF => exact (fun k hk => by have h1 := M.out.2.2.2.2.1.1; have h2 := blk_lt M.out.1; have h3 := blk_lt M.out.2.1; exact ⟨by omega, by omega, by omega⟩)); (case aO => exact O.out); (case aS => exact M.out.2.2.2.2.2.size); (case aL => have := LD.out; omega); intro v9 w9 ho hb hg hat; obtain ⟨Ap, cp, rfl⟩ := Kd.R_slice ho; have O4 := Aside0.mk ho; have M4 := Aside0.mk (M.out.step AP.out hb (Kept.of_grown hg (Kept.refl _ (okM w b6 b8)) (fun k e => .inl (O.out.1 k e))) (fun k e => e)); clear ho hb hg hat M O) | fail)
          go_wp2_with (first | (go_at_call 13; (refine (queue_Take.all _ gb cb capb rb clb _ M4.out.2.2.2.1).mono ?_); rintro e w10 ⟨rfl, hq, hk, hf⟩; have M5 := Aside0.mk (M4.out.take_b AP.out hq hk hf); have O5 := Aside0.mk (Kd.R_kept O4.out hk (fun k hk' e => by have := AP.out.1.2.2.2; have := hk'.1; omega)); clear hq hk hf M4 O4 i0 i1 u0 u1 k0 k1_ v0 v1; obtain ⟨⟨i0, i1⟩, u0, u1⟩ := cell2 M5.out.2.1) | fail)
          have O6 := Aside0.mk (Kd.R_far (p := ⟨b8, 1, none⟩) (Kd.R_far (p := ⟨b8, 0, none⟩) O5.out (fun k hk => hk.2.2) (.int .i64 (hd rb).f0)) (fun k hk => hk.2.2) (.int .i64 (hd rb).f1))
          have M6 := Aside0.mk (M5.out.put8 AP.out (hd rb))
          go_roundg k1
          case measure => have := ME.out; simp at this; omega
          case rel => exact ⟨done ++ [y], ([] : List S34), rb, ⟨by rw [List.append_assoc, List.singleton_append]; have h := E.out; rwa [merge_nil_l, ← merge_nil_l rb] at h⟩, ⟨by have := ME.out; simp at this ⊢; omega⟩, rfl, rfl, ⟨by have h := O6.out; rwa [snoc_len] at h⟩, M6⟩
      | cons x ra =>
        cases rb with
        | nil =>
          simp only [hd_cons, hd_tail] at M
          have LD := Aside0.mk (show done.length ≤ 5000 by have := LE.out; omega)
          simp only [List.isEmpty_nil, List.isEmpty_cons, Bool.not_true, Bool.not_false] at *
          obtain ⟨⟨i0, i1⟩, u0, u1⟩ := cell2 M.out.1
          obtain ⟨⟨k0, k1_⟩, v0, v1⟩ := cell2 M.out.2.1
          go_upto_region 7 with (first | (at_builtin; refine Kd.R_append k34 (w0 := w0) w0.heap.size rfl (.tmp 34) (.tmp 36) 28 34 (.agg #[(.int .i64 0), (.int .i64 0)]) 16 rfl Try.underlying28 info34 rfl (by decide) (by omega) (.slice Ao done.length co) done x [.int .i64 x.f0, .int .i64 x.f1] (okM w b6 b8) (fun _ => False) rfl rfl ?aP (fun _ hk => hk.elim) ?aF ?aO ?aB ?aS ?aL ?_; (case aP => exact k34_mkM _ _ _ x); (case aB => exact M.out.2.2.2.2.2); (case aF => exact (fun k hk => by have h1 := M.out.2.2.2.2.1.1; have h2 := blk_lt M.out.1; have h3 := blk_lt M.out.2.1; exact ⟨by omega, by omega, by omega⟩)); (case aO => exact O.out); (case aS => exact M.out.2.2.2.2.2.size); (case aL => have := LD.out; omega); intro v9 w9 ho hb hg hat; obtain ⟨Ap, cp, rfl⟩ := Kd.R_slice ho; have O4 := Aside0.mk ho; have M4 := Aside0.mk (M.out.step AP.out hb (Kept.of_grown hg (Kept.refl _ (okM w b6 b8)) (fun k e => .inl (O.out.1 k e))) (fun k e => e)); clear ho hb hg hat M O) | fail)
          go_wp2_with (first | (go_at_call 13; (refine (queue_Take.all _ ga ca capa ra cla _ M4.out.2.2.1).mono ?_); rintro e w10 ⟨rfl, hq, hk, hf⟩; have M5 := Aside0.mk (M4.out.take_a AP.out hq hk hf); have O5 := Aside0.mk (Kd.R_kept O4.out hk (fun k hk' e => by have := AP.out.1.2.1; have := hk'.1; omega)); clear hq hk hf M4 O4 i0 i1 u0 u1 k0 k1_ v0 v1; obtain ⟨⟨i0, i1⟩, u0, u1⟩ := cell2 M5.out.1) | fail)
          have O6 := Aside0.mk (Kd.R_far (p := ⟨b6, 1, none⟩) (Kd.R_far (p := ⟨b6, 0, none⟩) O5.out (fun k hk => hk.2.1) (.int .i64 (hd ra).f0)) (fun k hk => hk.2.1) (.int .i64 (hd ra).f1))
          have M6 := Aside0.mk (M5.out.put6 AP.out (hd ra))
          go_roundg k1
          case measure => have := ME.out; simp at this; omega
          case rel => exact ⟨done ++ [x], ra, ([] : List S34), ⟨by rw [List.append_assoc, List.singleton_append]; have h := E.out; rwa [merge_nil_r, ← merge_nil_r ra] at h⟩, ⟨by have := ME.out; simp at this ⊢; omega⟩, rfl, rfl, ⟨by have h := O6.out; rwa [snoc_len] at h⟩, M6⟩
        | cons y rb =>
          simp only [hd_cons, hd_tail] at M
          have LD := Aside0.mk (show done.length ≤ 5000 by have := LE.out; omega)
          simp only [List.isEmpty_nil, List.isEmpty_cons, Bool.not_true, Bool.not_false] at *
          by_cases hx : aheadE x y
          · have HX := Aside0.mk hx
            have HA := Aside0.mk (show queue_ahead.f x.f0 x.f1 y.f0 y.f1 = some true by rw [ahead_f, decide_eq_true hx])
            clear hx
            obtain ⟨⟨i0, i1⟩, u0, u1⟩ := cell2 M.out.1
            obtain ⟨⟨k0, k1_⟩, v0, v1⟩ := cell2 M.out.2.1
            go_upto_region 7 with (first | (go_at_call 25; (refine (queue_ahead.calls x.f0 x.f1 y.f0 y.f1 true _ HA.out).mono ?_); rintro e w6 ⟨rfl, hb6⟩; have M2 := Aside0.mk (M.out.below AP.out hb6); have O2 := Aside0.mk (Kd.R_below O.out hb6); clear M O i0 i1 u0 u1 k0 k1_ v0 v1 hb6; have M := M2; have O := O2; clear M2 O2; obtain ⟨⟨i0, i1⟩, u0, u1⟩ := cell2 M.out.1; obtain ⟨⟨k0, k1_⟩, v0, v1⟩ := cell2 M.out.2.1) | (at_builtin; refine Kd.R_append k34 (w0 := w0) w0.heap.size rfl (.tmp 34) (.tmp 36) 28 34 (.agg #[(.int .i64 0), (.int .i64 0)]) 16 rfl Try.underlying28 info34 rfl (by decide) (by omega) (.slice Ao done.length co) done x [.int .i64 x.f0, .int .i64 x.f1] (okM w b6 b8) (fun _ => False) rfl rfl ?aP (fun _ hk => hk.elim) ?aF ?aO ?aB ?aS ?aL ?_; (case aP => exact k34_mkM _ _ _ x); (case aB => exact M.out.2.2.2.2.2); (case aF => exact (fun k hk => by have h1 := M.out.2.2.2.2.1.1; have h2 := blk_lt M.out.1; have h3 := blk_lt M.out.2.1; exact ⟨by omega, by omega, by omega⟩)); (case aO => exact O.out); (case aS => exact M.out.2.2.2.2.2.size); (case aL => have := LD.out; omega); intro v9 w9 ho hb hg hat; obtain ⟨Ap, cp, rfl⟩ := Kd.R_slice ho; have O4 := Aside0.mk ho; have M4 := Aside0.mk (M.out.step AP.out hb (Kept.of_grown hg (Kept.refl _ (okM w b6 b8)) (fun k e => .inl (O.out.1 k e))) (fun k e => e)); clear ho hb hg hat M O) | fail)
            go_wp2_with (first | (go_at_call 13; (refine (queue_Take.all _ ga ca capa ra cla _ M4.out.2.2.1).mono ?_); rintro e w10 ⟨rfl, hq, hk, hf⟩; have M5 := Aside0.mk (M4.out.take_a AP.out hq hk hf); have O5 := Aside0.mk (Kd.R_kept O4.out hk (fun k hk' e => by have := AP.out.1.2.1; have := hk'.1; omega)); clear hq hk hf M4 O4 i0 i1 u0 u1 k0 k1_ v0 v1; obtain ⟨⟨i0, i1⟩, u0, u1⟩ := cell2 M5.out.1) | fail)
            have O6 := Aside0.mk (Kd.R_far (p := ⟨b6, 1, none⟩) (Kd.R_far (p := ⟨b6, 0, none⟩) O5.out (fun k hk => hk.2.1) (.int .i64 (hd ra).f0)) (fun k hk => hk.2.1) (.int .i64 (hd ra).f1))
            have M6 := Aside0.mk (M5.out.put6 AP.out (hd ra))
            go_roundg k1
            case measure => have := ME.out; simp at this; omega
            case rel => exact ⟨done ++ [x], ra, (y :: rb), ⟨by rw [List.append_assoc, List.singleton_append]; have h := E.out; rwa [merge_left HX.out] at h⟩, ⟨by have := ME.out; simp at this ⊢; omega⟩, rfl, rfl, ⟨by have h := O6.out; rwa [snoc_len] at h⟩, M6⟩
          · have HX := Aside0.mk hx
            have HA := Aside0.mk (show queue_ahead.f x.f0 x.f1 y.f0 y.f1 = some false by rw [ahead_f, decide_eq_false hx])
            clear hx
            obtain ⟨⟨i0, i1⟩, u0, u1⟩ := cell2 M.out.1
            obtain ⟨⟨k0, k1_⟩, v0, v1⟩ := cell2 M.out.2.1
            go_upto_region 9 with (first | (go_at_call 25; (refine (queue_ahead.calls x.f0 x.f1 y.f0 y.f1 false _ HA.out).mono ?_); rintro e w6 ⟨rfl, hb6⟩; have M2 := Aside0.mk (M.out.below AP.out hb6); have O2 := Aside0.mk (Kd.R_below O.out hb6); clear M O i0 i1 u0 u1 k0 k1_ v0 v1 hb6; have M := M2; have O := O2; clear M2 O2; obtain ⟨⟨i0, i1⟩, u0, u1⟩ := cell2 M.out.1; obtain ⟨⟨k0, k1_⟩, v0, v1⟩ := cell2 M.out.2.1) | (at_builtin; refine Kd.R_append k34 (w0 := w0) w0.heap.size rfl (.tmp 43) (.tmp 45) 28 34 (.agg #[(.int .i64 0), (.int .i64 0)]) 16 rfl Try.underlying28 info34 rfl (by decide) (by omega) (.slice Ao done.length co) done y [.int .i64 y.f0, .int .i64 y.f1] (okM w b6 b8) (fun _ => False) rfl rfl ?aP (fun _ hk => hk.elim) ?aF ?aO ?aB ?aS ?aL ?_; (case aP => exact k34_mkM _ _ _ y); (case aB => exact M.out.2.2.2.2.2); (case aF => exact (fun k hk => by have h1 := M.out.2.2.2.2.1.1; have h2 := blk_lt M.out.1; have h3 := blk_lt M.out.2.1; exact ⟨by omega, by omega, by omega⟩)); (case aO => exact O.out); (case aS => exact M.out.2.2.2.2.2.size); (case aL => have := LD.out; omega); intro v9 w9 ho hb hg hat; obtain ⟨Ap, cp, rfl⟩ := Kd.R_slice ho; have O4 := Aside0.mk ho; have M4 := Aside0.mk (M.out.step AP.out hb (Kept.of_grown hg (Kept.refl _ (okM w b6 b8)) (fun k e => .inl (O.out.1 k e))) (fun k e => e)); clear ho hb hg hat M O) | fail)
            go_wp2_with (first | (go_at_call 13; (refine (queue_Take.all _ gb cb capb rb clb _ M4.out.2.2.2.1).mono ?_); rintro e w10 ⟨rfl, hq, hk, hf⟩; have M5 := Aside0.mk (M4.out.take_b AP.out hq hk hf); have O5 := Aside0.mk (Kd.R_kept O4.out hk (fun k hk' e => by have := AP.out.1.2.2.2; have := hk'.1; omega)); clear hq hk hf M4 O4 i0 i1 u0 u1 k0 k1_ v0 v1; obtain ⟨⟨i0, i1⟩, u0, u1⟩ := cell2 M5.out.2.1) | fail)
            have O6 := Aside0.mk (Kd.R_far (p := ⟨b8, 1, none⟩) (Kd.R_far (p := ⟨b8, 0, none⟩) O5.out (fun k hk => hk.2.2) (.int .i64 (hd rb).f0)) (fun k hk => hk.2.2) (.int .i64 (hd rb).f1))
            have M6 := Aside0.mk (M5.out.put8 AP.out (hd rb))
            go_roundg k1
            case measure => have := ME.out; simp at this; omega
            case rel => exact ⟨done ++ [y], (x :: ra), rb, ⟨by rw [List.append_assoc, List.singleton_append]; have h := E.out; rwa [merge_right HX.out] at h⟩, ⟨by have := ME.out; simp at this ⊢; omega⟩, rfl, rfl, ⟨by have h := O6.out; rwa [snoc_len] at h⟩, M6⟩
end Go.Proofs.Ytphmeljhfbahoaa.PQ
