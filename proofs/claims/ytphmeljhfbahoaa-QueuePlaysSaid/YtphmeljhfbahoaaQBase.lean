/- A queue over this seat's program: its channel, and what each step does to it. -/
import Derived.Test.YtphmeljhfbahoaaPQx0
import Derived.Test.YtphmeljhfbahoaaWMore
import Derived.Test.YtphmeljhfbahoaaWKept
import Derived.Conc.LoneCalls
import Derived.Conc.LoneSelect
import Derived.Conc.LoneSelectN
import Derived.Outline
set_option linter.unusedVariables false
set_option linter.unusedSimpArgs false
namespace Go.Proofs.Ytphmeljhfbahoaa.PQ
open Go.Conc Go.RowKit Go.Proofs.YtphmeljhfbahoaaW.PrintWords Go.Proofs.YtphmeljhfbahoaaW.PrintLast Go.Proofs.YtphmeljhfbahoaaW.PrintMore
def hv (x : S34) : Value := .agg #[.int .i64 x.f0, .int .i64 x.f1]
def hvs (l : List S34) : Array Value := (l.map hv).toArray
/-- A queue in a block; its channel. -/
def QAt (W : World) (base g c cap : Nat) (l : List S34) (closed : Bool) : Prop :=
  base ≤ g ∧ base ≤ c ∧ g ≠ c ∧ W.heap[g]? = some (.cells #[.chan (some c), .bool closed] 53 (0, 0)) ∧ ∃ s r, W.heap[c]? = some (.chan cap (hvs l) closed s r false)
theorem QAt.kept {W W' : World} {base g c cap : Nat} {l : List S34} {closed : Bool} {S : Nat → Prop} (h : QAt W base g c cap l closed) (hk : Kept W W' S) (hg : ¬ S g) (hc : ¬ S c) : QAt W' base g c cap l closed := by
  obtain ⟨h1, h2, h3, h4, s, r, h5⟩ := h
  exact ⟨h1, h2, h3, blk_kept h4 hk hg, s, r, blk_kept h5 hk hc⟩
theorem QAt.below {W W' : World} {base g c cap : Nat} {l : List S34} {closed : Bool} (h : QAt W base g c cap l closed) (hb : Below W.heap.size W W') : QAt W' base g c cap l closed :=
  h.kept (Kept.of_below hb (fun _ => False)) (fun h => h) (fun h => h)
theorem QAt.lower {W : World} {base base' g c cap : Nat} {l : List S34} {closed : Bool} (h : QAt W base g c cap l closed) (hb : base' ≤ base) : QAt W base' g c cap l closed := by
  obtain ⟨h1, h2, h3⟩ := h
  exact ⟨Nat.le_trans hb h1, Nat.le_trans hb h2, h3⟩
theorem QAt.lt {W : World} {base g c cap : Nat} {l : List S34} {closed : Bool} (h : QAt W base g c cap l closed) : g < W.heap.size ∧ c < W.heap.size := by
  obtain ⟨h1, h2, h3, h4, s, r, h5⟩ := h
  exact ⟨blk_lt h4, blk_lt h5⟩
theorem cell2 {w : World} {g : Nat} {a b : Value} {t : TypeId} (h : w.heap[g]? = some (.cells #[a, b] t (0, 0))) : (w.cell? ⟨g, 0, none⟩ = some a ∧ w.cell? ⟨g, 1, none⟩ = some b) ∧ w.frozen? ⟨g, 0, none⟩ = false ∧ w.frozen? ⟨g, 1, none⟩ = false :=
  ⟨⟨(blk_cell h 0).trans rfl, (blk_cell h 1).trans rfl⟩, blk_frozen h 0, blk_frozen h 1⟩
theorem hvs_snoc (l : List S34) (x : S34) : hvs (l ++ [x]) = (hvs l).push (hv x) := by simp [hvs]
theorem hvs_tail (l : List S34) (x : S34) : (hvs (x :: l)).extract 1 (hvs (x :: l)).size = hvs l := by simp [hvs, List.take_of_length_le]
theorem setChan_other (w : World) (c c' cap : Nat) (buf : Array Value) (closed : Bool) (s r : Nat) (tm : Bool) (h : c ≠ c') : (w.setChan c cap buf closed s r tm).heap[c']? = w.heap[c']? := by
  simp [World.setChan, Array.getElem?_setIfInBounds_ne h]
theorem QAt.set {W : World} {base g c cap : Nat} {l : List S34} {closed : Bool} (h : QAt W base g c cap l closed) (l' : List S34) (s r : Nat) : QAt (W.setChan c cap (hvs l') closed s r false) base g c cap l' closed := by
  have hlt := h.lt
  obtain ⟨h1, h2, h3, h4, s0, r0, h5⟩ := h
  exact ⟨h1, h2, h3, (setChan_other _ _ _ _ _ _ _ _ _ (Ne.symm h3)).trans h4, s, r, heap_setChan _ _ _ _ _ _ _ _ hlt.2⟩
theorem kept_set (W : World) (c cap : Nat) (buf : Array Value) (closed : Bool) (s r : Nat) (tm : Bool) : Kept W (W.setChan c cap buf closed s r tm) (fun k => k = c) :=
  ⟨by rw [size_setChan]; exact Nat.le_refl _, fun i _ hn => setChan_other _ _ _ _ _ _ _ _ _ (fun e => hn e.symm)⟩
set_option maxHeartbeats 4000000 in
set_option maxRecDepth 100000 in
theorem queue_Put.room (base g c cap : Nat) (l : List S34) (x : S34) (w : World) (hQ : QAt w base g c cap l false) (hl : l.length < cap) :
    Calls Try.prog 14 #[.pointer (some ⟨g, 0, none⟩), hv x] w fun e w' => e = .returned (.int .i64 0) ∧ QAt w' base g c cap (l ++ [x]) false ∧ Kept w w' (fun k => k = c) ∧ (∀ B w0, B ≤ base → B ≤ w.heap.size → Below B w0 w → Below B w0 w') := by
  obtain ⟨q1, q2, q3, hbk, s, r, hch⟩ := hQ
  obtain ⟨⟨i0, i1⟩, u0, u1⟩ := cell2 hbk
  have hn0 := World.new_ne w _ i0
  have hn1 := World.new_ne w _ i1
  have hg0 := blk_lt hbk
  refine calls_of_loneTo fun cs => ?_
  have e : Frame.enter Try.prog 14 #[.pointer (some ⟨g, 0, none⟩), hv x] .normal = (Go.Conc.base 14).at ⟨#[.pointer (some ⟨g, 0, none⟩), hv x, undef, undef, undef, undef, undef, undef, undef, undef, undef, undef, undef, undef, undef, undef, undef, undef, undef, undef, undef], []⟩ [.code (Try.f14.body.getD .skip)] := by
    simp [Frame.enter, Frame.at, Try.func14, Go.Conc.base, Try.f14]
  rw [e]
  try unfold hv
  clear e
  refine LoneTo.goes (n := 80) ?_
  simp only [Try.f14, Option.getD_some]
  repeat (first | s_c stepG_seq | s_c stepG_region_end | s_c stepG_block | s_reg | s_op | s_cond false | s_cond true | s_c stepG_skip | s_c stepG_inBlock)
  s_stop
  have hch1 : (w.alloc (.cells #[.int .i64 x.f0, .int .i64 x.f1] 34)).heap[c]? = some (.chan cap (hvs l) false s r false) := blk_below hch (below_alloc (Below.refl _ _) _)
  refine LoneTo.step (step_lone_select_send_room (c := c) (v := hv x) (z' := (.agg #[.int .i64 0, .int .i64 0])) (stepG_comm (cases := #[scase c (hv x) (.agg #[.int .i64 0, .int .i64 0])]) (blocking := false) (shape := .select) (w' := (w.alloc (.cells #[.int .i64 x.f0, .int .i64 x.f1] 34))) rfl rfl (by decide) (by simp [go_sem, execOp, scase, Act.eval, hv])) hch1 (by simp [hvs]; omega)) ?_
  rw [Frame.finish_at]
  walk_nrm
  refine LoneTo.goes (n := 80) ?_
  repeat (first | s_c stepG_seq | s_c stepG_region_end | s_c stepG_block | s_reg | s_op | s_cond false | s_cond true | s_c stepG_skip | s_c stepG_inBlock)
  s_c stepG_ret'
  s_stop
  refine LoneTo.done ⟨.returned (.int .i64 0), _, rfl, ⟨rfl, ?_⟩, rfl, rfl, rfl, rfl, _, Try.func14, by simp [results, Try.f14, Frame.at, go_sem]⟩
  have hb := below_alloc (Below.refl w.heap.size w) (.cells #[.int .i64 x.f0, .int .i64 x.f1] 34)
  have hq : QAt (w.alloc (.cells #[.int .i64 x.f0, .int .i64 x.f1] 34)) base g c cap l false := QAt.below ⟨q1, q2, q3, hbk, s, r, hch⟩ hb
  exact ⟨hvs_snoc l x ▸ hq.set _ _ _, (Kept.of_below hb _).then_ (kept_set _ _ _ _ _ _ _ _) (fun k hk => .inl hk), fun B w0 h1 h2 h3 => below_setChan (h3.alloc h2 _) (Nat.le_trans h1 q2) _ _ _ _ _ _⟩
set_option maxHeartbeats 4000000 in
set_option maxRecDepth 100000 in
theorem queue_Put.full (base g c cap : Nat) (l : List S34) (x : S34) (w : World) (hQ : QAt w base g c cap l false) (hl : cap ≤ l.length) :
    Calls Try.prog 14 #[.pointer (some ⟨g, 0, none⟩), hv x] w fun e w' => e = .returned (.int .i64 13) ∧ QAt w' base g c cap l false ∧ Kept w w' (fun k => k = c) ∧ (∀ B w0, B ≤ base → B ≤ w.heap.size → Below B w0 w → Below B w0 w') := by
  obtain ⟨q1, q2, q3, hbk, s, r, hch⟩ := hQ
  obtain ⟨⟨i0, i1⟩, u0, u1⟩ := cell2 hbk
  have hn0 := World.new_ne w _ i0
  have hn1 := World.new_ne w _ i1
  have hg0 := blk_lt hbk
  refine calls_of_loneTo fun cs => ?_
  have e : Frame.enter Try.prog 14 #[.pointer (some ⟨g, 0, none⟩), hv x] .normal = (Go.Conc.base 14).at ⟨#[.pointer (some ⟨g, 0, none⟩), hv x, undef, undef, undef, undef, undef, undef, undef, undef, undef, undef, undef, undef, undef, undef, undef, undef, undef, undef, undef], []⟩ [.code (Try.f14.body.getD .skip)] := by
    simp [Frame.enter, Frame.at, Try.func14, Go.Conc.base, Try.f14]
  rw [e]
  try unfold hv
  clear e
  refine LoneTo.goes (n := 80) ?_
  simp only [Try.f14, Option.getD_some]
  repeat (first | s_c stepG_seq | s_c stepG_region_end | s_c stepG_block | s_reg | s_op | s_cond false | s_cond true | s_c stepG_skip | s_c stepG_inBlock)
  s_stop
  have hch1 : (w.alloc (.cells #[.int .i64 x.f0, .int .i64 x.f1] 34)).heap[c]? = some (.chan cap (hvs l) false s r false) := blk_below hch (below_alloc (Below.refl _ _) _)
  refine LoneTo.step (step_lone_select_send_full (c := c) (v := hv x) (z' := (.agg #[.int .i64 0, .int .i64 0])) (stepG_comm (cases := #[scase c (hv x) (.agg #[.int .i64 0, .int .i64 0])]) (blocking := false) (shape := .select) (w' := (w.alloc (.cells #[.int .i64 x.f0, .int .i64 x.f1] 34))) rfl rfl (by decide) (by simp [go_sem, execOp, scase, Act.eval, hv])) hch1 (by simp [hvs]; omega)) ?_
  rw [Frame.finish_at]
  walk_nrm
  refine LoneTo.goes (n := 80) ?_
  repeat (first | s_c stepG_seq | s_c stepG_region_end | s_c stepG_block | s_reg | s_op | s_cond false | s_cond true | s_c stepG_skip | s_c stepG_inBlock)
  s_c stepG_ret'
  s_stop
  refine LoneTo.done ⟨.returned (.int .i64 13), _, rfl, ⟨rfl, ?_⟩, rfl, rfl, rfl, rfl, _, Try.func14, by simp [results, Try.f14, Frame.at, go_sem]⟩
  have hb := below_alloc (Below.refl w.heap.size w) (.cells #[.int .i64 x.f0, .int .i64 x.f1] 34)
  exact ⟨QAt.below ⟨q1, q2, q3, hbk, s, r, hch⟩ hb, Kept.of_below hb _, fun B w0 h1 h2 h3 => h3.alloc h2 _⟩
set_option maxHeartbeats 4000000 in
set_option maxRecDepth 100000 in
theorem queue_Take.some_ (base g c cap : Nat) (x : S34) (l : List S34) (closed : Bool) (w : World) (hQ : QAt w base g c cap (x :: l) closed) :
    Calls Try.prog 13 #[.pointer (some ⟨g, 0, none⟩)] w fun e w' => e = .returned (.tuple #[.agg #[.int .i64 x.f0, .int .i64 x.f1], .bool true]) ∧ QAt w' base g c cap l closed ∧ Kept w w' (fun k => k = c) ∧ (∀ B w0, B ≤ base → B ≤ w.heap.size → Below B w0 w → Below B w0 w') := by
  obtain ⟨q1, q2, q3, hbk, s, r, hch⟩ := hQ
  obtain ⟨⟨i0, i1⟩, u0, u1⟩ := cell2 hbk
  have hn0 := World.new_ne w _ i0
  have hn1 := World.new_ne w _ i1
  have hg0 := blk_lt hbk
  refine calls_of_loneTo fun cs => ?_
  have e : Frame.enter Try.prog 13 #[.pointer (some ⟨g, 0, none⟩)] .normal = (Go.Conc.base 13).at ⟨#[.pointer (some ⟨g, 0, none⟩), undef, undef, undef, undef, undef, undef, undef, undef, undef, undef, undef, undef, undef, undef, undef, undef, undef, undef, undef, undef], []⟩ [.code (Try.f13.body.getD .skip)] := by
    simp [Frame.enter, Frame.at, Try.func13, Go.Conc.base, Try.f13]
  rw [e]
  try unfold hv
  clear e
  refine LoneTo.goes (n := 80) ?_
  simp only [Try.f13, Option.getD_some]
  repeat (first | s_c stepG_seq | s_c stepG_region_end | s_c stepG_block | s_reg | s_op | s_cond false | s_cond true | s_c stepG_skip | s_c stepG_inBlock)
  s_stop
  have hch1 : (w.alloc (.cells #[.int .i64 0, .int .i64 0] 34)).heap[c]? = some (.chan cap (hvs (x :: l)) closed s r false) := blk_below hch (below_alloc (Below.refl _ _) _)
  refine LoneTo.step (step_lone_select_recv_buf (c := c) (z := (.agg #[.int .i64 0, .int .i64 0])) (stepG_comm (cases := #[rcase c (.agg #[.int .i64 0, .int .i64 0])]) (blocking := false) (shape := .select) (w' := (w.alloc (.cells #[.int .i64 0, .int .i64 0] 34))) rfl rfl (by decide) (by simp [go_sem, execOp, rcase, Act.eval, hv])) hch1 (by simp [hvs])) ?_
  have hb := below_alloc (Below.refl w.heap.size w) (.cells #[.int .i64 0, .int .i64 0] 34)
  have hq : QAt (w.alloc (.cells #[.int .i64 0, .int .i64 0] 34)) base g c cap (x :: l) closed := QAt.below ⟨q1, q2, q3, hbk, s, r, hch⟩ hb
  rw [Frame.finish_at]
  have hd : (hvs (x :: l)).getD 0 undef = .agg #[.int .i64 x.f0, .int .i64 x.f1] := rfl
  rw [hd, hvs_tail]
  have hq2 := hq.set l s (r + 1)
  have hk2 := (Kept.of_below hb (fun k => k = c)).then_ (kept_set (w.alloc (.cells #[.int .i64 0, .int .i64 0] 34)) c cap (hvs l) closed s (r + 1) false) (fun k hk => .inl hk)
  have hb2 : ∀ B w0, B ≤ base → B ≤ w.heap.size → Below B w0 w → Below B w0 ((w.alloc (.cells #[.int .i64 0, .int .i64 0] 34)).setChan c cap (hvs l) closed s (r + 1) false) := fun B w0 h1 h2 h3 => below_setChan (h3.alloc h2 _) (Nat.le_trans h1 q2) _ _ _ _ _ _
  have hs2 : ((w.alloc (.cells #[.int .i64 0, .int .i64 0] 34)).setChan c cap (hvs l) closed s (r + 1) false).heap.size = w.heap.size + 1 := by rw [size_setChan]; simp
  have hcn : c ≠ w.heap.size := by have := blk_lt hch; omega
  have hz2 := (setChan_other (w.alloc (.cells #[.int .i64 0, .int .i64 0] 34)) c w.heap.size cap (hvs l) closed s (r + 1) false hcn).trans (blk_new w (.cells #[.int .i64 0, .int .i64 0] 34))
  generalize (w.alloc (.cells #[.int .i64 0, .int .i64 0] 34)).setChan c cap (hvs l) closed s (r + 1) false = w2 at hq2 hk2 hb2 hs2 hz2 ⊢
  have hgn : g ≠ w.heap.size := by have := blk_lt hbk; omega
  generalize hh : w.heap.size = h2 at hs2 hz2 hb2 hcn hgn ⊢
  have HH := Aside0.mk (show w.heap.size ≤ h2 ∧ g ≠ h2 ∧ c ≠ h2 from ⟨Nat.le_of_eq hh, hgn, hcn⟩)
  clear hn0 hn1 hg0 hbk hch hch1 i0 i1 u0 u1 hd hq hb hcn hgn hh
  obtain ⟨⟨i0, i1⟩, u0, u1⟩ := cell2 hz2
  have hn0 := World.new_ne w2 _ i0
  have hn1 := World.new_ne w2 _ i1
  walk_nrm
  refine LoneTo.goes (n := 80) ?_
  repeat (first | s_c stepG_seq | s_c stepG_region_end | s_c stepG_block | s_reg | s_op | s_cond false | s_cond true | s_c stepG_skip | s_c stepG_inBlock)
  s_c stepG_ret'
  s_stop
  obtain ⟨⟨j0, j1⟩, _⟩ := cell2 (blk_below (blk_put (cs := #[.int .i64 x.f0, .int .i64 0]) (blk_put (cs := #[.int .i64 0, .int .i64 0]) hz2 0 (.int .i64 x.f0) rfl) 1 (.int .i64 x.f1) rfl) (below_alloc (Below.refl _ _) (.cells #[.int .i64 x.f0, .int .i64 x.f1] 34)))
  refine LoneTo.done ⟨.returned (.tuple #[.agg #[.int .i64 x.f0, .int .i64 x.f1], .bool true]), _, rfl, ⟨rfl, ?_⟩, rfl, rfl, rfl, rfl, _, Try.func13, by simp [results, Try.f13, Frame.at, go_sem, j0, j1]⟩
  have hkk : Kept w2 (((w2.setCell ⟨h2, 0, none⟩ (.int .i64 x.f0)).setCell ⟨h2, 1, none⟩ (.int .i64 x.f1)).alloc (.cells #[.int .i64 x.f0, .int .i64 x.f1] 34)) (fun k => k = h2) := (((Kept.refl w2 (fun k => k = h2)).setCell (.inl rfl) _).setCell (.inl rfl) _).alloc _
  exact ⟨hq2.kept hkk HH.out.2.1 HH.out.2.2, hk2.then_ hkk (fun k hk => .inr (by rw [hk]; exact HH.out.1)), fun B w0 h1 h3 h4 => (((hb2 B w0 h1 h3 h4).setCell (p := ⟨h2, 0, none⟩) h3 _).setCell (p := ⟨h2, 1, none⟩) h3 _).alloc (by simp; omega) _⟩
set_option maxHeartbeats 4000000 in
set_option maxRecDepth 100000 in
theorem queue_Take.none_ (base g c cap : Nat)  (w : World) (hQ : QAt w base g c cap [] false) :
    Calls Try.prog 13 #[.pointer (some ⟨g, 0, none⟩)] w fun e w' => e = .returned (.tuple #[.agg #[.int .i64 0, .int .i64 0], .bool false]) ∧ QAt w' base g c cap [] false ∧ Kept w w' (fun k => k = c) ∧ (∀ B w0, B ≤ base → B ≤ w.heap.size → Below B w0 w → Below B w0 w') := by
  obtain ⟨q1, q2, q3, hbk, s, r, hch⟩ := hQ
  obtain ⟨⟨i0, i1⟩, u0, u1⟩ := cell2 hbk
  have hn0 := World.new_ne w _ i0
  have hn1 := World.new_ne w _ i1
  have hg0 := blk_lt hbk
  refine calls_of_loneTo fun cs => ?_
  have e : Frame.enter Try.prog 13 #[.pointer (some ⟨g, 0, none⟩)] .normal = (Go.Conc.base 13).at ⟨#[.pointer (some ⟨g, 0, none⟩), undef, undef, undef, undef, undef, undef, undef, undef, undef, undef, undef, undef, undef, undef, undef, undef, undef, undef, undef, undef], []⟩ [.code (Try.f13.body.getD .skip)] := by
    simp [Frame.enter, Frame.at, Try.func13, Go.Conc.base, Try.f13]
  rw [e]
  try unfold hv
  clear e
  refine LoneTo.goes (n := 80) ?_
  simp only [Try.f13, Option.getD_some]
  repeat (first | s_c stepG_seq | s_c stepG_region_end | s_c stepG_block | s_reg | s_op | s_cond false | s_cond true | s_c stepG_skip | s_c stepG_inBlock)
  s_stop
  have hch1 : (w.alloc (.cells #[.int .i64 0, .int .i64 0] 34)).heap[c]? = some (.chan cap (hvs []) false s r false) := blk_below hch (below_alloc (Below.refl _ _) _)
  refine LoneTo.step (step_lone_select_default (c := c) (z := (.agg #[.int .i64 0, .int .i64 0])) (stepG_comm (cases := #[rcase c (.agg #[.int .i64 0, .int .i64 0])]) (blocking := false) (shape := .select) (w' := (w.alloc (.cells #[.int .i64 0, .int .i64 0] 34))) rfl rfl (by decide) (by simp [go_sem, execOp, rcase, Act.eval, hv])) hch1) ?_
  have hb := below_alloc (Below.refl w.heap.size w) (.cells #[.int .i64 0, .int .i64 0] 34)
  have hq : QAt (w.alloc (.cells #[.int .i64 0, .int .i64 0] 34)) base g c cap [] false := QAt.below ⟨q1, q2, q3, hbk, s, r, hch⟩ hb
  rw [Frame.finish_at]
  walk_nrm
  refine LoneTo.goes (n := 80) ?_
  repeat (first | s_c stepG_seq | s_c stepG_region_end | s_c stepG_block | s_reg | s_op | s_cond false | s_cond true | s_c stepG_skip | s_c stepG_inBlock)
  s_c stepG_ret'
  s_stop
  refine LoneTo.done ⟨.returned (.tuple #[.agg #[.int .i64 0, .int .i64 0], .bool false]), _, rfl, ⟨rfl, ?_⟩, rfl, rfl, rfl, rfl, _, Try.func13, by simp [results, Try.f13, Frame.at, go_sem]⟩
  exact ⟨hq, Kept.of_below hb _, fun B w0 h1 h2 h3 => h3.alloc h2 _⟩
set_option maxHeartbeats 4000000 in
set_option maxRecDepth 100000 in
theorem queue_Take.shut_ (base g c cap : Nat)  (w : World) (hQ : QAt w base g c cap [] true) :
    Calls Try.prog 13 #[.pointer (some ⟨g, 0, none⟩)] w fun e w' => e = .returned (.tuple #[.agg #[.int .i64 0, .int .i64 0], .bool false]) ∧ QAt w' base g c cap [] true ∧ Kept w w' (fun k => k = c) ∧ (∀ B w0, B ≤ base → B ≤ w.heap.size → Below B w0 w → Below B w0 w') := by
  obtain ⟨q1, q2, q3, hbk, s, r, hch⟩ := hQ
  obtain ⟨⟨i0, i1⟩, u0, u1⟩ := cell2 hbk
  have hn0 := World.new_ne w _ i0
  have hn1 := World.new_ne w _ i1
  have hg0 := blk_lt hbk
  refine calls_of_loneTo fun cs => ?_
  have e : Frame.enter Try.prog 13 #[.pointer (some ⟨g, 0, none⟩)] .normal = (Go.Conc.base 13).at ⟨#[.pointer (some ⟨g, 0, none⟩), undef, undef, undef, undef, undef, undef, undef, undef, undef, undef, undef, undef, undef, undef, undef, undef, undef, undef, undef, undef], []⟩ [.code (Try.f13.body.getD .skip)] := by
    simp [Frame.enter, Frame.at, Try.func13, Go.Conc.base, Try.f13]
  rw [e]
  try unfold hv
  clear e
  refine LoneTo.goes (n := 80) ?_
  simp only [Try.f13, Option.getD_some]
  repeat (first | s_c stepG_seq | s_c stepG_region_end | s_c stepG_block | s_reg | s_op | s_cond false | s_cond true | s_c stepG_skip | s_c stepG_inBlock)
  s_stop
  have hch1 : (w.alloc (.cells #[.int .i64 0, .int .i64 0] 34)).heap[c]? = some (.chan cap (hvs []) true s r false) := blk_below hch (below_alloc (Below.refl _ _) _)
  refine LoneTo.step (step_lone_select_recv_shut (c := c) (z := (.agg #[.int .i64 0, .int .i64 0])) (stepG_comm (cases := #[rcase c (.agg #[.int .i64 0, .int .i64 0])]) (blocking := false) (shape := .select) (w' := (w.alloc (.cells #[.int .i64 0, .int .i64 0] 34))) rfl rfl (by decide) (by simp [go_sem, execOp, rcase, Act.eval, hv])) hch1) ?_
  have hb := below_alloc (Below.refl w.heap.size w) (.cells #[.int .i64 0, .int .i64 0] 34)
  have hq : QAt (w.alloc (.cells #[.int .i64 0, .int .i64 0] 34)) base g c cap [] true := QAt.below ⟨q1, q2, q3, hbk, s, r, hch⟩ hb
  rw [Frame.finish_at]
  walk_nrm
  refine LoneTo.goes (n := 80) ?_
  repeat (first | s_c stepG_seq | s_c stepG_region_end | s_c stepG_block | s_reg | s_op | s_cond false | s_cond true | s_c stepG_skip | s_c stepG_inBlock)
  s_c stepG_ret'
  s_stop
  refine LoneTo.done ⟨.returned (.tuple #[.agg #[.int .i64 0, .int .i64 0], .bool false]), _, rfl, ⟨rfl, ?_⟩, rfl, rfl, rfl, rfl, _, Try.func13, by simp [results, Try.f13, Frame.at, go_sem]⟩
  have hb2 := below_step hb (below_alloc (Below.refl _ _) (.cells #[.int .i64 0, .int .i64 0] 34))
  exact ⟨QAt.below ⟨q1, q2, q3, hbk, s, r, hch⟩ hb2, Kept.of_below hb2 _, fun B w0 h1 h2 h3 => (h3.alloc h2 _).alloc (by simp; omega) _⟩
end Go.Proofs.Ytphmeljhfbahoaa.PQ
