/- One act, done by a queue and by the document's: what they answer is alike. -/
import Derived.Test.YtphmeljhfbahoaaQRef
import Derived.OrdersHeld
import Derived.Laws.BitsLemmas
set_option linter.unusedVariables false
set_option linter.unusedSimpArgs false
namespace Go.Proofs.Ytphmeljhfbahoaa.PQ
open Go.Conc Go.RowKit Go.Proofs.YtphmeljhfbahoaaW.PrintWords Go.Proofs.YtphmeljhfbahoaaW.PrintLast Go.Proofs.YtphmeljhfbahoaaW.PrintMore
/-- A row that hangs on blocks outside S alone. -/
def Rd (w : World) (S : Nat → Prop) (A : Option Addr) (l : List S34) : Prop := ∀ W', (∀ k, ¬ S k → k < w.heap.size → W'.heap[k]? = w.heap[k]?) → Kd.C k34 W' A l.length l
theorem Rd.now {w : World} {S : Nat → Prop} {A : Option Addr} {l : List S34} (h : Rd w S A l) : Kd.C k34 w A l.length l := h w (fun _ _ _ => rfl)
theorem Rd.kept {w W : World} {S T : Nat → Prop} {A : Option Addr} {l : List S34} (h : Rd w S A l) (hk : Kept w W T) (hT : ∀ k, T k → S k ∨ w.heap.size ≤ k) : Rd W S A l :=
  fun W' hW => h W' (fun k hn hlt => (hW k hn (Nat.lt_of_lt_of_le hlt hk.1)).trans (hk.2 k hlt (fun e => (hT k e).elim hn (fun h => by omega))))
theorem Rd.below {w W : World} {S : Nat → Prop} {A : Option Addr} {l : List S34} (h : Rd w S A l) (hb : Below w.heap.size w W) : Rd W S A l := h.kept (Kept.of_below hb (fun _ => False)) (fun _ e => e.elim)
theorem Rd.new {w W : World} {S : Nat → Prop} {A : Option Addr} {n c : Nat} {l : List S34} (h : Kd.R k34 34 W w.heap.size (fun _ => True) (.slice A n c) l) (hS : ∀ k, S k → k < w.heap.size) : Rd W S A l := fun W' hW => by
  have h1 := Kd.R_step (Kd.R_bound h) (w1 := W') (fun k ho hlt => hW k (fun e => by have := hS k e; have := ho.2.1; omega) hlt)
  exact (Kd.R_reads' h1).1 ▸ (Kd.R_reads' h1).2.2
theorem Rd.nil (w : World) (S : Nat → Prop) : Rd w S none [] := fun W' _ => Kd.C_nil _ _
theorem cell4_ {w : World} {g : Nat} {a b c d : Value} {t : TypeId} (h : w.heap[g]? = some (.cells #[a, b, c, d] t (0, 0))) : (w.cell? ⟨g, 0, none⟩ = some a ∧ w.cell? ⟨g, 1, none⟩ = some b ∧ w.cell? ⟨g, 2, none⟩ = some c ∧ w.cell? ⟨g, 3, none⟩ = some d) ∧ w.frozen? ⟨g, 0, none⟩ = false ∧ w.frozen? ⟨g, 1, none⟩ = false ∧ w.frozen? ⟨g, 2, none⟩ = false ∧ w.frozen? ⟨g, 3, none⟩ = false :=
  ⟨⟨(blk_cell h 0).trans rfl, (blk_cell h 1).trans rfl, (blk_cell h 2).trans rfl, (blk_cell h 3).trans rfl⟩, blk_frozen h 0, blk_frozen h 1, blk_frozen h 2, blk_frozen h 3⟩
/-- What one put does, and answers. -/
def putS (size : Int) (l : List S34) (closed : Bool) (x : S34) : List S34 × Int := if closed = true then (l, 12) else if (l.length : Int) = size then (l, 13) else (l ++ [x], 0)
theorem rPut.all (A : Option Addr) (c : Nat) (l : List S34) (size : Int) (closed : Bool) (x : S34) (w : World) (hC : Kd.C k34 w A l.length l) (hc : l.length ≤ c) (hl : l.length ≤ 5000) :
    Calls Try.prog 22 #[.agg #[.slice A l.length c, .int .i64 size, .bool closed], .agg #[.int .i64 x.f0, .int .i64 x.f1]] w fun e w' => ∃ A' c', e = .returned (.tuple #[.agg #[.slice A' (putS size l closed x).1.length c', .int .i64 size, .bool closed], .int .i64 (putS size l closed x).2]) ∧ (∀ S : Nat → Prop, (∀ k, S k → k < w.heap.size) → Rd w S A l → Rd w' S A' (putS size l closed x).1) ∧ (putS size l closed x).1.length ≤ c' ∧ Below w.heap.size w w' := by
  unfold putS
  cases closed with
  | true =>
    rw [if_pos rfl]
    exact (rPut.over A c l size x w).mono (fun e w' h => ⟨A, c, h.1, fun S _ hr => hr.below h.2, hc, h.2⟩)
  | false =>
    rw [if_neg (by simp)]
    by_cases hf : (l.length : Int) = size
    · rw [if_pos hf]
      exact (rPut.full A c l size x w hf).mono (fun e w' h => ⟨A, c, h.1, fun S _ hr => hr.below h.2, hc, h.2⟩)
    · rw [if_neg hf]
      refine (rPut.ok A c l size x w hC hl hf).mono ?_
      rintro e w' ⟨A', c', he, hR, hb⟩
      exact ⟨A', c', he, fun S hS _ => Rd.new hR hS, (Kd.R_reads' hR).2.1, hb⟩
theorem queue_Put.all (base g c cap : Nat) (l : List S34) (closed : Bool) (x : S34) (w : World) (hQ : QAt w base g c cap l closed) (hl : l.length ≤ cap) :
    Calls Try.prog 14 #[.pointer (some ⟨g, 0, none⟩), .agg #[.int .i64 x.f0, .int .i64 x.f1]] w fun e w' => e = .returned (.int .i64 (putS (cap : Int) l closed x).2) ∧ QAt w' base g c cap (putS (cap : Int) l closed x).1 closed ∧ Kept w w' (fun k => k = c) ∧ Fam base w w' := by
  unfold putS
  cases closed with
  | true =>
    rw [if_pos rfl]
    exact (queue_Put.over base g c cap l x w hQ).mono (fun e w' h => ⟨h.1, hQ.below h.2, Kept.of_below h.2 _, Fam.below h.2⟩)
  | false =>
    rw [if_neg (by simp)]
    by_cases hf : (l.length : Int) = (cap : Int)
    · rw [if_pos hf]
      exact queue_Put.full base g c cap l x w hQ (by omega)
    · rw [if_neg hf]
      exact queue_Put.room base g c cap l x w hQ (by omega)
theorem put_len {cap : Nat} {l l2 : List S34} {closed : Bool} {x : S34} {code : Int} (hl : l.length ≤ cap) (h : putS (cap : Int) l closed x = (l2, code)) : l2.length ≤ cap := by
  unfold putS at h
  split at h
  · injection h with h1 h2; rw [← h1]; exact hl
  · split at h
    · injection h with h1 h2; rw [← h1]; exact hl
    · injection h with h1 h2
      rw [← h1, snoc_len]
      omega
theorem rTake.all (A : Option Addr) (c : Nat) (l : List S34) (size : Int) (closed : Bool) (w : World) (hC : Kd.C k34 w A l.length l) (hc : l.length ≤ c) :
    Calls Try.prog 23 #[.agg #[.slice A l.length c, .int .i64 size, .bool closed]] w fun e w' => ∃ A' c', e = .returned (.tuple #[.agg #[.slice A' l.tail.length c', .int .i64 size, .bool closed], .agg #[.int .i64 (hd l).f0, .int .i64 (hd l).f1], .bool (!l.isEmpty)]) ∧ (∀ S : Nat → Prop, Rd w S A l → Rd w' S A' l.tail) ∧ l.tail.length ≤ c' ∧ Below w.heap.size w w' := by
  cases l with
  | nil => exact (rTake.none_ A c size closed w).mono (fun e w' h => ⟨A, c, h.1, fun S hr => hr.below h.2, Nat.zero_le _, h.2⟩)
  | cons y l =>
    obtain ⟨ad, rfl, _⟩ := hC.2.2 (by simp)
    refine (rTake.some_ ad (y :: l).length c y l (by simp) size closed w hC hc).mono ?_
    rintro e w' ⟨A', he, hA, hb⟩
    refine ⟨A', c - 1, he, fun S hr => ?_, by rw [List.length_cons] at hc; simp only [List.tail_cons]; omega, hb⟩
    have h2 := hr.below hb
    exact fun W' hW => hA W' (h2 W' hW)
theorem rTake.all_ (A : Option Addr) (c : Nat) (l lt : List S34) (h : S34) (ok : Bool) (e1 : l.tail = lt) (e2 : hd l = h) (e3 : (!l.isEmpty) = ok) (size : Int) (closed : Bool) (w : World) (hC : Kd.C k34 w A l.length l) (hc : l.length ≤ c) :
    Calls Try.prog 23 #[.agg #[.slice A l.length c, .int .i64 size, .bool closed]] w fun e w' => ∃ A' c', e = .returned (.tuple #[.agg #[.slice A' lt.length c', .int .i64 size, .bool closed], .agg #[.int .i64 h.f0, .int .i64 h.f1], .bool ok]) ∧ (∀ S : Nat → Prop, Rd w S A l → Rd w' S A' lt) ∧ lt.length ≤ c' ∧ Below w.heap.size w w' := by
  subst e1 e2 e3
  exact rTake.all A c l size closed w hC hc
theorem queue_Take.all_ (base g c cap : Nat) (l lt : List S34) (h : S34) (ok : Bool) (e1 : l.tail = lt) (e2 : hd l = h) (e3 : (!l.isEmpty) = ok) (closed : Bool) (w : World) (hQ : QAt w base g c cap l closed) :
    Calls Try.prog 13 #[.pointer (some ⟨g, 0, none⟩)] w fun e w' => e = .returned (.tuple #[.agg #[.int .i64 h.f0, .int .i64 h.f1], .bool ok]) ∧ QAt w' base g c cap lt closed ∧ Kept w w' (fun k => k = c) ∧ Fam base w w' := by
  subst e1 e2 e3
  exact queue_Take.all base g c cap l closed w hQ
/-- Many puts: what waits then, and how many were let wait. -/
def fillP (size : Int) (closed : Bool) : List S34 → List S34 → List S34 × Nat
  | l, [] => (l, 0)
  | l, x :: xs => ((fillP size closed (putS size l closed x).1 xs).1, (fillP size closed (putS size l closed x).1 xs).2 + if (putS size l closed x).2 = 0 then 1 else 0)
theorem fill_closed (size : Int) : ∀ (xs l : List S34), fillP size true l xs = (l, 0)
  | [], l => rfl
  | x :: xs, l => by
    have e : putS size l true x = (l, 12) := by unfold putS; rw [if_pos rfl]
    rw [fillP, e, fill_closed size xs l]
    rfl
theorem fill_open (cap : Nat) : ∀ (xs l : List S34), l.length ≤ cap → fillP (cap : Int) false l xs = (l ++ xs.take (min xs.length (cap - l.length)), min xs.length (cap - l.length))
  | [], l, h => by rw [fillP]; simp
  | x :: xs, l, h => by
    by_cases hf : (l.length : Int) = (cap : Int)
    · have e : putS (cap : Int) l false x = (l, 13) := by unfold putS; rw [if_neg (by simp), if_pos hf]
      rw [fillP, e, fill_open cap xs l h]
      have h0 : cap - l.length = 0 := by omega
      rw [h0]
      simp
    · have e : putS (cap : Int) l false x = (l ++ [x], 0) := by unfold putS; rw [if_neg (by simp), if_neg hf]
      rw [fillP, e, fill_open cap xs (l ++ [x]) (by rw [snoc_len]; omega), snoc_len]
      have h1 : min (x :: xs).length (cap - l.length) = min xs.length (cap - (l.length + 1)) + 1 := by rw [List.length_cons]; omega
      rw [h1, List.take_succ_cons, List.append_assoc]
      rfl
theorem queue_Fill.all (base g c cap : Nat) (l : List S34) (closed : Bool) (w : World) (hQ : QAt w base g c cap l closed) (A : Option Addr) (cp : Nat) (xs : List S34) (hx : ∀ W', Kept w W' (fun k => k = c) → Kd.C k34 W' A xs.length xs) (hc : xs.length ≤ cp) (hl : xs.length ≤ 5000) (hcap : l.length ≤ cap) :
    Calls Try.prog 16 #[.pointer (some ⟨g, 0, none⟩), .slice A xs.length cp] w fun e w' => e = .returned (.int .i64 ((fillP (cap : Int) closed l xs).2 : Int)) ∧ QAt w' base g c cap (fillP (cap : Int) closed l xs).1 closed ∧ Kept w w' (fun k => k = c) ∧ Fam base w w' := by
  cases closed with
  | true =>
    rw [fill_closed]
    exact (queue_Fill.over base g c cap l A cp xs w hQ (hx w (Kept.refl _ _)) hc hl).mono (fun e w' h => ⟨h.1, hQ.below h.2, Kept.of_below h.2 _, Fam.below h.2⟩)
  | false =>
    rw [fill_open cap xs l hcap]
    exact queue_Fill.calls_ base g c cap l w hQ A cp xs hx hl _ rfl hcap
theorem fill_len (cap : Nat) (closed : Bool) (xs l : List S34) (h : l.length ≤ cap) : (fillP (cap : Int) closed l xs).1.length ≤ cap := by
  cases closed with
  | true => rw [fill_closed]; exact h
  | false =>
    rw [fill_open cap xs l h]
    simp only [List.length_append, List.length_take]
    omega
theorem and7 (x : Int) : 0 ≤ Go.bits .and .i64 x 7 ∧ Go.bits .and .i64 x 7 ≤ 7 := by
  have h : (BitVec.ofInt 64 x &&& BitVec.ofInt 64 7).toNat ≤ 7 := by
    rw [BitVec.toNat_and]
    exact Nat.and_le_right
  have e : Go.bits .and .i64 x 7 = IntKind.i64.wrap (((BitVec.ofInt 64 x &&& BitVec.ofInt 64 7).toNat : Nat) : Int) := rfl
  rw [e, IntKind.wrap_i64]
  omega
theorem like_go (h0 h1 n : Int) : ∀ (d i : Nat) (out : List S34), (Go.bits .and .i64 n 7).toNat ≤ i + d → out.length ≤ i → i ≤ 7 → ∃ xs : List S34, xs.length ≤ 7 ∧ Ev (fun k => juratlaw33_like.l0 k n out (i : Int) h0 h1) xs
  | 0, i, out, hd, ho, h7 => ⟨out, by omega, ev_add 1 (fun k => by have := (and7 n).1; rw [juratlaw33_like.l0, if_neg (by omega)])⟩
  | d + 1, i, out, hd, ho, h7 => by
    have ha := and7 n
    by_cases hlt : (i : Int) < Go.bits .and .i64 n 7
    · obtain ⟨xs, hx, k, hk⟩ := like_go h0 h1 n d (i + 1) (out ++ [(⟨h0, (i : Int)⟩ : S34)]) (by omega) (by rw [snoc_len]; omega) (by omega)
      refine ⟨xs, hx, k + 1, fun q hq => ?_⟩
      obtain ⟨q, rfl⟩ : ∃ q', q = q' + 1 := ⟨q - 1, by omega⟩
      have e : wrap64 ((i : Int) + 1) = ((i + 1 : Nat) : Int) := by rw [jw64 (by omega) (by omega)]; omega
      show juratlaw33_like.l0 (q + 1) n out (i : Int) h0 h1 = some xs
      rw [juratlaw33_like.l0, if_pos hlt, if_pos (by omega), e]
      exact hk q (by omega)
    · exact ⟨out, by omega, ev_add 1 (fun k => by rw [juratlaw33_like.l0, if_neg hlt])⟩
theorem like_ev (h0 h1 n : Int) : ∃ xs : List S34, xs.length ≤ 7 ∧ Ev (fun k => juratlaw33_like.f k h0 h1 n) xs := by
  obtain ⟨xs, hx, h⟩ := like_go h0 h1 n 7 0 [] (by have := (and7 n).2; omega) (by simp) (by omega)
  exact ⟨xs, hx, h⟩
/-- The numbers that stand. -/
def STt (S : Nat → Prop) (w : World) (g c b4 b5 b6 : Nat) : Prop := (S g ∧ S c) ∧ (∀ k, S k → k < w.heap.size) ∧ (w.heap.size ≤ b4 ∧ w.heap.size ≤ b5 ∧ w.heap.size ≤ b6) ∧ (b4 ≠ b5 ∧ b4 ≠ b6 ∧ b5 ≠ b6) ∧ (g < w.heap.size ∧ c < w.heap.size)
def S6 (S : Nat → Prop) (b4 b6 : Nat) : Nat → Prop := fun k => S k ∨ k = b4 ∨ k = b6
theorem Rd.less {w : World} {S T : Nat → Prop} {A : Option Addr} {l : List S34} (h : Rd w T A l) (hT : ∀ k, S k → T k) : Rd w S A l := fun W' hW => h W' (fun k hn hlt => hW k (fun e => hn (hT k e)) hlt)
theorem Rd.more {w : World} {S T : Nat → Prop} {A : Option Addr} {l : List S34} (h : Rd w S A l) (hT : ∀ k, T k → S k ∨ w.heap.size ≤ k) : Rd w T A l := fun W' hW => h W' (fun k hn hlt => hW k (fun e => (hT k e).elim hn (fun h => by omega)) hlt)
/-- What stands along an act. -/
def DI (base g c cap : Nat) (S : Nat → Prop) (w W : World) (l : List S34) (closed : Bool) (A : Option Addr) (lr : List S34) (b4 b5 b6 : Nat) (v4 v5 v6 : Array Value) : Prop :=
  W.heap[b4]? = some (.cells v4 30 (0, 0)) ∧ W.heap[b5]? = some (.cells v5 36 (0, 0)) ∧ W.heap[b6]? = some (.cells v6 30 (0, 0)) ∧ QAt W base g c cap l closed ∧ Rd W (S6 S b4 b6) A lr ∧ Kept w W (fun k => k = g ∨ k = c) ∧ Fam base w W
section
variable {base g c cap : Nat} {S : Nat → Prop} {w W W' : World} {l l' lr lr' : List S34} {closed closed' : Bool} {A A' : Option Addr} {b4 b5 b6 : Nat} {v4 v5 v6 : Array Value}
theorem DI.start (hQ : QAt w base g c cap l closed) (hR : Rd w S A l) (hSg : S g) (hSc : S c) (hS : ∀ k, S k → k < w.heap.size) (v4 v5 v6 : Array Value) : DI base g c cap S w (((w.alloc (.cells v4 30)).alloc (.cells v5 36)).alloc (.cells v6 30)) l closed A l w.heap.size (w.heap.size + 1) (w.heap.size + 1 + 1) v4 v5 v6 := by
  have hb : Below w.heap.size w (((w.alloc (.cells v4 30)).alloc (.cells v5 36)).alloc (.cells v6 30)) := below_alloc (below_alloc (below_alloc (Below.refl _ _) _) _) _
  refine ⟨?_, ?_, ?_, hQ.below hb, (hR.more (fun k e => by rcases e with e | e | e; exact .inl e; exact .inr (by omega); exact .inr (by omega))).below hb, Kept.of_below hb _, Fam.below hb⟩
  · exact blk_below (blk_below (blk_new w (.cells v4 30)) (below_alloc (Below.refl _ _) _)) (below_alloc (Below.refl _ _) _)
  · have h := blk_below (blk_new (w.alloc (.cells v4 30)) (.cells v5 36)) (below_alloc (Below.refl _ _) (.cells v6 30))
    simpa only [World.size_alloc] using h
  · have h := blk_new ((w.alloc (.cells v4 30)).alloc (.cells v5 36)) (.cells v6 30)
    simpa only [World.size_alloc] using h
theorem DI.below (h : DI base g c cap S w W l closed A lr b4 b5 b6 v4 v5 v6) (hs : STt S w g c b4 b5 b6) (hb : Below W.heap.size W W') : DI base g c cap S w W' l closed A lr b4 b5 b6 v4 v5 v6 := by
  obtain ⟨h1, h2, h3, h4, h5, h6, h7⟩ := h
  exact ⟨blk_below h1 hb, blk_below h2 hb, blk_below h3 hb, h4.below hb, h5.below hb, h6.below hb, h7.then_ h6.1 (Fam.below hb)⟩
theorem DI.row (h : DI base g c cap S w W l closed A lr b4 b5 b6 v4 v5 v6) (hr : Rd W (S6 S b4 b6) A' lr') : DI base g c cap S w W l closed A' lr' b4 b5 b6 v4 v5 v6 := by
  obtain ⟨h1, h2, h3, h4, h5, h6, h7⟩ := h
  exact ⟨h1, h2, h3, h4, hr, h6, h7⟩
theorem DI.call (h : DI base g c cap S w W l closed A lr b4 b5 b6 v4 v5 v6) (hs : STt S w g c b4 b5 b6) (hq : QAt W' base g c cap l' closed') (hk : Kept W W' (fun k => k = g ∨ k = c)) (hf : Fam base W W') : DI base g c cap S w W' l' closed' A lr b4 b5 b6 v4 v5 v6 := by
  obtain ⟨h1, h2, h3, h4, h5, h6, h7⟩ := h
  obtain ⟨⟨s1, s2⟩, s3, ⟨s4, s5, s6⟩, _, s7, s8⟩ := hs
  exact ⟨blk_kept h1 hk (fun e => by rcases e with e | e <;> omega), blk_kept h2 hk (fun e => by rcases e with e | e <;> omega), blk_kept h3 hk (fun e => by rcases e with e | e <;> omega), hq, h5.kept hk (fun k e => .inl (.inl (by rcases e with rfl | rfl <;> assumption))), h6.then_ hk (fun k e => .inl e), h7.then_ h6.1 hf⟩
theorem DI.put6 {x6 y6 z6 : Value} (h : DI base g c cap S w W l closed A lr b4 b5 b6 v4 v5 #[x6, y6, z6]) (hs : STt S w g c b4 b5 b6) (a' b' c' : Value) : DI base g c cap S w (((W.setCell ⟨b6, 0, none⟩ a').setCell ⟨b6, 1, none⟩ b').setCell ⟨b6, 2, none⟩ c') l closed A lr b4 b5 b6 v4 v5 #[a', b', c'] := by
  obtain ⟨h1, h2, h3, h4, h5, h6, h7⟩ := h
  obtain ⟨⟨s1, s2⟩, s3, ⟨s4, s5, s6⟩, ⟨n1, n2, n3⟩, s7, s8⟩ := hs
  have hk : Kept W (((W.setCell ⟨b6, 0, none⟩ a').setCell ⟨b6, 1, none⟩ b').setCell ⟨b6, 2, none⟩ c') (fun k => k = b6) := (((Kept.refl W (fun k => k = b6)).setCell (.inl rfl) _).setCell (.inl rfl) _).setCell (.inl rfl) _
  exact ⟨far3 h1 n2, far3 h2 n3, put3 h3, h4.kept hk (by omega) (by omega), h5.kept hk (fun k e => .inl (.inr (.inr e))), h6.then_ hk (fun k e => .inr (by rw [e]; exact s6)), fun B w0 q1 q2 q3 => bel3 (h7 B w0 q1 q2 q3) (Nat.le_trans q2 s6)⟩
theorem DI.put4 {x4 y4 z4 : Value} (h : DI base g c cap S w W l closed A lr b4 b5 b6 #[x4, y4, z4] v5 v6) (hs : STt S w g c b4 b5 b6) (a' b' c' : Value) : DI base g c cap S w (((W.setCell ⟨b4, 0, none⟩ a').setCell ⟨b4, 1, none⟩ b').setCell ⟨b4, 2, none⟩ c') l closed A lr b4 b5 b6 #[a', b', c'] v5 v6 := by
  obtain ⟨h1, h2, h3, h4, h5, h6, h7⟩ := h
  obtain ⟨⟨s1, s2⟩, s3, ⟨s4, s5, s6⟩, ⟨n1, n2, n3⟩, s7, s8⟩ := hs
  have hk : Kept W (((W.setCell ⟨b4, 0, none⟩ a').setCell ⟨b4, 1, none⟩ b').setCell ⟨b4, 2, none⟩ c') (fun k => k = b4) := (((Kept.refl W (fun k => k = b4)).setCell (.inl rfl) _).setCell (.inl rfl) _).setCell (.inl rfl) _
  exact ⟨put3 h1, far3 h2 (Ne.symm n1), far3 h3 (Ne.symm n2), h4.kept hk (by omega) (by omega), h5.kept hk (fun k e => .inl (.inr (.inl e))), h6.then_ hk (fun k e => .inr (by rw [e]; exact s4)), fun B w0 q1 q2 q3 => bel3 (h7 B w0 q1 q2 q3) (Nat.le_trans q2 s4)⟩
theorem DI.set4 {x4 y4 z4 : Value} (h : DI base g c cap S w W l closed A lr b4 b5 b6 #[x4, y4, z4] v5 v6) (hs : STt S w g c b4 b5 b6) (i : Nat) (u : Value) (cs' : Array Value) (e : (#[x4, y4, z4] : Array Value).setIfInBounds i u = cs') : DI base g c cap S w (W.setCell ⟨b4, i, none⟩ u) l closed A lr b4 b5 b6 cs' v5 v6 := by
  obtain ⟨h1, h2, h3, h4, h5, h6, h7⟩ := h
  obtain ⟨⟨s1, s2⟩, s3, ⟨s4, s5, s6⟩, ⟨n1, n2, n3⟩, s7, s8⟩ := hs
  have hk : Kept W (W.setCell ⟨b4, i, none⟩ u) (fun k => k = b4) := (Kept.refl W (fun k => k = b4)).setCell (.inl rfl) _
  exact ⟨blk_put h1 i u e, blk_far (p := ⟨b4, i, none⟩) h2 (Ne.symm n1) u, blk_far (p := ⟨b4, i, none⟩) h3 (Ne.symm n2) u, h4.kept hk (by omega) (by omega), h5.kept hk (fun k e => .inl (.inr (.inl e))), h6.then_ hk (fun k e => .inr (by rw [e]; exact s4)), fun B w0 q1 q2 q3 => (h7 B w0 q1 q2 q3).setCell (p := ⟨b4, i, none⟩) (Nat.le_trans q2 s4) u⟩
theorem DI.s6 (h : DI base g c cap S w W l closed A lr b4 b5 b6 v4 v5 v6) (hs : STt S w g c b4 b5 b6) : ∀ k, S6 S b4 b6 k → k < W.heap.size := by
  intro k e
  rcases e with e | rfl | rfl
  · have h1 := hs.2.1 k e; have h2 := h.2.2.2.2.2.1.1; omega
  · exact blk_lt h.1
  · exact blk_lt h.2.2.1
end
def DPost (S : Nat → Prop) (base g c cap : Nat) (w : World) (e : Ending) (w' : World) : Prop := ∃ A' c' l' closed', e = .returned (.tuple #[.agg #[.slice A' l'.length c', .int .i64 (cap : Int), .bool closed'], .bool true]) ∧ QAt w' base g c cap l' closed' ∧ Rd w' S A' l' ∧ l'.length ≤ c' ∧ l'.length ≤ cap ∧ Kept w w' (fun k => k = g ∨ k = c) ∧ Fam base w w'
theorem DPost.mk {S : Nat → Prop} {base g c cap : Nat} {w w' : World} {e : Ending} (h : ∃ A' c' l' closed', e = .returned (.tuple #[.agg #[.slice A' l'.length c', .int .i64 (cap : Int), .bool closed'], .bool true]) ∧ QAt w' base g c cap l' closed' ∧ Rd w' S A' l' ∧ l'.length ≤ c' ∧ l'.length ≤ cap ∧ Kept w w' (fun k => k = g ∨ k = c) ∧ Fam base w w') : DPost S base g c cap w e w' := h
def doesR4.T : Bool × List (List Nat × List Nat) := (true, [([], []), ([], []), ([], []), ([2], [2]), ([1, 3], [1, 3]), ([], []), ([4, 5], [4, 5]), ([0, 4, 0], [0]), ([6, 7, 0, 1, 2, 3, 4, 5, 6, 7], [6])])
def doesR4.B : List Nat := [0, 0, 0, 4, 14, 0, 62, 31, 255]
theorem doesR4.tab : rtab .any (opsOf Try.f8 4) = doesR4.T := by kernel_rfl
theorem doesR4.bits : waitsOk doesR4.T.2 doesR4.B = true := by kernel_rfl
set_option maxHeartbeats 16000000 in
set_option maxRecDepth 100000 in
theorem does.put (S : Nat → Prop) (base g c cap : Nat) (l : List S34) (closed : Bool) (A : Option Addr) (cc : Nat) (nn : Int) (x : S34) (w : World) (hQ : QAt w base g c cap l closed) (hR : Rd w S A l) (hSg : S g) (hSc : S c) (hS : ∀ k, S k → k < w.heap.size) (hc : l.length ≤ cc) (hl : l.length ≤ cap) (hcap : cap ≤ 4096) :
    Calls Try.prog 8 #[.pointer (some ⟨g, 0, none⟩), .agg #[.slice A l.length cc, .int .i64 (cap : Int), .bool closed], .agg #[.int .i64 0, .int .i64 nn, .int .i64 x.f0, .int .i64 x.f1]] w (DPost S base g c cap w) := by
  have hu30 := Try.underlying30
  have hu34 := Try.underlying34
  have hu36 := Try.underlying36
  have HL := Aside0.mk hl
  have HC := Aside0.mk hc
  have HCAP := Aside0.mk hcap
  have GL := Aside0.mk hQ.lt
  have D0 : Aside0 (DI base g c cap S w (((w.alloc (.cells #[.slice A l.length cc, .int .i64 (cap : Int), .bool closed] 30)).alloc (.cells #[.int .i64 0, .int .i64 nn, .int .i64 x.f0, .int .i64 x.f1] 36)).alloc (.cells #[.slice none 0 0, .int .i64 0, .bool false] 30)) l closed A l w.heap.size (w.heap.size + 1) (w.heap.size + 1 + 1) #[.slice A l.length cc, .int .i64 (cap : Int), .bool closed] #[.int .i64 0, .int .i64 nn, .int .i64 x.f0, .int .i64 x.f1] #[.slice none 0 0, .int .i64 0, .bool false]) := ⟨DI.start hQ hR hSg hSc hS #[.slice A l.length cc, .int .i64 (cap : Int), .bool closed] #[.int .i64 0, .int .i64 nn, .int .i64 x.f0, .int .i64 x.f1] #[.slice none 0 0, .int .i64 0, .bool false]⟩
  have ST : Aside0 (STt S w g c w.heap.size (w.heap.size + 1) (w.heap.size + 1 + 1)) := ⟨⟨hSg, hSc⟩, hS, ⟨Nat.le_refl _, by omega, by omega⟩, ⟨by omega, by omega, by omega⟩, hQ.lt⟩
  clear hQ hR hSg hSc hS hc hl hcap
  go_enter Try.func8, Try.ntmps8
  go_upto_region 1 with fail
  generalize ((w.alloc (.cells #[.slice A l.length cc, .int .i64 (cap : Int), .bool closed] 30)).alloc (.cells #[.int .i64 0, .int .i64 nn, .int .i64 x.f0, .int .i64 x.f1] 36)).alloc (.cells #[.slice none 0 0, .int .i64 0, .bool false] 30) = w1 at D0 ⊢
  generalize w.heap.size + 1 + 1 = b6 at D0 ST ⊢
  generalize w.heap.size + 1 = b5 at D0 ST ⊢
  obtain ⟨b4, hb4⟩ : ∃ b4, w.heap.size = b4 := ⟨_, rfl⟩
  rw [hb4] at D0 ST
  have HB4 := Aside0.mk hb4
  (try rw [hb4])
  clear hb4
  have n45 := ST.out.2.2.2.1.1
  have n46 := ST.out.2.2.2.1.2.1
  have n56 := ST.out.2.2.2.1.2.2
  have n54 := Ne.symm n45
  have n64 := Ne.symm n46
  have n65 := Ne.symm n56
  have D := D0
  clear D0
  obtain ⟨⟨i0, i1, i2⟩, u0, u1, u2⟩ := cell3 D.out.1; obtain ⟨⟨j0, j1, j2, j3⟩, v0, v1, v2, v3⟩ := cell4_ D.out.2.1; obtain ⟨⟨k0, k1, k2⟩, z0, z1, z2⟩ := cell3 D.out.2.2.1
  go_upto_region 4 with (first | (go_at_call 22; have F := rPut.all A cc l (cap : Int) closed x _ D.out.2.2.2.2.1.now HC.out (Nat.le_trans HL.out (Nat.le_trans HCAP.out (by omega))); (with_reducible refine F.mono ?_); clear F; rintro e w2 ⟨A2, c2, rfl, hR, hc2, hb⟩; have RN := Aside0.mk (hR _ (D.out.s6 ST.out) D.out.2.2.2.2.1); have DN := Aside0.mk (D.out.below ST.out hb); clear D; have D := DN; clear DN; have DN := Aside0.mk (D.out.row RN.out); clear D; have D := DN; clear DN; have HC2 := Aside0.mk hc2; clear hc2 hb hR RN; clear i0 i1 i2 u0 u1 u2 j0 j1 j2 j3 v0 v1 v2 v3 k0 k1 k2 z0 z1 z2) | fail)
  obtain ⟨⟨l2, code⟩, hps⟩ : ∃ q, putS (cap : Int) l closed x = q := ⟨_, rfl⟩
  have HL2 := Aside0.mk (put_len HL.out hps)
  rw [hps] at HC2 D ⊢
  simp only at HC2 D ⊢
  have K8 := Aside0.mk (blk_new w2 (.cells #[.slice A2 l2.length c2, .int .i64 (cap : Int), .bool closed] 30))
  have hb := below_alloc (Below.refl w2.heap.size w2) (.cells #[.slice A2 l2.length c2, .int .i64 (cap : Int), .bool closed] 30)
  have D2S := Aside0.mk (show b4 < w2.heap.size ∧ b5 < w2.heap.size ∧ b6 < w2.heap.size ∧ w.heap.size ≤ w2.heap.size from ⟨blk_lt D.out.1, blk_lt D.out.2.1, blk_lt D.out.2.2.1, D.out.2.2.2.2.2.1.1⟩)
  have DN := Aside0.mk (D.out.below ST.out hb); clear D; have D := DN; clear DN
  have N8 := Aside0.mk (show w.heap.size ≤ w2.heap.size ∧ w2.heap.size ≠ b6 ∧ w2.heap.size ≠ b5 from ⟨by have h := D.out.2.2.2.2.2.1.1; have h3 := ST.out.2.2.1.1; have h4 := D2S.out; omega, by have h := D2S.out; omega, by have h := D2S.out; omega⟩)
  clear hb D2S
  generalize w2.alloc (.cells #[.slice A2 l2.length c2, .int .i64 (cap : Int), .bool closed] 30) = wx at D K8 ⊢
  generalize w2.heap.size = b8 at K8 N8 ⊢
  have n86 := N8.out.2.1
  have n85 := N8.out.2.2
  have n68 := Ne.symm n86
  obtain ⟨⟨i0, i1, i2⟩, u0, u1, u2⟩ := cell3 D.out.1; obtain ⟨⟨j0, j1, j2, j3⟩, v0, v1, v2, v3⟩ := cell4_ D.out.2.1; obtain ⟨⟨k0, k1, k2⟩, z0, z1, z2⟩ := cell3 D.out.2.2.1
  obtain ⟨⟨q0, q1, q2⟩, _⟩ := cell3 K8.out
  refine start_ (n := 9) (S := (fun w' => w'.cell? ⟨b8, 0, none⟩ = some (.slice A2 l2.length c2) ∧ w'.cell? ⟨b8, 1, none⟩ = some (.int .i64 (cap : Int)) ∧ w'.cell? ⟨b8, 2, none⟩ = some (.bool closed) ∧ w'.cell? ⟨b5, 2, none⟩ = some (.int .i64 x.f0) ∧ w'.cell? ⟨b5, 3, none⟩ = some (.int .i64 x.f1))) (ds := [7]) #[false, false, false, false, false, false, false, false, false] (by kernel_rfl) rfl rfl ⟨q0, q1, q2, j2, j3⟩ (fun hHeld => ?_); refine with_tabW doesR4.tab doesR4.bits (fun HT_ HW_ => ?_)
  have hb := below_drew1 (Below.refl wx.heap.size wx)
  have K8N := Aside0.mk (blk_below K8.out hb)
  have DN := Aside0.mk (D.out.below ST.out hb); clear D; have D := DN; clear DN
  clear hb K8 q0 q1 q2
  clear i0 i1 i2 u0 u1 u2 j0 j1 j2 j3 v0 v1 v2 v3 k0 k1 k2 z0 z1 z2
  have K8 := K8N
  clear K8N
  generalize wx.drew = w4 at D K8 hHeld ⊢
  obtain ⟨⟨q0, q1, q2⟩, _⟩ := cell3 K8.out
  obtain ⟨⟨i0, i1, i2⟩, u0, u1, u2⟩ := cell3 D.out.1; obtain ⟨⟨j0, j1, j2, j3⟩, v0, v1, v2, v3⟩ := cell4_ D.out.2.1; obtain ⟨⟨k0, k1, k2⟩, z0, z1, z2⟩ := cell3 D.out.2.2.1
  refine take_ (i := 0) (N := some 33) (v := ?_) (a' := ?_) #[true, false, false, false, false, false, false, false, false] rfl rfl (take_ofW HT_.out HW_.out (by kernel_rfl)) (fun _ _ _ h => h) (Or.inl ⟨by rfl, ?_⟩) hHeld ?_ ?_
  rotate_left
  · rintro w' ⟨s0, s1, s2, s3, s4⟩
    go_simp
    with_reducible rfl
  rotate_left
  · simp only [Act.put, List.setIfInBounds_toArray, List.set_cons_zero, List.set_cons_succ, i64_w, i32_w]
    rfl
  refine pure_ (i := 1) (N := some 34) (v := ?_) (a' := ?_) #[true, true, false, false, false, false, false, false, false] rfl rfl (any_of HT_.out (by kernel_rfl)) (fun _ _ _ h => h) (Or.inl ⟨by rfl, ?_⟩) ?_ ?_
  rotate_left
  · intro w'
    go_simp
    with_reducible rfl
  rotate_left
  · simp only [Act.put, List.setIfInBounds_toArray, List.set_cons_zero, List.set_cons_succ, i64_w, i32_w]
    rfl
  refine pure_ (i := 2) (N := some 35) (v := ?_) (a' := ?_) #[true, true, true, false, false, false, false, false, false] rfl rfl (any_of HT_.out (by kernel_rfl)) (fun _ _ _ h => h) (Or.inl ⟨by rfl, ?_⟩) ?_ ?_
  rotate_left
  · intro w'
    go_simp
    with_reducible rfl
  rotate_left
  · simp only [Act.put, List.setIfInBounds_toArray, List.set_cons_zero, List.set_cons_succ, i64_w, i32_w]
    rfl
  refine take_ (i := 3) (N := some 36) (v := ?_) (a' := ?_) #[true, true, true, true, false, false, false, false, false] rfl rfl (take_ofW HT_.out HW_.out (by kernel_rfl)) (fun _ _ _ h => h) (Or.inl ⟨by rfl, ?_⟩) hHeld ?_ ?_
  rotate_left
  · rintro w' ⟨s0, s1, s2, s3, s4⟩
    go_simp
    with_reducible rfl
  rotate_left
  · simp only [Act.put, List.setIfInBounds_toArray, List.set_cons_zero, List.set_cons_succ, i64_w, i32_w]
    rfl
  refine pure_ (i := 5) (N := some 38) (v := ?_) (a' := ?_) #[true, true, true, true, false, true, false, false, false] rfl rfl (any_of HT_.out (by kernel_rfl)) (fun _ _ _ h => h) (Or.inl ⟨by rfl, ?_⟩) ?_ ?_
  rotate_left
  · intro w'
    go_simp
    with_reducible rfl
  rotate_left
  · simp only [Act.put, List.setIfInBounds_toArray, List.set_cons_zero, List.set_cons_succ, i64_w, i32_w]
    rfl
  refine one_ (i := 4) (N := some 37) #[true, true, true, true, true, true, false, false, false] rfl rfl (one_of HT_.out (by kernel_rfl)) (by decide) (fun K hK => ?_)
  refine goes_ Try.func14 (by kernel_rfl) rfl #[.pointer (some ⟨g, 0, none⟩), .agg #[.int .i64 x.f0, .int .i64 x.f1]] (by rfl) rfl rfl (by (try simp only [List.map_toArray, List.map_cons, List.map_nil]); first | done | rfl) ?_
  refine (queue_Put.all base g c cap l closed x _ D.out.2.2.2.1 HL.out).mono ?_
  rintro e w5 ⟨rfl, hq, hk, hf⟩
  refine ⟨_, rfl, ?_⟩
  have K8N := Aside0.mk (blk_kept K8.out hk (fun e => by have h1 := ST.out.2.2.2.2.2; have h2 := N8.out.1; omega))
  have DN := Aside0.mk (D.out.call ST.out hq (hk.mono (fun k e => .inr e)) hf)
  rw [hps] at DN ⊢
  clear hq hk hf K8 D q0 q1 q2
  clear i0 i1 i2 u0 u1 u2 j0 j1 j2 j3 v0 v1 v2 v3 k0 k1 k2 z0 z1 z2
  have K8 := K8N
  have D := DN
  clear K8N DN
  obtain ⟨⟨q0, q1, q2⟩, _⟩ := cell3 K8.out
  obtain ⟨⟨i0, i1, i2⟩, u0, u1, u2⟩ := cell3 D.out.1; obtain ⟨⟨j0, j1, j2, j3⟩, v0, v1, v2, v3⟩ := cell4_ D.out.2.1; obtain ⟨⟨k0, k1, k2⟩, z0, z1, z2⟩ := cell3 D.out.2.2.1
  refine hK.out _ _ ⟨q0, q1, q2, j2, j3⟩ (fun hHeld => ?_)
  clear hK K
  refine norm_ (a' := ?_) ?_ ?_
  rotate_left
  · show Act.put _ (some 37) _ = _
    simp only [Act.put, List.setIfInBounds_toArray, List.set_cons_zero, List.set_cons_succ, i64_w, i32_w]
    rfl
  refine pure_ (i := 6) (N := some 39) (v := ?_) (a' := ?_) #[true, true, true, true, true, true, true, false, false] rfl rfl (any_of HT_.out (by kernel_rfl)) (fun _ _ _ h => h) (Or.inl ⟨by rfl, ?_⟩) ?_ ?_
  rotate_left
  · intro w'
    go_simp
    with_reducible rfl
  rotate_left
  · simp only [Act.put, List.setIfInBounds_toArray, List.set_cons_zero, List.set_cons_succ, i64_w, i32_w]
    rfl
  refine last_ (i := 7) (N := none) #[true, true, true, true, true, true, true, true, false] rfl rfl (one_of HT_.out (by kernel_rfl)) (by decide) (fun K hK => ?_)
  refine skip_ (w1 := ?_) (by rfl) rfl ?_ ?_
  rotate_left
  · go_simp
    rfl
  refine hK.out _ _ ?_
  clear hK K
  refine pure_ (i := 8) (N := some 7) (v := ?_) (a' := ?_) #[true, true, true, true, true, true, true, true, true] rfl rfl (any_of HT_.out (by kernel_rfl)) (fun _ _ _ h => h) (Or.inl ⟨by rfl, ?_⟩) ?_ ?_
  rotate_left
  · intro w'
    go_simp
    with_reducible rfl
  rotate_left
  · simp only [Act.put, List.setIfInBounds_toArray, List.set_cons_zero, List.set_cons_succ, i64_w, i32_w]
    rfl
  refine done_ (done_of HT_.out (by kernel_rfl)) ?_
  go_wp2
  refine bodyPost_ret (results_ct rfl _ _ b6 30 #[.slice A2 l2.length c2, .int .i64 (cap : Int), .bool closed] (0, 0) _ rfl (by exact put3 D.out.2.2.1) Try.underlying30 rfl (by kernel_rfl)) rfl ?_
  have D9 := D.out.put6 ST.out (.slice A2 l2.length c2) (.int .i64 (cap : Int)) (.bool closed)
  refine DPost.mk ⟨A2, c2, l2, closed, rfl, D9.2.2.2.1, D9.2.2.2.2.1.less (fun k e => .inl e), HC2.out, HL2.out, D9.2.2.2.2.2.1, D9.2.2.2.2.2.2⟩
def doesR8.T : Bool × List (List Nat × List Nat) := (true, [([], []), ([], []), ([], []), ([1, 2], [1, 2]), ([3], [3]), ([4], [4]), ([4], [4]), ([5, 6, 4], [4, 5, 6]), ([4, 7], [4, 7]), ([0, 4, 0], [0]), ([8, 9, 0, 1, 2, 3, 4, 5, 6, 7, 8, 9], [8])])
def doesR8.B : List Nat := [0, 0, 0, 6, 14, 30, 30, 126, 254, 31, 1023]
theorem doesR8.tab : rtab .any (opsOf Try.f8 8) = doesR8.T := by kernel_rfl
theorem doesR8.bits : waitsOk doesR8.T.2 doesR8.B = true := by kernel_rfl
set_option maxHeartbeats 16000000 in
set_option maxRecDepth 100000 in
theorem does.take (S : Nat → Prop) (base g c cap : Nat) (l : List S34) (closed : Bool) (A : Option Addr) (cc : Nat) (nn : Int) (x : S34) (w : World) (hQ : QAt w base g c cap l closed) (hR : Rd w S A l) (hSg : S g) (hSc : S c) (hS : ∀ k, S k → k < w.heap.size) (hc : l.length ≤ cc) (hl : l.length ≤ cap) (hcap : cap ≤ 4096) :
    Calls Try.prog 8 #[.pointer (some ⟨g, 0, none⟩), .agg #[.slice A l.length cc, .int .i64 (cap : Int), .bool closed], .agg #[.int .i64 1, .int .i64 nn, .int .i64 x.f0, .int .i64 x.f1]] w (DPost S base g c cap w) := by
  have hu30 := Try.underlying30
  have hu34 := Try.underlying34
  have hu36 := Try.underlying36
  have HL := Aside0.mk hl
  have HC := Aside0.mk hc
  have HCAP := Aside0.mk hcap
  have GL := Aside0.mk hQ.lt
  have D0 : Aside0 (DI base g c cap S w (((w.alloc (.cells #[.slice A l.length cc, .int .i64 (cap : Int), .bool closed] 30)).alloc (.cells #[.int .i64 1, .int .i64 nn, .int .i64 x.f0, .int .i64 x.f1] 36)).alloc (.cells #[.slice none 0 0, .int .i64 0, .bool false] 30)) l closed A l w.heap.size (w.heap.size + 1) (w.heap.size + 1 + 1) #[.slice A l.length cc, .int .i64 (cap : Int), .bool closed] #[.int .i64 1, .int .i64 nn, .int .i64 x.f0, .int .i64 x.f1] #[.slice none 0 0, .int .i64 0, .bool false]) := ⟨DI.start hQ hR hSg hSc hS #[.slice A l.length cc, .int .i64 (cap : Int), .bool closed] #[.int .i64 1, .int .i64 nn, .int .i64 x.f0, .int .i64 x.f1] #[.slice none 0 0, .int .i64 0, .bool false]⟩
  have ST : Aside0 (STt S w g c w.heap.size (w.heap.size + 1) (w.heap.size + 1 + 1)) := ⟨⟨hSg, hSc⟩, hS, ⟨Nat.le_refl _, by omega, by omega⟩, ⟨by omega, by omega, by omega⟩, hQ.lt⟩
  clear hQ hR hSg hSc hS hc hl hcap
  go_enter Try.func8, Try.ntmps8
  go_upto_region 1 with fail
  generalize ((w.alloc (.cells #[.slice A l.length cc, .int .i64 (cap : Int), .bool closed] 30)).alloc (.cells #[.int .i64 1, .int .i64 nn, .int .i64 x.f0, .int .i64 x.f1] 36)).alloc (.cells #[.slice none 0 0, .int .i64 0, .bool false] 30) = w1 at D0 ⊢
  generalize w.heap.size + 1 + 1 = b6 at D0 ST ⊢
  generalize w.heap.size + 1 = b5 at D0 ST ⊢
  obtain ⟨b4, hb4⟩ : ∃ b4, w.heap.size = b4 := ⟨_, rfl⟩
  rw [hb4] at D0 ST
  have HB4 := Aside0.mk hb4
  (try rw [hb4])
  clear hb4
  have n45 := ST.out.2.2.2.1.1
  have n46 := ST.out.2.2.2.1.2.1
  have n56 := ST.out.2.2.2.1.2.2
  have n54 := Ne.symm n45
  have n64 := Ne.symm n46
  have n65 := Ne.symm n56
  have D := D0
  clear D0
  obtain ⟨⟨i0, i1, i2⟩, u0, u1, u2⟩ := cell3 D.out.1; obtain ⟨⟨j0, j1, j2, j3⟩, v0, v1, v2, v3⟩ := cell4_ D.out.2.1; obtain ⟨⟨k0, k1, k2⟩, z0, z1, z2⟩ := cell3 D.out.2.2.1
  obtain ⟨lt, t1⟩ : ∃ lt, l.tail = lt := ⟨_, rfl⟩
  obtain ⟨hh, t2⟩ : ∃ hh, hd l = hh := ⟨_, rfl⟩
  obtain ⟨ok, t3⟩ : ∃ ok, (!l.isEmpty) = ok := ⟨_, rfl⟩
  have T1 := Aside0.mk t1
  have T2 := Aside0.mk t2
  have T3 := Aside0.mk t3
  clear t1 t2 t3
  go_upto_region 7 with (first | (go_at_call 23; have F := rTake.all_ A cc l lt hh ok T1.out T2.out T3.out (cap : Int) closed _ D.out.2.2.2.2.1.now HC.out; (with_reducible refine F.mono ?_); clear F; rintro e w2 ⟨A2, c2, rfl, hR, hc2, hb⟩; have RN := Aside0.mk (hR _ D.out.2.2.2.2.1); have DN := Aside0.mk (D.out.below ST.out hb); clear D; have D := DN; clear DN; have DN := Aside0.mk (D.out.row RN.out); clear D; have D := DN; clear DN; have HC2 := Aside0.mk hc2; clear hc2 hb hR RN; clear i0 i1 i2 u0 u1 u2 j0 j1 j2 j3 v0 v1 v2 v3 k0 k1 k2 z0 z1 z2) | fail)
  have HL2 := Aside0.mk (show lt.length ≤ cap from by rw [← T1.out]; exact Nat.le_trans (by simp) HL.out)
  have K10 := Aside0.mk (blk_below (blk_new w2 (.cells #[.slice A2 lt.length c2, .int .i64 (cap : Int), .bool closed] 30)) (below_alloc (Below.refl _ _) (.cells #[.int .i64 hh.f0, .int .i64 hh.f1] 34)))
  have K11 := Aside0.mk (blk_new (w2.alloc (.cells #[.slice A2 lt.length c2, .int .i64 (cap : Int), .bool closed] 30)) (.cells #[.int .i64 hh.f0, .int .i64 hh.f1] 34))
  have hb := below_alloc (below_alloc (Below.refl w2.heap.size w2) (.cells #[.slice A2 lt.length c2, .int .i64 (cap : Int), .bool closed] 30)) (.cells #[.int .i64 hh.f0, .int .i64 hh.f1] 34)
  have N10 := Aside0.mk (show w2.heap.size ≠ b6 ∧ w2.heap.size + 1 ≠ b6 ∧ w.heap.size ≤ w2.heap.size ∧ b6 < w2.heap.size from by have h1 := blk_lt D.out.2.2.1; have h2 := D.out.2.2.2.2.2.1.1; exact ⟨by omega, by omega, h2, h1⟩)
  have DN := Aside0.mk (D.out.below ST.out hb); clear D; have D := DN; clear DN
  clear hb
  simp only [World.size_alloc] at K11
  generalize (w2.alloc (.cells #[.slice A2 lt.length c2, .int .i64 (cap : Int), .bool closed] 30)).alloc (.cells #[.int .i64 hh.f0, .int .i64 hh.f1] 34) = wx at D K10 K11 ⊢
  obtain ⟨b11, hb11⟩ : ∃ b11, w2.heap.size + 1 = b11 := ⟨_, rfl⟩
  rw [hb11] at K11 N10
  (try rw [hb11])
  have N11 := Aside0.mk (show w2.heap.size ≤ b11 from by omega)
  clear hb11
  generalize w2.heap.size = b10 at K10 N10 N11 ⊢
  go_upto_region 8 with (first | (go_at_call 13; have F := queue_Take.all_ base g c cap l lt hh ok T1.out T2.out T3.out closed _ D.out.2.2.2.1; (with_reducible refine F.mono ?_); clear F; rintro e w5 ⟨rfl, hq, hk, hf⟩; have K10N := Aside0.mk (blk_kept K10.out hk (fun e => by have h1 := ST.out.2.2.2.2.2; have h2 := N10.out.2.2.1; omega)); have K11N := Aside0.mk (blk_kept K11.out hk (fun e => by have h1 := ST.out.2.2.2.2.2; have h2 := N10.out.2.2.1; have h3 := N11.out; omega)); have DN := Aside0.mk (D.out.call ST.out hq (hk.mono (fun k e => .inr e)) hf); clear hq hk hf K10 K11 D; have K10 := K10N; have K11 := K11N; have D := DN; clear K10N K11N DN) | fail)
  have K10N := Aside0.mk (blk_below K10.out (below_alloc (Below.refl _ _) (.cells #[.int .i64 hh.f0, .int .i64 hh.f1] 34)))
  have K11N := Aside0.mk (blk_below K11.out (below_alloc (Below.refl _ _) (.cells #[.int .i64 hh.f0, .int .i64 hh.f1] 34)))
  have K13 := Aside0.mk (blk_new w5 (.cells #[.int .i64 hh.f0, .int .i64 hh.f1] 34))
  have N13 := Aside0.mk (show w5.heap.size ≠ b6 from by have h1 := blk_lt D.out.2.2.1; omega)
  have hb := below_alloc (Below.refl w5.heap.size w5) (.cells #[.int .i64 hh.f0, .int .i64 hh.f1] 34)
  have DN := Aside0.mk (D.out.below ST.out hb); clear D; have D := DN; clear DN
  clear hb K10 K11
  have K10 := K10N
  have K11 := K11N
  clear K10N K11N
  generalize w5.alloc (.cells #[.int .i64 hh.f0, .int .i64 hh.f1] 34) = wy at D K10 K11 K13 ⊢
  generalize w5.heap.size = b13 at K13 N13 ⊢
  obtain ⟨⟨q0, q1, q2⟩, _⟩ := cell3 K10.out; obtain ⟨⟨t0, t1⟩, _⟩ := cell2 K11.out; obtain ⟨⟨r0, r1⟩, _⟩ := cell2 K13.out
  obtain ⟨⟨i0, i1, i2⟩, u0, u1, u2⟩ := cell3 D.out.1; obtain ⟨⟨j0, j1, j2, j3⟩, v0, v1, v2, v3⟩ := cell4_ D.out.2.1; obtain ⟨⟨k0, k1, k2⟩, z0, z1, z2⟩ := cell3 D.out.2.2.1
  refine start_ (n := 11) (S := (fun w' => w'.cell? ⟨b10, 0, none⟩ = some (.slice A2 lt.length c2) ∧ w'.cell? ⟨b10, 1, none⟩ = some (.int .i64 (cap : Int)) ∧ w'.cell? ⟨b10, 2, none⟩ = some (.bool closed) ∧ w'.cell? ⟨b13, 0, none⟩ = some (.int .i64 hh.f0) ∧ w'.cell? ⟨b13, 1, none⟩ = some (.int .i64 hh.f1) ∧ w'.cell? ⟨b11, 0, none⟩ = some (.int .i64 hh.f0) ∧ w'.cell? ⟨b11, 1, none⟩ = some (.int .i64 hh.f1))) (ds := [9]) #[false, false, false, false, false, false, false, false, false, false, false] (by kernel_rfl) rfl rfl ⟨q0, q1, q2, r0, r1, t0, t1⟩ (fun hHeld => ?_); refine with_tabW doesR8.tab doesR8.bits (fun HT_ HW_ => ?_)
  have hb := below_drew1 (Below.refl wy.heap.size wy)
  have K10N := Aside0.mk (blk_below K10.out hb)
  have K11N := Aside0.mk (blk_below K11.out hb)
  have K13N := Aside0.mk (blk_below K13.out hb)
  have DN := Aside0.mk (D.out.below ST.out hb); clear D; have D := DN; clear DN
  clear hb K10 K11 K13 q0 q1 q2 t0 t1 r0 r1
  clear i0 i1 i2 u0 u1 u2 j0 j1 j2 j3 v0 v1 v2 v3 k0 k1 k2 z0 z1 z2
  have K10 := K10N
  have K11 := K11N
  have K13 := K13N
  clear K10N K11N K13N
  generalize wy.drew = w4 at D K10 K11 K13 hHeld ⊢
  obtain ⟨⟨q0, q1, q2⟩, _⟩ := cell3 K10.out; obtain ⟨⟨t0, t1⟩, _⟩ := cell2 K11.out; obtain ⟨⟨r0, r1⟩, _⟩ := cell2 K13.out
  obtain ⟨⟨i0, i1, i2⟩, u0, u1, u2⟩ := cell3 D.out.1; obtain ⟨⟨j0, j1, j2, j3⟩, v0, v1, v2, v3⟩ := cell4_ D.out.2.1; obtain ⟨⟨k0, k1, k2⟩, z0, z1, z2⟩ := cell3 D.out.2.2.1
  refine take_ (i := 0) (N := some 53) (v := ?_) (a' := ?_) #[true, false, false, false, false, false, false, false, false, false, false] rfl rfl (take_ofW HT_.out HW_.out (by kernel_rfl)) (fun _ _ _ h => h) (Or.inl ⟨by rfl, ?_⟩) hHeld ?_ ?_
  rotate_left
  · rintro w' ⟨s0, s1, s2, s3, s4, s5, s6⟩
    go_simp
    with_reducible rfl
  rotate_left
  · simp only [Act.put, List.setIfInBounds_toArray, List.set_cons_zero, List.set_cons_succ, i64_w, i32_w]
    rfl
  refine take_ (i := 1) (N := some 54) (v := ?_) (a' := ?_) #[true, true, false, false, false, false, false, false, false, false, false] rfl rfl (take_ofW HT_.out HW_.out (by kernel_rfl)) (fun _ _ _ h => h) (Or.inl ⟨by rfl, ?_⟩) hHeld ?_ ?_
  rotate_left
  · rintro w' ⟨s0, s1, s2, s3, s4, s5, s6⟩
    go_simp
    with_reducible rfl
  rotate_left
  · simp only [Act.put, List.setIfInBounds_toArray, List.set_cons_zero, List.set_cons_succ, i64_w, i32_w]
    rfl
  refine take_ (i := 2) (N := some 55) (v := ?_) (a' := ?_) #[true, true, true, false, false, false, false, false, false, false, false] rfl rfl (take_ofW HT_.out HW_.out (by kernel_rfl)) (fun _ _ _ h => h) (Or.inl ⟨by rfl, ?_⟩) hHeld ?_ ?_
  rotate_left
  · rintro w' ⟨s0, s1, s2, s3, s4, s5, s6⟩
    go_simp
    with_reducible rfl
  rotate_left
  · simp only [Act.put, List.setIfInBounds_toArray, List.set_cons_zero, List.set_cons_succ, i64_w, i32_w]
    rfl
  refine pure_ (i := 3) (N := some 56) (v := ?_) (a' := ?_) #[true, true, true, true, false, false, false, false, false, false, false] rfl rfl (any_of HT_.out (by kernel_rfl)) (fun _ _ _ h => h) (Or.inl ⟨by rfl, ?_⟩) ?_ ?_
  rotate_left
  · intro w'
    go_simp
    with_reducible rfl
  rotate_left
  · simp only [Act.put, List.setIfInBounds_toArray, List.set_cons_zero, List.set_cons_succ, i64_w, i32_w]
    rfl
  refine pure_ (i := 4) (N := some 57) (v := ?_) (a' := ?_) #[true, true, true, true, true, false, false, false, false, false, false] rfl rfl (any_of HT_.out (by kernel_rfl)) (fun _ _ _ h => h) (Or.inl ⟨by rfl, ?_⟩) ?_ ?_
  rotate_left
  · intro w'
    go_simp
    with_reducible rfl
  rotate_left
  · simp only [Act.put, List.setIfInBounds_toArray, List.set_cons_zero, List.set_cons_succ, i64_w, i32_w]
    rfl
  refine pure_ (i := 5) (N := some 58) (v := ?_) (a' := ?_) #[true, true, true, true, true, true, false, false, false, false, false] rfl rfl (any_of HT_.out (by kernel_rfl)) (fun _ _ _ h => h) (Or.inl ⟨by rfl, ?_⟩) ?_ ?_
  rotate_left
  · intro w'
    go_simp
    with_reducible rfl
  rotate_left
  · simp only [Act.put, List.setIfInBounds_toArray, List.set_cons_zero, List.set_cons_succ, i64_w, i32_w]
    rfl
  refine pure_ (i := 6) (N := some 59) (v := ?_) (a' := ?_) #[true, true, true, true, true, true, true, false, false, false, false] rfl rfl (any_of HT_.out (by kernel_rfl)) (fun _ _ _ h => h) (Or.inl ⟨by rfl, ?_⟩) ?_ ?_
  rotate_left
  · intro w'
    go_simp
    with_reducible rfl
  rotate_left
  · simp only [Act.put, List.setIfInBounds_toArray, List.set_cons_zero, List.set_cons_succ, i64_w, i32_w]
    rfl
  refine pure_ (i := 7) (N := some 60) (v := ?_) (a' := ?_) #[true, true, true, true, true, true, true, true, false, false, false] rfl rfl (any_of HT_.out (by kernel_rfl)) (fun _ _ _ h => h) (Or.inl ⟨by rfl, ?_⟩) ?_ ?_
  rotate_left
  · intro w'
    go_simp
    with_reducible rfl
  rotate_left
  · simp only [Act.put, List.setIfInBounds_toArray, List.set_cons_zero, List.set_cons_succ, i64_w, i32_w]
    rfl
  refine pure_ (i := 8) (N := some 61) (v := ?_) (a' := ?_) #[true, true, true, true, true, true, true, true, true, false, false] rfl rfl (any_of HT_.out (by kernel_rfl)) (fun _ _ _ h => h) (Or.inl ⟨by rfl, ?_⟩) ?_ ?_
  rotate_left
  · intro w'
    go_simp
    with_reducible rfl
  rotate_left
  · simp only [Act.put, List.setIfInBounds_toArray, List.set_cons_zero, List.set_cons_succ, i64_w, i32_w]
    rfl
  refine last_ (i := 9) (N := none) #[true, true, true, true, true, true, true, true, true, true, false] rfl rfl (one_of HT_.out (by kernel_rfl)) (by decide) (fun K hK => ?_)
  refine skip_ (w1 := ?_) (by rfl) rfl ?_ ?_
  rotate_left
  · go_simp
    rfl
  refine hK.out _ _ ?_
  clear hK K
  refine pure_ (i := 10) (N := some 7) (v := ?_) (a' := ?_) #[true, true, true, true, true, true, true, true, true, true, true] rfl rfl (any_of HT_.out (by kernel_rfl)) (fun _ _ _ h => h) (Or.inl ⟨by rfl, ?_⟩) ?_ ?_
  rotate_left
  · intro w'
    go_simp
    with_reducible rfl
  rotate_left
  · simp only [Act.put, List.setIfInBounds_toArray, List.set_cons_zero, List.set_cons_succ, i64_w, i32_w]
    rfl
  refine done_ (done_of HT_.out (by kernel_rfl)) ?_
  go_wp2
  refine bodyPost_ret (results_ct rfl _ _ b6 30 #[.slice A2 lt.length c2, .int .i64 (cap : Int), .bool closed] (0, 0) _ rfl (by exact put3 D.out.2.2.1) Try.underlying30 rfl (by kernel_rfl)) rfl ?_
  have D9 := D.out.put6 ST.out (.slice A2 lt.length c2) (.int .i64 (cap : Int)) (.bool closed)
  refine DPost.mk ⟨A2, c2, lt, closed, rfl, D9.2.2.2.1, D9.2.2.2.2.1.less (fun k e => .inl e), HC2.out, HL2.out, D9.2.2.2.2.2.1, D9.2.2.2.2.2.2⟩
def doesR14.T : Bool × List (List Nat × List Nat) := (true, [([], []), ([], []), ([1], [1]), ([], []), ([2, 3], [2, 3]), ([0, 2, 0], [0]), ([4, 5, 0, 1, 2, 3, 4, 5], [4])])
def doesR14.B : List Nat := [0, 0, 2, 0, 14, 7, 63]
theorem doesR14.tab : rtab .any (opsOf Try.f8 14) = doesR14.T := by kernel_rfl
theorem doesR14.bits : waitsOk doesR14.T.2 doesR14.B = true := by kernel_rfl
set_option maxHeartbeats 16000000 in
set_option maxRecDepth 100000 in
theorem does.close_ (S : Nat → Prop) (base g c cap : Nat) (l : List S34) (A : Option Addr) (cc : Nat) (nn : Int) (x : S34) (w : World) (hQ : QAt w base g c cap l false) (hR : Rd w S A l) (hSg : S g) (hSc : S c) (hS : ∀ k, S k → k < w.heap.size) (hc : l.length ≤ cc) (hl : l.length ≤ cap) (hcap : cap ≤ 4096) :
    Calls Try.prog 8 #[.pointer (some ⟨g, 0, none⟩), .agg #[.slice A l.length cc, .int .i64 (cap : Int), .bool false], .agg #[.int .i64 2, .int .i64 nn, .int .i64 x.f0, .int .i64 x.f1]] w (DPost S base g c cap w) := by
  have hu30 := Try.underlying30
  have hu34 := Try.underlying34
  have hu36 := Try.underlying36
  have HL := Aside0.mk hl
  have HC := Aside0.mk hc
  have HCAP := Aside0.mk hcap
  have GL := Aside0.mk hQ.lt
  have D0 : Aside0 (DI base g c cap S w (((w.alloc (.cells #[.slice A l.length cc, .int .i64 (cap : Int), .bool false] 30)).alloc (.cells #[.int .i64 2, .int .i64 nn, .int .i64 x.f0, .int .i64 x.f1] 36)).alloc (.cells #[.slice none 0 0, .int .i64 0, .bool false] 30)) l false A l w.heap.size (w.heap.size + 1) (w.heap.size + 1 + 1) #[.slice A l.length cc, .int .i64 (cap : Int), .bool false] #[.int .i64 2, .int .i64 nn, .int .i64 x.f0, .int .i64 x.f1] #[.slice none 0 0, .int .i64 0, .bool false]) := ⟨DI.start hQ hR hSg hSc hS #[.slice A l.length cc, .int .i64 (cap : Int), .bool false] #[.int .i64 2, .int .i64 nn, .int .i64 x.f0, .int .i64 x.f1] #[.slice none 0 0, .int .i64 0, .bool false]⟩
  have ST : Aside0 (STt S w g c w.heap.size (w.heap.size + 1) (w.heap.size + 1 + 1)) := ⟨⟨hSg, hSc⟩, hS, ⟨Nat.le_refl _, by omega, by omega⟩, ⟨by omega, by omega, by omega⟩, hQ.lt⟩
  clear hQ hR hSg hSc hS hc hl hcap
  go_enter Try.func8, Try.ntmps8
  go_upto_region 1 with fail
  generalize ((w.alloc (.cells #[.slice A l.length cc, .int .i64 (cap : Int), .bool false] 30)).alloc (.cells #[.int .i64 2, .int .i64 nn, .int .i64 x.f0, .int .i64 x.f1] 36)).alloc (.cells #[.slice none 0 0, .int .i64 0, .bool false] 30) = w1 at D0 ⊢
  generalize w.heap.size + 1 + 1 = b6 at D0 ST ⊢
  generalize w.heap.size + 1 = b5 at D0 ST ⊢
  obtain ⟨b4, hb4⟩ : ∃ b4, w.heap.size = b4 := ⟨_, rfl⟩
  rw [hb4] at D0 ST
  have HB4 := Aside0.mk hb4
  (try rw [hb4])
  clear hb4
  have n45 := ST.out.2.2.2.1.1
  have n46 := ST.out.2.2.2.1.2.1
  have n56 := ST.out.2.2.2.1.2.2
  have n54 := Ne.symm n45
  have n64 := Ne.symm n46
  have n65 := Ne.symm n56
  have D := D0
  clear D0
  obtain ⟨⟨i0, i1, i2⟩, u0, u1, u2⟩ := cell3 D.out.1; obtain ⟨⟨j0, j1, j2, j3⟩, v0, v1, v2, v3⟩ := cell4_ D.out.2.1; obtain ⟨⟨k0, k1, k2⟩, z0, z1, z2⟩ := cell3 D.out.2.2.1
  have HC2 := HC
  have HL2 := HL
  go_upto_region 14 with fail
  have DN := Aside0.mk (D.out.set4 ST.out 2 (.bool true) _ rfl)
  clear D
  have D : Aside0 (DI base g c cap S w _ l false A l b4 b5 b6 #[.slice A l.length cc, .int .i64 (cap : Int), .bool true] _ _) := DN
  clear DN
  clear i0 i1 i2 u0 u1 u2 j0 j1 j2 j3 v0 v1 v2 v3 k0 k1 k2 z0 z1 z2
  generalize w1.setCell ⟨b4, 2, none⟩ (.bool true) = wx at D ⊢
  obtain ⟨⟨i0, i1, i2⟩, u0, u1, u2⟩ := cell3 D.out.1; obtain ⟨⟨j0, j1, j2, j3⟩, v0, v1, v2, v3⟩ := cell4_ D.out.2.1; obtain ⟨⟨k0, k1, k2⟩, z0, z1, z2⟩ := cell3 D.out.2.2.1
  refine start_ (n := 7) (S := (fun w' => w'.cell? ⟨b4, 0, none⟩ = some (.slice A l.length cc) ∧ w'.cell? ⟨b4, 1, none⟩ = some (.int .i64 (cap : Int)) ∧ w'.cell? ⟨b4, 2, none⟩ = some (.bool true))) (ds := [5]) #[false, false, false, false, false, false, false] (by kernel_rfl) rfl rfl ⟨i0, i1, i2⟩ (fun hHeld => ?_); refine with_tabW doesR14.tab doesR14.bits (fun HT_ HW_ => ?_)
  have hb := below_drew1 (Below.refl wx.heap.size wx)
  have DN := Aside0.mk (D.out.below ST.out hb); clear D; have D := DN; clear DN
  clear hb
  clear i0 i1 i2 u0 u1 u2 j0 j1 j2 j3 v0 v1 v2 v3 k0 k1 k2 z0 z1 z2
  generalize wx.drew = w4 at D hHeld ⊢
  obtain ⟨⟨i0, i1, i2⟩, u0, u1, u2⟩ := cell3 D.out.1; obtain ⟨⟨j0, j1, j2, j3⟩, v0, v1, v2, v3⟩ := cell4_ D.out.2.1; obtain ⟨⟨k0, k1, k2⟩, z0, z1, z2⟩ := cell3 D.out.2.2.1
  refine take_ (i := 0) (N := some 67) (v := ?_) (a' := ?_) #[true, false, false, false, false, false, false] rfl rfl (take_ofW HT_.out HW_.out (by kernel_rfl)) (fun _ _ _ h => h) (Or.inl ⟨by rfl, ?_⟩) hHeld ?_ ?_
  rotate_left
  · rintro w' ⟨s0, s1, s2⟩
    go_simp
    with_reducible rfl
  rotate_left
  · simp only [Act.put, List.setIfInBounds_toArray, List.set_cons_zero, List.set_cons_succ, i64_w, i32_w]
    rfl
  refine pure_ (i := 1) (N := some 68) (v := ?_) (a' := ?_) #[true, true, false, false, false, false, false] rfl rfl (any_of HT_.out (by kernel_rfl)) (fun _ _ _ h => h) (Or.inl ⟨by rfl, ?_⟩) ?_ ?_
  rotate_left
  · intro w'
    go_simp
    with_reducible rfl
  rotate_left
  · simp only [Act.put, List.setIfInBounds_toArray, List.set_cons_zero, List.set_cons_succ, i64_w, i32_w]
    rfl
  refine pure_ (i := 3) (N := some 70) (v := ?_) (a' := ?_) #[true, true, false, true, false, false, false] rfl rfl (any_of HT_.out (by kernel_rfl)) (fun _ _ _ h => h) (Or.inl ⟨by rfl, ?_⟩) ?_ ?_
  rotate_left
  · intro w'
    go_simp
    with_reducible rfl
  rotate_left
  · simp only [Act.put, List.setIfInBounds_toArray, List.set_cons_zero, List.set_cons_succ, i64_w, i32_w]
    rfl
  refine one_ (i := 2) (N := some 69) #[true, true, true, true, false, false, false] rfl rfl (one_of HT_.out (by kernel_rfl)) (by decide) (fun K hK => ?_)
  refine goes_ Try.func15 (by kernel_rfl) rfl #[.pointer (some ⟨g, 0, none⟩)] (by rfl) rfl rfl (by (try simp only [List.map_toArray, List.map_cons, List.map_nil]); first | done | rfl) ?_
  refine (queue_Close.ok base g c cap l _ D.out.2.2.2.1).mono ?_
  rintro e w5 ⟨rfl, hq, hk, hf⟩
  refine ⟨_, rfl, ?_⟩
  have DN := Aside0.mk (D.out.call ST.out hq hk hf)
  clear hq hk hf D
  clear i0 i1 i2 u0 u1 u2 j0 j1 j2 j3 v0 v1 v2 v3 k0 k1 k2 z0 z1 z2
  have D := DN
  clear DN
  obtain ⟨⟨i0, i1, i2⟩, u0, u1, u2⟩ := cell3 D.out.1; obtain ⟨⟨j0, j1, j2, j3⟩, v0, v1, v2, v3⟩ := cell4_ D.out.2.1; obtain ⟨⟨k0, k1, k2⟩, z0, z1, z2⟩ := cell3 D.out.2.2.1
  refine hK.out _ _ ⟨i0, i1, i2⟩ (fun hHeld => ?_)
  clear hK K
  refine norm_ (a' := ?_) ?_ ?_
  rotate_left
  · show Act.put _ (some 69) _ = _
    simp only [Act.put, List.setIfInBounds_toArray, List.set_cons_zero, List.set_cons_succ, i64_w, i32_w]
    rfl
  refine pure_ (i := 4) (N := some 71) (v := ?_) (a' := ?_) #[true, true, true, true, true, false, false] rfl rfl (any_of HT_.out (by kernel_rfl)) (fun _ _ _ h => h) (Or.inl ⟨by rfl, ?_⟩) ?_ ?_
  rotate_left
  · intro w'
    go_simp
    with_reducible rfl
  rotate_left
  · simp only [Act.put, List.setIfInBounds_toArray, List.set_cons_zero, List.set_cons_succ, i64_w, i32_w]
    rfl
  refine last_ (i := 5) (N := none) #[true, true, true, true, true, true, false] rfl rfl (one_of HT_.out (by kernel_rfl)) (by decide) (fun K hK => ?_)
  refine skip_ (w1 := ?_) (by rfl) rfl ?_ ?_
  rotate_left
  · go_simp
    rfl
  refine hK.out _ _ ?_
  clear hK K
  refine pure_ (i := 6) (N := some 7) (v := ?_) (a' := ?_) #[true, true, true, true, true, true, true] rfl rfl (any_of HT_.out (by kernel_rfl)) (fun _ _ _ h => h) (Or.inl ⟨by rfl, ?_⟩) ?_ ?_
  rotate_left
  · intro w'
    go_simp
    with_reducible rfl
  rotate_left
  · simp only [Act.put, List.setIfInBounds_toArray, List.set_cons_zero, List.set_cons_succ, i64_w, i32_w]
    rfl
  refine done_ (done_of HT_.out (by kernel_rfl)) ?_
  go_wp2
  refine bodyPost_ret (results_ct rfl _ _ b6 30 #[.slice A l.length cc, .int .i64 (cap : Int), .bool true] (0, 0) _ rfl (by exact put3 D.out.2.2.1) Try.underlying30 rfl (by kernel_rfl)) rfl ?_
  have D9 := D.out.put6 ST.out (.slice A l.length cc) (.int .i64 (cap : Int)) (.bool true)
  refine DPost.mk ⟨A, cc, l, true, rfl, D9.2.2.2.1, D9.2.2.2.2.1.less (fun k e => .inl e), HC2.out, HL2.out, D9.2.2.2.2.2.1, D9.2.2.2.2.2.2⟩
set_option maxHeartbeats 16000000 in
set_option maxRecDepth 100000 in
theorem does.close2 (S : Nat → Prop) (base g c cap : Nat) (l : List S34) (A : Option Addr) (cc : Nat) (nn : Int) (x : S34) (w : World) (hQ : QAt w base g c cap l true) (hR : Rd w S A l) (hSg : S g) (hSc : S c) (hS : ∀ k, S k → k < w.heap.size) (hc : l.length ≤ cc) (hl : l.length ≤ cap) (hcap : cap ≤ 4096) :
    Calls Try.prog 8 #[.pointer (some ⟨g, 0, none⟩), .agg #[.slice A l.length cc, .int .i64 (cap : Int), .bool true], .agg #[.int .i64 2, .int .i64 nn, .int .i64 x.f0, .int .i64 x.f1]] w (DPost S base g c cap w) := by
  have hu30 := Try.underlying30
  have hu34 := Try.underlying34
  have hu36 := Try.underlying36
  have HL := Aside0.mk hl
  have HC := Aside0.mk hc
  have HCAP := Aside0.mk hcap
  have GL := Aside0.mk hQ.lt
  have D0 : Aside0 (DI base g c cap S w (((w.alloc (.cells #[.slice A l.length cc, .int .i64 (cap : Int), .bool true] 30)).alloc (.cells #[.int .i64 2, .int .i64 nn, .int .i64 x.f0, .int .i64 x.f1] 36)).alloc (.cells #[.slice none 0 0, .int .i64 0, .bool false] 30)) l true A l w.heap.size (w.heap.size + 1) (w.heap.size + 1 + 1) #[.slice A l.length cc, .int .i64 (cap : Int), .bool true] #[.int .i64 2, .int .i64 nn, .int .i64 x.f0, .int .i64 x.f1] #[.slice none 0 0, .int .i64 0, .bool false]) := ⟨DI.start hQ hR hSg hSc hS #[.slice A l.length cc, .int .i64 (cap : Int), .bool true] #[.int .i64 2, .int .i64 nn, .int .i64 x.f0, .int .i64 x.f1] #[.slice none 0 0, .int .i64 0, .bool false]⟩
  have ST : Aside0 (STt S w g c w.heap.size (w.heap.size + 1) (w.heap.size + 1 + 1)) := ⟨⟨hSg, hSc⟩, hS, ⟨Nat.le_refl _, by omega, by omega⟩, ⟨by omega, by omega, by omega⟩, hQ.lt⟩
  clear hQ hR hSg hSc hS hc hl hcap
  go_enter Try.func8, Try.ntmps8
  go_upto_region 1 with fail
  generalize ((w.alloc (.cells #[.slice A l.length cc, .int .i64 (cap : Int), .bool true] 30)).alloc (.cells #[.int .i64 2, .int .i64 nn, .int .i64 x.f0, .int .i64 x.f1] 36)).alloc (.cells #[.slice none 0 0, .int .i64 0, .bool false] 30) = w1 at D0 ⊢
  generalize w.heap.size + 1 + 1 = b6 at D0 ST ⊢
  generalize w.heap.size + 1 = b5 at D0 ST ⊢
  obtain ⟨b4, hb4⟩ : ∃ b4, w.heap.size = b4 := ⟨_, rfl⟩
  rw [hb4] at D0 ST
  have HB4 := Aside0.mk hb4
  (try rw [hb4])
  clear hb4
  have n45 := ST.out.2.2.2.1.1
  have n46 := ST.out.2.2.2.1.2.1
  have n56 := ST.out.2.2.2.1.2.2
  have n54 := Ne.symm n45
  have n64 := Ne.symm n46
  have n65 := Ne.symm n56
  have D := D0
  clear D0
  obtain ⟨⟨i0, i1, i2⟩, u0, u1, u2⟩ := cell3 D.out.1; obtain ⟨⟨j0, j1, j2, j3⟩, v0, v1, v2, v3⟩ := cell4_ D.out.2.1; obtain ⟨⟨k0, k1, k2⟩, z0, z1, z2⟩ := cell3 D.out.2.2.1
  have HC2 := HC
  have HL2 := HL
  go_upto_region 14 with fail
  have DN := Aside0.mk (D.out.set4 ST.out 2 (.bool true) _ rfl)
  clear D
  have D : Aside0 (DI base g c cap S w _ l true A l b4 b5 b6 #[.slice A l.length cc, .int .i64 (cap : Int), .bool true] _ _) := DN
  clear DN
  clear i0 i1 i2 u0 u1 u2 j0 j1 j2 j3 v0 v1 v2 v3 k0 k1 k2 z0 z1 z2
  generalize w1.setCell ⟨b4, 2, none⟩ (.bool true) = wx at D ⊢
  obtain ⟨⟨i0, i1, i2⟩, u0, u1, u2⟩ := cell3 D.out.1; obtain ⟨⟨j0, j1, j2, j3⟩, v0, v1, v2, v3⟩ := cell4_ D.out.2.1; obtain ⟨⟨k0, k1, k2⟩, z0, z1, z2⟩ := cell3 D.out.2.2.1
  refine start_ (n := 7) (S := (fun w' => w'.cell? ⟨b4, 0, none⟩ = some (.slice A l.length cc) ∧ w'.cell? ⟨b4, 1, none⟩ = some (.int .i64 (cap : Int)) ∧ w'.cell? ⟨b4, 2, none⟩ = some (.bool true))) (ds := [5]) #[false, false, false, false, false, false, false] (by kernel_rfl) rfl rfl ⟨i0, i1, i2⟩ (fun hHeld => ?_); refine with_tabW doesR14.tab doesR14.bits (fun HT_ HW_ => ?_)
  have hb := below_drew1 (Below.refl wx.heap.size wx)
  have DN := Aside0.mk (D.out.below ST.out hb); clear D; have D := DN; clear DN
  clear hb
  clear i0 i1 i2 u0 u1 u2 j0 j1 j2 j3 v0 v1 v2 v3 k0 k1 k2 z0 z1 z2
  generalize wx.drew = w4 at D hHeld ⊢
  obtain ⟨⟨i0, i1, i2⟩, u0, u1, u2⟩ := cell3 D.out.1; obtain ⟨⟨j0, j1, j2, j3⟩, v0, v1, v2, v3⟩ := cell4_ D.out.2.1; obtain ⟨⟨k0, k1, k2⟩, z0, z1, z2⟩ := cell3 D.out.2.2.1
  refine take_ (i := 0) (N := some 67) (v := ?_) (a' := ?_) #[true, false, false, false, false, false, false] rfl rfl (take_ofW HT_.out HW_.out (by kernel_rfl)) (fun _ _ _ h => h) (Or.inl ⟨by rfl, ?_⟩) hHeld ?_ ?_
  rotate_left
  · rintro w' ⟨s0, s1, s2⟩
    go_simp
    with_reducible rfl
  rotate_left
  · simp only [Act.put, List.setIfInBounds_toArray, List.set_cons_zero, List.set_cons_succ, i64_w, i32_w]
    rfl
  refine pure_ (i := 1) (N := some 68) (v := ?_) (a' := ?_) #[true, true, false, false, false, false, false] rfl rfl (any_of HT_.out (by kernel_rfl)) (fun _ _ _ h => h) (Or.inl ⟨by rfl, ?_⟩) ?_ ?_
  rotate_left
  · intro w'
    go_simp
    with_reducible rfl
  rotate_left
  · simp only [Act.put, List.setIfInBounds_toArray, List.set_cons_zero, List.set_cons_succ, i64_w, i32_w]
    rfl
  refine pure_ (i := 3) (N := some 70) (v := ?_) (a' := ?_) #[true, true, false, true, false, false, false] rfl rfl (any_of HT_.out (by kernel_rfl)) (fun _ _ _ h => h) (Or.inl ⟨by rfl, ?_⟩) ?_ ?_
  rotate_left
  · intro w'
    go_simp
    with_reducible rfl
  rotate_left
  · simp only [Act.put, List.setIfInBounds_toArray, List.set_cons_zero, List.set_cons_succ, i64_w, i32_w]
    rfl
  refine one_ (i := 2) (N := some 69) #[true, true, true, true, false, false, false] rfl rfl (one_of HT_.out (by kernel_rfl)) (by decide) (fun K hK => ?_)
  refine goes_ Try.func15 (by kernel_rfl) rfl #[.pointer (some ⟨g, 0, none⟩)] (by rfl) rfl rfl (by (try simp only [List.map_toArray, List.map_cons, List.map_nil]); first | done | rfl) ?_
  refine (queue_Close.again base g c cap l _ D.out.2.2.2.1).mono ?_
  rintro e w5 ⟨rfl, rfl⟩
  refine ⟨_, rfl, ?_⟩
  skip
  refine hK.out _ _ ⟨i0, i1, i2⟩ (fun hHeld => ?_)
  clear hK K
  refine norm_ (a' := ?_) ?_ ?_
  rotate_left
  · show Act.put _ (some 69) _ = _
    simp only [Act.put, List.setIfInBounds_toArray, List.set_cons_zero, List.set_cons_succ, i64_w, i32_w]
    rfl
  refine pure_ (i := 4) (N := some 71) (v := ?_) (a' := ?_) #[true, true, true, true, true, false, false] rfl rfl (any_of HT_.out (by kernel_rfl)) (fun _ _ _ h => h) (Or.inl ⟨by rfl, ?_⟩) ?_ ?_
  rotate_left
  · intro w'
    go_simp
    with_reducible rfl
  rotate_left
  · simp only [Act.put, List.setIfInBounds_toArray, List.set_cons_zero, List.set_cons_succ, i64_w, i32_w]
    rfl
  refine last_ (i := 5) (N := none) #[true, true, true, true, true, true, false] rfl rfl (one_of HT_.out (by kernel_rfl)) (by decide) (fun K hK => ?_)
  refine skip_ (w1 := ?_) (by rfl) rfl ?_ ?_
  rotate_left
  · go_simp
    rfl
  refine hK.out _ _ ?_
  clear hK K
  refine pure_ (i := 6) (N := some 7) (v := ?_) (a' := ?_) #[true, true, true, true, true, true, true] rfl rfl (any_of HT_.out (by kernel_rfl)) (fun _ _ _ h => h) (Or.inl ⟨by rfl, ?_⟩) ?_ ?_
  rotate_left
  · intro w'
    go_simp
    with_reducible rfl
  rotate_left
  · simp only [Act.put, List.setIfInBounds_toArray, List.set_cons_zero, List.set_cons_succ, i64_w, i32_w]
    rfl
  refine done_ (done_of HT_.out (by kernel_rfl)) ?_
  go_wp2
  refine bodyPost_ret (results_ct rfl _ _ b6 30 #[.slice A l.length cc, .int .i64 (cap : Int), .bool true] (0, 0) _ rfl (by exact put3 D.out.2.2.1) Try.underlying30 rfl (by kernel_rfl)) rfl ?_
  have D9 := D.out.put6 ST.out (.slice A l.length cc) (.int .i64 (cap : Int)) (.bool true)
  refine DPost.mk ⟨A, cc, l, true, rfl, D9.2.2.2.1, D9.2.2.2.2.1.less (fun k e => .inl e), HC2.out, HL2.out, D9.2.2.2.2.2.1, D9.2.2.2.2.2.2⟩
set_option maxHeartbeats 16000000 in
set_option maxRecDepth 100000 in
theorem does.other (S : Nat → Prop) (base g c cap : Nat) (l : List S34) (closed : Bool) (A : Option Addr) (cc : Nat) (kd : Int) (nn : Int) (x : S34) (w : World) (hQ : QAt w base g c cap l closed) (hR : Rd w S A l) (hSg : S g) (hSc : S c) (hS : ∀ k, S k → k < w.heap.size) (hc : l.length ≤ cc) (hl : l.length ≤ cap) (hcap : cap ≤ 4096) (h0 : (kd == 0) = false) (h1 : (kd == 1) = false) (h2 : (kd == 2) = false) (h3 : (kd == 3) = false) (h4 : (kd == 4) = false) :
    Calls Try.prog 8 #[.pointer (some ⟨g, 0, none⟩), .agg #[.slice A l.length cc, .int .i64 (cap : Int), .bool closed], .agg #[.int .i64 kd, .int .i64 nn, .int .i64 x.f0, .int .i64 x.f1]] w (DPost S base g c cap w) := by
  have hu30 := Try.underlying30
  have hu34 := Try.underlying34
  have hu36 := Try.underlying36
  have HL := Aside0.mk hl
  have HC := Aside0.mk hc
  have HCAP := Aside0.mk hcap
  have GL := Aside0.mk hQ.lt
  have D0 : Aside0 (DI base g c cap S w (((w.alloc (.cells #[.slice A l.length cc, .int .i64 (cap : Int), .bool closed] 30)).alloc (.cells #[.int .i64 kd, .int .i64 nn, .int .i64 x.f0, .int .i64 x.f1] 36)).alloc (.cells #[.slice none 0 0, .int .i64 0, .bool false] 30)) l closed A l w.heap.size (w.heap.size + 1) (w.heap.size + 1 + 1) #[.slice A l.length cc, .int .i64 (cap : Int), .bool closed] #[.int .i64 kd, .int .i64 nn, .int .i64 x.f0, .int .i64 x.f1] #[.slice none 0 0, .int .i64 0, .bool false]) := ⟨DI.start hQ hR hSg hSc hS #[.slice A l.length cc, .int .i64 (cap : Int), .bool closed] #[.int .i64 kd, .int .i64 nn, .int .i64 x.f0, .int .i64 x.f1] #[.slice none 0 0, .int .i64 0, .bool false]⟩
  have ST : Aside0 (STt S w g c w.heap.size (w.heap.size + 1) (w.heap.size + 1 + 1)) := ⟨⟨hSg, hSc⟩, hS, ⟨Nat.le_refl _, by omega, by omega⟩, ⟨by omega, by omega, by omega⟩, hQ.lt⟩
  clear hQ hR hSg hSc hS hc hl hcap
  go_enter Try.func8, Try.ntmps8
  go_upto_region 1 with fail
  generalize ((w.alloc (.cells #[.slice A l.length cc, .int .i64 (cap : Int), .bool closed] 30)).alloc (.cells #[.int .i64 kd, .int .i64 nn, .int .i64 x.f0, .int .i64 x.f1] 36)).alloc (.cells #[.slice none 0 0, .int .i64 0, .bool false] 30) = w1 at D0 ⊢
  generalize w.heap.size + 1 + 1 = b6 at D0 ST ⊢
  generalize w.heap.size + 1 = b5 at D0 ST ⊢
  obtain ⟨b4, hb4⟩ : ∃ b4, w.heap.size = b4 := ⟨_, rfl⟩
  rw [hb4] at D0 ST
  have HB4 := Aside0.mk hb4
  (try rw [hb4])
  clear hb4
  have n45 := ST.out.2.2.2.1.1
  have n46 := ST.out.2.2.2.1.2.1
  have n56 := ST.out.2.2.2.1.2.2
  have n54 := Ne.symm n45
  have n64 := Ne.symm n46
  have n65 := Ne.symm n56
  have D := D0
  clear D0
  obtain ⟨⟨i0, i1, i2⟩, u0, u1, u2⟩ := cell3 D.out.1; obtain ⟨⟨j0, j1, j2, j3⟩, v0, v1, v2, v3⟩ := cell4_ D.out.2.1; obtain ⟨⟨k0, k1, k2⟩, z0, z1, z2⟩ := cell3 D.out.2.2.1
  have HC2 := HC
  have HL2 := HL
  go_wp2
  refine bodyPost_ret (results_ct rfl _ _ b6 30 #[.slice A l.length cc, .int .i64 (cap : Int), .bool closed] (0, 0) _ rfl (by exact put3 D.out.2.2.1) Try.underlying30 rfl (by kernel_rfl)) rfl ?_
  have D9 := D.out.put6 ST.out (.slice A l.length cc) (.int .i64 (cap : Int)) (.bool closed)
  refine DPost.mk ⟨A, cc, l, closed, rfl, D9.2.2.2.1, D9.2.2.2.2.1.less (fun k e => .inl e), HC2.out, HL2.out, D9.2.2.2.2.2.1, D9.2.2.2.2.2.2⟩
def doesR29.T : Bool × List (List Nat × List Nat) := (true, [([], []), ([], []), ([1], [1]), ([], []), ([2, 3, 2], [2, 3]), ([0, 4, 0], [0]), ([4, 5, 0, 1, 2, 3, 4, 5], [4])])
def doesR29.B : List Nat := [0, 0, 2, 0, 14, 31, 63]
theorem doesR29.tab : rtab .any (opsOf Try.f8 29) = doesR29.T := by kernel_rfl
theorem doesR29.bits : waitsOk doesR29.T.2 doesR29.B = true := by kernel_rfl
theorem fam_two {w0 W W' : World} (h1 : Below w0.heap.size w0 W) (h2 : Below w0.heap.size w0 W') (hs : W.heap.size ≤ W'.heap.size) : Fam w0.heap.size W W' := by
  have hb : Below w0.heap.size W W' := ⟨h2.os.trans h1.os.symm, h2.tape.trans h1.tape.symm, h2.output.trans h1.output.symm, hs, fun i hi => (h2.block i hi).trans (h1.block i hi).symm⟩
  exact fun B u q1 _ q3 => q3.trans (hb.mono q1)
set_option maxHeartbeats 16000000 in
set_option maxRecDepth 100000 in
theorem does.drain (S : Nat → Prop) (w0 : World) (g c cap : Nat) (l : List S34) (closed : Bool) (A : Option Addr) (cc : Nat) (nn : Int) (x : S34) (w : World) (hQ : QAt w w0.heap.size g c cap l closed) (hR : Rd w S A l) (hSg : S g) (hSc : S c) (hS : ∀ k, S k → k < w.heap.size) (hc : l.length ≤ cc) (hl : l.length ≤ cap) (hcap : cap ≤ 4096) (hb0 : Below w0.heap.size w0 w) :
    Calls Try.prog 8 #[.pointer (some ⟨g, 0, none⟩), .agg #[.slice A l.length cc, .int .i64 (cap : Int), .bool closed], .agg #[.int .i64 4, .int .i64 nn, .int .i64 x.f0, .int .i64 x.f1]] w (DPost S w0.heap.size g c cap w) := by
  have hu30 := Try.underlying30
  have hu34 := Try.underlying34
  have hu36 := Try.underlying36
  have HL := Aside0.mk hl
  have HC := Aside0.mk hc
  have HCAP := Aside0.mk hcap
  have GL := Aside0.mk hQ.lt
  have D0 : Aside0 (DI w0.heap.size g c cap S w (((w.alloc (.cells #[.slice A l.length cc, .int .i64 (cap : Int), .bool closed] 30)).alloc (.cells #[.int .i64 4, .int .i64 nn, .int .i64 x.f0, .int .i64 x.f1] 36)).alloc (.cells #[.slice none 0 0, .int .i64 0, .bool false] 30)) l closed A l w.heap.size (w.heap.size + 1) (w.heap.size + 1 + 1) #[.slice A l.length cc, .int .i64 (cap : Int), .bool closed] #[.int .i64 4, .int .i64 nn, .int .i64 x.f0, .int .i64 x.f1] #[.slice none 0 0, .int .i64 0, .bool false]) := ⟨DI.start hQ hR hSg hSc hS #[.slice A l.length cc, .int .i64 (cap : Int), .bool closed] #[.int .i64 4, .int .i64 nn, .int .i64 x.f0, .int .i64 x.f1] #[.slice none 0 0, .int .i64 0, .bool false]⟩
  have ST : Aside0 (STt S w g c w.heap.size (w.heap.size + 1) (w.heap.size + 1 + 1)) := ⟨⟨hSg, hSc⟩, hS, ⟨Nat.le_refl _, by omega, by omega⟩, ⟨by omega, by omega, by omega⟩, hQ.lt⟩
  have HB0 := Aside0.mk hb0
  clear hb0 hQ hR hSg hSc hS hc hl hcap
  go_enter Try.func8, Try.ntmps8
  go_upto_region 1 with fail
  generalize ((w.alloc (.cells #[.slice A l.length cc, .int .i64 (cap : Int), .bool closed] 30)).alloc (.cells #[.int .i64 4, .int .i64 nn, .int .i64 x.f0, .int .i64 x.f1] 36)).alloc (.cells #[.slice none 0 0, .int .i64 0, .bool false] 30) = w1 at D0 ⊢
  generalize w.heap.size + 1 + 1 = b6 at D0 ST ⊢
  generalize w.heap.size + 1 = b5 at D0 ST ⊢
  obtain ⟨b4, hb4⟩ : ∃ b4, w.heap.size = b4 := ⟨_, rfl⟩
  rw [hb4] at D0 ST
  have HB4 := Aside0.mk hb4
  (try rw [hb4])
  clear hb4
  have n45 := ST.out.2.2.2.1.1
  have n46 := ST.out.2.2.2.1.2.1
  have n56 := ST.out.2.2.2.1.2.2
  have n54 := Ne.symm n45
  have n64 := Ne.symm n46
  have n65 := Ne.symm n56
  have D := D0
  clear D0
  obtain ⟨⟨i0, i1, i2⟩, u0, u1, u2⟩ := cell3 D.out.1; obtain ⟨⟨j0, j1, j2, j3⟩, v0, v1, v2, v3⟩ := cell4_ D.out.2.1; obtain ⟨⟨k0, k1, k2⟩, z0, z1, z2⟩ := cell3 D.out.2.2.1
  obtain ⟨ks, hks⟩ := (same34_ev l (Nat.le_trans HL.out (Nat.le_trans HCAP.out (by omega)))).rounds
  have KS := Aside0.mk hks
  clear hks
  have HC2 := Aside0.mk (Nat.le_refl ([] : List S34).length)
  have HL2 := Aside0.mk (Nat.zero_le cap)
  go_upto_region 29 with fail
  have DN := Aside0.mk (D.out.set4 ST.out 0 (.slice none 0 0) _ rfl)
  clear D
  have D : Aside0 (DI w0.heap.size g c cap S w _ l closed A l b4 b5 b6 #[.slice none ([] : List S34).length 0, .int .i64 (cap : Int), .bool closed] _ _) := DN
  clear DN
  clear i0 i1 i2 u0 u1 u2 j0 j1 j2 j3 v0 v1 v2 v3 k0 k1 k2 z0 z1 z2
  generalize w1.setCell ⟨b4, 0, none⟩ (.slice none 0 0) = wx at D ⊢
  obtain ⟨⟨i0, i1, i2⟩, u0, u1, u2⟩ := cell3 D.out.1; obtain ⟨⟨j0, j1, j2, j3⟩, v0, v1, v2, v3⟩ := cell4_ D.out.2.1; obtain ⟨⟨k0, k1, k2⟩, z0, z1, z2⟩ := cell3 D.out.2.2.1
  refine start_ (n := 7) (S := (fun w' => w'.cell? ⟨b4, 0, none⟩ = some (.slice none ([] : List S34).length 0) ∧ w'.cell? ⟨b4, 1, none⟩ = some (.int .i64 (cap : Int)) ∧ w'.cell? ⟨b4, 2, none⟩ = some (.bool closed))) (ds := [5]) #[false, false, false, false, false, false, false] (by kernel_rfl) rfl rfl ⟨i0, i1, i2⟩ (fun hHeld => ?_); refine with_tabW doesR29.tab doesR29.bits (fun HT_ HW_ => ?_)
  have hb := below_drew1 (Below.refl wx.heap.size wx)
  have DN := Aside0.mk (D.out.below ST.out hb); clear D; have D := DN; clear DN
  clear hb
  clear i0 i1 i2 u0 u1 u2 j0 j1 j2 j3 v0 v1 v2 v3 k0 k1 k2 z0 z1 z2
  generalize wx.drew = w4 at D hHeld ⊢
  obtain ⟨⟨i0, i1, i2⟩, u0, u1, u2⟩ := cell3 D.out.1; obtain ⟨⟨j0, j1, j2, j3⟩, v0, v1, v2, v3⟩ := cell4_ D.out.2.1; obtain ⟨⟨k0, k1, k2⟩, z0, z1, z2⟩ := cell3 D.out.2.2.1
  refine take_ (i := 0) (N := some 110) (v := ?_) (a' := ?_) #[true, false, false, false, false, false, false] rfl rfl (take_ofW HT_.out HW_.out (by kernel_rfl)) (fun _ _ _ h => h) (Or.inl ⟨by rfl, ?_⟩) hHeld ?_ ?_
  rotate_left
  · rintro w' ⟨s0, s1, s2⟩
    go_simp
    with_reducible rfl
  rotate_left
  · simp only [Act.put, List.setIfInBounds_toArray, List.set_cons_zero, List.set_cons_succ, i64_w, i32_w]
    rfl
  refine pure_ (i := 1) (N := some 111) (v := ?_) (a' := ?_) #[true, true, false, false, false, false, false] rfl rfl (any_of HT_.out (by kernel_rfl)) (fun _ _ _ h => h) (Or.inl ⟨by rfl, ?_⟩) ?_ ?_
  rotate_left
  · intro w'
    go_simp
    with_reducible rfl
  rotate_left
  · simp only [Act.put, List.setIfInBounds_toArray, List.set_cons_zero, List.set_cons_succ, i64_w, i32_w]
    rfl
  refine pure_ (i := 3) (N := some 113) (v := ?_) (a' := ?_) #[true, true, false, true, false, false, false] rfl rfl (any_of HT_.out (by kernel_rfl)) (fun _ _ _ h => h) (Or.inl ⟨by rfl, ?_⟩) ?_ ?_
  rotate_left
  · intro w'
    go_simp
    with_reducible rfl
  rotate_left
  · simp only [Act.put, List.setIfInBounds_toArray, List.set_cons_zero, List.set_cons_succ, i64_w, i32_w]
    rfl
  refine one_ (i := 2) (N := some 112) #[true, true, true, true, false, false, false] rfl rfl (one_of HT_.out (by kernel_rfl)) (by decide) (fun K hK => ?_)
  refine goes_ Try.func17 (by kernel_rfl) rfl #[.pointer (some ⟨g, 0, none⟩)] (by rfl) rfl rfl (by (try simp only [List.map_toArray, List.map_cons, List.map_nil]); first | done | rfl) ?_
  refine (queue_Drain.calls_ w0 g c cap l closed _ (D.out.2.2.2.2.2.2 _ _ (Nat.le_refl _) HB0.out.size HB0.out) D.out.2.2.2.1 (Nat.le_trans HL.out (Nat.le_trans HCAP.out (by omega)))).mono ?_
  rintro e w5 ⟨v5, rfl, hR, hq, hk, hb⟩
  refine ⟨_, rfl, ?_⟩
  obtain ⟨A5, c5, rfl⟩ := Kd.R_slice hR
  have DN := Aside0.mk (D.out.call ST.out hq (hk.mono (fun k e => .inr e)) (fam_two (D.out.2.2.2.2.2.2 _ _ (Nat.le_refl _) HB0.out.size HB0.out) hb hk.1))
  have R5 := Aside0.mk hR
  clear hR hq hk hb D
  clear i0 i1 i2 u0 u1 u2 j0 j1 j2 j3 v0 v1 v2 v3 k0 k1 k2 z0 z1 z2
  have D := DN
  clear DN
  obtain ⟨⟨i0, i1, i2⟩, u0, u1, u2⟩ := cell3 D.out.1; obtain ⟨⟨j0, j1, j2, j3⟩, v0, v1, v2, v3⟩ := cell4_ D.out.2.1; obtain ⟨⟨k0, k1, k2⟩, z0, z1, z2⟩ := cell3 D.out.2.2.1
  refine hK.out _ _ ⟨i0, i1, i2⟩ (fun hHeld => ?_)
  clear hK K
  refine norm_ (a' := ?_) ?_ ?_
  rotate_left
  · show Act.put _ (some 112) _ = _
    simp only [Act.put, List.setIfInBounds_toArray, List.set_cons_zero, List.set_cons_succ, i64_w, i32_w]
    rfl
  refine one_ (i := 4) (N := some 114) #[true, true, true, true, true, false, false] rfl rfl (one_of HT_.out (by kernel_rfl)) (by decide) (fun K hK => ?_)
  refine goes_ Try.func20 (by kernel_rfl) rfl #[.slice A5 l.length c5, .slice A l.length cc] (by rfl) rfl rfl (by (try simp only [List.map_toArray, List.map_cons, List.map_nil]); first | done | rfl) ?_
  refine (juratref15_Same.calls ks A5 c5 l A cc l true _ (Kd.R_reads' R5.out).2.2 (Kd.R_reads' R5.out).2.1 D.out.2.2.2.2.1.now HC.out KS.out).mono ?_
  rintro e w6 ⟨rfl, hd⟩
  refine ⟨_, rfl, ?_⟩
  have hb := hd.below
  have DN := Aside0.mk (D.out.below ST.out hb); clear D; have D := DN; clear DN
  clear hd hb R5
  clear i0 i1 i2 u0 u1 u2 j0 j1 j2 j3 v0 v1 v2 v3 k0 k1 k2 z0 z1 z2
  obtain ⟨⟨i0, i1, i2⟩, u0, u1, u2⟩ := cell3 D.out.1; obtain ⟨⟨j0, j1, j2, j3⟩, v0, v1, v2, v3⟩ := cell4_ D.out.2.1; obtain ⟨⟨k0, k1, k2⟩, z0, z1, z2⟩ := cell3 D.out.2.2.1
  refine hK.out _ _ ⟨i0, i1, i2⟩ (fun hHeld => ?_)
  clear hK K
  refine norm_ (a' := ?_) ?_ ?_
  rotate_left
  · show Act.put _ (some 114) _ = _
    simp only [Act.put, List.setIfInBounds_toArray, List.set_cons_zero, List.set_cons_succ, i64_w, i32_w]
    rfl
  refine last_ (i := 5) (N := none) #[true, true, true, true, true, true, false] rfl rfl (one_of HT_.out (by kernel_rfl)) (by decide) (fun K hK => ?_)
  refine skip_ (w1 := ?_) (by rfl) rfl ?_ ?_
  rotate_left
  · go_simp
    rfl
  refine hK.out _ _ ?_
  clear hK K
  refine pure_ (i := 6) (N := some 7) (v := ?_) (a' := ?_) #[true, true, true, true, true, true, true] rfl rfl (any_of HT_.out (by kernel_rfl)) (fun _ _ _ h => h) (Or.inl ⟨by rfl, ?_⟩) ?_ ?_
  rotate_left
  · intro w'
    go_simp
    with_reducible rfl
  rotate_left
  · simp only [Act.put, List.setIfInBounds_toArray, List.set_cons_zero, List.set_cons_succ, i64_w, i32_w]
    rfl
  refine done_ (done_of HT_.out (by kernel_rfl)) ?_
  have DN := Aside0.mk (D.out.row (A' := none) (lr' := ([] : List S34)) (Rd.nil _ _))
  clear D
  have D := DN
  clear DN
  go_wp2
  refine bodyPost_ret (results_ct rfl _ _ b6 30 #[.slice none ([] : List S34).length 0, .int .i64 (cap : Int), .bool closed] (0, 0) _ rfl (by exact put3 D.out.2.2.1) Try.underlying30 rfl (by kernel_rfl)) rfl ?_
  have D9 := D.out.put6 ST.out (.slice none ([] : List S34).length 0) (.int .i64 (cap : Int)) (.bool closed)
  refine DPost.mk ⟨none, 0, ([] : List S34), closed, rfl, D9.2.2.2.1, D9.2.2.2.2.1.less (fun k e => .inl e), HC2.out, HL2.out, D9.2.2.2.2.2.1, D9.2.2.2.2.2.2⟩
end Go.Proofs.Ytphmeljhfbahoaa.PQ
