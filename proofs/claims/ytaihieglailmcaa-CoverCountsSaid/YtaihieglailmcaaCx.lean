/- What holds along a walk by hand: facts of the world, each of which hangs on blocks outside S alone. -/
import Derived.Test.YtaihieglailmcaaWMore
import Derived.Test.YtaihieglailmcaaWShare
import Derived.Test.YtaihieglailmcaaWN
import Derived.Test.YtaihieglailmcaaWFoot
set_option linter.unusedVariables false
namespace Go.Proofs.YtaihieglailmcaaW.PrintWords
open Go.RowKit
structure Cx (S : Nat → Prop) (w0 W : World) (R : List (World → Prop)) : Prop where
  hb : Below w0.heap.size w0 W
  ge : ∀ k, S k → w0.heap.size ≤ k
  foot : ∀ P, P ∈ R → Foot P W (fun k => ¬ S k)
/-- A block's content. -/
def Blk (g : Nat) (cs : Array Value) (t : Nat) (W : World) : Prop := W.heap[g]? = some (.cells cs t (0, 0))
/-- A row that is read. -/
def Row {α : Type} (d : Kd α) (A : Option Addr) (xs : List α) (W : World) : Prop := d.C W A xs.length xs
namespace Cx
variable {S : Nat → Prop} {w0 W W' : World} {R : List (World → Prop)} {P : World → Prop}
theorem start (S : Nat → Prop) (w : World) (hS : ∀ k, S k → w.heap.size ≤ k) : Cx S w w [] := ⟨Below.refl _ _, hS, fun P h => by cases h⟩
theorem keep (h : Cx S w0 W R) (hb : Below w0.heap.size w0 W') (hk : ∀ k, k < W.heap.size → ¬ S k → W'.heap[k]? = W.heap[k]?) : Cx S w0 W' R :=
  ⟨hb, h.ge, fun P hP => Foot.step (h.foot P hP) (fun k hok hlt => hk k hlt hok)⟩
theorem step (h : Cx S w0 W R) (hb : Below W.heap.size W W') : Cx S w0 W' R := h.keep (below_step h.hb hb) (fun k hk _ => hb.block k hk)
theorem alloc (h : Cx S w0 W R) (o : Obj) : Cx S w0 (W.alloc o) R := h.step (below_alloc (Below.refl _ _) o)
theorem drew (h : Cx S w0 W R) : Cx S w0 W.drew R := h.step (below_drew (Below.refl _ _))
theorem drawn (h : Cx S w0 W R) (hd : Drawn0 W W') : Cx S w0 W' R := h.step hd.below
theorem kept (h : Cx S w0 W R) {g : Nat} (hk : KeepBut W W' g none) (hb : Below w0.heap.size w0 W') (hg : S g) : Cx S w0 W' R :=
  h.keep hb (fun k hlt hS => hk.2 k hlt (fun e => hS (e ▸ hg)) (by simp))
theorem add (h : Cx S w0 W R) (hp : Foot P W (fun k => ¬ S k)) : Cx S w0 W (P :: R) := ⟨h.hb, h.ge, fun Q hQ => by
  rcases List.mem_cons.1 hQ with rfl | hQ
  · exact hp
  · exact h.foot Q hQ⟩
theorem get (h : Cx S w0 W R) (i : Nat) (e : R[i]? = some P) : P W := (h.foot P (List.mem_of_getElem? e)).now
theorem footAt (h : Cx S w0 W R) (i : Nat) (e : R[i]? = some P) : Foot P W (fun k => ¬ S k) := h.foot P (List.mem_of_getElem? e)
theorem pick (h : Cx S w0 W R) (R' : List (World → Prop)) (hR : ∀ P, P ∈ R' → P ∈ R) : Cx S w0 W R' := ⟨h.hb, h.ge, fun P hP => h.foot P (hR P hP)⟩
theorem pick2 {Q : World → Prop} (h : Cx S w0 W R) (i j : Nat) (e : R[i]? = some P) (e' : R[j]? = some Q) : Cx S w0 W [P, Q] := h.pick _ (fun T hT => by
  rcases List.mem_cons.1 hT with rfl | hT
  · exact List.mem_of_getElem? e
  · rw [List.mem_singleton] at hT
    exact hT ▸ List.mem_of_getElem? e')
/-- A block that is known, and is none of S. -/
theorem blk (h : Cx S w0 W R) {g : Nat} {cs : Array Value} {t : Nat} (hb : W.heap[g]? = some (.cells cs t (0, 0))) (hg : ¬ S g) : Cx S w0 W (Blk g cs t :: R) :=
  h.add (fun W' hW => (hW g hg (blk_lt hb)).trans hb)
/-- A new block. -/
theorem new (h : Cx S w0 W R) (cs : Array Value) (t : Nat) (hg : ¬ S W.heap.size) : Cx S w0 (W.alloc (.cells cs t (0, 0))) (Blk W.heap.size cs t :: R) :=
  (h.alloc _).blk (blk_new W _) hg
/-- A row that came in: its blocks stood ahead of w0. -/
theorem came {α : Type} {d : Kd α} (h : Cx S w0 W R) (hd : Kd.Heap d) {A : Option Addr} {xs : List α} (hc : d.C w0 A xs.length xs) : Cx S w0 W (Row d A xs :: R) :=
  h.add (fun W' hW => hd.C (fun k hlt => by
    have hk : ¬ S k := fun hs => by have := h.ge k hs; omega
    exact (hW k hk (Nat.lt_of_lt_of_le hlt h.hb.size)).trans (h.hb.block k hlt)) hc)
/-- A row of one's own that lies in none of S's blocks. -/
theorem own {α : Type} {d : Kd α} (h : Cx S w0 W R) {e base : Nat} {ok : Nat → Prop} {A : Option Addr} {c n : Nat} {xs : List α} (hr : d.R e W base ok (.slice A n c) xs) (hok : ∀ k, ok k → ¬ S k) : Cx S w0 W (Row d A xs :: R) :=
  h.add (fun W' hW => (Kd.R_reads' (Kd.R_step hr (fun k ho hlt => hW k (hok k ho) hlt))).2.2)
theorem noneS {α : Type} {d : Kd α} (h : Cx (fun _ => False) w0 W R) {e base : Nat} {ok : Nat → Prop} {A : Option Addr} {c n : Nat} {xs : List α} (hr : d.R e W base ok (.slice A n c) xs) : Cx (fun _ => False) w0 W (Row d A xs :: R) := h.own hr (fun _ _ h => h)
/-- A shared row. -/
theorem share {α : Type} {d : Kd α} (h : Cx S w0 W R) {e base : Nat} {ok : Nat → Prop} {A : Option Addr} {c n : Nat} {xs : List α} (hr : Kd.N d e W base ok (.slice A n c) xs) (hok : ∀ k, ok k → ¬ S k) : Cx S w0 W (Row d A xs :: R) :=
  h.add (fun W' hW => by
    have hl := (Kd.N_reads' hr).1
    subst hl
    exact Kd.N_F hr W' (fun k ho hlt => hW k (hok k ho) hlt))
theorem nilRow {α : Type} {d : Kd α} (h : Cx S w0 W R) : Cx S w0 W (Row d none ([] : List α) :: R) := h.add (fun W' _ => Kd.C_nil d W')
end Cx
end Go.Proofs.YtaihieglailmcaaW.PrintWords
