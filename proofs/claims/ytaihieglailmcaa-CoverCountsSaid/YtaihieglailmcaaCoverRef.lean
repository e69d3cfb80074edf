/- The document's cover, over records that are read, by walking its text. -/
import Derived.Test.YtaihieglailmcaaCPlain
import Derived.Test.YtaihieglailmcaaPCx3
import Derived.Test.YtaihieglailmcaaPCx3
import Derived.Test.YtaihieglailmcaaPCx3
set_option linter.unusedVariables false
set_option linter.unusedSimpArgs false
namespace Go.Proofs.Ytaihieglailmcaa.PC
open Go.RowKit Go.Proofs.YtaihieglailmcaaW.PrintWords Go.Proofs.YtaihieglailmcaaW.PrintLast Go.Proofs.YtaihieglailmcaaW.PrintMore
theorem c8 {w : World} {g : Nat} {a b c d e f h i : Value} {t : TypeId} (hb : w.heap[g]? = some (.cells #[a, b, c, d, e, f, h, i] t (0, 0))) : (w.cell? ⟨g, 0, none⟩ = some a ∧ w.cell? ⟨g, 1, none⟩ = some b ∧ w.cell? ⟨g, 2, none⟩ = some c ∧ w.cell? ⟨g, 3, none⟩ = some d ∧ w.cell? ⟨g, 4, none⟩ = some e ∧ w.cell? ⟨g, 5, none⟩ = some f ∧ w.cell? ⟨g, 6, none⟩ = some h ∧ w.cell? ⟨g, 7, none⟩ = some i) ∧ w.frozen? ⟨g, 0, none⟩ = false ∧ w.frozen? ⟨g, 1, none⟩ = false ∧ w.frozen? ⟨g, 2, none⟩ = false ∧ w.frozen? ⟨g, 3, none⟩ = false ∧ w.frozen? ⟨g, 4, none⟩ = false ∧ w.frozen? ⟨g, 5, none⟩ = false ∧ w.frozen? ⟨g, 6, none⟩ = false ∧ w.frozen? ⟨g, 7, none⟩ = false := cell8 hb
theorem cput8 {w : World} {g : Nat} {a b c d e f h i a' b' c' d' e' f' h' i' : Value} {t : TypeId} (hb : w.heap[g]? = some (.cells #[a, b, c, d, e, f, h, i] t (0, 0))) : ((((((((w.setCell ⟨g, 0, none⟩ a').setCell ⟨g, 1, none⟩ b').setCell ⟨g, 2, none⟩ c').setCell ⟨g, 3, none⟩ d').setCell ⟨g, 4, none⟩ e').setCell ⟨g, 5, none⟩ f').setCell ⟨g, 6, none⟩ h').setCell ⟨g, 7, none⟩ i').heap[g]? = some (.cells #[a', b', c', d', e', f', h', i'] t (0, 0)) :=
  blk_put (cs := #[a', b', c', d', e', f', h', i]) (blk_put (cs := #[a', b', c', d', e', f', h, i]) (blk_put (cs := #[a', b', c', d', e', f, h, i]) (blk_put (cs := #[a', b', c', d', e, f, h, i]) (blk_put (cs := #[a', b', c', d, e, f, h, i]) (blk_put (cs := #[a', b', c, d, e, f, h, i]) (blk_put (cs := #[a', b, c, d, e, f, h, i]) (blk_put (cs := #[a, b, c, d, e, f, h, i]) hb 0 a' rfl) 1 b' rfl) 2 c' rfl) 3 d' rfl) 4 e' rfl) 5 f' rfl) 6 h' rfl) 7 i' rfl
theorem cbel8 {B g : Nat} {w W : World} {a' b' c' d' e' f' h' i' : Value} (h : Below B w W) (hg : B ≤ g) : Below B w ((((((((W.setCell ⟨g, 0, none⟩ a').setCell ⟨g, 1, none⟩ b').setCell ⟨g, 2, none⟩ c').setCell ⟨g, 3, none⟩ d').setCell ⟨g, 4, none⟩ e').setCell ⟨g, 5, none⟩ f').setCell ⟨g, 6, none⟩ h').setCell ⟨g, 7, none⟩ i') :=
  (((((((h.setCell (p := ⟨g, 0, none⟩) hg a').setCell (p := ⟨g, 1, none⟩) hg b').setCell (p := ⟨g, 2, none⟩) hg c').setCell (p := ⟨g, 3, none⟩) hg d').setCell (p := ⟨g, 4, none⟩) hg e').setCell (p := ⟨g, 5, none⟩) hg f').setCell (p := ⟨g, 6, none⟩) hg h').setCell (p := ⟨g, 7, none⟩) hg i'
def crefR16.T : Bool × List (List Nat × List Nat) := (true, [([], []), ([0], [0]), ([], []), ([], []), ([3], [3]), ([1, 2, 4, 4], [1, 2, 4]), ([5], [5]), ([6], [6]), ([6], [6]), ([7, 5, 0, 1, 2, 3, 4, 5, 6, 7], [7]), ([8, 9, 0, 1, 2, 3, 4, 5, 6, 7, 8, 9], [8])])
def crefR16.B : List Nat := [0, 1, 0, 0, 8, 31, 63, 127, 127, 255, 1023]
theorem crefR16.tab : rtab .any (opsOf Try.f27 16) = crefR16.T := by kernel_rfl
theorem crefR16.bits : waitsOk crefR16.T.2 crefR16.B = true := by kernel_rfl
set_option maxHeartbeats 8000000 in
set_option maxRecDepth 100000 in
theorem cref_Begin.over (a h : Int) (R : S28) (left : Int) (B : Option Addr) (d : Nat) (r : S28) (A : Option Addr) (c : Nat) (w : World) (hr : Kd.C (Kd.int .i64) w A r.f3.length r.f3) (hc : r.f3.length ≤ c) : Calls Try.prog 27 #[.agg #[.int .i64 a, .int .i64 h, .int .i64 R.f0, .int .i64 R.f1, .int .i64 R.f2, .slice B R.f3.length d, .int .i64 left, .bool true], .agg #[.int .i64 r.f0, .int .i64 r.f1, .int .i64 r.f2, .slice A r.f3.length c]] w fun e w' => e = .returned (.tuple #[.agg #[.int .i64 a, .int .i64 h, .int .i64 R.f0, .int .i64 R.f1, .int .i64 R.f2, .slice B R.f3.length d, .int .i64 left, .bool true], .int .i64 12]) ∧ Below w.heap.size w w' := by
  have hu := Try.underlying28
  have hu49 := Try.underlying49
  have HR := Aside0.mk hr
  clear hr
  go_enter Try.func27, Try.ntmps27
  go_wp2
  refine bodyPost_ret (results_ct rfl _ _ (w.heap.size + 1 + 1) 49 #[.int .i64 a, .int .i64 h, .int .i64 R.f0, .int .i64 R.f1, .int .i64 R.f2, .slice B R.f3.length d, .int .i64 left, .bool true] (0, 0) _ rfl (by have h := blk_new ((w.alloc (Obj.cells #[.int .i64 a, .int .i64 h, .int .i64 R.f0, .int .i64 R.f1, .int .i64 R.f2, .slice B R.f3.length d, .int .i64 left, .bool true] 49)).alloc (Obj.cells #[.int .i64 r.f0, .int .i64 r.f1, .int .i64 r.f2, .slice A r.f3.length c] 28)) (Obj.cells #[.int .i64 a, .int .i64 h, .int .i64 R.f0, .int .i64 R.f1, .int .i64 R.f2, .slice B R.f3.length d, .int .i64 left, .bool true] 49); simpa using h) Try.underlying49 rfl (by kernel_rfl)) rfl ?_
  exact ⟨rfl, below_alloc (below_alloc (below_alloc (Below.refl _ _) _) _) _⟩
set_option maxHeartbeats 8000000 in
set_option maxRecDepth 100000 in
theorem cref_Begin.busy (a h : Int) (R : S28) (left : Int) (B : Option Addr) (d : Nat) (r : S28) (A : Option Addr) (c : Nat) (w : World) (hr : Kd.C (Kd.int .i64) w A r.f3.length r.f3) (hc : r.f3.length ≤ c) (hl : decide (left > 0) = true) : Calls Try.prog 27 #[.agg #[.int .i64 a, .int .i64 h, .int .i64 R.f0, .int .i64 R.f1, .int .i64 R.f2, .slice B R.f3.length d, .int .i64 left, .bool false], .agg #[.int .i64 r.f0, .int .i64 r.f1, .int .i64 r.f2, .slice A r.f3.length c]] w fun e w' => e = .returned (.tuple #[.agg #[.int .i64 a, .int .i64 h, .int .i64 R.f0, .int .i64 R.f1, .int .i64 R.f2, .slice B R.f3.length d, .int .i64 left, .bool false], .int .i64 12]) ∧ Below w.heap.size w w' := by
  have hu := Try.underlying28
  have hu49 := Try.underlying49
  have HR := Aside0.mk hr
  clear hr
  go_enter Try.func27, Try.ntmps27
  go_wp2
  refine bodyPost_ret (results_ct rfl _ _ (w.heap.size + 1 + 1) 49 #[.int .i64 a, .int .i64 h, .int .i64 R.f0, .int .i64 R.f1, .int .i64 R.f2, .slice B R.f3.length d, .int .i64 left, .bool false] (0, 0) _ rfl (by have h := blk_new ((w.alloc (Obj.cells #[.int .i64 a, .int .i64 h, .int .i64 R.f0, .int .i64 R.f1, .int .i64 R.f2, .slice B R.f3.length d, .int .i64 left, .bool false] 49)).alloc (Obj.cells #[.int .i64 r.f0, .int .i64 r.f1, .int .i64 r.f2, .slice A r.f3.length c] 28)) (Obj.cells #[.int .i64 a, .int .i64 h, .int .i64 R.f0, .int .i64 R.f1, .int .i64 R.f2, .slice B R.f3.length d, .int .i64 left, .bool false] 49); simpa using h) Try.underlying49 rfl (by kernel_rfl)) rfl ?_
  exact ⟨rfl, below_alloc (below_alloc (below_alloc (Below.refl _ _) _) _) _⟩
set_option maxHeartbeats 8000000 in
set_option maxRecDepth 100000 in
theorem cref_Begin.check_n (a h : Int) (R : S28) (left : Int) (B : Option Addr) (d : Nat) (r : S28) (A : Option Addr) (c : Nat) (w : World) (hr : Kd.C (Kd.int .i64) w A r.f3.length r.f3) (hc : r.f3.length ≤ c) (hl : decide (left > 0) = false) (h5 : (r.f0 == 5) = true) (hn : (r.f1 == a) = false) : Calls Try.prog 27 #[.agg #[.int .i64 a, .int .i64 h, .int .i64 R.f0, .int .i64 R.f1, .int .i64 R.f2, .slice B R.f3.length d, .int .i64 left, .bool false], .agg #[.int .i64 r.f0, .int .i64 r.f1, .int .i64 r.f2, .slice A r.f3.length c]] w fun e w' => e = .returned (.tuple #[.agg #[.int .i64 a, .int .i64 h, .int .i64 R.f0, .int .i64 R.f1, .int .i64 R.f2, .slice B R.f3.length d, .int .i64 left, .bool false], .int .i64 18]) ∧ Below w.heap.size w w' := by
  have hu := Try.underlying28
  have hu49 := Try.underlying49
  have HR := Aside0.mk hr
  clear hr
  go_enter Try.func27, Try.ntmps27
  go_wp2
  refine bodyPost_ret (results_ct rfl _ _ (w.heap.size + 1 + 1) 49 #[.int .i64 a, .int .i64 h, .int .i64 R.f0, .int .i64 R.f1, .int .i64 R.f2, .slice B R.f3.length d, .int .i64 left, .bool false] (0, 0) _ rfl (by have h := blk_new ((w.alloc (Obj.cells #[.int .i64 a, .int .i64 h, .int .i64 R.f0, .int .i64 R.f1, .int .i64 R.f2, .slice B R.f3.length d, .int .i64 left, .bool false] 49)).alloc (Obj.cells #[.int .i64 r.f0, .int .i64 r.f1, .int .i64 r.f2, .slice A r.f3.length c] 28)) (Obj.cells #[.int .i64 a, .int .i64 h, .int .i64 R.f0, .int .i64 R.f1, .int .i64 R.f2, .slice B R.f3.length d, .int .i64 left, .bool false] 49); simpa using h) Try.underlying49 rfl (by kernel_rfl)) rfl ?_
  exact ⟨rfl, below_alloc (below_alloc (below_alloc (Below.refl _ _) _) _) _⟩
set_option maxHeartbeats 8000000 in
set_option maxRecDepth 100000 in
theorem cref_Begin.check_h (a h : Int) (R : S28) (left : Int) (B : Option Addr) (d : Nat) (r : S28) (A : Option Addr) (c : Nat) (w : World) (hr : Kd.C (Kd.int .i64) w A r.f3.length r.f3) (hc : r.f3.length ≤ c) (hl : decide (left > 0) = false) (h5 : (r.f0 == 5) = true) (hn : (r.f1 == a) = true) (hh : (r.f2 == h) = false) : Calls Try.prog 27 #[.agg #[.int .i64 a, .int .i64 h, .int .i64 R.f0, .int .i64 R.f1, .int .i64 R.f2, .slice B R.f3.length d, .int .i64 left, .bool false], .agg #[.int .i64 r.f0, .int .i64 r.f1, .int .i64 r.f2, .slice A r.f3.length c]] w fun e w' => e = .returned (.tuple #[.agg #[.int .i64 a, .int .i64 h, .int .i64 R.f0, .int .i64 R.f1, .int .i64 R.f2, .slice B R.f3.length d, .int .i64 left, .bool false], .int .i64 18]) ∧ Below w.heap.size w w' := by
  have hu := Try.underlying28
  have hu49 := Try.underlying49
  have HR := Aside0.mk hr
  clear hr
  go_enter Try.func27, Try.ntmps27
  go_wp2
  refine bodyPost_ret (results_ct rfl _ _ (w.heap.size + 1 + 1) 49 #[.int .i64 a, .int .i64 h, .int .i64 R.f0, .int .i64 R.f1, .int .i64 R.f2, .slice B R.f3.length d, .int .i64 left, .bool false] (0, 0) _ rfl (by have h := blk_new ((w.alloc (Obj.cells #[.int .i64 a, .int .i64 h, .int .i64 R.f0, .int .i64 R.f1, .int .i64 R.f2, .slice B R.f3.length d, .int .i64 left, .bool false] 49)).alloc (Obj.cells #[.int .i64 r.f0, .int .i64 r.f1, .int .i64 r.f2, .slice A r.f3.length c] 28)) (Obj.cells #[.int .i64 a, .int .i64 h, .int .i64 R.f0, .int .i64 R.f1, .int .i64 R.f2, .slice B R.f3.length d, .int .i64 left, .bool false] 49); simpa using h) Try.underlying49 rfl (by kernel_rfl)) rfl ?_
  exact ⟨rfl, below_alloc (below_alloc (below_alloc (Below.refl _ _) _) _) _⟩
set_option maxHeartbeats 8000000 in
set_option maxRecDepth 100000 in
theorem cref_Begin.check_ok (a h : Int) (R : S28) (left : Int) (B : Option Addr) (d : Nat) (r : S28) (A : Option Addr) (c : Nat) (w : World) (hr : Kd.C (Kd.int .i64) w A r.f3.length r.f3) (hc : r.f3.length ≤ c) (hl : decide (left > 0) = false) (h5 : (r.f0 == 5) = true) (hn : (r.f1 == a) = true) (hh : (r.f2 == h) = true) : Calls Try.prog 27 #[.agg #[.int .i64 a, .int .i64 h, .int .i64 R.f0, .int .i64 R.f1, .int .i64 R.f2, .slice B R.f3.length d, .int .i64 left, .bool false], .agg #[.int .i64 r.f0, .int .i64 r.f1, .int .i64 r.f2, .slice A r.f3.length c]] w fun e w' => e = .returned (.tuple #[.agg #[.int .i64 a, .int .i64 h, .int .i64 R.f0, .int .i64 R.f1, .int .i64 R.f2, .slice B R.f3.length d, .int .i64 left, .bool false], .int .i64 0]) ∧ Below w.heap.size w w' := by
  have hu := Try.underlying28
  have hu49 := Try.underlying49
  have HR := Aside0.mk hr
  clear hr
  go_enter Try.func27, Try.ntmps27
  go_wp2
  refine bodyPost_ret (results_ct rfl _ _ (w.heap.size + 1 + 1) 49 #[.int .i64 a, .int .i64 h, .int .i64 R.f0, .int .i64 R.f1, .int .i64 R.f2, .slice B R.f3.length d, .int .i64 left, .bool false] (0, 0) _ rfl (by have h := blk_new ((w.alloc (Obj.cells #[.int .i64 a, .int .i64 h, .int .i64 R.f0, .int .i64 R.f1, .int .i64 R.f2, .slice B R.f3.length d, .int .i64 left, .bool false] 49)).alloc (Obj.cells #[.int .i64 r.f0, .int .i64 r.f1, .int .i64 r.f2, .slice A r.f3.length c] 28)) (Obj.cells #[.int .i64 a, .int .i64 h, .int .i64 R.f0, .int .i64 R.f1, .int .i64 R.f2, .slice B R.f3.length d, .int .i64 left, .bool false] 49); simpa using h) Try.underlying49 rfl (by kernel_rfl)) rfl ?_
  exact ⟨rfl, below_alloc (below_alloc (below_alloc (Below.refl _ _) _) _) _⟩
set_option maxHeartbeats 8000000 in
set_option maxRecDepth 100000 in
theorem cref_Begin.end_n (a h : Int) (R : S28) (left : Int) (B : Option Addr) (d : Nat) (r : S28) (A : Option Addr) (c : Nat) (w : World) (hr : Kd.C (Kd.int .i64) w A r.f3.length r.f3) (hc : r.f3.length ≤ c) (hl : decide (left > 0) = false) (h5 : (r.f0 == 5) = false) (h6 : (r.f0 == 6) = true) (hn : (r.f1 == a) = false) : Calls Try.prog 27 #[.agg #[.int .i64 a, .int .i64 h, .int .i64 R.f0, .int .i64 R.f1, .int .i64 R.f2, .slice B R.f3.length d, .int .i64 left, .bool false], .agg #[.int .i64 r.f0, .int .i64 r.f1, .int .i64 r.f2, .slice A r.f3.length c]] w fun e w' => e = .returned (.tuple #[.agg #[.int .i64 a, .int .i64 h, .int .i64 R.f0, .int .i64 R.f1, .int .i64 R.f2, .slice B R.f3.length d, .int .i64 left, .bool false], .int .i64 19]) ∧ Below w.heap.size w w' := by
  have hu := Try.underlying28
  have hu49 := Try.underlying49
  have HR := Aside0.mk hr
  clear hr
  go_enter Try.func27, Try.ntmps27
  go_wp2
  refine bodyPost_ret (results_ct rfl _ _ (w.heap.size + 1 + 1) 49 #[.int .i64 a, .int .i64 h, .int .i64 R.f0, .int .i64 R.f1, .int .i64 R.f2, .slice B R.f3.length d, .int .i64 left, .bool false] (0, 0) _ rfl (by have h := blk_new ((w.alloc (Obj.cells #[.int .i64 a, .int .i64 h, .int .i64 R.f0, .int .i64 R.f1, .int .i64 R.f2, .slice B R.f3.length d, .int .i64 left, .bool false] 49)).alloc (Obj.cells #[.int .i64 r.f0, .int .i64 r.f1, .int .i64 r.f2, .slice A r.f3.length c] 28)) (Obj.cells #[.int .i64 a, .int .i64 h, .int .i64 R.f0, .int .i64 R.f1, .int .i64 R.f2, .slice B R.f3.length d, .int .i64 left, .bool false] 49); simpa using h) Try.underlying49 rfl (by kernel_rfl)) rfl ?_
  exact ⟨rfl, below_alloc (below_alloc (below_alloc (Below.refl _ _) _) _) _⟩
set_option maxHeartbeats 8000000 in
set_option maxRecDepth 100000 in
theorem cref_Begin.end_h (a h : Int) (R : S28) (left : Int) (B : Option Addr) (d : Nat) (r : S28) (A : Option Addr) (c : Nat) (w : World) (hr : Kd.C (Kd.int .i64) w A r.f3.length r.f3) (hc : r.f3.length ≤ c) (hl : decide (left > 0) = false) (h5 : (r.f0 == 5) = false) (h6 : (r.f0 == 6) = true) (hn : (r.f1 == a) = true) (hh : (r.f2 == h) = false) : Calls Try.prog 27 #[.agg #[.int .i64 a, .int .i64 h, .int .i64 R.f0, .int .i64 R.f1, .int .i64 R.f2, .slice B R.f3.length d, .int .i64 left, .bool false], .agg #[.int .i64 r.f0, .int .i64 r.f1, .int .i64 r.f2, .slice A r.f3.length c]] w fun e w' => e = .returned (.tuple #[.agg #[.int .i64 a, .int .i64 h, .int .i64 R.f0, .int .i64 R.f1, .int .i64 R.f2, .slice B R.f3.length d, .int .i64 left, .bool false], .int .i64 19]) ∧ Below w.heap.size w w' := by
  have hu := Try.underlying28
  have hu49 := Try.underlying49
  have HR := Aside0.mk hr
  clear hr
  go_enter Try.func27, Try.ntmps27
  go_wp2
  refine bodyPost_ret (results_ct rfl _ _ (w.heap.size + 1 + 1) 49 #[.int .i64 a, .int .i64 h, .int .i64 R.f0, .int .i64 R.f1, .int .i64 R.f2, .slice B R.f3.length d, .int .i64 left, .bool false] (0, 0) _ rfl (by have h := blk_new ((w.alloc (Obj.cells #[.int .i64 a, .int .i64 h, .int .i64 R.f0, .int .i64 R.f1, .int .i64 R.f2, .slice B R.f3.length d, .int .i64 left, .bool false] 49)).alloc (Obj.cells #[.int .i64 r.f0, .int .i64 r.f1, .int .i64 r.f2, .slice A r.f3.length c] 28)) (Obj.cells #[.int .i64 a, .int .i64 h, .int .i64 R.f0, .int .i64 R.f1, .int .i64 R.f2, .slice B R.f3.length d, .int .i64 left, .bool false] 49); simpa using h) Try.underlying49 rfl (by kernel_rfl)) rfl ?_
  exact ⟨rfl, below_alloc (below_alloc (below_alloc (Below.refl _ _) _) _) _⟩
set_option maxHeartbeats 8000000 in
set_option maxRecDepth 100000 in
theorem cref_Begin.end_ok (a h : Int) (R : S28) (left : Int) (B : Option Addr) (d : Nat) (r : S28) (A : Option Addr) (c : Nat) (w : World) (hr : Kd.C (Kd.int .i64) w A r.f3.length r.f3) (hc : r.f3.length ≤ c) (hl : decide (left > 0) = false) (h5 : (r.f0 == 5) = false) (h6 : (r.f0 == 6) = true) (hn : (r.f1 == a) = true) (hh : (r.f2 == h) = true) : Calls Try.prog 27 #[.agg #[.int .i64 a, .int .i64 h, .int .i64 R.f0, .int .i64 R.f1, .int .i64 R.f2, .slice B R.f3.length d, .int .i64 left, .bool false], .agg #[.int .i64 r.f0, .int .i64 r.f1, .int .i64 r.f2, .slice A r.f3.length c]] w fun e w' => e = .returned (.tuple #[.agg #[.int .i64 a, .int .i64 h, .int .i64 R.f0, .int .i64 R.f1, .int .i64 R.f2, .slice B R.f3.length d, .int .i64 left, .bool true], .int .i64 0]) ∧ Below w.heap.size w w' := by
  have hu := Try.underlying28
  have hu49 := Try.underlying49
  have HR := Aside0.mk hr
  clear hr
  go_enter Try.func27, Try.ntmps27
  go_wp2
  refine bodyPost_ret (results_ct rfl _ _ (w.heap.size + 1 + 1) 49 #[.int .i64 a, .int .i64 h, .int .i64 R.f0, .int .i64 R.f1, .int .i64 R.f2, .slice B R.f3.length d, .int .i64 left, .bool true] (0, 0) _ rfl (by have h := blk_new ((w.alloc (Obj.cells #[.int .i64 a, .int .i64 h, .int .i64 R.f0, .int .i64 R.f1, .int .i64 R.f2, .slice B R.f3.length d, .int .i64 left, .bool true] 49)).alloc (Obj.cells #[.int .i64 r.f0, .int .i64 r.f1, .int .i64 r.f2, .slice A r.f3.length c] 28)) (Obj.cells #[.int .i64 a, .int .i64 h, .int .i64 R.f0, .int .i64 R.f1, .int .i64 R.f2, .slice B R.f3.length d, .int .i64 left, .bool true] 49); simpa using h) Try.underlying49 rfl (by kernel_rfl)) rfl ?_
  exact ⟨rfl, below_alloc (below_alloc (below_alloc (Below.refl _ _) _) _) _⟩
set_option maxHeartbeats 8000000 in
set_option maxRecDepth 100000 in
theorem cref_Begin.few_n (a h : Int) (R : S28) (left : Int) (B : Option Addr) (d : Nat) (r : S28) (A : Option Addr) (c : Nat) (w : World) (hr : Kd.C (Kd.int .i64) w A r.f3.length r.f3) (hc : r.f3.length ≤ c) (hl : decide (left > 0) = false) (h5 : (r.f0 == 5) = false) (h6 : (r.f0 == 6) = false) (kn : Nat) (n t : Int) (hn : juratref24_Covers.f kn r.f0 r.f1 r.f2 r.f3 = some n) (ht : juratref37_often.f r.f0 r.f1 r.f2 r.f3 = some t) (he : (r.f1 == a) = false) (h1 : decide (n < 1) = true) : Calls Try.prog 27 #[.agg #[.int .i64 a, .int .i64 h, .int .i64 R.f0, .int .i64 R.f1, .int .i64 R.f2, .slice B R.f3.length d, .int .i64 left, .bool false], .agg #[.int .i64 r.f0, .int .i64 r.f1, .int .i64 r.f2, .slice A r.f3.length c]] w fun e w' => e = .returned (.tuple #[.agg #[.int .i64 a, .int .i64 h, .int .i64 R.f0, .int .i64 R.f1, .int .i64 R.f2, .slice B R.f3.length d, .int .i64 left, .bool false], .int .i64 2]) ∧ Below w.heap.size w w' := by
  have HN := Aside0.mk hn
  have HT := Aside0.mk ht
  clear hn ht
  have hu := Try.underlying28
  have hu49 := Try.underlying49
  have HR := Aside0.mk hr
  clear hr
  go_enter Try.func27, Try.ntmps27
  go_upto_region 1 with fail
  have X1 := Aside0.mk (((((Cx.start (fun _ => False) w (fun _ h => h.elim)).came (Kd.heap_int _) HR.out).new #[.int .i64 a, .int .i64 h, .int .i64 R.f0, .int .i64 R.f1, .int .i64 R.f2, .slice B R.f3.length d, .int .i64 left, .bool false] 49 (fun h => h)).new #[.int .i64 r.f0, .int .i64 r.f1, .int .i64 r.f2, .slice A r.f3.length c] 28 (fun h => h)).new #[.int .i64 0, .int .i64 0, .int .i64 0, .int .i64 0, .int .i64 0, .slice none 0 0, .int .i64 0, .bool false] 49 (fun h => h))
  have XC : Aside0 (Cx (fun _ => False) w (((w.alloc (Obj.cells #[.int .i64 a, .int .i64 h, .int .i64 R.f0, .int .i64 R.f1, .int .i64 R.f2, .slice B R.f3.length d, .int .i64 left, .bool false] 49)).alloc (Obj.cells #[.int .i64 r.f0, .int .i64 r.f1, .int .i64 r.f2, .slice A r.f3.length c] 28)).alloc (Obj.cells #[.int .i64 0, .int .i64 0, .int .i64 0, .int .i64 0, .int .i64 0, .slice none 0 0, .int .i64 0, .bool false] 49)) [Blk (w.heap.size + 1 + 1) #[.int .i64 0, .int .i64 0, .int .i64 0, .int .i64 0, .int .i64 0, .slice none 0 0, .int .i64 0, .bool false] 49, Blk (w.heap.size + 1) #[.int .i64 r.f0, .int .i64 r.f1, .int .i64 r.f2, .slice A r.f3.length c] 28, Blk w.heap.size #[.int .i64 a, .int .i64 h, .int .i64 R.f0, .int .i64 R.f1, .int .i64 R.f2, .slice B R.f3.length d, .int .i64 left, .bool false] 49, Row (Kd.int .i64) A r.f3]) := ⟨by have h := X1.out; simpa using h⟩
  clear X1 HR
  have n1 : w.heap.size ≠ w.heap.size + 1 := by omega
  have n2 : w.heap.size ≠ w.heap.size + 1 + 1 := by omega
  have n3 : w.heap.size + 1 ≠ w.heap.size + 1 + 1 := by omega
  generalize ((w.alloc (Obj.cells #[.int .i64 a, .int .i64 h, .int .i64 R.f0, .int .i64 R.f1, .int .i64 R.f2, .slice B R.f3.length d, .int .i64 left, .bool false] 49)).alloc (Obj.cells #[.int .i64 r.f0, .int .i64 r.f1, .int .i64 r.f2, .slice A r.f3.length c] 28)).alloc (Obj.cells #[.int .i64 0, .int .i64 0, .int .i64 0, .int .i64 0, .int .i64 0, .slice none 0 0, .int .i64 0, .bool false] 49) = w1 at XC ⊢
  obtain ⟨⟨j0, j1, j2, j3, j4, j5, j6, j7⟩, y0, y1, y2, y3, y4, y5, y6, y7⟩ := cell8 (XC.out.get 2 rfl)
  obtain ⟨⟨b0, b1, b2, b3⟩, z0, z1, z2, z3⟩ := cell4_ (XC.out.get 1 rfl)
  obtain ⟨⟨d0, d1, d2, d3, d4, d5, d6, d7⟩, v0, v1, v2, v3, v4, v5, v6, v7⟩ := cell8 (XC.out.get 0 rfl)
  go_wp2_with (first | (go_at_call 36; (refine (juratref24_Covers.calls kn r.f0 r.f1 r.f2 A c r.f3 n _ (XC.out.get 3 rfl) hc HN.out).mono ?_); rintro e w9 ⟨rfl, hb9⟩; have XN := Aside0.mk (XC.out.step hb9); clear hb9 XC; have XC := XN; clear XN; clear j0 j1 j2 j3 j4 j5 j6 j7 y0 y1 y2 y3 y4 y5 y6 y7 b0 b1 b2 b3 z0 z1 z2 z3 d0 d1 d2 d3 d4 d5 d6 d7 v0 v1 v2 v3 v4 v5 v6 v7; obtain ⟨⟨j0, j1, j2, j3, j4, j5, j6, j7⟩, y0, y1, y2, y3, y4, y5, y6, y7⟩ := cell8 (XC.out.get 2 rfl); obtain ⟨⟨b0, b1, b2, b3⟩, z0, z1, z2, z3⟩ := cell4_ (XC.out.get 1 rfl); obtain ⟨⟨d0, d1, d2, d3, d4, d5, d6, d7⟩, v0, v1, v2, v3, v4, v5, v6, v7⟩ := cell8 (XC.out.get 0 rfl)) | fail)
  refine bodyPost_ret (results_ct rfl _ _ (w.heap.size + 1 + 1) 49 #[.int .i64 a, .int .i64 h, .int .i64 R.f0, .int .i64 R.f1, .int .i64 R.f2, .slice B R.f3.length d, .int .i64 left, .bool false] (0, 0) _ rfl (by exact cput8 (XC.out.get 0 rfl)) Try.underlying49 rfl (by kernel_rfl)) rfl ?_
  exact ⟨rfl, cbel8 XC.out.hb (by omega)⟩
set_option maxHeartbeats 8000000 in
set_option maxRecDepth 100000 in
theorem cref_Begin.few_h (a h : Int) (R : S28) (left : Int) (B : Option Addr) (d : Nat) (r : S28) (A : Option Addr) (c : Nat) (w : World) (hr : Kd.C (Kd.int .i64) w A r.f3.length r.f3) (hc : r.f3.length ≤ c) (hl : decide (left > 0) = false) (qb : Bool) (h5 : (r.f0 == 5) = false) (h6 : (r.f0 == 6) = false) (kn : Nat) (n t : Int) (hn : juratref24_Covers.f kn r.f0 r.f1 r.f2 r.f3 = some n) (ht : juratref37_often.f r.f0 r.f1 r.f2 r.f3 = some t) (he : (r.f1 == a) = true) (he2 : (r.f2 == h) = qb) (h1 : decide (n < 1) = true) : Calls Try.prog 27 #[.agg #[.int .i64 a, .int .i64 h, .int .i64 R.f0, .int .i64 R.f1, .int .i64 R.f2, .slice B R.f3.length d, .int .i64 left, .bool false], .agg #[.int .i64 r.f0, .int .i64 r.f1, .int .i64 r.f2, .slice A r.f3.length c]] w fun e w' => e = .returned (.tuple #[.agg #[.int .i64 a, .int .i64 h, .int .i64 R.f0, .int .i64 R.f1, .int .i64 R.f2, .slice B R.f3.length d, .int .i64 left, .bool false], .int .i64 2]) ∧ Below w.heap.size w w' := by
  have HN := Aside0.mk hn
  have HT := Aside0.mk ht
  clear hn ht
  have hu := Try.underlying28
  have hu49 := Try.underlying49
  have HR := Aside0.mk hr
  clear hr
  go_enter Try.func27, Try.ntmps27
  go_upto_region 1 with fail
  have X1 := Aside0.mk (((((Cx.start (fun _ => False) w (fun _ h => h.elim)).came (Kd.heap_int _) HR.out).new #[.int .i64 a, .int .i64 h, .int .i64 R.f0, .int .i64 R.f1, .int .i64 R.f2, .slice B R.f3.length d, .int .i64 left, .bool false] 49 (fun h => h)).new #[.int .i64 r.f0, .int .i64 r.f1, .int .i64 r.f2, .slice A r.f3.length c] 28 (fun h => h)).new #[.int .i64 0, .int .i64 0, .int .i64 0, .int .i64 0, .int .i64 0, .slice none 0 0, .int .i64 0, .bool false] 49 (fun h => h))
  have XC : Aside0 (Cx (fun _ => False) w (((w.alloc (Obj.cells #[.int .i64 a, .int .i64 h, .int .i64 R.f0, .int .i64 R.f1, .int .i64 R.f2, .slice B R.f3.length d, .int .i64 left, .bool false] 49)).alloc (Obj.cells #[.int .i64 r.f0, .int .i64 r.f1, .int .i64 r.f2, .slice A r.f3.length c] 28)).alloc (Obj.cells #[.int .i64 0, .int .i64 0, .int .i64 0, .int .i64 0, .int .i64 0, .slice none 0 0, .int .i64 0, .bool false] 49)) [Blk (w.heap.size + 1 + 1) #[.int .i64 0, .int .i64 0, .int .i64 0, .int .i64 0, .int .i64 0, .slice none 0 0, .int .i64 0, .bool false] 49, Blk (w.heap.size + 1) #[.int .i64 r.f0, .int .i64 r.f1, .int .i64 r.f2, .slice A r.f3.length c] 28, Blk w.heap.size #[.int .i64 a, .int .i64 h, .int .i64 R.f0, .int .i64 R.f1, .int .i64 R.f2, .slice B R.f3.length d, .int .i64 left, .bool false] 49, Row (Kd.int .i64) A r.f3]) := ⟨by have h := X1.out; simpa using h⟩
  clear X1 HR
  have n1 : w.heap.size ≠ w.heap.size + 1 := by omega
  have n2 : w.heap.size ≠ w.heap.size + 1 + 1 := by omega
  have n3 : w.heap.size + 1 ≠ w.heap.size + 1 + 1 := by omega
  generalize ((w.alloc (Obj.cells #[.int .i64 a, .int .i64 h, .int .i64 R.f0, .int .i64 R.f1, .int .i64 R.f2, .slice B R.f3.length d, .int .i64 left, .bool false] 49)).alloc (Obj.cells #[.int .i64 r.f0, .int .i64 r.f1, .int .i64 r.f2, .slice A r.f3.length c] 28)).alloc (Obj.cells #[.int .i64 0, .int .i64 0, .int .i64 0, .int .i64 0, .int .i64 0, .slice none 0 0, .int .i64 0, .bool false] 49) = w1 at XC ⊢
  obtain ⟨⟨j0, j1, j2, j3, j4, j5, j6, j7⟩, y0, y1, y2, y3, y4, y5, y6, y7⟩ := cell8 (XC.out.get 2 rfl)
  obtain ⟨⟨b0, b1, b2, b3⟩, z0, z1, z2, z3⟩ := cell4_ (XC.out.get 1 rfl)
  obtain ⟨⟨d0, d1, d2, d3, d4, d5, d6, d7⟩, v0, v1, v2, v3, v4, v5, v6, v7⟩ := cell8 (XC.out.get 0 rfl)
  go_wp2_with (first | (go_at_call 36; (refine (juratref24_Covers.calls kn r.f0 r.f1 r.f2 A c r.f3 n _ (XC.out.get 3 rfl) hc HN.out).mono ?_); rintro e w9 ⟨rfl, hb9⟩; have XN := Aside0.mk (XC.out.step hb9); clear hb9 XC; have XC := XN; clear XN; clear j0 j1 j2 j3 j4 j5 j6 j7 y0 y1 y2 y3 y4 y5 y6 y7 b0 b1 b2 b3 z0 z1 z2 z3 d0 d1 d2 d3 d4 d5 d6 d7 v0 v1 v2 v3 v4 v5 v6 v7; obtain ⟨⟨j0, j1, j2, j3, j4, j5, j6, j7⟩, y0, y1, y2, y3, y4, y5, y6, y7⟩ := cell8 (XC.out.get 2 rfl); obtain ⟨⟨b0, b1, b2, b3⟩, z0, z1, z2, z3⟩ := cell4_ (XC.out.get 1 rfl); obtain ⟨⟨d0, d1, d2, d3, d4, d5, d6, d7⟩, v0, v1, v2, v3, v4, v5, v6, v7⟩ := cell8 (XC.out.get 0 rfl)) | fail)
  refine bodyPost_ret (results_ct rfl _ _ (w.heap.size + 1 + 1) 49 #[.int .i64 a, .int .i64 h, .int .i64 R.f0, .int .i64 R.f1, .int .i64 R.f2, .slice B R.f3.length d, .int .i64 left, .bool false] (0, 0) _ rfl (by exact cput8 (XC.out.get 0 rfl)) Try.underlying49 rfl (by kernel_rfl)) rfl ?_
  exact ⟨rfl, cbel8 XC.out.hb (by omega)⟩
set_option maxHeartbeats 8000000 in
set_option maxRecDepth 100000 in
theorem cref_Begin.few2_n (a h : Int) (R : S28) (left : Int) (B : Option Addr) (d : Nat) (r : S28) (A : Option Addr) (c : Nat) (w : World) (hr : Kd.C (Kd.int .i64) w A r.f3.length r.f3) (hc : r.f3.length ≤ c) (hl : decide (left > 0) = false) (h5 : (r.f0 == 5) = false) (h6 : (r.f0 == 6) = false) (kn : Nat) (n t : Int) (hn : juratref24_Covers.f kn r.f0 r.f1 r.f2 r.f3 = some n) (ht : juratref37_often.f r.f0 r.f1 r.f2 r.f3 = some t) (he : (r.f1 == a) = false) (h1 : decide (n < 1) = false) (h2 : decide (t < 1) = true) : Calls Try.prog 27 #[.agg #[.int .i64 a, .int .i64 h, .int .i64 R.f0, .int .i64 R.f1, .int .i64 R.f2, .slice B R.f3.length d, .int .i64 left, .bool false], .agg #[.int .i64 r.f0, .int .i64 r.f1, .int .i64 r.f2, .slice A r.f3.length c]] w fun e w' => e = .returned (.tuple #[.agg #[.int .i64 a, .int .i64 h, .int .i64 R.f0, .int .i64 R.f1, .int .i64 R.f2, .slice B R.f3.length d, .int .i64 left, .bool false], .int .i64 2]) ∧ Below w.heap.size w w' := by
  have HN := Aside0.mk hn
  have HT := Aside0.mk ht
  clear hn ht
  have hu := Try.underlying28
  have hu49 := Try.underlying49
  have HR := Aside0.mk hr
  clear hr
  go_enter Try.func27, Try.ntmps27
  go_upto_region 1 with fail
  have X1 := Aside0.mk (((((Cx.start (fun _ => False) w (fun _ h => h.elim)).came (Kd.heap_int _) HR.out).new #[.int .i64 a, .int .i64 h, .int .i64 R.f0, .int .i64 R.f1, .int .i64 R.f2, .slice B R.f3.length d, .int .i64 left, .bool false] 49 (fun h => h)).new #[.int .i64 r.f0, .int .i64 r.f1, .int .i64 r.f2, .slice A r.f3.length c] 28 (fun h => h)).new #[.int .i64 0, .int .i64 0, .int .i64 0, .int .i64 0, .int .i64 0, .slice none 0 0, .int .i64 0, .bool false] 49 (fun h => h))
  have XC : Aside0 (Cx (fun _ => False) w (((w.alloc (Obj.cells #[.int .i64 a, .int .i64 h, .int .i64 R.f0, .int .i64 R.f1, .int .i64 R.f2, .slice B R.f3.length d, .int .i64 left, .bool false] 49)).alloc (Obj.cells #[.int .i64 r.f0, .int .i64 r.f1, .int .i64 r.f2, .slice A r.f3.length c] 28)).alloc (Obj.cells #[.int .i64 0, .int .i64 0, .int .i64 0, .int .i64 0, .int .i64 0, .slice none 0 0, .int .i64 0, .bool false] 49)) [Blk (w.heap.size + 1 + 1) #[.int .i64 0, .int .i64 0, .int .i64 0, .int .i64 0, .int .i64 0, .slice none 0 0, .int .i64 0, .bool false] 49, Blk (w.heap.size + 1) #[.int .i64 r.f0, .int .i64 r.f1, .int .i64 r.f2, .slice A r.f3.length c] 28, Blk w.heap.size #[.int .i64 a, .int .i64 h, .int .i64 R.f0, .int .i64 R.f1, .int .i64 R.f2, .slice B R.f3.length d, .int .i64 left, .bool false] 49, Row (Kd.int .i64) A r.f3]) := ⟨by have h := X1.out; simpa using h⟩
  clear X1 HR
  have n1 : w.heap.size ≠ w.heap.size + 1 := by omega
  have n2 : w.heap.size ≠ w.heap.size + 1 + 1 := by omega
  have n3 : w.heap.size + 1 ≠ w.heap.size + 1 + 1 := by omega
  generalize ((w.alloc (Obj.cells #[.int .i64 a, .int .i64 h, .int .i64 R.f0, .int .i64 R.f1, .int .i64 R.f2, .slice B R.f3.length d, .int .i64 left, .bool false] 49)).alloc (Obj.cells #[.int .i64 r.f0, .int .i64 r.f1, .int .i64 r.f2, .slice A r.f3.length c] 28)).alloc (Obj.cells #[.int .i64 0, .int .i64 0, .int .i64 0, .int .i64 0, .int .i64 0, .slice none 0 0, .int .i64 0, .bool false] 49) = w1 at XC ⊢
  obtain ⟨⟨j0, j1, j2, j3, j4, j5, j6, j7⟩, y0, y1, y2, y3, y4, y5, y6, y7⟩ := cell8 (XC.out.get 2 rfl)
  obtain ⟨⟨b0, b1, b2, b3⟩, z0, z1, z2, z3⟩ := cell4_ (XC.out.get 1 rfl)
  obtain ⟨⟨d0, d1, d2, d3, d4, d5, d6, d7⟩, v0, v1, v2, v3, v4, v5, v6, v7⟩ := cell8 (XC.out.get 0 rfl)
  go_wp2_with (first | (go_at_call 36; (refine (juratref24_Covers.calls kn r.f0 r.f1 r.f2 A c r.f3 n _ (XC.out.get 3 rfl) hc HN.out).mono ?_); rintro e w9 ⟨rfl, hb9⟩; have XN := Aside0.mk (XC.out.step hb9); clear hb9 XC; have XC := XN; clear XN; clear j0 j1 j2 j3 j4 j5 j6 j7 y0 y1 y2 y3 y4 y5 y6 y7 b0 b1 b2 b3 z0 z1 z2 z3 d0 d1 d2 d3 d4 d5 d6 d7 v0 v1 v2 v3 v4 v5 v6 v7; obtain ⟨⟨j0, j1, j2, j3, j4, j5, j6, j7⟩, y0, y1, y2, y3, y4, y5, y6, y7⟩ := cell8 (XC.out.get 2 rfl); obtain ⟨⟨b0, b1, b2, b3⟩, z0, z1, z2, z3⟩ := cell4_ (XC.out.get 1 rfl); obtain ⟨⟨d0, d1, d2, d3, d4, d5, d6, d7⟩, v0, v1, v2, v3, v4, v5, v6, v7⟩ := cell8 (XC.out.get 0 rfl)) | (go_at_call 50; (refine (juratref37_often.calls r.f0 r.f1 r.f2 A c r.f3 t _ (XC.out.get 3 rfl) hc HT.out).mono ?_); rintro e w9 ⟨rfl, hb9⟩; have XN := Aside0.mk (XC.out.step hb9); clear hb9 XC; have XC := XN; clear XN; clear j0 j1 j2 j3 j4 j5 j6 j7 y0 y1 y2 y3 y4 y5 y6 y7 b0 b1 b2 b3 z0 z1 z2 z3 d0 d1 d2 d3 d4 d5 d6 d7 v0 v1 v2 v3 v4 v5 v6 v7; obtain ⟨⟨j0, j1, j2, j3, j4, j5, j6, j7⟩, y0, y1, y2, y3, y4, y5, y6, y7⟩ := cell8 (XC.out.get 2 rfl); obtain ⟨⟨b0, b1, b2, b3⟩, z0, z1, z2, z3⟩ := cell4_ (XC.out.get 1 rfl); obtain ⟨⟨d0, d1, d2, d3, d4, d5, d6, d7⟩, v0, v1, v2, v3, v4, v5, v6, v7⟩ := cell8 (XC.out.get 0 rfl)) | fail)
  refine bodyPost_ret (results_ct rfl _ _ (w.heap.size + 1 + 1) 49 #[.int .i64 a, .int .i64 h, .int .i64 R.f0, .int .i64 R.f1, .int .i64 R.f2, .slice B R.f3.length d, .int .i64 left, .bool false] (0, 0) _ rfl (by exact cput8 (XC.out.get 0 rfl)) Try.underlying49 rfl (by kernel_rfl)) rfl ?_
  exact ⟨rfl, cbel8 XC.out.hb (by omega)⟩
set_option maxHeartbeats 8000000 in
set_option maxRecDepth 100000 in
theorem cref_Begin.few2_h (a h : Int) (R : S28) (left : Int) (B : Option Addr) (d : Nat) (r : S28) (A : Option Addr) (c : Nat) (w : World) (hr : Kd.C (Kd.int .i64) w A r.f3.length r.f3) (hc : r.f3.length ≤ c) (hl : decide (left > 0) = false) (qb : Bool) (h5 : (r.f0 == 5) = false) (h6 : (r.f0 == 6) = false) (kn : Nat) (n t : Int) (hn : juratref24_Covers.f kn r.f0 r.f1 r.f2 r.f3 = some n) (ht : juratref37_often.f r.f0 r.f1 r.f2 r.f3 = some t) (he : (r.f1 == a) = true) (he2 : (r.f2 == h) = qb) (h1 : decide (n < 1) = false) (h2 : decide (t < 1) = true) : Calls Try.prog 27 #[.agg #[.int .i64 a, .int .i64 h, .int .i64 R.f0, .int .i64 R.f1, .int .i64 R.f2, .slice B R.f3.length d, .int .i64 left, .bool false], .agg #[.int .i64 r.f0, .int .i64 r.f1, .int .i64 r.f2, .slice A r.f3.length c]] w fun e w' => e = .returned (.tuple #[.agg #[.int .i64 a, .int .i64 h, .int .i64 R.f0, .int .i64 R.f1, .int .i64 R.f2, .slice B R.f3.length d, .int .i64 left, .bool false], .int .i64 2]) ∧ Below w.heap.size w w' := by
  have HN := Aside0.mk hn
  have HT := Aside0.mk ht
  clear hn ht
  have hu := Try.underlying28
  have hu49 := Try.underlying49
  have HR := Aside0.mk hr
  clear hr
  go_enter Try.func27, Try.ntmps27
  go_upto_region 1 with fail
  have X1 := Aside0.mk (((((Cx.start (fun _ => False) w (fun _ h => h.elim)).came (Kd.heap_int _) HR.out).new #[.int .i64 a, .int .i64 h, .int .i64 R.f0, .int .i64 R.f1, .int .i64 R.f2, .slice B R.f3.length d, .int .i64 left, .bool false] 49 (fun h => h)).new #[.int .i64 r.f0, .int .i64 r.f1, .int .i64 r.f2, .slice A r.f3.length c] 28 (fun h => h)).new #[.int .i64 0, .int .i64 0, .int .i64 0, .int .i64 0, .int .i64 0, .slice none 0 0, .int .i64 0, .bool false] 49 (fun h => h))
  have XC : Aside0 (Cx (fun _ => False) w (((w.alloc (Obj.cells #[.int .i64 a, .int .i64 h, .int .i64 R.f0, .int .i64 R.f1, .int .i64 R.f2, .slice B R.f3.length d, .int .i64 left, .bool false] 49)).alloc (Obj.cells #[.int .i64 r.f0, .int .i64 r.f1, .int .i64 r.f2, .slice A r.f3.length c] 28)).alloc (Obj.cells #[.int .i64 0, .int .i64 0, .int .i64 0, .int .i64 0, .int .i64 0, .slice none 0 0, .int .i64 0, .bool false] 49)) [Blk (w.heap.size + 1 + 1) #[.int .i64 0, .int .i64 0, .int .i64 0, .int .i64 0, .int .i64 0, .slice none 0 0, .int .i64 0, .bool false] 49, Blk (w.heap.size + 1) #[.int .i64 r.f0, .int .i64 r.f1, .int .i64 r.f2, .slice A r.f3.length c] 28, Blk w.heap.size #[.int .i64 a, .int .i64 h, .int .i64 R.f0, .int .i64 R.f1, .int .i64 R.f2, .slice B R.f3.length d, .int .i64 left, .bool false] 49, Row (Kd.int .i64) A r.f3]) := ⟨by have h := X1.out; simpa using h⟩
  clear X1 HR
  have n1 : w.heap.size ≠ w.heap.size + 1 := by omega
  have n2 : w.heap.size ≠ w.heap.size + 1 + 1 := by omega
  have n3 : w.heap.size + 1 ≠ w.heap.size + 1 + 1 := by omega
  generalize ((w.alloc (Obj.cells #[.int .i64 a, .int .i64 h, .int .i64 R.f0, .int .i64 R.f1, .int .i64 R.f2, .slice B R.f3.length d, .int .i64 left, .bool false] 49)).alloc (Obj.cells #[.int .i64 r.f0, .int .i64 r.f1, .int .i64 r.f2, .slice A r.f3.length c] 28)).alloc (Obj.cells #[.int .i64 0, .int .i64 0, .int .i64 0, .int .i64 0, .int .i64 0, .slice none 0 0, .int .i64 0, .bool false] 49) = w1 at XC ⊢
  obtain ⟨⟨j0, j1, j2, j3, j4, j5, j6, j7⟩, y0, y1, y2, y3, y4, y5, y6, y7⟩ := cell8 (XC.out.get 2 rfl)
  obtain ⟨⟨b0, b1, b2, b3⟩, z0, z1, z2, z3⟩ := cell4_ (XC.out.get 1 rfl)
  obtain ⟨⟨d0, d1, d2, d3, d4, d5, d6, d7⟩, v0, v1, v2, v3, v4, v5, v6, v7⟩ := cell8 (XC.out.get 0 rfl)
  go_wp2_with (first | (go_at_call 36; (refine (juratref24_Covers.calls kn r.f0 r.f1 r.f2 A c r.f3 n _ (XC.out.get 3 rfl) hc HN.out).mono ?_); rintro e w9 ⟨rfl, hb9⟩; have XN := Aside0.mk (XC.out.step hb9); clear hb9 XC; have XC := XN; clear XN; clear j0 j1 j2 j3 j4 j5 j6 j7 y0 y1 y2 y3 y4 y5 y6 y7 b0 b1 b2 b3 z0 z1 z2 z3 d0 d1 d2 d3 d4 d5 d6 d7 v0 v1 v2 v3 v4 v5 v6 v7; obtain ⟨⟨j0, j1, j2, j3, j4, j5, j6, j7⟩, y0, y1, y2, y3, y4, y5, y6, y7⟩ := cell8 (XC.out.get 2 rfl); obtain ⟨⟨b0, b1, b2, b3⟩, z0, z1, z2, z3⟩ := cell4_ (XC.out.get 1 rfl); obtain ⟨⟨d0, d1, d2, d3, d4, d5, d6, d7⟩, v0, v1, v2, v3, v4, v5, v6, v7⟩ := cell8 (XC.out.get 0 rfl)) | (go_at_call 50; (refine (juratref37_often.calls r.f0 r.f1 r.f2 A c r.f3 t _ (XC.out.get 3 rfl) hc HT.out).mono ?_); rintro e w9 ⟨rfl, hb9⟩; have XN := Aside0.mk (XC.out.step hb9); clear hb9 XC; have XC := XN; clear XN; clear j0 j1 j2 j3 j4 j5 j6 j7 y0 y1 y2 y3 y4 y5 y6 y7 b0 b1 b2 b3 z0 z1 z2 z3 d0 d1 d2 d3 d4 d5 d6 d7 v0 v1 v2 v3 v4 v5 v6 v7; obtain ⟨⟨j0, j1, j2, j3, j4, j5, j6, j7⟩, y0, y1, y2, y3, y4, y5, y6, y7⟩ := cell8 (XC.out.get 2 rfl); obtain ⟨⟨b0, b1, b2, b3⟩, z0, z1, z2, z3⟩ := cell4_ (XC.out.get 1 rfl); obtain ⟨⟨d0, d1, d2, d3, d4, d5, d6, d7⟩, v0, v1, v2, v3, v4, v5, v6, v7⟩ := cell8 (XC.out.get 0 rfl)) | fail)
  refine bodyPost_ret (results_ct rfl _ _ (w.heap.size + 1 + 1) 49 #[.int .i64 a, .int .i64 h, .int .i64 R.f0, .int .i64 R.f1, .int .i64 R.f2, .slice B R.f3.length d, .int .i64 left, .bool false] (0, 0) _ rfl (by exact cput8 (XC.out.get 0 rfl)) Try.underlying49 rfl (by kernel_rfl)) rfl ?_
  exact ⟨rfl, cbel8 XC.out.hb (by omega)⟩
set_option maxHeartbeats 8000000 in
set_option maxRecDepth 100000 in
theorem cref_Begin.far_n (a h : Int) (R : S28) (left : Int) (B : Option Addr) (d : Nat) (r : S28) (A : Option Addr) (c : Nat) (w : World) (hr : Kd.C (Kd.int .i64) w A r.f3.length r.f3) (hc : r.f3.length ≤ c) (hl : decide (left > 0) = false) (h5 : (r.f0 == 5) = false) (h6 : (r.f0 == 6) = false) (kn : Nat) (n t : Int) (hn : juratref24_Covers.f kn r.f0 r.f1 r.f2 r.f3 = some n) (ht : juratref37_often.f r.f0 r.f1 r.f2 r.f3 = some t) (he : (r.f1 == a) = false) (h1 : decide (n < 1) = false) (h2 : decide (t < 1) = false) (kw : Nat) (x e0 : Int) (hw : juratref03_Walk.f kw a n t = some (x, e0)) (hz : (e0 != 0) = true) : Calls Try.prog 27 #[.agg #[.int .i64 a, .int .i64 h, .int .i64 R.f0, .int .i64 R.f1, .int .i64 R.f2, .slice B R.f3.length d, .int .i64 left, .bool false], .agg #[.int .i64 r.f0, .int .i64 r.f1, .int .i64 r.f2, .slice A r.f3.length c]] w fun e w' => e = .returned (.tuple #[.agg #[.int .i64 a, .int .i64 h, .int .i64 R.f0, .int .i64 R.f1, .int .i64 R.f2, .slice B R.f3.length d, .int .i64 left, .bool false], .int .i64 e0]) ∧ Below w.heap.size w w' := by
  have HN := Aside0.mk hn
  have HT := Aside0.mk ht
  clear hn ht
  have HW := Aside0.mk hw
  clear hw
  have hu := Try.underlying28
  have hu49 := Try.underlying49
  have HR := Aside0.mk hr
  clear hr
  go_enter Try.func27, Try.ntmps27
  go_upto_region 1 with fail
  have X1 := Aside0.mk (((((Cx.start (fun _ => False) w (fun _ h => h.elim)).came (Kd.heap_int _) HR.out).new #[.int .i64 a, .int .i64 h, .int .i64 R.f0, .int .i64 R.f1, .int .i64 R.f2, .slice B R.f3.length d, .int .i64 left, .bool false] 49 (fun h => h)).new #[.int .i64 r.f0, .int .i64 r.f1, .int .i64 r.f2, .slice A r.f3.length c] 28 (fun h => h)).new #[.int .i64 0, .int .i64 0, .int .i64 0, .int .i64 0, .int .i64 0, .slice none 0 0, .int .i64 0, .bool false] 49 (fun h => h))
  have XC : Aside0 (Cx (fun _ => False) w (((w.alloc (Obj.cells #[.int .i64 a, .int .i64 h, .int .i64 R.f0, .int .i64 R.f1, .int .i64 R.f2, .slice B R.f3.length d, .int .i64 left, .bool false] 49)).alloc (Obj.cells #[.int .i64 r.f0, .int .i64 r.f1, .int .i64 r.f2, .slice A r.f3.length c] 28)).alloc (Obj.cells #[.int .i64 0, .int .i64 0, .int .i64 0, .int .i64 0, .int .i64 0, .slice none 0 0, .int .i64 0, .bool false] 49)) [Blk (w.heap.size + 1 + 1) #[.int .i64 0, .int .i64 0, .int .i64 0, .int .i64 0, .int .i64 0, .slice none 0 0, .int .i64 0, .bool false] 49, Blk (w.heap.size + 1) #[.int .i64 r.f0, .int .i64 r.f1, .int .i64 r.f2, .slice A r.f3.length c] 28, Blk w.heap.size #[.int .i64 a, .int .i64 h, .int .i64 R.f0, .int .i64 R.f1, .int .i64 R.f2, .slice B R.f3.length d, .int .i64 left, .bool false] 49, Row (Kd.int .i64) A r.f3]) := ⟨by have h := X1.out; simpa using h⟩
  clear X1 HR
  have n1 : w.heap.size ≠ w.heap.size + 1 := by omega
  have n2 : w.heap.size ≠ w.heap.size + 1 + 1 := by omega
  have n3 : w.heap.size + 1 ≠ w.heap.size + 1 + 1 := by omega
  generalize ((w.alloc (Obj.cells #[.int .i64 a, .int .i64 h, .int .i64 R.f0, .int .i64 R.f1, .int .i64 R.f2, .slice B R.f3.length d, .int .i64 left, .bool false] 49)).alloc (Obj.cells #[.int .i64 r.f0, .int .i64 r.f1, .int .i64 r.f2, .slice A r.f3.length c] 28)).alloc (Obj.cells #[.int .i64 0, .int .i64 0, .int .i64 0, .int .i64 0, .int .i64 0, .slice none 0 0, .int .i64 0, .bool false] 49) = w1 at XC ⊢
  obtain ⟨⟨j0, j1, j2, j3, j4, j5, j6, j7⟩, y0, y1, y2, y3, y4, y5, y6, y7⟩ := cell8 (XC.out.get 2 rfl)
  obtain ⟨⟨b0, b1, b2, b3⟩, z0, z1, z2, z3⟩ := cell4_ (XC.out.get 1 rfl)
  obtain ⟨⟨d0, d1, d2, d3, d4, d5, d6, d7⟩, v0, v1, v2, v3, v4, v5, v6, v7⟩ := cell8 (XC.out.get 0 rfl)
  go_upto_region 16 with (first | (go_at_call 36; (refine (juratref24_Covers.calls kn r.f0 r.f1 r.f2 A c r.f3 n _ (XC.out.get 3 rfl) hc HN.out).mono ?_); rintro e w9 ⟨rfl, hb9⟩; have XN := Aside0.mk (XC.out.step hb9); clear hb9 XC; have XC := XN; clear XN; clear j0 j1 j2 j3 j4 j5 j6 j7 y0 y1 y2 y3 y4 y5 y6 y7 b0 b1 b2 b3 z0 z1 z2 z3 d0 d1 d2 d3 d4 d5 d6 d7 v0 v1 v2 v3 v4 v5 v6 v7; obtain ⟨⟨j0, j1, j2, j3, j4, j5, j6, j7⟩, y0, y1, y2, y3, y4, y5, y6, y7⟩ := cell8 (XC.out.get 2 rfl); obtain ⟨⟨b0, b1, b2, b3⟩, z0, z1, z2, z3⟩ := cell4_ (XC.out.get 1 rfl); obtain ⟨⟨d0, d1, d2, d3, d4, d5, d6, d7⟩, v0, v1, v2, v3, v4, v5, v6, v7⟩ := cell8 (XC.out.get 0 rfl)) | (go_at_call 50; (refine (juratref37_often.calls r.f0 r.f1 r.f2 A c r.f3 t _ (XC.out.get 3 rfl) hc HT.out).mono ?_); rintro e w9 ⟨rfl, hb9⟩; have XN := Aside0.mk (XC.out.step hb9); clear hb9 XC; have XC := XN; clear XN; clear j0 j1 j2 j3 j4 j5 j6 j7 y0 y1 y2 y3 y4 y5 y6 y7 b0 b1 b2 b3 z0 z1 z2 z3 d0 d1 d2 d3 d4 d5 d6 d7 v0 v1 v2 v3 v4 v5 v6 v7; obtain ⟨⟨j0, j1, j2, j3, j4, j5, j6, j7⟩, y0, y1, y2, y3, y4, y5, y6, y7⟩ := cell8 (XC.out.get 2 rfl); obtain ⟨⟨b0, b1, b2, b3⟩, z0, z1, z2, z3⟩ := cell4_ (XC.out.get 1 rfl); obtain ⟨⟨d0, d1, d2, d3, d4, d5, d6, d7⟩, v0, v1, v2, v3, v4, v5, v6, v7⟩ := cell8 (XC.out.get 0 rfl)) | fail)
  refine start_ (n := 11) (S := (fun w' => w'.cell? ⟨w.heap.size, 0, none⟩ = some (.int .i64 a) ∧ w'.cell? ⟨w.heap.size, 1, none⟩ = some (.int .i64 h) ∧ w'.cell? ⟨w.heap.size, 2, none⟩ = some (.int .i64 R.f0) ∧ w'.cell? ⟨w.heap.size, 3, none⟩ = some (.int .i64 R.f1) ∧ w'.cell? ⟨w.heap.size, 4, none⟩ = some (.int .i64 R.f2) ∧ w'.cell? ⟨w.heap.size, 5, none⟩ = some (.slice B R.f3.length d) ∧ w'.cell? ⟨w.heap.size, 6, none⟩ = some (.int .i64 left) ∧ w'.cell? ⟨w.heap.size, 7, none⟩ = some (.bool false) ∧ w'.cell? ⟨w.heap.size + 1, 0, none⟩ = some (.int .i64 r.f0) ∧ w'.cell? ⟨w.heap.size + 1, 1, none⟩ = some (.int .i64 r.f1) ∧ w'.cell? ⟨w.heap.size + 1, 2, none⟩ = some (.int .i64 r.f2) ∧ w'.cell? ⟨w.heap.size + 1, 3, none⟩ = some (.slice A r.f3.length c))) (ds := []) #[false, false, false, false, false, false, false, false, false, false, false] (by kernel_rfl) rfl rfl ⟨j0, j1, j2, j3, j4, j5, j6, j7, b0, b1, b2, b3⟩ (fun hHeld => ?_); refine with_tabW crefR16.tab crefR16.bits (fun HT_ HW_ => ?_)
  have XN := Aside0.mk XC.out.drew
  clear XC
  have XC := XN
  clear XN
  clear j0 j1 j2 j3 j4 j5 j6 j7 y0 y1 y2 y3 y4 y5 y6 y7 b0 b1 b2 b3 z0 z1 z2 z3 d0 d1 d2 d3 d4 d5 d6 d7 v0 v1 v2 v3 v4 v5 v6 v7
  generalize w9.drew = w2 at XC hHeld ⊢
  obtain ⟨⟨j0, j1, j2, j3, j4, j5, j6, j7⟩, y0, y1, y2, y3, y4, y5, y6, y7⟩ := cell8 (XC.out.get 2 rfl)
  obtain ⟨⟨b0, b1, b2, b3⟩, z0, z1, z2, z3⟩ := cell4_ (XC.out.get 1 rfl)
  obtain ⟨⟨d0, d1, d2, d3, d4, d5, d6, d7⟩, v0, v1, v2, v3, v4, v5, v6, v7⟩ := cell8 (XC.out.get 0 rfl)
  refine pure_ (i := 0) (N := some 56) (v := ?_) (a' := ?_) #[true, false, false, false, false, false, false, false, false, false, false] rfl rfl (any_of HT_.out (by kernel_rfl)) (fun _ _ _ h => h) (Or.inl ⟨by rfl, ?_⟩) ?_ ?_
  rotate_left
  · intro w'
    go_simp
    with_reducible rfl
  rotate_left
  · simp only [Act.put, List.setIfInBounds_toArray, List.set_cons_zero, List.set_cons_succ, i64_w, i32_w]
    rfl
  refine take_ (i := 1) (N := some 57) (v := ?_) (a' := ?_) #[true, true, false, false, false, false, false, false, false, false, false] rfl rfl (take_ofW HT_.out HW_.out (by kernel_rfl)) (fun _ _ _ h => h) (Or.inl ⟨by rfl, ?_⟩) hHeld ?_ ?_
  rotate_left
  · rintro w' ⟨s0, s1, s2, s3, s4, s5, s6, s7, s8, s9, s10, s11⟩
    go_simp
    with_reducible rfl
  rotate_left
  · simp only [Act.put, List.setIfInBounds_toArray, List.set_cons_zero, List.set_cons_succ, i64_w, i32_w]
    rfl
  refine pure_ (i := 2) (N := some 58) (v := ?_) (a' := ?_) #[true, true, true, false, false, false, false, false, false, false, false] rfl rfl (any_of HT_.out (by kernel_rfl)) (fun _ _ _ h => h) (Or.inl ⟨by rfl, ?_⟩) ?_ ?_
  rotate_left
  · intro w'
    go_simp
    with_reducible rfl
  rotate_left
  · simp only [Act.put, List.setIfInBounds_toArray, List.set_cons_zero, List.set_cons_succ, i64_w, i32_w]
    rfl
  refine take_ (i := 3) (N := some 59) (v := ?_) (a' := ?_) #[true, true, true, true, false, false, false, false, false, false, false] rfl rfl (take_ofW HT_.out HW_.out (by kernel_rfl)) (fun _ _ _ h => h) (Or.inl ⟨by rfl, ?_⟩) hHeld ?_ ?_
  rotate_left
  · rintro w' ⟨s0, s1, s2, s3, s4, s5, s6, s7, s8, s9, s10, s11⟩
    go_simp
    with_reducible rfl
  rotate_left
  · simp only [Act.put, List.setIfInBounds_toArray, List.set_cons_zero, List.set_cons_succ, i64_w, i32_w]
    rfl
  refine one_ (i := 4) (N := some 60) #[true, true, true, true, true, false, false, false, false, false, false] rfl rfl (one_of HT_.out (by kernel_rfl)) (by decide) (fun K hK => ?_)
  refine goes_ Try.func50 (by kernel_rfl) rfl #[.agg #[.int .i64 r.f0, .int .i64 r.f1, .int .i64 r.f2, .slice A r.f3.length c]] (by rfl) rfl rfl (by (try simp only [List.map_toArray, List.map_cons, List.map_nil]); first | done | rfl) ?_
  refine (juratref37_often.calls r.f0 r.f1 r.f2 A c r.f3 t _ (XC.out.get 3 rfl) hc HT.out).mono ?_
  rintro e w9 ⟨rfl, hb9⟩
  refine ⟨_, rfl, ?_⟩
  have XN := Aside0.mk (XC.out.step hb9)
  clear hb9 XC
  have XC := XN
  clear XN
  clear j0 j1 j2 j3 j4 j5 j6 j7 y0 y1 y2 y3 y4 y5 y6 y7 b0 b1 b2 b3 z0 z1 z2 z3 d0 d1 d2 d3 d4 d5 d6 d7 v0 v1 v2 v3 v4 v5 v6 v7
  obtain ⟨⟨j0, j1, j2, j3, j4, j5, j6, j7⟩, y0, y1, y2, y3, y4, y5, y6, y7⟩ := cell8 (XC.out.get 2 rfl)
  obtain ⟨⟨b0, b1, b2, b3⟩, z0, z1, z2, z3⟩ := cell4_ (XC.out.get 1 rfl)
  obtain ⟨⟨d0, d1, d2, d3, d4, d5, d6, d7⟩, v0, v1, v2, v3, v4, v5, v6, v7⟩ := cell8 (XC.out.get 0 rfl)
  refine hK.out _ _ ⟨j0, j1, j2, j3, j4, j5, j6, j7, b0, b1, b2, b3⟩ (fun hHeld => ?_)
  clear hK K
  refine norm_ (a' := ?_) ?_ ?_
  rotate_left
  · show Act.put _ (some 60) _ = _
    simp only [Act.put, List.setIfInBounds_toArray, List.set_cons_zero, List.set_cons_succ, i64_w, i32_w]
    rfl
  refine one_ (i := 5) (N := some 61) #[true, true, true, true, true, true, false, false, false, false, false] rfl rfl (one_of HT_.out (by kernel_rfl)) (by decide) (fun K hK => ?_)
  refine goes_ Try.func51 (by kernel_rfl) rfl #[.int .i64 a, .int .i64 n, .int .i64 t] (by rfl) rfl rfl (by (try simp only [List.map_toArray, List.map_cons, List.map_nil]); first | done | rfl) ?_
  refine (juratref03_Walk.calls kw a n t x e0 _ HW.out).mono ?_
  rintro e w9 ⟨rfl, hb9⟩
  refine ⟨_, rfl, ?_⟩
  have XN := Aside0.mk (XC.out.drawn hb9)
  clear hb9 XC
  have XC := XN
  clear XN
  clear j0 j1 j2 j3 j4 j5 j6 j7 y0 y1 y2 y3 y4 y5 y6 y7 b0 b1 b2 b3 z0 z1 z2 z3 d0 d1 d2 d3 d4 d5 d6 d7 v0 v1 v2 v3 v4 v5 v6 v7
  obtain ⟨⟨j0, j1, j2, j3, j4, j5, j6, j7⟩, y0, y1, y2, y3, y4, y5, y6, y7⟩ := cell8 (XC.out.get 2 rfl)
  obtain ⟨⟨b0, b1, b2, b3⟩, z0, z1, z2, z3⟩ := cell4_ (XC.out.get 1 rfl)
  obtain ⟨⟨d0, d1, d2, d3, d4, d5, d6, d7⟩, v0, v1, v2, v3, v4, v5, v6, v7⟩ := cell8 (XC.out.get 0 rfl)
  refine hK.out _ _ ⟨j0, j1, j2, j3, j4, j5, j6, j7, b0, b1, b2, b3⟩ (fun hHeld => ?_)
  clear hK K
  refine norm_ (a' := ?_) ?_ ?_
  rotate_left
  · show Act.put _ (some 61) _ = _
    simp only [Act.put, List.setIfInBounds_toArray, List.set_cons_zero, List.set_cons_succ, i64_w, i32_w]
    rfl
  refine pure_ (i := 6) (N := some 55) (v := ?_) (a' := ?_) #[true, true, true, true, true, true, true, false, false, false, false] rfl rfl (any_of HT_.out (by kernel_rfl)) (fun _ _ _ h => h) (Or.inl ⟨by rfl, ?_⟩) ?_ ?_
  rotate_left
  · intro w'
    go_simp
    with_reducible rfl
  rotate_left
  · simp only [Act.put, List.setIfInBounds_toArray, List.set_cons_zero, List.set_cons_succ, i64_w, i32_w]
    rfl
  refine pure_ (i := 7) (N := some 62) (v := ?_) (a' := ?_) #[true, true, true, true, true, true, true, true, false, false, false] rfl rfl (any_of HT_.out (by kernel_rfl)) (fun _ _ _ h => h) (Or.inl ⟨by rfl, ?_⟩) ?_ ?_
  rotate_left
  · intro w'
    go_simp
    with_reducible rfl
  rotate_left
  · simp only [Act.put, List.setIfInBounds_toArray, List.set_cons_zero, List.set_cons_succ, i64_w, i32_w]
    rfl
  refine pure_ (i := 8) (N := some 63) (v := ?_) (a' := ?_) #[true, true, true, true, true, true, true, true, true, false, false] rfl rfl (any_of HT_.out (by kernel_rfl)) (fun _ _ _ h => h) (Or.inl ⟨by rfl, ?_⟩) ?_ ?_
  rotate_left
  · intro w'
    go_simp
    with_reducible rfl
  rotate_left
  · simp only [Act.put, List.setIfInBounds_toArray, List.set_cons_zero, List.set_cons_succ, i64_w, i32_w]
    rfl
  refine pure_ (i := 9) (N := some 8) (v := ?_) (a' := ?_) #[true, true, true, true, true, true, true, true, true, true, false] rfl rfl (any_of HT_.out (by kernel_rfl)) (fun _ _ _ h => h) (Or.inl ⟨by rfl, ?_⟩) ?_ ?_
  rotate_left
  · intro w'
    go_simp
    with_reducible rfl
  rotate_left
  · simp only [Act.put, List.setIfInBounds_toArray, List.set_cons_zero, List.set_cons_succ, i64_w, i32_w]
    rfl
  refine pure_ (i := 10) (N := some 9) (v := ?_) (a' := ?_) #[true, true, true, true, true, true, true, true, true, true, true] rfl rfl (any_of HT_.out (by kernel_rfl)) (fun _ _ _ h => h) (Or.inl ⟨by rfl, ?_⟩) ?_ ?_
  rotate_left
  · intro w'
    go_simp
    with_reducible rfl
  rotate_left
  · simp only [Act.put, List.setIfInBounds_toArray, List.set_cons_zero, List.set_cons_succ, i64_w, i32_w]
    rfl
  refine done_ (done_of HT_.out (by kernel_rfl)) ?_
  go_wp2
  refine bodyPost_ret (results_ct rfl _ _ (w.heap.size + 1 + 1) 49 #[.int .i64 a, .int .i64 h, .int .i64 R.f0, .int .i64 R.f1, .int .i64 R.f2, .slice B R.f3.length d, .int .i64 left, .bool false] (0, 0) _ rfl (by exact cput8 (XC.out.get 0 rfl)) Try.underlying49 rfl (by kernel_rfl)) rfl ?_
  exact ⟨rfl, cbel8 XC.out.hb (by omega)⟩
set_option maxHeartbeats 8000000 in
set_option maxRecDepth 100000 in
theorem cref_Begin.ok_n (a h : Int) (R : S28) (left : Int) (B : Option Addr) (d : Nat) (r : S28) (A : Option Addr) (c : Nat) (w : World) (hr : Kd.C (Kd.int .i64) w A r.f3.length r.f3) (hc : r.f3.length ≤ c) (hl : decide (left > 0) = false) (h5 : (r.f0 == 5) = false) (h6 : (r.f0 == 6) = false) (kn : Nat) (n t : Int) (hn : juratref24_Covers.f kn r.f0 r.f1 r.f2 r.f3 = some n) (ht : juratref37_often.f r.f0 r.f1 r.f2 r.f3 = some t) (he : (r.f1 == a) = false) (h1 : decide (n < 1) = false) (h2 : decide (t < 1) = false) (kw : Nat) (x : Int) (hw : juratref03_Walk.f kw a n t = some (x, 0)) : Calls Try.prog 27 #[.agg #[.int .i64 a, .int .i64 h, .int .i64 R.f0, .int .i64 R.f1, .int .i64 R.f2, .slice B R.f3.length d, .int .i64 left, .bool false], .agg #[.int .i64 r.f0, .int .i64 r.f1, .int .i64 r.f2, .slice A r.f3.length c]] w fun e w' => e = .returned (.tuple #[.agg #[.int .i64 a, .int .i64 h, .int .i64 r.f0, .int .i64 r.f1, .int .i64 r.f2, .slice A r.f3.length c, .int .i64 t, .bool false], .int .i64 0]) ∧ Below w.heap.size w w' := by
  have HN := Aside0.mk hn
  have HT := Aside0.mk ht
  clear hn ht
  have HW := Aside0.mk hw
  clear hw
  have HRW := Aside0.mk hr
  have hu := Try.underlying28
  have hu49 := Try.underlying49
  have HR := Aside0.mk hr
  clear hr
  go_enter Try.func27, Try.ntmps27
  go_upto_region 1 with fail
  have X1 := Aside0.mk (((((Cx.start (fun _ => False) w (fun _ h => h.elim)).came (Kd.heap_int _) HR.out).new #[.int .i64 a, .int .i64 h, .int .i64 R.f0, .int .i64 R.f1, .int .i64 R.f2, .slice B R.f3.length d, .int .i64 left, .bool false] 49 (fun h => h)).new #[.int .i64 r.f0, .int .i64 r.f1, .int .i64 r.f2, .slice A r.f3.length c] 28 (fun h => h)).new #[.int .i64 0, .int .i64 0, .int .i64 0, .int .i64 0, .int .i64 0, .slice none 0 0, .int .i64 0, .bool false] 49 (fun h => h))
  have XC : Aside0 (Cx (fun _ => False) w (((w.alloc (Obj.cells #[.int .i64 a, .int .i64 h, .int .i64 R.f0, .int .i64 R.f1, .int .i64 R.f2, .slice B R.f3.length d, .int .i64 left, .bool false] 49)).alloc (Obj.cells #[.int .i64 r.f0, .int .i64 r.f1, .int .i64 r.f2, .slice A r.f3.length c] 28)).alloc (Obj.cells #[.int .i64 0, .int .i64 0, .int .i64 0, .int .i64 0, .int .i64 0, .slice none 0 0, .int .i64 0, .bool false] 49)) [Blk (w.heap.size + 1 + 1) #[.int .i64 0, .int .i64 0, .int .i64 0, .int .i64 0, .int .i64 0, .slice none 0 0, .int .i64 0, .bool false] 49, Blk (w.heap.size + 1) #[.int .i64 r.f0, .int .i64 r.f1, .int .i64 r.f2, .slice A r.f3.length c] 28, Blk w.heap.size #[.int .i64 a, .int .i64 h, .int .i64 R.f0, .int .i64 R.f1, .int .i64 R.f2, .slice B R.f3.length d, .int .i64 left, .bool false] 49, Row (Kd.int .i64) A r.f3]) := ⟨by have h := X1.out; simpa using h⟩
  clear X1 HR
  have n1 : w.heap.size ≠ w.heap.size + 1 := by omega
  have n2 : w.heap.size ≠ w.heap.size + 1 + 1 := by omega
  have n3 : w.heap.size + 1 ≠ w.heap.size + 1 + 1 := by omega
  generalize ((w.alloc (Obj.cells #[.int .i64 a, .int .i64 h, .int .i64 R.f0, .int .i64 R.f1, .int .i64 R.f2, .slice B R.f3.length d, .int .i64 left, .bool false] 49)).alloc (Obj.cells #[.int .i64 r.f0, .int .i64 r.f1, .int .i64 r.f2, .slice A r.f3.length c] 28)).alloc (Obj.cells #[.int .i64 0, .int .i64 0, .int .i64 0, .int .i64 0, .int .i64 0, .slice none 0 0, .int .i64 0, .bool false] 49) = w1 at XC ⊢
  obtain ⟨⟨j0, j1, j2, j3, j4, j5, j6, j7⟩, y0, y1, y2, y3, y4, y5, y6, y7⟩ := cell8 (XC.out.get 2 rfl)
  obtain ⟨⟨b0, b1, b2, b3⟩, z0, z1, z2, z3⟩ := cell4_ (XC.out.get 1 rfl)
  obtain ⟨⟨d0, d1, d2, d3, d4, d5, d6, d7⟩, v0, v1, v2, v3, v4, v5, v6, v7⟩ := cell8 (XC.out.get 0 rfl)
  go_upto_region 16 with (first | (go_at_call 36; (refine (juratref24_Covers.calls kn r.f0 r.f1 r.f2 A c r.f3 n _ (XC.out.get 3 rfl) hc HN.out).mono ?_); rintro e w9 ⟨rfl, hb9⟩; have XN := Aside0.mk (XC.out.step hb9); clear hb9 XC; have XC := XN; clear XN; clear j0 j1 j2 j3 j4 j5 j6 j7 y0 y1 y2 y3 y4 y5 y6 y7 b0 b1 b2 b3 z0 z1 z2 z3 d0 d1 d2 d3 d4 d5 d6 d7 v0 v1 v2 v3 v4 v5 v6 v7; obtain ⟨⟨j0, j1, j2, j3, j4, j5, j6, j7⟩, y0, y1, y2, y3, y4, y5, y6, y7⟩ := cell8 (XC.out.get 2 rfl); obtain ⟨⟨b0, b1, b2, b3⟩, z0, z1, z2, z3⟩ := cell4_ (XC.out.get 1 rfl); obtain ⟨⟨d0, d1, d2, d3, d4, d5, d6, d7⟩, v0, v1, v2, v3, v4, v5, v6, v7⟩ := cell8 (XC.out.get 0 rfl)) | (go_at_call 50; (refine (juratref37_often.calls r.f0 r.f1 r.f2 A c r.f3 t _ (XC.out.get 3 rfl) hc HT.out).mono ?_); rintro e w9 ⟨rfl, hb9⟩; have XN := Aside0.mk (XC.out.step hb9); clear hb9 XC; have XC := XN; clear XN; clear j0 j1 j2 j3 j4 j5 j6 j7 y0 y1 y2 y3 y4 y5 y6 y7 b0 b1 b2 b3 z0 z1 z2 z3 d0 d1 d2 d3 d4 d5 d6 d7 v0 v1 v2 v3 v4 v5 v6 v7; obtain ⟨⟨j0, j1, j2, j3, j4, j5, j6, j7⟩, y0, y1, y2, y3, y4, y5, y6, y7⟩ := cell8 (XC.out.get 2 rfl); obtain ⟨⟨b0, b1, b2, b3⟩, z0, z1, z2, z3⟩ := cell4_ (XC.out.get 1 rfl); obtain ⟨⟨d0, d1, d2, d3, d4, d5, d6, d7⟩, v0, v1, v2, v3, v4, v5, v6, v7⟩ := cell8 (XC.out.get 0 rfl)) | fail)
  refine start_ (n := 11) (S := (fun w' => w'.cell? ⟨w.heap.size, 0, none⟩ = some (.int .i64 a) ∧ w'.cell? ⟨w.heap.size, 1, none⟩ = some (.int .i64 h) ∧ w'.cell? ⟨w.heap.size, 2, none⟩ = some (.int .i64 R.f0) ∧ w'.cell? ⟨w.heap.size, 3, none⟩ = some (.int .i64 R.f1) ∧ w'.cell? ⟨w.heap.size, 4, none⟩ = some (.int .i64 R.f2) ∧ w'.cell? ⟨w.heap.size, 5, none⟩ = some (.slice B R.f3.length d) ∧ w'.cell? ⟨w.heap.size, 6, none⟩ = some (.int .i64 left) ∧ w'.cell? ⟨w.heap.size, 7, none⟩ = some (.bool false) ∧ w'.cell? ⟨w.heap.size + 1, 0, none⟩ = some (.int .i64 r.f0) ∧ w'.cell? ⟨w.heap.size + 1, 1, none⟩ = some (.int .i64 r.f1) ∧ w'.cell? ⟨w.heap.size + 1, 2, none⟩ = some (.int .i64 r.f2) ∧ w'.cell? ⟨w.heap.size + 1, 3, none⟩ = some (.slice A r.f3.length c))) (ds := []) #[false, false, false, false, false, false, false, false, false, false, false] (by kernel_rfl) rfl rfl ⟨j0, j1, j2, j3, j4, j5, j6, j7, b0, b1, b2, b3⟩ (fun hHeld => ?_); refine with_tabW crefR16.tab crefR16.bits (fun HT_ HW_ => ?_)
  have XN := Aside0.mk XC.out.drew
  clear XC
  have XC := XN
  clear XN
  clear j0 j1 j2 j3 j4 j5 j6 j7 y0 y1 y2 y3 y4 y5 y6 y7 b0 b1 b2 b3 z0 z1 z2 z3 d0 d1 d2 d3 d4 d5 d6 d7 v0 v1 v2 v3 v4 v5 v6 v7
  generalize w9.drew = w2 at XC hHeld ⊢
  obtain ⟨⟨j0, j1, j2, j3, j4, j5, j6, j7⟩, y0, y1, y2, y3, y4, y5, y6, y7⟩ := cell8 (XC.out.get 2 rfl)
  obtain ⟨⟨b0, b1, b2, b3⟩, z0, z1, z2, z3⟩ := cell4_ (XC.out.get 1 rfl)
  obtain ⟨⟨d0, d1, d2, d3, d4, d5, d6, d7⟩, v0, v1, v2, v3, v4, v5, v6, v7⟩ := cell8 (XC.out.get 0 rfl)
  refine pure_ (i := 0) (N := some 56) (v := ?_) (a' := ?_) #[true, false, false, false, false, false, false, false, false, false, false] rfl rfl (any_of HT_.out (by kernel_rfl)) (fun _ _ _ h => h) (Or.inl ⟨by rfl, ?_⟩) ?_ ?_
  rotate_left
  · intro w'
    go_simp
    with_reducible rfl
  rotate_left
  · simp only [Act.put, List.setIfInBounds_toArray, List.set_cons_zero, List.set_cons_succ, i64_w, i32_w]
    rfl
  refine take_ (i := 1) (N := some 57) (v := ?_) (a' := ?_) #[true, true, false, false, false, false, false, false, false, false, false] rfl rfl (take_ofW HT_.out HW_.out (by kernel_rfl)) (fun _ _ _ h => h) (Or.inl ⟨by rfl, ?_⟩) hHeld ?_ ?_
  rotate_left
  · rintro w' ⟨s0, s1, s2, s3, s4, s5, s6, s7, s8, s9, s10, s11⟩
    go_simp
    with_reducible rfl
  rotate_left
  · simp only [Act.put, List.setIfInBounds_toArray, List.set_cons_zero, List.set_cons_succ, i64_w, i32_w]
    rfl
  refine pure_ (i := 2) (N := some 58) (v := ?_) (a' := ?_) #[true, true, true, false, false, false, false, false, false, false, false] rfl rfl (any_of HT_.out (by kernel_rfl)) (fun _ _ _ h => h) (Or.inl ⟨by rfl, ?_⟩) ?_ ?_
  rotate_left
  · intro w'
    go_simp
    with_reducible rfl
  rotate_left
  · simp only [Act.put, List.setIfInBounds_toArray, List.set_cons_zero, List.set_cons_succ, i64_w, i32_w]
    rfl
  refine take_ (i := 3) (N := some 59) (v := ?_) (a' := ?_) #[true, true, true, true, false, false, false, false, false, false, false] rfl rfl (take_ofW HT_.out HW_.out (by kernel_rfl)) (fun _ _ _ h => h) (Or.inl ⟨by rfl, ?_⟩) hHeld ?_ ?_
  rotate_left
  · rintro w' ⟨s0, s1, s2, s3, s4, s5, s6, s7, s8, s9, s10, s11⟩
    go_simp
    with_reducible rfl
  rotate_left
  · simp only [Act.put, List.setIfInBounds_toArray, List.set_cons_zero, List.set_cons_succ, i64_w, i32_w]
    rfl
  refine one_ (i := 4) (N := some 60) #[true, true, true, true, true, false, false, false, false, false, false] rfl rfl (one_of HT_.out (by kernel_rfl)) (by decide) (fun K hK => ?_)
  refine goes_ Try.func50 (by kernel_rfl) rfl #[.agg #[.int .i64 r.f0, .int .i64 r.f1, .int .i64 r.f2, .slice A r.f3.length c]] (by rfl) rfl rfl (by (try simp only [List.map_toArray, List.map_cons, List.map_nil]); first | done | rfl) ?_
  refine (juratref37_often.calls r.f0 r.f1 r.f2 A c r.f3 t _ (XC.out.get 3 rfl) hc HT.out).mono ?_
  rintro e w9 ⟨rfl, hb9⟩
  refine ⟨_, rfl, ?_⟩
  have XN := Aside0.mk (XC.out.step hb9)
  clear hb9 XC
  have XC := XN
  clear XN
  clear j0 j1 j2 j3 j4 j5 j6 j7 y0 y1 y2 y3 y4 y5 y6 y7 b0 b1 b2 b3 z0 z1 z2 z3 d0 d1 d2 d3 d4 d5 d6 d7 v0 v1 v2 v3 v4 v5 v6 v7
  obtain ⟨⟨j0, j1, j2, j3, j4, j5, j6, j7⟩, y0, y1, y2, y3, y4, y5, y6, y7⟩ := cell8 (XC.out.get 2 rfl)
  obtain ⟨⟨b0, b1, b2, b3⟩, z0, z1, z2, z3⟩ := cell4_ (XC.out.get 1 rfl)
  obtain ⟨⟨d0, d1, d2, d3, d4, d5, d6, d7⟩, v0, v1, v2, v3, v4, v5, v6, v7⟩ := cell8 (XC.out.get 0 rfl)
  refine hK.out _ _ ⟨j0, j1, j2, j3, j4, j5, j6, j7, b0, b1, b2, b3⟩ (fun hHeld => ?_)
  clear hK K
  refine norm_ (a' := ?_) ?_ ?_
  rotate_left
  · show Act.put _ (some 60) _ = _
    simp only [Act.put, List.setIfInBounds_toArray, List.set_cons_zero, List.set_cons_succ, i64_w, i32_w]
    rfl
  refine one_ (i := 5) (N := some 61) #[true, true, true, true, true, true, false, false, false, false, false] rfl rfl (one_of HT_.out (by kernel_rfl)) (by decide) (fun K hK => ?_)
  refine goes_ Try.func51 (by kernel_rfl) rfl #[.int .i64 a, .int .i64 n, .int .i64 t] (by rfl) rfl rfl (by (try simp only [List.map_toArray, List.map_cons, List.map_nil]); first | done | rfl) ?_
  refine (juratref03_Walk.calls kw a n t x 0 _ HW.out).mono ?_
  rintro e w9 ⟨rfl, hb9⟩
  refine ⟨_, rfl, ?_⟩
  have XN := Aside0.mk (XC.out.drawn hb9)
  clear hb9 XC
  have XC := XN
  clear XN
  clear j0 j1 j2 j3 j4 j5 j6 j7 y0 y1 y2 y3 y4 y5 y6 y7 b0 b1 b2 b3 z0 z1 z2 z3 d0 d1 d2 d3 d4 d5 d6 d7 v0 v1 v2 v3 v4 v5 v6 v7
  obtain ⟨⟨j0, j1, j2, j3, j4, j5, j6, j7⟩, y0, y1, y2, y3, y4, y5, y6, y7⟩ := cell8 (XC.out.get 2 rfl)
  obtain ⟨⟨b0, b1, b2, b3⟩, z0, z1, z2, z3⟩ := cell4_ (XC.out.get 1 rfl)
  obtain ⟨⟨d0, d1, d2, d3, d4, d5, d6, d7⟩, v0, v1, v2, v3, v4, v5, v6, v7⟩ := cell8 (XC.out.get 0 rfl)
  refine hK.out _ _ ⟨j0, j1, j2, j3, j4, j5, j6, j7, b0, b1, b2, b3⟩ (fun hHeld => ?_)
  clear hK K
  refine norm_ (a' := ?_) ?_ ?_
  rotate_left
  · show Act.put _ (some 61) _ = _
    simp only [Act.put, List.setIfInBounds_toArray, List.set_cons_zero, List.set_cons_succ, i64_w, i32_w]
    rfl
  refine pure_ (i := 6) (N := some 55) (v := ?_) (a' := ?_) #[true, true, true, true, true, true, true, false, false, false, false] rfl rfl (any_of HT_.out (by kernel_rfl)) (fun _ _ _ h => h) (Or.inl ⟨by rfl, ?_⟩) ?_ ?_
  rotate_left
  · intro w'
    go_simp
    with_reducible rfl
  rotate_left
  · simp only [Act.put, List.setIfInBounds_toArray, List.set_cons_zero, List.set_cons_succ, i64_w, i32_w]
    rfl
  refine pure_ (i := 7) (N := some 62) (v := ?_) (a' := ?_) #[true, true, true, true, true, true, true, true, false, false, false] rfl rfl (any_of HT_.out (by kernel_rfl)) (fun _ _ _ h => h) (Or.inl ⟨by rfl, ?_⟩) ?_ ?_
  rotate_left
  · intro w'
    go_simp
    with_reducible rfl
  rotate_left
  · simp only [Act.put, List.setIfInBounds_toArray, List.set_cons_zero, List.set_cons_succ, i64_w, i32_w]
    rfl
  refine pure_ (i := 8) (N := some 63) (v := ?_) (a' := ?_) #[true, true, true, true, true, true, true, true, true, false, false] rfl rfl (any_of HT_.out (by kernel_rfl)) (fun _ _ _ h => h) (Or.inl ⟨by rfl, ?_⟩) ?_ ?_
  rotate_left
  · intro w'
    go_simp
    with_reducible rfl
  rotate_left
  · simp only [Act.put, List.setIfInBounds_toArray, List.set_cons_zero, List.set_cons_succ, i64_w, i32_w]
    rfl
  refine pure_ (i := 9) (N := some 8) (v := ?_) (a' := ?_) #[true, true, true, true, true, true, true, true, true, true, false] rfl rfl (any_of HT_.out (by kernel_rfl)) (fun _ _ _ h => h) (Or.inl ⟨by rfl, ?_⟩) ?_ ?_
  rotate_left
  · intro w'
    go_simp
    with_reducible rfl
  rotate_left
  · simp only [Act.put, List.setIfInBounds_toArray, List.set_cons_zero, List.set_cons_succ, i64_w, i32_w]
    rfl
  refine pure_ (i := 10) (N := some 9) (v := ?_) (a' := ?_) #[true, true, true, true, true, true, true, true, true, true, true] rfl rfl (any_of HT_.out (by kernel_rfl)) (fun _ _ _ h => h) (Or.inl ⟨by rfl, ?_⟩) ?_ ?_
  rotate_left
  · intro w'
    go_simp
    with_reducible rfl
  rotate_left
  · simp only [Act.put, List.setIfInBounds_toArray, List.set_cons_zero, List.set_cons_succ, i64_w, i32_w]
    rfl
  refine done_ (done_of HT_.out (by kernel_rfl)) ?_
  go_upto_region 20 with fail
  have K2 : Aside0 (((((w9.setCell ⟨w.heap.size, 2, none⟩ (.int .i64 r.f0)).setCell ⟨w.heap.size, 3, none⟩ (.int .i64 r.f1)).setCell ⟨w.heap.size, 4, none⟩ (.int .i64 r.f2)).setCell ⟨w.heap.size, 5, none⟩ (.slice A r.f3.length c)).heap[w.heap.size]? = some (.cells #[(.int .i64 a), (.int .i64 h), (.int .i64 r.f0), (.int .i64 r.f1), (.int .i64 r.f2), (.slice A r.f3.length c), (.int .i64 left), (.bool false)] 49 (0, 0))) := ⟨blk_put (cs := #[(.int .i64 a), (.int .i64 h), (.int .i64 r.f0), (.int .i64 r.f1), (.int .i64 r.f2), (.slice B R.f3.length d), (.int .i64 left), (.bool false)]) (blk_put (cs := #[(.int .i64 a), (.int .i64 h), (.int .i64 r.f0), (.int .i64 r.f1), (.int .i64 R.f2), (.slice B R.f3.length d), (.int .i64 left), (.bool false)]) (blk_put (cs := #[(.int .i64 a), (.int .i64 h), (.int .i64 r.f0), (.int .i64 R.f1), (.int .i64 R.f2), (.slice B R.f3.length d), (.int .i64 left), (.bool false)]) (blk_put (cs := #[(.int .i64 a), (.int .i64 h), (.int .i64 R.f0), (.int .i64 R.f1), (.int .i64 R.f2), (.slice B R.f3.length d), (.int .i64 left), (.bool false)]) (XC.out.get 2 rfl) 2 _ rfl) 3 _ rfl) 4 _ rfl) 5 _ rfl⟩
  have K3 : Aside0 (((((w9.setCell ⟨w.heap.size, 2, none⟩ (.int .i64 r.f0)).setCell ⟨w.heap.size, 3, none⟩ (.int .i64 r.f1)).setCell ⟨w.heap.size, 4, none⟩ (.int .i64 r.f2)).setCell ⟨w.heap.size, 5, none⟩ (.slice A r.f3.length c)).heap[w.heap.size + 1]? = some (.cells #[.int .i64 r.f0, .int .i64 r.f1, .int .i64 r.f2, .slice A r.f3.length c] 28 (0, 0))) := ⟨blk_far (p := ⟨w.heap.size, 5, none⟩) (blk_far (p := ⟨w.heap.size, 4, none⟩) (blk_far (p := ⟨w.heap.size, 3, none⟩) (blk_far (p := ⟨w.heap.size, 2, none⟩) (XC.out.get 1 rfl) (Ne.symm n1) _) (Ne.symm n1) _) (Ne.symm n1) _) (Ne.symm n1) _⟩
  have K4 : Aside0 (((((w9.setCell ⟨w.heap.size, 2, none⟩ (.int .i64 r.f0)).setCell ⟨w.heap.size, 3, none⟩ (.int .i64 r.f1)).setCell ⟨w.heap.size, 4, none⟩ (.int .i64 r.f2)).setCell ⟨w.heap.size, 5, none⟩ (.slice A r.f3.length c)).heap[w.heap.size + 1 + 1]? = some (.cells #[.int .i64 0, .int .i64 0, .int .i64 0, .int .i64 0, .int .i64 0, .slice none 0 0, .int .i64 0, .bool false] 49 (0, 0))) := ⟨blk_far (p := ⟨w.heap.size, 5, none⟩) (blk_far (p := ⟨w.heap.size, 4, none⟩) (blk_far (p := ⟨w.heap.size, 3, none⟩) (blk_far (p := ⟨w.heap.size, 2, none⟩) (XC.out.get 0 rfl) (Ne.symm n2) _) (Ne.symm n2) _) (Ne.symm n2) _) (Ne.symm n2) _⟩
  have B5 : Aside0 (Below w.heap.size w ((((w9.setCell ⟨w.heap.size, 2, none⟩ (.int .i64 r.f0)).setCell ⟨w.heap.size, 3, none⟩ (.int .i64 r.f1)).setCell ⟨w.heap.size, 4, none⟩ (.int .i64 r.f2)).setCell ⟨w.heap.size, 5, none⟩ (.slice A r.f3.length c))) := ⟨(((XC.out.hb.setCell (p := ⟨w.heap.size, 2, none⟩) (Nat.le_refl _) _).setCell (p := ⟨w.heap.size, 3, none⟩) (Nat.le_refl _) _).setCell (p := ⟨w.heap.size, 4, none⟩) (Nat.le_refl _) _).setCell (p := ⟨w.heap.size, 5, none⟩) (Nat.le_refl _) _⟩
  clear XC j0 j1 j2 j3 j4 j5 j6 j7 y0 y1 y2 y3 y4 y5 y6 y7 b0 b1 b2 b3 z0 z1 z2 z3 d0 d1 d2 d3 d4 d5 d6 d7 v0 v1 v2 v3 v4 v5 v6 v7
  generalize ((((w9.setCell ⟨w.heap.size, 2, none⟩ (.int .i64 r.f0)).setCell ⟨w.heap.size, 3, none⟩ (.int .i64 r.f1)).setCell ⟨w.heap.size, 4, none⟩ (.int .i64 r.f2)).setCell ⟨w.heap.size, 5, none⟩ (.slice A r.f3.length c)) = w5 at K2 K3 K4 B5 ⊢
  obtain ⟨⟨j0, j1, j2, j3, j4, j5, j6, j7⟩, y0, y1, y2, y3, y4, y5, y6, y7⟩ := cell8 K2.out
  obtain ⟨⟨b0, b1, b2, b3⟩, z0, z1, z2, z3⟩ := cell4_ K3.out
  obtain ⟨⟨d0, d1, d2, d3, d4, d5, d6, d7⟩, v0, v1, v2, v3, v4, v5, v6, v7⟩ := cell8 K4.out
  go_wp2_with (first | (go_at_call 50; (refine (juratref37_often.calls r.f0 r.f1 r.f2 A c r.f3 t _ (Kd.C_below HRW.out B5.out) hc HT.out).mono ?_); rintro e w12 ⟨rfl, hb12⟩; have K2N := Aside0.mk (blk_below K2.out hb12); have K4N := Aside0.mk (blk_below K4.out hb12); have BN := Aside0.mk (below_step B5.out hb12); clear hb12 K2 K3 K4 B5 j0 j1 j2 j3 j4 j5 j6 j7 y0 y1 y2 y3 y4 y5 y6 y7 b0 b1 b2 b3 z0 z1 z2 z3 d0 d1 d2 d3 d4 d5 d6 d7 v0 v1 v2 v3 v4 v5 v6 v7; obtain ⟨⟨j0, j1, j2, j3, j4, j5, j6, j7⟩, y0, y1, y2, y3, y4, y5, y6, y7⟩ := cell8 K2N.out; obtain ⟨⟨d0, d1, d2, d3, d4, d5, d6, d7⟩, v0, v1, v2, v3, v4, v5, v6, v7⟩ := cell8 K4N.out) | fail)
  refine bodyPost_ret (results_ct rfl _ _ (w.heap.size + 1 + 1) 49 #[.int .i64 a, .int .i64 h, .int .i64 r.f0, .int .i64 r.f1, .int .i64 r.f2, .slice A r.f3.length c, .int .i64 t, .bool false] (0, 0) _ rfl (by exact cput8 (blk_far (p := ⟨w.heap.size, 6, none⟩) K4N.out (Ne.symm n2) _)) Try.underlying49 rfl (by kernel_rfl)) rfl ?_
  exact ⟨rfl, cbel8 (BN.out.setCell (p := ⟨w.heap.size, 6, none⟩) (Nat.le_refl _) _) (by omega)⟩
set_option maxHeartbeats 8000000 in
set_option maxRecDepth 100000 in
theorem cref_Begin.far_h (a h : Int) (R : S28) (left : Int) (B : Option Addr) (d : Nat) (r : S28) (A : Option Addr) (c : Nat) (w : World) (hr : Kd.C (Kd.int .i64) w A r.f3.length r.f3) (hc : r.f3.length ≤ c) (hl : decide (left > 0) = false) (qb : Bool) (h5 : (r.f0 == 5) = false) (h6 : (r.f0 == 6) = false) (kn : Nat) (n t : Int) (hn : juratref24_Covers.f kn r.f0 r.f1 r.f2 r.f3 = some n) (ht : juratref37_often.f r.f0 r.f1 r.f2 r.f3 = some t) (he : (r.f1 == a) = true) (he2 : (r.f2 == h) = qb) (h1 : decide (n < 1) = false) (h2 : decide (t < 1) = false) (kw : Nat) (x e0 : Int) (hw : juratref03_Walk.f kw a n t = some (x, e0)) (hz : (e0 != 0) = true) : Calls Try.prog 27 #[.agg #[.int .i64 a, .int .i64 h, .int .i64 R.f0, .int .i64 R.f1, .int .i64 R.f2, .slice B R.f3.length d, .int .i64 left, .bool false], .agg #[.int .i64 r.f0, .int .i64 r.f1, .int .i64 r.f2, .slice A r.f3.length c]] w fun e w' => e = .returned (.tuple #[.agg #[.int .i64 a, .int .i64 h, .int .i64 R.f0, .int .i64 R.f1, .int .i64 R.f2, .slice B R.f3.length d, .int .i64 left, .bool false], .int .i64 e0]) ∧ Below w.heap.size w w' := by
  have HN := Aside0.mk hn
  have HT := Aside0.mk ht
  clear hn ht
  have HW := Aside0.mk hw
  clear hw
  have hu := Try.underlying28
  have hu49 := Try.underlying49
  have HR := Aside0.mk hr
  clear hr
  go_enter Try.func27, Try.ntmps27
  go_upto_region 1 with fail
  have X1 := Aside0.mk (((((Cx.start (fun _ => False) w (fun _ h => h.elim)).came (Kd.heap_int _) HR.out).new #[.int .i64 a, .int .i64 h, .int .i64 R.f0, .int .i64 R.f1, .int .i64 R.f2, .slice B R.f3.length d, .int .i64 left, .bool false] 49 (fun h => h)).new #[.int .i64 r.f0, .int .i64 r.f1, .int .i64 r.f2, .slice A r.f3.length c] 28 (fun h => h)).new #[.int .i64 0, .int .i64 0, .int .i64 0, .int .i64 0, .int .i64 0, .slice none 0 0, .int .i64 0, .bool false] 49 (fun h => h))
  have XC : Aside0 (Cx (fun _ => False) w (((w.alloc (Obj.cells #[.int .i64 a, .int .i64 h, .int .i64 R.f0, .int .i64 R.f1, .int .i64 R.f2, .slice B R.f3.length d, .int .i64 left, .bool false] 49)).alloc (Obj.cells #[.int .i64 r.f0, .int .i64 r.f1, .int .i64 r.f2, .slice A r.f3.length c] 28)).alloc (Obj.cells #[.int .i64 0, .int .i64 0, .int .i64 0, .int .i64 0, .int .i64 0, .slice none 0 0, .int .i64 0, .bool false] 49)) [Blk (w.heap.size + 1 + 1) #[.int .i64 0, .int .i64 0, .int .i64 0, .int .i64 0, .int .i64 0, .slice none 0 0, .int .i64 0, .bool false] 49, Blk (w.heap.size + 1) #[.int .i64 r.f0, .int .i64 r.f1, .int .i64 r.f2, .slice A r.f3.length c] 28, Blk w.heap.size #[.int .i64 a, .int .i64 h, .int .i64 R.f0, .int .i64 R.f1, .int .i64 R.f2, .slice B R.f3.length d, .int .i64 left, .bool false] 49, Row (Kd.int .i64) A r.f3]) := ⟨by have h := X1.out; simpa using h⟩
  clear X1 HR
  have n1 : w.heap.size ≠ w.heap.size + 1 := by omega
  have n2 : w.heap.size ≠ w.heap.size + 1 + 1 := by omega
  have n3 : w.heap.size + 1 ≠ w.heap.size + 1 + 1 := by omega
  generalize ((w.alloc (Obj.cells #[.int .i64 a, .int .i64 h, .int .i64 R.f0, .int .i64 R.f1, .int .i64 R.f2, .slice B R.f3.length d, .int .i64 left, .bool false] 49)).alloc (Obj.cells #[.int .i64 r.f0, .int .i64 r.f1, .int .i64 r.f2, .slice A r.f3.length c] 28)).alloc (Obj.cells #[.int .i64 0, .int .i64 0, .int .i64 0, .int .i64 0, .int .i64 0, .slice none 0 0, .int .i64 0, .bool false] 49) = w1 at XC ⊢
  obtain ⟨⟨j0, j1, j2, j3, j4, j5, j6, j7⟩, y0, y1, y2, y3, y4, y5, y6, y7⟩ := cell8 (XC.out.get 2 rfl)
  obtain ⟨⟨b0, b1, b2, b3⟩, z0, z1, z2, z3⟩ := cell4_ (XC.out.get 1 rfl)
  obtain ⟨⟨d0, d1, d2, d3, d4, d5, d6, d7⟩, v0, v1, v2, v3, v4, v5, v6, v7⟩ := cell8 (XC.out.get 0 rfl)
  go_upto_region 16 with (first | (go_at_call 36; (refine (juratref24_Covers.calls kn r.f0 r.f1 r.f2 A c r.f3 n _ (XC.out.get 3 rfl) hc HN.out).mono ?_); rintro e w9 ⟨rfl, hb9⟩; have XN := Aside0.mk (XC.out.step hb9); clear hb9 XC; have XC := XN; clear XN; clear j0 j1 j2 j3 j4 j5 j6 j7 y0 y1 y2 y3 y4 y5 y6 y7 b0 b1 b2 b3 z0 z1 z2 z3 d0 d1 d2 d3 d4 d5 d6 d7 v0 v1 v2 v3 v4 v5 v6 v7; obtain ⟨⟨j0, j1, j2, j3, j4, j5, j6, j7⟩, y0, y1, y2, y3, y4, y5, y6, y7⟩ := cell8 (XC.out.get 2 rfl); obtain ⟨⟨b0, b1, b2, b3⟩, z0, z1, z2, z3⟩ := cell4_ (XC.out.get 1 rfl); obtain ⟨⟨d0, d1, d2, d3, d4, d5, d6, d7⟩, v0, v1, v2, v3, v4, v5, v6, v7⟩ := cell8 (XC.out.get 0 rfl)) | (go_at_call 50; (refine (juratref37_often.calls r.f0 r.f1 r.f2 A c r.f3 t _ (XC.out.get 3 rfl) hc HT.out).mono ?_); rintro e w9 ⟨rfl, hb9⟩; have XN := Aside0.mk (XC.out.step hb9); clear hb9 XC; have XC := XN; clear XN; clear j0 j1 j2 j3 j4 j5 j6 j7 y0 y1 y2 y3 y4 y5 y6 y7 b0 b1 b2 b3 z0 z1 z2 z3 d0 d1 d2 d3 d4 d5 d6 d7 v0 v1 v2 v3 v4 v5 v6 v7; obtain ⟨⟨j0, j1, j2, j3, j4, j5, j6, j7⟩, y0, y1, y2, y3, y4, y5, y6, y7⟩ := cell8 (XC.out.get 2 rfl); obtain ⟨⟨b0, b1, b2, b3⟩, z0, z1, z2, z3⟩ := cell4_ (XC.out.get 1 rfl); obtain ⟨⟨d0, d1, d2, d3, d4, d5, d6, d7⟩, v0, v1, v2, v3, v4, v5, v6, v7⟩ := cell8 (XC.out.get 0 rfl)) | fail)
  refine start_ (n := 11) (S := (fun w' => w'.cell? ⟨w.heap.size, 0, none⟩ = some (.int .i64 a) ∧ w'.cell? ⟨w.heap.size, 1, none⟩ = some (.int .i64 h) ∧ w'.cell? ⟨w.heap.size, 2, none⟩ = some (.int .i64 R.f0) ∧ w'.cell? ⟨w.heap.size, 3, none⟩ = some (.int .i64 R.f1) ∧ w'.cell? ⟨w.heap.size, 4, none⟩ = some (.int .i64 R.f2) ∧ w'.cell? ⟨w.heap.size, 5, none⟩ = some (.slice B R.f3.length d) ∧ w'.cell? ⟨w.heap.size, 6, none⟩ = some (.int .i64 left) ∧ w'.cell? ⟨w.heap.size, 7, none⟩ = some (.bool false) ∧ w'.cell? ⟨w.heap.size + 1, 0, none⟩ = some (.int .i64 r.f0) ∧ w'.cell? ⟨w.heap.size + 1, 1, none⟩ = some (.int .i64 r.f1) ∧ w'.cell? ⟨w.heap.size + 1, 2, none⟩ = some (.int .i64 r.f2) ∧ w'.cell? ⟨w.heap.size + 1, 3, none⟩ = some (.slice A r.f3.length c))) (ds := []) #[false, false, false, false, false, false, false, false, false, false, false] (by kernel_rfl) rfl rfl ⟨j0, j1, j2, j3, j4, j5, j6, j7, b0, b1, b2, b3⟩ (fun hHeld => ?_); refine with_tabW crefR16.tab crefR16.bits (fun HT_ HW_ => ?_)
  have XN := Aside0.mk XC.out.drew
  clear XC
  have XC := XN
  clear XN
  clear j0 j1 j2 j3 j4 j5 j6 j7 y0 y1 y2 y3 y4 y5 y6 y7 b0 b1 b2 b3 z0 z1 z2 z3 d0 d1 d2 d3 d4 d5 d6 d7 v0 v1 v2 v3 v4 v5 v6 v7
  generalize w9.drew = w2 at XC hHeld ⊢
  obtain ⟨⟨j0, j1, j2, j3, j4, j5, j6, j7⟩, y0, y1, y2, y3, y4, y5, y6, y7⟩ := cell8 (XC.out.get 2 rfl)
  obtain ⟨⟨b0, b1, b2, b3⟩, z0, z1, z2, z3⟩ := cell4_ (XC.out.get 1 rfl)
  obtain ⟨⟨d0, d1, d2, d3, d4, d5, d6, d7⟩, v0, v1, v2, v3, v4, v5, v6, v7⟩ := cell8 (XC.out.get 0 rfl)
  refine pure_ (i := 0) (N := some 56) (v := ?_) (a' := ?_) #[true, false, false, false, false, false, false, false, false, false, false] rfl rfl (any_of HT_.out (by kernel_rfl)) (fun _ _ _ h => h) (Or.inl ⟨by rfl, ?_⟩) ?_ ?_
  rotate_left
  · intro w'
    go_simp
    with_reducible rfl
  rotate_left
  · simp only [Act.put, List.setIfInBounds_toArray, List.set_cons_zero, List.set_cons_succ, i64_w, i32_w]
    rfl
  refine take_ (i := 1) (N := some 57) (v := ?_) (a' := ?_) #[true, true, false, false, false, false, false, false, false, false, false] rfl rfl (take_ofW HT_.out HW_.out (by kernel_rfl)) (fun _ _ _ h => h) (Or.inl ⟨by rfl, ?_⟩) hHeld ?_ ?_
  rotate_left
  · rintro w' ⟨s0, s1, s2, s3, s4, s5, s6, s7, s8, s9, s10, s11⟩
    go_simp
    with_reducible rfl
  rotate_left
  · simp only [Act.put, List.setIfInBounds_toArray, List.set_cons_zero, List.set_cons_succ, i64_w, i32_w]
    rfl
  refine pure_ (i := 2) (N := some 58) (v := ?_) (a' := ?_) #[true, true, true, false, false, false, false, false, false, false, false] rfl rfl (any_of HT_.out (by kernel_rfl)) (fun _ _ _ h => h) (Or.inl ⟨by rfl, ?_⟩) ?_ ?_
  rotate_left
  · intro w'
    go_simp
    with_reducible rfl
  rotate_left
  · simp only [Act.put, List.setIfInBounds_toArray, List.set_cons_zero, List.set_cons_succ, i64_w, i32_w]
    rfl
  refine take_ (i := 3) (N := some 59) (v := ?_) (a' := ?_) #[true, true, true, true, false, false, false, false, false, false, false] rfl rfl (take_ofW HT_.out HW_.out (by kernel_rfl)) (fun _ _ _ h => h) (Or.inl ⟨by rfl, ?_⟩) hHeld ?_ ?_
  rotate_left
  · rintro w' ⟨s0, s1, s2, s3, s4, s5, s6, s7, s8, s9, s10, s11⟩
    go_simp
    with_reducible rfl
  rotate_left
  · simp only [Act.put, List.setIfInBounds_toArray, List.set_cons_zero, List.set_cons_succ, i64_w, i32_w]
    rfl
  refine one_ (i := 4) (N := some 60) #[true, true, true, true, true, false, false, false, false, false, false] rfl rfl (one_of HT_.out (by kernel_rfl)) (by decide) (fun K hK => ?_)
  refine goes_ Try.func50 (by kernel_rfl) rfl #[.agg #[.int .i64 r.f0, .int .i64 r.f1, .int .i64 r.f2, .slice A r.f3.length c]] (by rfl) rfl rfl (by (try simp only [List.map_toArray, List.map_cons, List.map_nil]); first | done | rfl) ?_
  refine (juratref37_often.calls r.f0 r.f1 r.f2 A c r.f3 t _ (XC.out.get 3 rfl) hc HT.out).mono ?_
  rintro e w9 ⟨rfl, hb9⟩
  refine ⟨_, rfl, ?_⟩
  have XN := Aside0.mk (XC.out.step hb9)
  clear hb9 XC
  have XC := XN
  clear XN
  clear j0 j1 j2 j3 j4 j5 j6 j7 y0 y1 y2 y3 y4 y5 y6 y7 b0 b1 b2 b3 z0 z1 z2 z3 d0 d1 d2 d3 d4 d5 d6 d7 v0 v1 v2 v3 v4 v5 v6 v7
  obtain ⟨⟨j0, j1, j2, j3, j4, j5, j6, j7⟩, y0, y1, y2, y3, y4, y5, y6, y7⟩ := cell8 (XC.out.get 2 rfl)
  obtain ⟨⟨b0, b1, b2, b3⟩, z0, z1, z2, z3⟩ := cell4_ (XC.out.get 1 rfl)
  obtain ⟨⟨d0, d1, d2, d3, d4, d5, d6, d7⟩, v0, v1, v2, v3, v4, v5, v6, v7⟩ := cell8 (XC.out.get 0 rfl)
  refine hK.out _ _ ⟨j0, j1, j2, j3, j4, j5, j6, j7, b0, b1, b2, b3⟩ (fun hHeld => ?_)
  clear hK K
  refine norm_ (a' := ?_) ?_ ?_
  rotate_left
  · show Act.put _ (some 60) _ = _
    simp only [Act.put, List.setIfInBounds_toArray, List.set_cons_zero, List.set_cons_succ, i64_w, i32_w]
    rfl
  refine one_ (i := 5) (N := some 61) #[true, true, true, true, true, true, false, false, false, false, false] rfl rfl (one_of HT_.out (by kernel_rfl)) (by decide) (fun K hK => ?_)
  refine goes_ Try.func51 (by kernel_rfl) rfl #[.int .i64 a, .int .i64 n, .int .i64 t] (by rfl) rfl rfl (by (try simp only [List.map_toArray, List.map_cons, List.map_nil]); first | done | rfl) ?_
  refine (juratref03_Walk.calls kw a n t x e0 _ HW.out).mono ?_
  rintro e w9 ⟨rfl, hb9⟩
  refine ⟨_, rfl, ?_⟩
  have XN := Aside0.mk (XC.out.drawn hb9)
  clear hb9 XC
  have XC := XN
  clear XN
  clear j0 j1 j2 j3 j4 j5 j6 j7 y0 y1 y2 y3 y4 y5 y6 y7 b0 b1 b2 b3 z0 z1 z2 z3 d0 d1 d2 d3 d4 d5 d6 d7 v0 v1 v2 v3 v4 v5 v6 v7
  obtain ⟨⟨j0, j1, j2, j3, j4, j5, j6, j7⟩, y0, y1, y2, y3, y4, y5, y6, y7⟩ := cell8 (XC.out.get 2 rfl)
  obtain ⟨⟨b0, b1, b2, b3⟩, z0, z1, z2, z3⟩ := cell4_ (XC.out.get 1 rfl)
  obtain ⟨⟨d0, d1, d2, d3, d4, d5, d6, d7⟩, v0, v1, v2, v3, v4, v5, v6, v7⟩ := cell8 (XC.out.get 0 rfl)
  refine hK.out _ _ ⟨j0, j1, j2, j3, j4, j5, j6, j7, b0, b1, b2, b3⟩ (fun hHeld => ?_)
  clear hK K
  refine norm_ (a' := ?_) ?_ ?_
  rotate_left
  · show Act.put _ (some 61) _ = _
    simp only [Act.put, List.setIfInBounds_toArray, List.set_cons_zero, List.set_cons_succ, i64_w, i32_w]
    rfl
  refine pure_ (i := 6) (N := some 55) (v := ?_) (a' := ?_) #[true, true, true, true, true, true, true, false, false, false, false] rfl rfl (any_of HT_.out (by kernel_rfl)) (fun _ _ _ h => h) (Or.inl ⟨by rfl, ?_⟩) ?_ ?_
  rotate_left
  · intro w'
    go_simp
    with_reducible rfl
  rotate_left
  · simp only [Act.put, List.setIfInBounds_toArray, List.set_cons_zero, List.set_cons_succ, i64_w, i32_w]
    rfl
  refine pure_ (i := 7) (N := some 62) (v := ?_) (a' := ?_) #[true, true, true, true, true, true, true, true, false, false, false] rfl rfl (any_of HT_.out (by kernel_rfl)) (fun _ _ _ h => h) (Or.inl ⟨by rfl, ?_⟩) ?_ ?_
  rotate_left
  · intro w'
    go_simp
    with_reducible rfl
  rotate_left
  · simp only [Act.put, List.setIfInBounds_toArray, List.set_cons_zero, List.set_cons_succ, i64_w, i32_w]
    rfl
  refine pure_ (i := 8) (N := some 63) (v := ?_) (a' := ?_) #[true, true, true, true, true, true, true, true, true, false, false] rfl rfl (any_of HT_.out (by kernel_rfl)) (fun _ _ _ h => h) (Or.inl ⟨by rfl, ?_⟩) ?_ ?_
  rotate_left
  · intro w'
    go_simp
    with_reducible rfl
  rotate_left
  · simp only [Act.put, List.setIfInBounds_toArray, List.set_cons_zero, List.set_cons_succ, i64_w, i32_w]
    rfl
  refine pure_ (i := 9) (N := some 8) (v := ?_) (a' := ?_) #[true, true, true, true, true, true, true, true, true, true, false] rfl rfl (any_of HT_.out (by kernel_rfl)) (fun _ _ _ h => h) (Or.inl ⟨by rfl, ?_⟩) ?_ ?_
  rotate_left
  · intro w'
    go_simp
    with_reducible rfl
  rotate_left
  · simp only [Act.put, List.setIfInBounds_toArray, List.set_cons_zero, List.set_cons_succ, i64_w, i32_w]
    rfl
  refine pure_ (i := 10) (N := some 9) (v := ?_) (a' := ?_) #[true, true, true, true, true, true, true, true, true, true, true] rfl rfl (any_of HT_.out (by kernel_rfl)) (fun _ _ _ h => h) (Or.inl ⟨by rfl, ?_⟩) ?_ ?_
  rotate_left
  · intro w'
    go_simp
    with_reducible rfl
  rotate_left
  · simp only [Act.put, List.setIfInBounds_toArray, List.set_cons_zero, List.set_cons_succ, i64_w, i32_w]
    rfl
  refine done_ (done_of HT_.out (by kernel_rfl)) ?_
  go_wp2
  refine bodyPost_ret (results_ct rfl _ _ (w.heap.size + 1 + 1) 49 #[.int .i64 a, .int .i64 h, .int .i64 R.f0, .int .i64 R.f1, .int .i64 R.f2, .slice B R.f3.length d, .int .i64 left, .bool false] (0, 0) _ rfl (by exact cput8 (XC.out.get 0 rfl)) Try.underlying49 rfl (by kernel_rfl)) rfl ?_
  exact ⟨rfl, cbel8 XC.out.hb (by omega)⟩
set_option maxHeartbeats 8000000 in
set_option maxRecDepth 100000 in
theorem cref_Begin.ok_h (a h : Int) (R : S28) (left : Int) (B : Option Addr) (d : Nat) (r : S28) (A : Option Addr) (c : Nat) (w : World) (hr : Kd.C (Kd.int .i64) w A r.f3.length r.f3) (hc : r.f3.length ≤ c) (hl : decide (left > 0) = false) (qb : Bool) (h5 : (r.f0 == 5) = false) (h6 : (r.f0 == 6) = false) (kn : Nat) (n t : Int) (hn : juratref24_Covers.f kn r.f0 r.f1 r.f2 r.f3 = some n) (ht : juratref37_often.f r.f0 r.f1 r.f2 r.f3 = some t) (he : (r.f1 == a) = true) (he2 : (r.f2 == h) = qb) (h1 : decide (n < 1) = false) (h2 : decide (t < 1) = false) (kw : Nat) (x : Int) (hw : juratref03_Walk.f kw a n t = some (x, 0)) : Calls Try.prog 27 #[.agg #[.int .i64 a, .int .i64 h, .int .i64 R.f0, .int .i64 R.f1, .int .i64 R.f2, .slice B R.f3.length d, .int .i64 left, .bool false], .agg #[.int .i64 r.f0, .int .i64 r.f1, .int .i64 r.f2, .slice A r.f3.length c]] w fun e w' => e = .returned (.tuple #[.agg #[.int .i64 a, .int .i64 h, .int .i64 r.f0, .int .i64 r.f1, .int .i64 r.f2, .slice A r.f3.length c, .int .i64 t, .bool false], .int .i64 0]) ∧ Below w.heap.size w w' := by
  have HN := Aside0.mk hn
  have HT := Aside0.mk ht
  clear hn ht
  have HW := Aside0.mk hw
  clear hw
  have HRW := Aside0.mk hr
  have hu := Try.underlying28
  have hu49 := Try.underlying49
  have HR := Aside0.mk hr
  clear hr
  go_enter Try.func27, Try.ntmps27
  go_upto_region 1 with fail
  have X1 := Aside0.mk (((((Cx.start (fun _ => False) w (fun _ h => h.elim)).came (Kd.heap_int _) HR.out).new #[.int .i64 a, .int .i64 h, .int .i64 R.f0, .int .i64 R.f1, .int .i64 R.f2, .slice B R.f3.length d, .int .i64 left, .bool false] 49 (fun h => h)).new #[.int .i64 r.f0, .int .i64 r.f1, .int .i64 r.f2, .slice A r.f3.length c] 28 (fun h => h)).new #[.int .i64 0, .int .i64 0, .int .i64 0, .int .i64 0, .int .i64 0, .slice none 0 0, .int .i64 0, .bool false] 49 (fun h => h))
  have XC : Aside0 (Cx (fun _ => False) w (((w.alloc (Obj.cells #[.int .i64 a, .int .i64 h, .int .i64 R.f0, .int .i64 R.f1, .int .i64 R.f2, .slice B R.f3.length d, .int .i64 left, .bool false] 49)).alloc (Obj.cells #[.int .i64 r.f0, .int .i64 r.f1, .int .i64 r.f2, .slice A r.f3.length c] 28)).alloc (Obj.cells #[.int .i64 0, .int .i64 0, .int .i64 0, .int .i64 0, .int .i64 0, .slice none 0 0, .int .i64 0, .bool false] 49)) [Blk (w.heap.size + 1 + 1) #[.int .i64 0, .int .i64 0, .int .i64 0, .int .i64 0, .int .i64 0, .slice none 0 0, .int .i64 0, .bool false] 49, Blk (w.heap.size + 1) #[.int .i64 r.f0, .int .i64 r.f1, .int .i64 r.f2, .slice A r.f3.length c] 28, Blk w.heap.size #[.int .i64 a, .int .i64 h, .int .i64 R.f0, .int .i64 R.f1, .int .i64 R.f2, .slice B R.f3.length d, .int .i64 left, .bool false] 49, Row (Kd.int .i64) A r.f3]) := ⟨by have h := X1.out; simpa using h⟩
  clear X1 HR
  have n1 : w.heap.size ≠ w.heap.size + 1 := by omega
  have n2 : w.heap.size ≠ w.heap.size + 1 + 1 := by omega
  have n3 : w.heap.size + 1 ≠ w.heap.size + 1 + 1 := by omega
  generalize ((w.alloc (Obj.cells #[.int .i64 a, .int .i64 h, .int .i64 R.f0, .int .i64 R.f1, .int .i64 R.f2, .slice B R.f3.length d, .int .i64 left, .bool false] 49)).alloc (Obj.cells #[.int .i64 r.f0, .int .i64 r.f1, .int .i64 r.f2, .slice A r.f3.length c] 28)).alloc (Obj.cells #[.int .i64 0, .int .i64 0, .int .i64 0, .int .i64 0, .int .i64 0, .slice none 0 0, .int .i64 0, .bool false] 49) = w1 at XC ⊢
  obtain ⟨⟨j0, j1, j2, j3, j4, j5, j6, j7⟩, y0, y1, y2, y3, y4, y5, y6, y7⟩ := cell8 (XC.out.get 2 rfl)
  obtain ⟨⟨b0, b1, b2, b3⟩, z0, z1, z2, z3⟩ := cell4_ (XC.out.get 1 rfl)
  obtain ⟨⟨d0, d1, d2, d3, d4, d5, d6, d7⟩, v0, v1, v2, v3, v4, v5, v6, v7⟩ := cell8 (XC.out.get 0 rfl)
  go_upto_region 16 with (first | (go_at_call 36; (refine (juratref24_Covers.calls kn r.f0 r.f1 r.f2 A c r.f3 n _ (XC.out.get 3 rfl) hc HN.out).mono ?_); rintro e w9 ⟨rfl, hb9⟩; have XN := Aside0.mk (XC.out.step hb9); clear hb9 XC; have XC := XN; clear XN; clear j0 j1 j2 j3 j4 j5 j6 j7 y0 y1 y2 y3 y4 y5 y6 y7 b0 b1 b2 b3 z0 z1 z2 z3 d0 d1 d2 d3 d4 d5 d6 d7 v0 v1 v2 v3 v4 v5 v6 v7; obtain ⟨⟨j0, j1, j2, j3, j4, j5, j6, j7⟩, y0, y1, y2, y3, y4, y5, y6, y7⟩ := cell8 (XC.out.get 2 rfl); obtain ⟨⟨b0, b1, b2, b3⟩, z0, z1, z2, z3⟩ := cell4_ (XC.out.get 1 rfl); obtain ⟨⟨d0, d1, d2, d3, d4, d5, d6, d7⟩, v0, v1, v2, v3, v4, v5, v6, v7⟩ := cell8 (XC.out.get 0 rfl)) | (go_at_call 50; (refine (juratref37_often.calls r.f0 r.f1 r.f2 A c r.f3 t _ (XC.out.get 3 rfl) hc HT.out).mono ?_); rintro e w9 ⟨rfl, hb9⟩; have XN := Aside0.mk (XC.out.step hb9); clear hb9 XC; have XC := XN; clear XN; clear j0 j1 j2 j3 j4 j5 j6 j7 y0 y1 y2 y3 y4 y5 y6 y7 b0 b1 b2 b3 z0 z1 z2 z3 d0 d1 d2 d3 d4 d5 d6 d7 v0 v1 v2 v3 v4 v5 v6 v7; obtain ⟨⟨j0, j1, j2, j3, j4, j5, j6, j7⟩, y0, y1, y2, y3, y4, y5, y6, y7⟩ := cell8 (XC.out.get 2 rfl); obtain ⟨⟨b0, b1, b2, b3⟩, z0, z1, z2, z3⟩ := cell4_ (XC.out.get 1 rfl); obtain ⟨⟨d0, d1, d2, d3, d4, d5, d6, d7⟩, v0, v1, v2, v3, v4, v5, v6, v7⟩ := cell8 (XC.out.get 0 rfl)) | fail)
  refine start_ (n := 11) (S := (fun w' => w'.cell? ⟨w.heap.size, 0, none⟩ = some (.int .i64 a) ∧ w'.cell? ⟨w.heap.size, 1, none⟩ = some (.int .i64 h) ∧ w'.cell? ⟨w.heap.size, 2, none⟩ = some (.int .i64 R.f0) ∧ w'.cell? ⟨w.heap.size, 3, none⟩ = some (.int .i64 R.f1) ∧ w'.cell? ⟨w.heap.size, 4, none⟩ = some (.int .i64 R.f2) ∧ w'.cell? ⟨w.heap.size, 5, none⟩ = some (.slice B R.f3.length d) ∧ w'.cell? ⟨w.heap.size, 6, none⟩ = some (.int .i64 left) ∧ w'.cell? ⟨w.heap.size, 7, none⟩ = some (.bool false) ∧ w'.cell? ⟨w.heap.size + 1, 0, none⟩ = some (.int .i64 r.f0) ∧ w'.cell? ⟨w.heap.size + 1, 1, none⟩ = some (.int .i64 r.f1) ∧ w'.cell? ⟨w.heap.size + 1, 2, none⟩ = some (.int .i64 r.f2) ∧ w'.cell? ⟨w.heap.size + 1, 3, none⟩ = some (.slice A r.f3.length c))) (ds := []) #[false, false, false, false, false, false, false, false, false, false, false] (by kernel_rfl) rfl rfl ⟨j0, j1, j2, j3, j4, j5, j6, j7, b0, b1, b2, b3⟩ (fun hHeld => ?_); refine with_tabW crefR16.tab crefR16.bits (fun HT_ HW_ => ?_)
  have XN := Aside0.mk XC.out.drew
  clear XC
  have XC := XN
  clear XN
  clear j0 j1 j2 j3 j4 j5 j6 j7 y0 y1 y2 y3 y4 y5 y6 y7 b0 b1 b2 b3 z0 z1 z2 z3 d0 d1 d2 d3 d4 d5 d6 d7 v0 v1 v2 v3 v4 v5 v6 v7
  generalize w9.drew = w2 at XC hHeld ⊢
  obtain ⟨⟨j0, j1, j2, j3, j4, j5, j6, j7⟩, y0, y1, y2, y3, y4, y5, y6, y7⟩ := cell8 (XC.out.get 2 rfl)
  obtain ⟨⟨b0, b1, b2, b3⟩, z0, z1, z2, z3⟩ := cell4_ (XC.out.get 1 rfl)
  obtain ⟨⟨d0, d1, d2, d3, d4, d5, d6, d7⟩, v0, v1, v2, v3, v4, v5, v6, v7⟩ := cell8 (XC.out.get 0 rfl)
  refine pure_ (i := 0) (N := some 56) (v := ?_) (a' := ?_) #[true, false, false, false, false, false, false, false, false, false, false] rfl rfl (any_of HT_.out (by kernel_rfl)) (fun _ _ _ h => h) (Or.inl ⟨by rfl, ?_⟩) ?_ ?_
  rotate_left
  · intro w'
    go_simp
    with_reducible rfl
  rotate_left
  · simp only [Act.put, List.setIfInBounds_toArray, List.set_cons_zero, List.set_cons_succ, i64_w, i32_w]
    rfl
  refine take_ (i := 1) (N := some 57) (v := ?_) (a' := ?_) #[true, true, false, false, false, false, false, false, false, false, false] rfl rfl (take_ofW HT_.out HW_.out (by kernel_rfl)) (fun _ _ _ h => h) (Or.inl ⟨by rfl, ?_⟩) hHeld ?_ ?_
  rotate_left
  · rintro w' ⟨s0, s1, s2, s3, s4, s5, s6, s7, s8, s9, s10, s11⟩
    go_simp
    with_reducible rfl
  rotate_left
  · simp only [Act.put, List.setIfInBounds_toArray, List.set_cons_zero, List.set_cons_succ, i64_w, i32_w]
    rfl
  refine pure_ (i := 2) (N := some 58) (v := ?_) (a' := ?_) #[true, true, true, false, false, false, false, false, false, false, false] rfl rfl (any_of HT_.out (by kernel_rfl)) (fun _ _ _ h => h) (Or.inl ⟨by rfl, ?_⟩) ?_ ?_
  rotate_left
  · intro w'
    go_simp
    with_reducible rfl
  rotate_left
  · simp only [Act.put, List.setIfInBounds_toArray, List.set_cons_zero, List.set_cons_succ, i64_w, i32_w]
    rfl
  refine take_ (i := 3) (N := some 59) (v := ?_) (a' := ?_) #[true, true, true, true, false, false, false, false, false, false, false] rfl rfl (take_ofW HT_.out HW_.out (by kernel_rfl)) (fun _ _ _ h => h) (Or.inl ⟨by rfl, ?_⟩) hHeld ?_ ?_
  rotate_left
  · rintro w' ⟨s0, s1, s2, s3, s4, s5, s6, s7, s8, s9, s10, s11⟩
    go_simp
    with_reducible rfl
  rotate_left
  · simp only [Act.put, List.setIfInBounds_toArray, List.set_cons_zero, List.set_cons_succ, i64_w, i32_w]
    rfl
  refine one_ (i := 4) (N := some 60) #[true, true, true, true, true, false, false, false, false, false, false] rfl rfl (one_of HT_.out (by kernel_rfl)) (by decide) (fun K hK => ?_)
  refine goes_ Try.func50 (by kernel_rfl) rfl #[.agg #[.int .i64 r.f0, .int .i64 r.f1, .int .i64 r.f2, .slice A r.f3.length c]] (by rfl) rfl rfl (by (try simp only [List.map_toArray, List.map_cons, List.map_nil]); first | done | rfl) ?_
  refine (juratref37_often.calls r.f0 r.f1 r.f2 A c r.f3 t _ (XC.out.get 3 rfl) hc HT.out).mono ?_
  rintro e w9 ⟨rfl, hb9⟩
  refine ⟨_, rfl, ?_⟩
  have XN := Aside0.mk (XC.out.step hb9)
  clear hb9 XC
  have XC := XN
  clear XN
  clear j0 j1 j2 j3 j4 j5 j6 j7 y0 y1 y2 y3 y4 y5 y6 y7 b0 b1 b2 b3 z0 z1 z2 z3 d0 d1 d2 d3 d4 d5 d6 d7 v0 v1 v2 v3 v4 v5 v6 v7
  obtain ⟨⟨j0, j1, j2, j3, j4, j5, j6, j7⟩, y0, y1, y2, y3, y4, y5, y6, y7⟩ := cell8 (XC.out.get 2 rfl)
  obtain ⟨⟨b0, b1, b2, b3⟩, z0, z1, z2, z3⟩ := cell4_ (XC.out.get 1 rfl)
  obtain ⟨⟨d0, d1, d2, d3, d4, d5, d6, d7⟩, v0, v1, v2, v3, v4, v5, v6, v7⟩ := cell8 (XC.out.get 0 rfl)
  refine hK.out _ _ ⟨j0, j1, j2, j3, j4, j5, j6, j7, b0, b1, b2, b3⟩ (fun hHeld => ?_)
  clear hK K
  refine norm_ (a' := ?_) ?_ ?_
  rotate_left
  · show Act.put _ (some 60) _ = _
    simp only [Act.put, List.setIfInBounds_toArray, List.set_cons_zero, List.set_cons_succ, i64_w, i32_w]
    rfl
  refine one_ (i := 5) (N := some 61) #[true, true, true, true, true, true, false, false, false, false, false] rfl rfl (one_of HT_.out (by kernel_rfl)) (by decide) (fun K hK => ?_)
  refine goes_ Try.func51 (by kernel_rfl) rfl #[.int .i64 a, .int .i64 n, .int .i64 t] (by rfl) rfl rfl (by (try simp only [List.map_toArray, List.map_cons, List.map_nil]); first | done | rfl) ?_
  refine (juratref03_Walk.calls kw a n t x 0 _ HW.out).mono ?_
  rintro e w9 ⟨rfl, hb9⟩
  refine ⟨_, rfl, ?_⟩
  have XN := Aside0.mk (XC.out.drawn hb9)
  clear hb9 XC
  have XC := XN
  clear XN
  clear j0 j1 j2 j3 j4 j5 j6 j7 y0 y1 y2 y3 y4 y5 y6 y7 b0 b1 b2 b3 z0 z1 z2 z3 d0 d1 d2 d3 d4 d5 d6 d7 v0 v1 v2 v3 v4 v5 v6 v7
  obtain ⟨⟨j0, j1, j2, j3, j4, j5, j6, j7⟩, y0, y1, y2, y3, y4, y5, y6, y7⟩ := cell8 (XC.out.get 2 rfl)
  obtain ⟨⟨b0, b1, b2, b3⟩, z0, z1, z2, z3⟩ := cell4_ (XC.out.get 1 rfl)
  obtain ⟨⟨d0, d1, d2, d3, d4, d5, d6, d7⟩, v0, v1, v2, v3, v4, v5, v6, v7⟩ := cell8 (XC.out.get 0 rfl)
  refine hK.out _ _ ⟨j0, j1, j2, j3, j4, j5, j6, j7, b0, b1, b2, b3⟩ (fun hHeld => ?_)
  clear hK K
  refine norm_ (a' := ?_) ?_ ?_
  rotate_left
  · show Act.put _ (some 61) _ = _
    simp only [Act.put, List.setIfInBounds_toArray, List.set_cons_zero, List.set_cons_succ, i64_w, i32_w]
    rfl
  refine pure_ (i := 6) (N := some 55) (v := ?_) (a' := ?_) #[true, true, true, true, true, true, true, false, false, false, false] rfl rfl (any_of HT_.out (by kernel_rfl)) (fun _ _ _ h => h) (Or.inl ⟨by rfl, ?_⟩) ?_ ?_
  rotate_left
  · intro w'
    go_simp
    with_reducible rfl
  rotate_left
  · simp only [Act.put, List.setIfInBounds_toArray, List.set_cons_zero, List.set_cons_succ, i64_w, i32_w]
    rfl
  refine pure_ (i := 7) (N := some 62) (v := ?_) (a' := ?_) #[true, true, true, true, true, true, true, true, false, false, false] rfl rfl (any_of HT_.out (by kernel_rfl)) (fun _ _ _ h => h) (Or.inl ⟨by rfl, ?_⟩) ?_ ?_
  rotate_left
  · intro w'
    go_simp
    with_reducible rfl
  rotate_left
  · simp only [Act.put, List.setIfInBounds_toArray, List.set_cons_zero, List.set_cons_succ, i64_w, i32_w]
    rfl
  refine pure_ (i := 8) (N := some 63) (v := ?_) (a' := ?_) #[true, true, true, true, true, true, true, true, true, false, false] rfl rfl (any_of HT_.out (by kernel_rfl)) (fun _ _ _ h => h) (Or.inl ⟨by rfl, ?_⟩) ?_ ?_
  rotate_left
  · intro w'
    go_simp
    with_reducible rfl
  rotate_left
  · simp only [Act.put, List.setIfInBounds_toArray, List.set_cons_zero, List.set_cons_succ, i64_w, i32_w]
    rfl
  refine pure_ (i := 9) (N := some 8) (v := ?_) (a' := ?_) #[true, true, true, true, true, true, true, true, true, true, false] rfl rfl (any_of HT_.out (by kernel_rfl)) (fun _ _ _ h => h) (Or.inl ⟨by rfl, ?_⟩) ?_ ?_
  rotate_left
  · intro w'
    go_simp
    with_reducible rfl
  rotate_left
  · simp only [Act.put, List.setIfInBounds_toArray, List.set_cons_zero, List.set_cons_succ, i64_w, i32_w]
    rfl
  refine pure_ (i := 10) (N := some 9) (v := ?_) (a' := ?_) #[true, true, true, true, true, true, true, true, true, true, true] rfl rfl (any_of HT_.out (by kernel_rfl)) (fun _ _ _ h => h) (Or.inl ⟨by rfl, ?_⟩) ?_ ?_
  rotate_left
  · intro w'
    go_simp
    with_reducible rfl
  rotate_left
  · simp only [Act.put, List.setIfInBounds_toArray, List.set_cons_zero, List.set_cons_succ, i64_w, i32_w]
    rfl
  refine done_ (done_of HT_.out (by kernel_rfl)) ?_
  go_upto_region 20 with fail
  have K2 : Aside0 (((((w9.setCell ⟨w.heap.size, 2, none⟩ (.int .i64 r.f0)).setCell ⟨w.heap.size, 3, none⟩ (.int .i64 r.f1)).setCell ⟨w.heap.size, 4, none⟩ (.int .i64 r.f2)).setCell ⟨w.heap.size, 5, none⟩ (.slice A r.f3.length c)).heap[w.heap.size]? = some (.cells #[(.int .i64 a), (.int .i64 h), (.int .i64 r.f0), (.int .i64 r.f1), (.int .i64 r.f2), (.slice A r.f3.length c), (.int .i64 left), (.bool false)] 49 (0, 0))) := ⟨blk_put (cs := #[(.int .i64 a), (.int .i64 h), (.int .i64 r.f0), (.int .i64 r.f1), (.int .i64 r.f2), (.slice B R.f3.length d), (.int .i64 left), (.bool false)]) (blk_put (cs := #[(.int .i64 a), (.int .i64 h), (.int .i64 r.f0), (.int .i64 r.f1), (.int .i64 R.f2), (.slice B R.f3.length d), (.int .i64 left), (.bool false)]) (blk_put (cs := #[(.int .i64 a), (.int .i64 h), (.int .i64 r.f0), (.int .i64 R.f1), (.int .i64 R.f2), (.slice B R.f3.length d), (.int .i64 left), (.bool false)]) (blk_put (cs := #[(.int .i64 a), (.int .i64 h), (.int .i64 R.f0), (.int .i64 R.f1), (.int .i64 R.f2), (.slice B R.f3.length d), (.int .i64 left), (.bool false)]) (XC.out.get 2 rfl) 2 _ rfl) 3 _ rfl) 4 _ rfl) 5 _ rfl⟩
  have K3 : Aside0 (((((w9.setCell ⟨w.heap.size, 2, none⟩ (.int .i64 r.f0)).setCell ⟨w.heap.size, 3, none⟩ (.int .i64 r.f1)).setCell ⟨w.heap.size, 4, none⟩ (.int .i64 r.f2)).setCell ⟨w.heap.size, 5, none⟩ (.slice A r.f3.length c)).heap[w.heap.size + 1]? = some (.cells #[.int .i64 r.f0, .int .i64 r.f1, .int .i64 r.f2, .slice A r.f3.length c] 28 (0, 0))) := ⟨blk_far (p := ⟨w.heap.size, 5, none⟩) (blk_far (p := ⟨w.heap.size, 4, none⟩) (blk_far (p := ⟨w.heap.size, 3, none⟩) (blk_far (p := ⟨w.heap.size, 2, none⟩) (XC.out.get 1 rfl) (Ne.symm n1) _) (Ne.symm n1) _) (Ne.symm n1) _) (Ne.symm n1) _⟩
  have K4 : Aside0 (((((w9.setCell ⟨w.heap.size, 2, none⟩ (.int .i64 r.f0)).setCell ⟨w.heap.size, 3, none⟩ (.int .i64 r.f1)).setCell ⟨w.heap.size, 4, none⟩ (.int .i64 r.f2)).setCell ⟨w.heap.size, 5, none⟩ (.slice A r.f3.length c)).heap[w.heap.size + 1 + 1]? = some (.cells #[.int .i64 0, .int .i64 0, .int .i64 0, .int .i64 0, .int .i64 0, .slice none 0 0, .int .i64 0, .bool false] 49 (0, 0))) := ⟨blk_far (p := ⟨w.heap.size, 5, none⟩) (blk_far (p := ⟨w.heap.size, 4, none⟩) (blk_far (p := ⟨w.heap.size, 3, none⟩) (blk_far (p := ⟨w.heap.size, 2, none⟩) (XC.out.get 0 rfl) (Ne.symm n2) _) (Ne.symm n2) _) (Ne.symm n2) _) (Ne.symm n2) _⟩
  have B5 : Aside0 (Below w.heap.size w ((((w9.setCell ⟨w.heap.size, 2, none⟩ (.int .i64 r.f0)).setCell ⟨w.heap.size, 3, none⟩ (.int .i64 r.f1)).setCell ⟨w.heap.size, 4, none⟩ (.int .i64 r.f2)).setCell ⟨w.heap.size, 5, none⟩ (.slice A r.f3.length c))) := ⟨(((XC.out.hb.setCell (p := ⟨w.heap.size, 2, none⟩) (Nat.le_refl _) _).setCell (p := ⟨w.heap.size, 3, none⟩) (Nat.le_refl _) _).setCell (p := ⟨w.heap.size, 4, none⟩) (Nat.le_refl _) _).setCell (p := ⟨w.heap.size, 5, none⟩) (Nat.le_refl _) _⟩
  clear XC j0 j1 j2 j3 j4 j5 j6 j7 y0 y1 y2 y3 y4 y5 y6 y7 b0 b1 b2 b3 z0 z1 z2 z3 d0 d1 d2 d3 d4 d5 d6 d7 v0 v1 v2 v3 v4 v5 v6 v7
  generalize ((((w9.setCell ⟨w.heap.size, 2, none⟩ (.int .i64 r.f0)).setCell ⟨w.heap.size, 3, none⟩ (.int .i64 r.f1)).setCell ⟨w.heap.size, 4, none⟩ (.int .i64 r.f2)).setCell ⟨w.heap.size, 5, none⟩ (.slice A r.f3.length c)) = w5 at K2 K3 K4 B5 ⊢
  obtain ⟨⟨j0, j1, j2, j3, j4, j5, j6, j7⟩, y0, y1, y2, y3, y4, y5, y6, y7⟩ := cell8 K2.out
  obtain ⟨⟨b0, b1, b2, b3⟩, z0, z1, z2, z3⟩ := cell4_ K3.out
  obtain ⟨⟨d0, d1, d2, d3, d4, d5, d6, d7⟩, v0, v1, v2, v3, v4, v5, v6, v7⟩ := cell8 K4.out
  go_wp2_with (first | (go_at_call 50; (refine (juratref37_often.calls r.f0 r.f1 r.f2 A c r.f3 t _ (Kd.C_below HRW.out B5.out) hc HT.out).mono ?_); rintro e w12 ⟨rfl, hb12⟩; have K2N := Aside0.mk (blk_below K2.out hb12); have K4N := Aside0.mk (blk_below K4.out hb12); have BN := Aside0.mk (below_step B5.out hb12); clear hb12 K2 K3 K4 B5 j0 j1 j2 j3 j4 j5 j6 j7 y0 y1 y2 y3 y4 y5 y6 y7 b0 b1 b2 b3 z0 z1 z2 z3 d0 d1 d2 d3 d4 d5 d6 d7 v0 v1 v2 v3 v4 v5 v6 v7; obtain ⟨⟨j0, j1, j2, j3, j4, j5, j6, j7⟩, y0, y1, y2, y3, y4, y5, y6, y7⟩ := cell8 K2N.out; obtain ⟨⟨d0, d1, d2, d3, d4, d5, d6, d7⟩, v0, v1, v2, v3, v4, v5, v6, v7⟩ := cell8 K4N.out) | fail)
  refine bodyPost_ret (results_ct rfl _ _ (w.heap.size + 1 + 1) 49 #[.int .i64 a, .int .i64 h, .int .i64 r.f0, .int .i64 r.f1, .int .i64 r.f2, .slice A r.f3.length c, .int .i64 t, .bool false] (0, 0) _ rfl (by exact cput8 (blk_far (p := ⟨w.heap.size, 6, none⟩) K4N.out (Ne.symm n2) _)) Try.underlying49 rfl (by kernel_rfl)) rfl ?_
  exact ⟨rfl, cbel8 (BN.out.setCell (p := ⟨w.heap.size, 6, none⟩) (Nat.le_refl _) _) (by omega)⟩
end Go.Proofs.Ytaihieglailmcaa.PC
