/- lens: the small methods; the nil lens. -/
import Derived.Test.YtejcopppchaneaaLNext
set_option linter.unusedVariables false
set_option linter.unusedSimpArgs false
namespace Go.Proofs.Ytejcopppchaneaa.PF
open Go.RowKit Go.Proofs.YtejcopppchaneaaW.PrintWords Go.Proofs.YtejcopppchaneaaW.PrintLast Go.Proofs.YtejcopppchaneaaW.PrintMore Go.Proofs.Ytejcopppchaneaa.Pure
set_option maxHeartbeats 16000000 in
set_option maxRecDepth 100000 in
theorem lens_Feed.nil (x : ByteArray) (w : World) : Calls Try.prog 13 #[.pointer none, .string x] w fun e w' => e = .returned (.int .i64 1) ∧ w = w' := by
  go_enter Try.func13, Try.ntmps13
  go_wp2
  go_ret
  exact ⟨rfl, rfl⟩
set_option maxHeartbeats 16000000 in
set_option maxRecDepth 100000 in
theorem lens_Close.nil (w : World) : Calls Try.prog 14 #[.pointer none] w fun e w' => e = .returned (.tuple #[]) ∧ w = w' := by
  go_enter Try.func14, Try.ntmps14
  go_wp2
  go_end0
  exact ⟨rfl, rfl⟩
set_option maxHeartbeats 16000000 in
set_option maxRecDepth 100000 in
theorem lens_Ended.nil (w : World) : Calls Try.prog 17 #[.pointer none] w fun e w' => e = .returned (.bool false) ∧ w = w' := by
  go_enter Try.func17, Try.ntmps17
  go_wp2
  go_ret
  exact ⟨rfl, rfl⟩
set_option maxHeartbeats 16000000 in
set_option maxRecDepth 100000 in
theorem lens_Held.nil (w : World) : Calls Try.prog 18 #[.pointer none] w fun e w' => e = .returned (.int .i64 0) ∧ w = w' := by
  go_enter Try.func18, Try.ntmps18
  go_wp2
  go_ret
  exact ⟨rfl, rfl⟩
set_option maxHeartbeats 16000000 in
set_option maxRecDepth 100000 in
theorem lens_Next.nil (w : World) : Calls Try.prog 15 #[.pointer none] w fun e w' => e = .returned (.tuple #[.agg #[.int .i64 0, .int .i64 0, .int .i64 0, .slice none 0 0], .bool false, .int .i64 1]) ∧ Below w.heap.size w w' := by
  have hu30 := Try.underlying30
  go_enter Try.func15, Try.ntmps15
  go_upto_region 1 with (first | ((with_reducible refine gate_dst (N := 2) rfl ?_); refine box_event ?hg (N := 2) ?hd (cs := #[.int .i64 0, .int .i64 0, .int .i64 0, .slice none 0 0]) (t := 30) ?hr ?_; (case hd => rfl); (case hg => rfl); (case hr => first | (go_simp; done) | (go_simp; rfl)); intro gr hg_ w1 hbox hb; have GR := Aside0.mk (show w.heap.size ≤ gr by omega); have BR := Aside0.mk hbox; have HB := Aside0.mk hb; clear hg_ hbox hb; obtain ⟨⟨k0, k1, k2, k3⟩, z0, z1, z2, z3⟩ := cell4 BR.out) | fail)
  go_wp2
  (try simp only [Exit.inBlock, Exit.then])
  refine bodyPost_ret (results_ctt rfl _ _ gr 30 #[.int .i64 0, .int .i64 0, .int .i64 0, .slice none 0 0] (0, 0) _ rfl (by exact blk4_put BR.out) Try.underlying30 rfl (by kernel_rfl)) rfl ?_
  exact ⟨rfl, below4_put HB.out GR.out⟩
section
variable (g : Nat) (s : LS) (w : World) (hL : LAt w g s)
include hL
set_option maxHeartbeats 16000000 in
set_option maxRecDepth 100000 in
theorem lens_Feed.shut (x : ByteArray) (hc : s.closed = true) : Calls Try.prog 13 #[.pointer (some ⟨g, 0, none⟩), .string x] w fun e w' => e = .returned (.int .i64 12) ∧ w = w' := by
  have hu61 := Try.underlying61
  obtain ⟨⟨i0, i1, i2, i3, i4, i5, i6, i7⟩, u0, u1, u2, u3, u4, u5, u6, u7⟩ := cell8 hL
  rw [hc] at i5
  clear hL
  go_enter Try.func13, Try.ntmps13
  go_wp2
  go_ret
  exact ⟨rfl, rfl⟩
set_option maxHeartbeats 16000000 in
set_option maxRecDepth 100000 in
theorem lens_Feed.ok (base : Nat) (hbg : base ≤ g) (x : ByteArray) (hz : s.rest.size + x.size ≤ 9223372036854775807) (hc : s.closed = false) : Calls Try.prog 13 #[.pointer (some ⟨g, 0, none⟩), .string x] w fun e w' => e = .returned (.int .i64 0) ∧ LAt w' g { s with rest := s.rest ++ x } ∧ KeepBut w w' g none ∧ Below base w w' := by
  have hu61 := Try.underlying61
  obtain ⟨⟨i0, i1, i2, i3, i4, i5, i6, i7⟩, u0, u1, u2, u3, u4, u5, u6, u7⟩ := cell8 hL
  rw [hc] at i5
  have hzz := eq_false (show ¬ 9223372036854775807 < s.rest.size + x.size by omega)
  go_enter Try.func13, Try.ntmps13
  go_wp2
  go_ret
  exact ⟨rfl, blk_put (cs' := #[.string (s.rest ++ x), .int .i64 s.k, .int .i64 s.n, .int .i64 s.r, .slice none 0 0, .bool s.closed, .bool s.ended, .int .i64 s.e]) hL 0 _ rfl, (KeepBut.refl w g none).set_ 0 _, (Below.refl base w).setCell (p := ⟨g, 0, none⟩) hbg _⟩
set_option maxHeartbeats 16000000 in
set_option maxRecDepth 100000 in
theorem lens_Close.calls_ (base : Nat) (hbg : base ≤ g) : Calls Try.prog 14 #[.pointer (some ⟨g, 0, none⟩)] w fun e w' => e = .returned (.tuple #[]) ∧ LAt w' g { s with closed := true } ∧ KeepBut w w' g none ∧ Below base w w' := by
  have hu61 := Try.underlying61
  obtain ⟨⟨i0, i1, i2, i3, i4, i5, i6, i7⟩, u0, u1, u2, u3, u4, u5, u6, u7⟩ := cell8 hL
  go_enter Try.func14, Try.ntmps14
  go_wp2
  go_end0
  exact ⟨rfl, blk_put (cs' := #[.string s.rest, .int .i64 s.k, .int .i64 s.n, .int .i64 s.r, .slice none 0 0, .bool true, .bool s.ended, .int .i64 s.e]) hL 5 _ rfl, (KeepBut.refl w g none).set_ 5 _, (Below.refl base w).setCell (p := ⟨g, 5, none⟩) hbg _⟩
set_option maxHeartbeats 16000000 in
set_option maxRecDepth 100000 in
theorem lens_Ended.calls_ : Calls Try.prog 17 #[.pointer (some ⟨g, 0, none⟩)] w fun e w' => e = .returned (.bool s.ended) ∧ w = w' := by
  have hu61 := Try.underlying61
  obtain ⟨⟨i0, i1, i2, i3, i4, i5, i6, i7⟩, u0, u1, u2, u3, u4, u5, u6, u7⟩ := cell8 hL
  clear hL
  go_enter Try.func17, Try.ntmps17
  go_wp2
  go_ret
  exact ⟨rfl, rfl⟩
set_option maxHeartbeats 16000000 in
set_option maxRecDepth 100000 in
theorem lens_Held.calls_ : Calls Try.prog 18 #[.pointer (some ⟨g, 0, none⟩)] w fun e w' => e = .returned (.int .i64 (s.rest.size : Int)) ∧ w = w' := by
  have hu61 := Try.underlying61
  obtain ⟨⟨i0, i1, i2, i3, i4, i5, i6, i7⟩, u0, u1, u2, u3, u4, u5, u6, u7⟩ := cell8 hL
  clear hL
  go_enter Try.func18, Try.ntmps18
  go_wp2
  go_ret
  exact ⟨rfl, rfl⟩
end
end Go.Proofs.Ytejcopppchaneaa.PF
