import Derived.Test.YthhageigbonoaaaH
import Derived.Test.YthhageigbonoaaaEq
namespace Go.Proofs.Ythhageigbonoaaa
open Go.RowKit

theorem eql33_same (x : Wn) (w : World) : (binOp .eql 33 (agW x) (agW x)).run Try.prog w = .ok (.bool true) w := by
  rw [eql33]; simp
theorem none_nil (w : World) : Calls Try.prog 27 #[.pointer none] w fun e w' => e = .returned (.bool true) ∧ w = w' := by
  go_enter Try.func27, Try.ntmps27
  go_wp2
  go_ret
  exact ⟨rfl, rfl⟩
theorem take_nil (n : Int) (w : World) : Calls Try.prog 20 #[.pointer none, .int .i64 n] w fun e w' => e = .returned (.tuple #[.int .i64 0, .int .i64 1]) ∧ w = w' := by
  go_enter Try.func20, Try.ntmps20
  go_wp2_with fail
  refine wp_scope_fwd 0 rfl ?_
  go_wp2_with (go_at_call 27; refine (none_nil _).mono ?_; rintro e w' ⟨rfl, rfl⟩)
  apply wp_goto
  refine fwd_goto _ _ ?_
  go_wp2
  rw [Exit.noGoto_ret]
  go_ret2
  exact ⟨rfl, rfl⟩
theorem ack_z (g : Nat) (x : Wn) (u r : Int) (w : World) (m : Win w g x false) : Calls Try.prog 21 #[ptr g, .int .i64 u, .int .i64 r] w fun e w' => e = .returned (.tuple #[.int .i64 0, .int .i64 1]) ∧ w = w' := by
  go_enter Try.func21, Try.ntmps21
  go_wp2_with fail
  refine wp_scope_fwd 0 rfl ?_
  go_wp2_with (go_at_call 27; refine (none_win _ _ _ _ m).mono ?_; rintro e w' ⟨rfl, rfl⟩)
  apply wp_goto
  refine fwd_goto _ _ ?_
  go_wp2
  rw [Exit.noGoto_ret]
  go_ret2
  exact ⟨rfl, rfl⟩
theorem probe_nil (w : World) : Calls Try.prog 22 #[.pointer none] w fun e w' => e = .returned (.tuple #[.int .i64 0, .int .i64 1]) ∧ w = w' := by
  go_enter Try.func22, Try.ntmps22
  go_wp2_with (go_at_call 27; refine (none_nil _).mono ?_; rintro e w' ⟨rfl, rfl⟩)
  go_ret2
  exact ⟨rfl, rfl⟩
theorem back_z (g : Nat) (x : Wn) (w : World) (m : Win w g x false) : Calls Try.prog 23 #[ptr g] w fun e w' => e = .returned (.int .i64 1) ∧ w = w' := by
  go_enter Try.func23, Try.ntmps23
  go_wp2_with (go_at_call 27; refine (none_win _ _ _ _ m).mono ?_; rintro e w' ⟨rfl, rfl⟩)
  go_ret
  exact ⟨rfl, rfl⟩
theorem zero_nil (w : World) : Calls Try.prog 16 #[.pointer none] w fun e w' => e = .returned (.bool false) ∧ ∃ k, w' = w.drewN k := by
  go_enter Try.func16, Try.ntmps16
  go_wp2_with fail
  go_quiet ((go_at_call 27; exact quiet_left (none_nil _)))
  go_wp2
  go_ret
  exact ⟨rfl, _, rfl⟩
theorem zero_z (g : Nat) (x : Wn) (w : World) (m : Win w g x false) : Calls Try.prog 16 #[ptr g] w fun e w' => e = .returned (.bool false) ∧ ∃ k, w' = w.drewN k := by
  go_enter Try.func16, Try.ntmps16
  go_wp2_with fail
  go_quiet ((go_at_call 27; exact quiet_left (none_win _ _ _ _ (Blk.drewN m _))))
  go_wp2
  go_ret
  exact ⟨rfl, _, rfl⟩
theorem room_nil (w : World) : Calls Try.prog 14 #[.pointer none] w fun e w' => e = .returned (.int .i64 0) ∧ w = w' := by
  go_enter Try.func14, Try.ntmps14
  go_wp2_with (go_at_call 27; refine (none_nil _).mono ?_; rintro e w' ⟨rfl, rfl⟩)
  go_ret
  exact ⟨rfl, rfl⟩
theorem state_z (g : Nat) (x : Wn) (w : World) (m : Win w g x false) : Calls Try.prog 13 #[ptr g] w fun e w' => e = .returned (agW ⟨0, 0, 0, 0⟩) ∧ Fr [] w w' := by
  go_enter Try.func13, Try.ntmps13
  go_wp2_with fail
  refine (none_win _ _ _ _ (Blk.alloc m _)).mono ?_
  rintro e w1 ⟨rfl, rfl⟩
  go_wp2_with fail
  go_returns
  exact ⟨rfl, by repeat (first | exact Fr.refl _ _ | apply Fr.drew | apply Fr.alloc | refine Fr.setCell ?_ (Or.inr (by simp)) _)⟩
theorem copy_nil (w : World) : Calls Try.prog 18 #[.pointer none] w fun e w' => e = .returned (.pointer none) ∧ w = w' := by
  go_enter Try.func18, Try.ntmps18
  go_wp2_with (go_at_call 27; refine (none_nil _).mono ?_; rintro e w' ⟨rfl, rfl⟩)
  go_ret
  exact ⟨rfl, rfl⟩
theorem same_nil_z (g : Nat) (x : Wn) (w : World) (m : Win w g x false) : Calls Try.prog 19 #[.pointer none, ptr g] w fun e w' => e = .returned (.bool true) ∧ w = w' := by
  go_enter Try.func19, Try.ntmps19
  go_wp2_with (first | (go_at_call_of 27 (Value.pointer none); refine (none_nil _).mono ?_; rintro e w' ⟨rfl, rfl⟩) | (go_at_call 27; refine (none_win _ _ _ _ m).mono ?_; rintro e w' ⟨rfl, rfl⟩))
  go_ret
  exact ⟨rfl, rfl⟩
theorem same_nil_win (g : Nat) (x : Wn) (w : World) (m : Win w g x true) : Calls Try.prog 19 #[.pointer none, ptr g] w fun e w' => e = .returned (.bool false) ∧ w = w' := by
  go_enter Try.func19, Try.ntmps19
  go_wp2_with (first | (go_at_call_of 27 (Value.pointer none); refine (none_nil _).mono ?_; rintro e w' ⟨rfl, rfl⟩) | (go_at_call 27; refine (none_win _ _ _ _ m).mono ?_; rintro e w' ⟨rfl, rfl⟩))
  go_ret
  exact ⟨rfl, rfl⟩
theorem same_win_z (g g' : Nat) (x x' : Wn) (w : World) (m : Win w g x true) (m' : Win w g' x' false) : Calls Try.prog 19 #[ptr g, ptr g'] w fun e w' => e = .returned (.bool false) ∧ w = w' := by
  go_enter Try.func19, Try.ntmps19
  go_wp2_with fail
  refine (none_win _ _ _ _ m).mono ?_
  rintro e w' ⟨rfl, rfl⟩
  go_wp2_with fail
  refine (none_win _ _ _ _ m').mono ?_
  rintro e w' ⟨rfl, rfl⟩
  go_wp2_with fail
  refine (none_win _ _ _ _ m).mono ?_
  rintro e w' ⟨rfl, rfl⟩
  go_wp2_with fail
  go_ret
  exact ⟨rfl, rfl⟩

theorem windowNil_any (n r : Int) (w : World) : Calls Try.prog 7 #[.int .i64 n, .int .i64 r] w fun e w' => e = .returned (.bool true) ∧ Fr [] w w' := by
  go_enter Try.func7, Try.ntmps7
  go_wp2_with fail
  have mz : Win (w.alloc (.cells #[.int .i64 0, .int .i64 0, .int .i64 0, .int .i64 0, .bool false] 46)) w.heap.size ⟨0, 0, 0, 0⟩ false := Blk.new _ _ _
  have fz : Fr [] w (w.alloc (.cells #[.int .i64 0, .int .i64 0, .int .i64 0, .int .i64 0, .bool false] 46)) := (Fr.refl _ _).alloc _
  generalize w.alloc (.cells #[.int .i64 0, .int .i64 0, .int .i64 0, .int .i64 0, .bool false] 46) = w1 at *
  generalize w.heap.size = zb at *
  refine (take_nil _ _).mono ?_
  rintro e w2 ⟨rfl, rfl⟩
  go_wp2_with fail
  refine (ack_z _ _ _ _ _ mz).mono ?_
  rintro e w2 ⟨rfl, rfl⟩
  go_wp2_with fail
  refine (probe_nil _).mono ?_
  rintro e w2 ⟨rfl, rfl⟩
  go_wp2_with fail
  have e1 := eql33_same
  have e2 := eqg33
  refine (back_z _ _ _ mz).mono ?_
  rintro e w2 ⟨rfl, rfl⟩
  go_wp2_with fail
  refine (zero_nil _).mono ?_
  rintro e w2 ⟨rfl, k2, hk2⟩
  have f2 : Fr [] w1 w2 := by rw [hk2]; exact (Fr.refl _ _).drewN _
  clear hk2
  have m2 : Win w2 zb ⟨0, 0, 0, 0⟩ false := Blk.fr mz f2 (by simp)
  go_wp2_with fail
  refine (zero_z _ _ _ m2).mono ?_
  rintro e w3 ⟨rfl, k3, hk3⟩
  have f3 : Fr [] w2 w3 := by rw [hk3]; exact (Fr.refl _ _).drewN _
  clear hk3
  have m3 : Win w3 zb ⟨0, 0, 0, 0⟩ false := Blk.fr m2 f3 (by simp)
  go_wp2_with fail
  refine (room_nil _).mono ?_
  rintro e w4 ⟨rfl, rfl⟩
  go_wp2_with fail
  refine (state_z _ _ _ m3).mono ?_
  rintro e w4 ⟨rfl, f4⟩
  have m4 : Win w4 zb ⟨0, 0, 0, 0⟩ false := Blk.fr m3 f4 (by simp)
  have F4 : Fr [] w w4 := ((fz.trans f2 (by simp)).trans f3 (by simp)).trans f4 (by simp)
  clear fz f2 f3 f4 m2 m3 mz
  go_wp2_with fail
  refine (copy_nil _).mono ?_
  rintro e w5 ⟨rfl, rfl⟩
  go_wp2_with fail
  refine (same_nil_z _ _ _ m4).mono ?_
  rintro e w5 ⟨rfl, rfl⟩
  go_wp2_with fail
  refine (new_win _).mono ?_
  rintro e w5 ⟨rfl, f5, n5, _⟩
  have m5 : Win w5 zb ⟨0, 0, 0, 0⟩ false := Blk.fr m4 f5 (by simp)
  go_wp2_with fail
  refine (same_nil_win _ _ _ n5).mono ?_
  rintro e w6 ⟨rfl, rfl⟩
  go_wp2_with fail
  refine (new_win _).mono ?_
  rintro e w6 ⟨rfl, f6, n6, _⟩
  have m6 : Win w6 zb ⟨0, 0, 0, 0⟩ false := Blk.fr m5 f6 (by simp)
  go_wp2_with fail
  refine (same_win_z _ _ _ _ _ n6 m6).mono ?_
  rintro e w7 ⟨rfl, rfl⟩
  go_wp2_with fail
  refine (known_any _).mono ?_
  rintro e w7 ⟨rfl, f7⟩
  go_wp2_with fail
  go_ret
  exact ⟨rfl, ((F4.trans f5 (by simp)).trans f6 (by simp)).trans f7 (by simp)⟩
end Go.Proofs.Ythhageigbonoaaa
