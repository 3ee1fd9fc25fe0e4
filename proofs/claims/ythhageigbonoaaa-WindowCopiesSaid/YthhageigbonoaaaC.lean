import Derived.Test.YthhageigbonoaaaB
namespace Go.Proofs.Ythhageigbonoaaa
open Go.RowKit

theorem Inv.bd {B : Int} {x : Wn} (h : Inv B x) : 0 ≤ x.a ∧ x.a ≤ x.s ∧ x.s ≤ x.m ∧ x.m ≤ x.l + 1 ∧ x.l ≤ B := h

theorem room_fr (g : Nat) (x : Wn) (w : World) (B : Int) (hB : B ≤ 1000000000) (hi : Inv B x) (m : Win w g x true) : Calls Try.prog 14 #[ptr g] w fun e w' => e = .returned (.int .i64 (roomV x)) ∧ Fr [] w w' :=
  (room_win g x w B hB hi m).mono fun _ _ ⟨h, k, hk⟩ => ⟨h, by rw [hk]; exact (Fr.refl _ _).drewN k⟩
theorem zero_fr (g : Nat) (x : Wn) (w : World) (m : Win w g x true) : Calls Try.prog 16 #[ptr g] w fun e w' => e = .returned (.bool (zeroV x)) ∧ Fr [] w w' :=
  (zero_win g x w m).mono fun _ _ ⟨h, k, hk⟩ => ⟨h, by rw [hk]; exact (Fr.refl _ _).drewN k⟩

theorem take_win (g : Nat) (x : Wn) (n : Int) (w : World) (B : Int) (hB : B ≤ 1000000000) (hi : Inv B x) (m : Win w g x true) :
    Calls Try.prog 20 #[ptr g, .int .i64 n] w fun e w' => e = .returned (.tuple #[.int .i64 (takeV x n).2.1, .int .i64 (takeV x n).2.2]) ∧ Fr [g] w w' ∧ Win w' g (takeV x n).1 true := by
  have hi' := hi
  obtain ⟨i0, i1, i2, i3, i4⟩ := hi
  unfold takeV
  by_cases h1 : n < 0
  · rw [if_pos h1]
    go_enter Try.func20, Try.ntmps20
    go_wp2_with fail
    refine wp_scope_fwd 0 rfl ?_
    go_wp2_with (go_at_call 27; refine (none_win _ _ _ _ m).mono ?_; rintro e w' ⟨rfl, rfl⟩)
    apply wp_goto
    refine fwd_goto _ _ ?_
    go_wp2
    rw [Exit.noGoto_ret]
    go_ret2
    exact ⟨rfl, Fr.refl _ _, m⟩
  · rw [if_neg h1]
    by_cases h2 : roomV x < n
    · rw [if_pos h2]
      go_enter Try.func20, Try.ntmps20
      go_wp2_with fail
      refine wp_scope_fwd 0 rfl ?_
      go_wp2_with (go_at_call 27; refine (none_win _ _ _ _ m).mono ?_; rintro e w' ⟨rfl, rfl⟩)
      refine (room_fr _ _ _ B hB hi' m).mono ?_
      rintro e w1 ⟨rfl, f1⟩
      go_wp2_with fail
      apply wp_goto
      refine fwd_goto _ _ ?_
      go_wp2
      rw [Exit.noGoto_ret]
      go_ret2
      exact ⟨rfl, f1.mono (by simp), Blk.fr m f1 (by simp)⟩
    · rw [if_neg h2]
      have hroom : x.s + n ≤ max x.s x.l := by unfold roomV at h2; omega
      go_enter Try.func20, Try.ntmps20
      go_wp2_with fail
      refine wp_scope_fwd 0 rfl ?_
      go_wp2_with (go_at_call 27; refine (none_win _ _ _ _ m).mono ?_; rintro e w' ⟨rfl, rfl⟩)
      refine (room_fr _ _ _ B hB hi' m).mono ?_
      rintro e w1 ⟨rfl, f1⟩
      have m1 : Win w1 g x true := Blk.fr m f1 (by simp)
      have c1 := m1.c1
      have z1 := m1.fz 1
      go_wp2_with fail
      have m2 : Blk (w1.setCell ⟨g, 1, none⟩ (.int .i64 (x.s + n))) g 46 _ := Blk.set_ m1 1 (.int .i64 (x.s + n))
      have f2 : Fr [g] w (w1.setCell ⟨g, 1, none⟩ (.int .i64 (x.s + n))) := Fr.setCell (f1.mono (by simp)) (by simp) _
      generalize w1.setCell ⟨g, 1, none⟩ (.int .i64 (x.s + n)) = w2 at *
      have hs2 : w2.cell? ⟨g, 1, none⟩ = some (.int .i64 (x.s + n)) := by have := Blk.cell m2 1; simpa using this
      go_region_held3 (fun w' => w'.cell? ⟨g, 1, none⟩ = some (.int .i64 (x.s + n))) (go_keep) (first | (go_at_call 28; refine (rise_one g 2 _ x.m (x.s + n) _ _ (by exact Blk.alloc (Blk.drew m2) _) rfl ?_).mono ?_; (simp [go_sem]); rintro e w3 ⟨rfl, f3, m3⟩; have c13 : w3.cell? ⟨g, 1, none⟩ = some (.int .i64 (x.s + n)) := (by have := Blk.cell m3 1; simpa using this)))
      have f4 : Fr [g] w w3 := ((f2.drew).alloc _).trans f3 (by simp)
      have m4 : Win w3 g ⟨x.a, x.s + n, max x.m (x.s + n), x.l⟩ true := (by simpa [Win] using m3)
      go_wp2
      rw [fwd_ret]
      go_ret2
      exact ⟨rfl, f4, m4⟩
end Go.Proofs.Ythhageigbonoaaa
