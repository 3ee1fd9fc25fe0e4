import Derived.Test.YthhageigbonoaaaC
namespace Go.Proofs.Ythhageigbonoaaa
open Go.RowKit

theorem ack_no1 (g : Nat) (x : Wn) (u r : Int) (w : World) (m : Win w g x true) (h : u < 0 ∨ r < 0 ∨ 65535 < r) :
    Calls Try.prog 21 #[ptr g, .int .i64 u, .int .i64 r] w fun e w' => e = .returned (.tuple #[.int .i64 0, .int .i64 2]) ∧ w = w' := by
  by_cases a : u < 0
  · go_enter Try.func21, Try.ntmps21
    go_wp2_with fail
    refine wp_scope_fwd 0 rfl ?_
    go_wp2_with (go_at_call 27; refine (none_win _ _ _ _ m).mono ?_; rintro e w' ⟨rfl, rfl⟩)
    apply wp_goto
    refine fwd_goto _ _ ?_
    go_wp2
    rw [Exit.noGoto_ret]
    go_ret2
    exact ⟨rfl, rfl⟩
  by_cases b : r < 0
  · go_enter Try.func21, Try.ntmps21
    go_wp2_with fail
    refine wp_scope_fwd 0 rfl ?_
    go_wp2_with (go_at_call 27; refine (none_win _ _ _ _ m).mono ?_; rintro e w' ⟨rfl, rfl⟩)
    apply wp_goto
    refine fwd_goto _ _ ?_
    go_wp2
    rw [Exit.noGoto_ret]
    go_ret2
    exact ⟨rfl, rfl⟩
  have c : 65535 < r := by omega
  clear h
  go_enter Try.func21, Try.ntmps21
  go_wp2_with fail
  refine wp_scope_fwd 0 rfl ?_
  go_wp2_with (go_at_call 27; refine (none_win _ _ _ _ m).mono ?_; rintro e w' ⟨rfl, rfl⟩)
  apply wp_goto
  refine fwd_goto _ _ ?_
  go_wp2
  rw [Exit.noGoto_ret]
  go_ret2
  exact ⟨rfl, rfl⟩

theorem ack_no2 (g : Nat) (x : Wn) (u r : Int) (w : World) (m : Win w g x true) (h0 : 0 ≤ u) (h1 : 0 ≤ r) (h2 : r ≤ 65535) (h : x.m < u) :
    Calls Try.prog 21 #[ptr g, .int .i64 u, .int .i64 r] w fun e w' => e = .returned (.tuple #[.int .i64 0, .int .i64 230]) ∧ w = w' := by
  have c2 := m.c2
  go_enter Try.func21, Try.ntmps21
  go_wp2_with fail
  refine wp_scope_fwd 0 rfl ?_
  go_wp2_with (go_at_call 27; refine (none_win _ _ _ _ m).mono ?_; rintro e w' ⟨rfl, rfl⟩)
  apply wp_goto
  refine fwd_goto _ _ ?_
  go_wp2
  rw [Exit.noGoto_ret]
  go_ret2
  exact ⟨rfl, rfl⟩

theorem ack_old (g : Nat) (x : Wn) (u r : Int) (w : World) (m : Win w g x true) (h0 : 0 ≤ u) (h1 : 0 ≤ r) (h2 : r ≤ 65535) (h : u ≤ x.m) (h' : u < x.a) :
    Calls Try.prog 21 #[ptr g, .int .i64 u, .int .i64 r] w fun e w' => e = .returned (.tuple #[.int .i64 0, .int .i64 0]) ∧ w = w' := by
  have c2 := m.c2
  have c0 := m.c0
  have hh : ¬ x.m < u := by omega
  go_enter Try.func21, Try.ntmps21
  go_wp2_with fail
  refine wp_scope_fwd 0 rfl ?_
  go_wp2_with (go_at_call 27; refine (none_win _ _ _ _ m).mono ?_; rintro e w' ⟨rfl, rfl⟩)
  try rw [fwd_ret]
  go_ret2
  exact ⟨rfl, rfl⟩

set_option maxHeartbeats 1000000 in
theorem ack_yes (g : Nat) (x : Wn) (u r : Int) (w : World) (m : Win w g x true) (h0 : 0 ≤ u) (h1 : 0 ≤ r) (h2 : r ≤ 65535) (h : u ≤ x.m) (h' : x.a ≤ u) (ha : 0 ≤ x.a) (hm : x.m ≤ 1000000001) :
    Calls Try.prog 21 #[ptr g, .int .i64 u, .int .i64 r] w fun e w' => e = .returned (.tuple #[.int .i64 (u - x.a), .int .i64 0]) ∧ Fr [g] w w' ∧ Win w' g ⟨max x.a u, max x.s u, x.m, max x.l (u + r)⟩ true := by
  have c2 := m.c2
  have c0 := m.c0
  have hh : ¬ x.m < u := by omega
  have hh' : ¬ u < x.a := by omega
  go_enter Try.func21, Try.ntmps21
  go_wp2_with fail
  refine wp_scope_fwd 0 rfl ?_
  go_wp2_with (go_at_call 27; refine (none_win _ _ _ _ m).mono ?_; rintro e w' ⟨rfl, rfl⟩)
  refine (rise_one g 0 _ x.a u _ _ (Blk.alloc m _) rfl (by simp [go_sem])).mono ?_
  rintro e w1 ⟨rfl, f1, m1⟩
  have g1 : Fr [g] w w1 := ((Fr.refl _ _).alloc _).trans f1 (by simp)
  go_wp2_with fail
  refine (rise_one g 1 _ x.s u _ _ (Blk.alloc m1 _) rfl (by simp [go_sem])).mono ?_
  rintro e w2 ⟨rfl, f2, m2⟩
  have g2 : Fr [g] w w2 := (g1.alloc _).trans f2 (by simp)
  go_wp2_with fail
  refine (rise_one g 3 _ x.l (u + r) _ _ (Blk.alloc m2 _) rfl (by simp [go_sem])).mono ?_
  rintro e w3 ⟨rfl, f3, m3⟩
  have g3 : Fr [g] w w3 := (g2.alloc _).trans f3 (by simp)
  go_wp2_with fail
  try rw [fwd_ret]
  go_ret2
  exact ⟨rfl, g3, by simpa [Win] using m3⟩

theorem ack_win (g : Nat) (x : Wn) (u r : Int) (w : World) (B : Int) (hB : B ≤ 1000000000) (hi : Inv B x) (m : Win w g x true) :
    Calls Try.prog 21 #[ptr g, .int .i64 u, .int .i64 r] w fun e w' => e = .returned (.tuple #[.int .i64 (ackV x u r).2.1, .int .i64 (ackV x u r).2.2]) ∧ Fr [g] w w' ∧ Win w' g (ackV x u r).1 true := by
  obtain ⟨i0, i1, i2, i3, i4⟩ := hi
  unfold ackV
  by_cases h1 : u < 0 ∨ r < 0 ∨ 65535 < r
  · rw [if_pos h1]
    exact (ack_no1 g x u r w m h1).mono fun _ _ ⟨e, hw⟩ => by subst hw; exact ⟨e, Fr.refl _ _, m⟩
  · rw [if_neg h1]
    by_cases h2 : x.m < u
    · rw [if_pos h2]
      exact (ack_no2 g x u r w m (by omega) (by omega) (by omega) h2).mono fun _ _ ⟨e, hw⟩ => by subst hw; exact ⟨e, Fr.refl _ _, m⟩
    · rw [if_neg h2]
      by_cases h3 : u < x.a
      · rw [if_pos h3]
        exact (ack_old g x u r w m (by omega) (by omega) (by omega) (by omega) h3).mono fun _ _ ⟨e, hw⟩ => by subst hw; exact ⟨e, Fr.refl _ _, m⟩
      · rw [if_neg h3]
        exact ack_yes g x u r w m (by omega) (by omega) (by omega) (by omega) (by omega) (by omega) (by omega)

theorem probe_win (g : Nat) (x : Wn) (w : World) (B : Int) (hB : B ≤ 1000000000) (hi : Inv B x) (m : Win w g x true) :
    Calls Try.prog 22 #[ptr g] w fun e w' => e = .returned (.tuple #[.int .i64 (probeV x).2.1, .int .i64 (probeV x).2.2]) ∧ Fr [g] w w' ∧ Win w' g (probeV x).1 true := by
  obtain ⟨i0, i1, i2, i3, i4⟩ := hi
  have hz := zero_fr g x w m
  unfold probeV
  cases hzv : zeroV x
  · rw [if_neg (by simp)]
    rw [hzv] at hz
    go_enter Try.func22, Try.ntmps22
    go_wp2_with (first | (go_at_call 27; refine (none_win _ _ _ _ m).mono ?_; rintro e w' ⟨rfl, rfl⟩) | (go_at_call 16; refine hz.mono ?_; rintro e w1 ⟨rfl, f1⟩))
    go_ret2
    exact ⟨rfl, f1.mono (by simp), Blk.fr m f1 (by simp)⟩
  · rw [if_pos rfl]
    rw [hzv] at hz
    go_enter Try.func22, Try.ntmps22
    go_wp2_with (first | (go_at_call 27; refine (none_win _ _ _ _ m).mono ?_; rintro e w' ⟨rfl, rfl⟩) | (go_at_call 16; refine hz.mono ?_; rintro e w1 ⟨rfl, f1⟩))
    have m1 : Win w1 g x true := Blk.fr m f1 (by simp)
    have c0 := m1.c0
    go_wp2_with fail
    have e1 : IntKind.i64.wrap (x.a + 1) = x.a + 1 := IntWalk.i64_in _ (by omega)
    go_region_held3 (fun w' => w'.cell? ⟨g, 0, none⟩ = some (.int .i64 x.a)) (go_keep) (first | (go_at_call 28; refine (rise_one g 2 _ x.m (x.a + 1) _ _ (by exact Blk.alloc (Blk.drew m1) _) rfl ?_).mono ?_; (simp [go_sem]); rintro e w3 ⟨rfl, f3, m3⟩; have c13 : w3.cell? ⟨g, 0, none⟩ = some (.int .i64 x.a) := (by have := Blk.cell m3 0; simpa using this)))
    have f4 : Fr [g] w w3 := (((f1.mono (by simp)).drew).alloc _).trans f3 (by simp)
    have m4 : Win w3 g ⟨x.a, x.s, max x.m (x.a + 1), x.l⟩ true := (by simpa [Win] using m3)
    go_wp2
    go_ret2
    exact ⟨rfl, f4, m4⟩

theorem state_win (g : Nat) (x : Wn) (w : World) (m : Win w g x true) :
    Calls Try.prog 13 #[ptr g] w fun e w' => e = .returned (.agg #[.int .i64 x.a, .int .i64 x.s, .int .i64 x.m, .int .i64 x.l]) ∧ Fr [] w w' := by
  have c4 := m.c4
  have c0 := m.c0
  have c1 := m.c1
  have c2 := m.c2
  have c3 := m.c3
  have hl := Blk.lt m
  go_enter Try.func13, Try.ntmps13
  go_wp2_with fail
  refine (none_win _ _ _ _ (Blk.alloc m _)).mono ?_
  rintro e w1 ⟨rfl, rfl⟩
  go_wp2_with fail
  go_returns
  exact ⟨rfl, by repeat (first | exact Fr.refl _ _ | apply Fr.drew | apply Fr.alloc | refine Fr.setCell ?_ (Or.inr (by simp)) _)⟩

theorem copy_win (g : Nat) (x : Wn) (w : World) (m : Win w g x true) :
    Calls Try.prog 18 #[ptr g] w fun e w' => e = .returned (ptr w.heap.size) ∧ Fr [] w w' ∧ Win w' w.heap.size x true ∧ w.heap.size < w'.heap.size := by
  have c4 := m.c4
  have c0 := m.c0
  have c1 := m.c1
  have c2 := m.c2
  have c3 := m.c3
  have hl := Blk.lt m
  go_enter Try.func18, Try.ntmps18
  go_wp2_with fail
  refine (none_win _ _ _ _ m).mono ?_
  rintro e w1 ⟨rfl, rfl⟩
  go_wp2_with fail
  go_ret
  exact ⟨rfl, (Fr.refl _ _).alloc _, Blk.new _ _ _, by simp⟩
end Go.Proofs.Ythhageigbonoaaa
