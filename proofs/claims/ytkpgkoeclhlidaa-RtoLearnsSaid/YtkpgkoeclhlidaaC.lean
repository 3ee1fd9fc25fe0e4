import Derived.Test.YtkpgkoeclhlidaaB
namespace Go.Proofs.Ytkpgkoeclhlidaa
open Go.RowKit

theorem late_clk (g : Nat) (c : Ck) (n : Int) (w : World) (m : Clk w g c) (hi : Inv c) :
    Calls Try.prog 15 #[ptr g, .int .i64 n] w fun e w' => e = .returned (.tuple #[.bool (lateV c n).2.1, .int .i64 (lateV c n).2.2]) ∧ Fr [g] w w' ∧ Clk w' g (lateV c n).1 := by
  have hm := may_clk g c n w m
  have hd := due_fr g c n w m hi
  unfold lateV
  cases h : mayV c n
  · rw [if_neg (by simp)]
    rw [h] at hm
    go_enter Try.func15, Try.ntmps15
    go_wp2_with (first | (go_at_call 24; refine (none_clk _ _ _ m hi).mono ?_; rintro e w' ⟨rfl, rfl⟩) | (go_at_call 26; refine hm.mono ?_; rintro e w' ⟨rfl, rfl⟩))
    go_ret2
    exact ⟨rfl, Fr.refl _ _, m⟩
  · rw [if_pos rfl]
    rw [h] at hm
    have hb := may_bd h
    cases h2 : dueV c n
    · rw [if_neg (by simp)]
      rw [h2] at hd
      go_enter Try.func15, Try.ntmps15
      go_wp2_with (first | (go_at_call 24; refine (none_clk _ _ _ m hi).mono ?_; rintro e w' ⟨rfl, rfl⟩) | (go_at_call 26; refine hm.mono ?_; rintro e w' ⟨rfl, rfl⟩) | (go_at_call 13; refine hd.mono ?_; rintro e w1 ⟨rfl, f1⟩))
      go_ret2
      exact ⟨rfl, f1.mono (by simp), Blk.fr m f1 (by simp)⟩
    · rw [if_pos rfl]
      rw [h2] at hd
      clear h h2
      obtain ⟨b0, b1⟩ := hb
      have hi' := hi
      obtain ⟨l1, lf, fm, m1, t1, t2, tm0, tm1, sp0, sp1, w1, w2, s0, s1, r0, r1⟩ := hi'
      by_cases h3 : c.tr = c.t
      · rw [if_pos h3]
        have h4 : (c.tr == c.t) = true := by simpa using h3
        clear h3
        go_enter Try.func15, Try.ntmps15
        go_wp2_with (first | (go_at_call 24; refine (none_clk _ _ _ m hi).mono ?_; rintro e w' ⟨rfl, rfl⟩) | (go_at_call 26; refine hm.mono ?_; rintro e w' ⟨rfl, rfl⟩))
        refine hd.mono ?_
        rintro e w1 ⟨rfl, f1⟩
        have m1 : Clk w1 g c := Blk.fr m f1 (by simp)
        obtain ⟨c0, c1, c2, c3, c4, c5, c6, c7, c8, c9, c10⟩ := cells_of m1
        have z8 := Blk.frozen m1 8
        have z10 := Blk.frozen m1 10
        go_wp2_with fail
        go_region
        all_goals go_wp2_with fail
        all_goals go_ret2
        all_goals refine ⟨rfl, (Fr.setCell (Fr.setCell (f1.mono (by simp)) (by simp) _) (by simp) _).drew, ?_⟩
        all_goals exact Blk.drew (by simpa [Clk] using Blk.set_ (Blk.set_ m1 10 (.bool false)) 8 (.int .i64 0))
      · rw [if_neg h3]
        have h4 : (c.tr == c.t) = false := by simpa using h3
        clear h3
        go_enter Try.func15, Try.ntmps15
        go_wp2_with (first | (go_at_call 24; refine (none_clk _ _ _ m hi).mono ?_; rintro e w' ⟨rfl, rfl⟩) | (go_at_call 26; refine hm.mono ?_; rintro e w' ⟨rfl, rfl⟩))
        refine hd.mono ?_
        rintro e w1 ⟨rfl, f1⟩
        have m1 : Clk w1 g c := Blk.fr m f1 (by simp)
        obtain ⟨c0, c1, c2, c3, c4, c5, c6, c7, c8, c9, c10⟩ := cells_of m1
        have z7 := Blk.frozen m1 7
        have z8 := Blk.frozen m1 8
        have z9 := Blk.frozen m1 9
        have x1 : IntKind.i64.wrap (2 * c.wt) = 2 * c.wt := IntWalk.i64_in _ (by omega)
        go_wp2_with fail
        go_region
        all_goals go_wp2_with fail
        all_goals go_region
        all_goals go_wp2_with fail
        all_goals go_ret2
        all_goals refine ⟨rfl, (Fr.setCell (Fr.setCell (Fr.setCell (f1.mono (by simp)) (by simp) _) (by simp) _) (by simp) _).drew.drew, ?_⟩
        all_goals exact Blk.drew (Blk.drew (by simpa [Clk] using Blk.set_ (Blk.set_ (Blk.set_ m1 9 (.int .i64 (c.tr + 1))) 7 (.int .i64 (min (2 * c.wt) c.m))) 8 (.int .i64 n)))

theorem new_clk (f l m t : Int) (w : World) (h1 : 1 ≤ l) (h2 : l ≤ f) (h3 : f ≤ m) (h4 : m ≤ 65536) (h5 : 1 ≤ t) (h6 : t ≤ 100) :
    Calls Try.prog 9 #[.agg #[.int .i64 f, .int .i64 l, .int .i64 m, .int .i64 t]] w fun e w' => ∃ g, e = .returned (.tuple #[ptr g, .int .i64 0]) ∧ w.heap.size ≤ g ∧ Fr [] w w' ∧ Clk w' g (newV f l m t) ∧ g < w'.heap.size := by
  go_enter Try.func9, Try.ntmps9
  go_wp2_with fail
  refine wp_scope_fwd 0 rfl ?_
  go_wp2
  rw [fwd_ret]
  go_ret2
  have hB : Blk ((w.alloc (.cells #[.int .i64 f, .int .i64 l, .int .i64 m, .int .i64 t] 23)).alloc (.cells #[.int .i64 f, .int .i64 l, .int .i64 m, .int .i64 t, .bool false, .int .i64 0, .int .i64 0, .int .i64 f, .int .i64 0, .int .i64 0, .bool false] 54)) (w.heap.size + 1) 54 (newV f l m t).arr := by
    have := Blk.new (w.alloc (.cells #[.int .i64 f, .int .i64 l, .int .i64 m, .int .i64 t] 23)) 54 (newV f l m t).arr
    simpa [newV] using this
  exact ⟨w.heap.size + 1, rfl, by omega, ((Fr.refl _ _).alloc _).alloc _, hB, by simp⟩

theorem new_no (f l m t : Int) (w : World) (h : l < 1 ∨ f < l ∨ m < f ∨ 65536 < m ∨ t < 1 ∨ 100 < t) :
    Calls Try.prog 9 #[.agg #[.int .i64 f, .int .i64 l, .int .i64 m, .int .i64 t]] w fun e w' => e = .returned (.tuple #[.pointer none, .int .i64 2]) ∧ Fr [] w w' := by
  by_cases a0 : l < 1
  · go_enter Try.func9, Try.ntmps9
    go_wp2_with fail
    refine wp_scope_fwd 0 rfl ?_
    go_wp2
    apply wp_goto
    refine fwd_goto _ _ ?_
    go_wp2
    rw [Exit.noGoto_ret]
    go_ret2
    exact ⟨rfl, by repeat (first | (with_reducible exact Fr.refl _ _) | (with_reducible refine Fr.drew ?_) | (with_reducible refine Fr.alloc ?_ _) | (with_reducible refine Fr.setCell ?_ (Or.inr (by simp)) _))⟩
  by_cases a1 : f < l
  · go_enter Try.func9, Try.ntmps9
    go_wp2_with fail
    refine wp_scope_fwd 0 rfl ?_
    go_wp2
    apply wp_goto
    refine fwd_goto _ _ ?_
    go_wp2
    rw [Exit.noGoto_ret]
    go_ret2
    exact ⟨rfl, by repeat (first | (with_reducible exact Fr.refl _ _) | (with_reducible refine Fr.drew ?_) | (with_reducible refine Fr.alloc ?_ _) | (with_reducible refine Fr.setCell ?_ (Or.inr (by simp)) _))⟩
  by_cases a2 : m < f
  · go_enter Try.func9, Try.ntmps9
    go_wp2_with fail
    refine wp_scope_fwd 0 rfl ?_
    go_wp2
    apply wp_goto
    refine fwd_goto _ _ ?_
    go_wp2
    rw [Exit.noGoto_ret]
    go_ret2
    exact ⟨rfl, by repeat (first | (with_reducible exact Fr.refl _ _) | (with_reducible refine Fr.drew ?_) | (with_reducible refine Fr.alloc ?_ _) | (with_reducible refine Fr.setCell ?_ (Or.inr (by simp)) _))⟩
  by_cases a3 : 65536 < m
  · go_enter Try.func9, Try.ntmps9
    go_wp2_with fail
    refine wp_scope_fwd 0 rfl ?_
    go_wp2
    apply wp_goto
    refine fwd_goto _ _ ?_
    go_wp2
    rw [Exit.noGoto_ret]
    go_ret2
    exact ⟨rfl, by repeat (first | (with_reducible exact Fr.refl _ _) | (with_reducible refine Fr.drew ?_) | (with_reducible refine Fr.alloc ?_ _) | (with_reducible refine Fr.setCell ?_ (Or.inr (by simp)) _))⟩
  by_cases a4 : t < 1
  · go_enter Try.func9, Try.ntmps9
    go_wp2_with fail
    refine wp_scope_fwd 0 rfl ?_
    go_wp2
    apply wp_goto
    refine fwd_goto _ _ ?_
    go_wp2
    rw [Exit.noGoto_ret]
    go_ret2
    exact ⟨rfl, by repeat (first | (with_reducible exact Fr.refl _ _) | (with_reducible refine Fr.drew ?_) | (with_reducible refine Fr.alloc ?_ _) | (with_reducible refine Fr.setCell ?_ (Or.inr (by simp)) _))⟩
  have a5 : 100 < t := by omega
  clear h
  go_enter Try.func9, Try.ntmps9
  go_wp2_with fail
  refine wp_scope_fwd 0 rfl ?_
  go_wp2
  apply wp_goto
  refine fwd_goto _ _ ?_
  go_wp2
  rw [Exit.noGoto_ret]
  go_ret2
  exact ⟨rfl, by repeat (first | (with_reducible exact Fr.refl _ _) | (with_reducible refine Fr.drew ?_) | (with_reducible refine Fr.alloc ?_ _) | (with_reducible refine Fr.setCell ?_ (Or.inr (by simp)) _))⟩
end Go.Proofs.Ytkpgkoeclhlidaa
