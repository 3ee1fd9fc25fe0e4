import Derived.Test.YtkpgkoeclhlidaaD
namespace Go.Proofs.Ytkpgkoeclhlidaa
open Go.RowKit

theorem rstart (c : Ck) (n : Int) (w : World) : Calls Try.prog 28 #[agC c, .int .i64 n] w fun e w' => e = .returned (.tuple #[agC (startV c n).1, .int .i64 (startV c n).2]) ∧ Fr [] w w' := by
  have hm := fun W => rmay c n W
  unfold startV
  revert hm
  generalize mayV c n = B
  intro hm
  obtain ⟨f, l, m, t, is, tm, sp, wt, si, tr, rn⟩ := c
  dsimp only at *
  have Hm : Hid _ := hm
  clear hm
  cases B
  · rw [if_neg (by simp)]
    go_enter Try.func28, Try.ntmps28
    go_wp2_with (first | (go_at_call 34; refine (Hm.out _).mono ?_; rintro e w' ⟨rfl, rfl⟩))
    go_returns
    exact ⟨rfl, by repeat (first | (with_reducible exact Fr.refl _ _) | (with_reducible refine Fr.drew ?_) | (with_reducible refine Fr.alloc ?_ _) | (with_reducible refine Fr.setCell ?_ (Or.inr (by simp)) _))⟩
  · rw [if_pos rfl]
    go_enter Try.func28, Try.ntmps28
    go_wp2_with (first | (go_at_call 34; refine (Hm.out _).mono ?_; rintro e w' ⟨rfl, rfl⟩))
    go_returns
    exact ⟨rfl, by repeat (first | (with_reducible exact Fr.refl _ _) | (with_reducible refine Fr.drew ?_) | (with_reducible refine Fr.alloc ?_ _) | (with_reducible refine Fr.setCell ?_ (Or.inr (by simp)) _))⟩

theorem rsample_no (c : Ck) (n : Int) (w : World) (h : n < 0 ∨ 65536 < n) : Calls Try.prog 27 #[agC c, .int .i64 n] w fun e w' => e = .returned (.tuple #[agC c, .int .i64 2]) ∧ Fr [] w w' := by
  obtain ⟨f, l, m, t, is, tm, sp, wt, si, tr, rn⟩ := c
  by_cases h1 : n < 0
  · go_enter Try.func27, Try.ntmps27
    go_wp2
    go_returns
    exact ⟨rfl, by repeat (first | (with_reducible exact Fr.refl _ _) | (with_reducible refine Fr.drew ?_) | (with_reducible refine Fr.alloc ?_ _) | (with_reducible refine Fr.setCell ?_ (Or.inr (by simp)) _))⟩
  · have h2 : 65536 < n := by omega
    clear h
    go_enter Try.func27, Try.ntmps27
    go_wp2
    go_returns
    exact ⟨rfl, by repeat (first | (with_reducible exact Fr.refl _ _) | (with_reducible refine Fr.drew ?_) | (with_reducible refine Fr.alloc ?_ _) | (with_reducible refine Fr.setCell ?_ (Or.inr (by simp)) _))⟩

set_option maxHeartbeats 1000000 in
theorem rsample_yes (c : Ck) (n : Int) (w : World) (hi : Inv c) (h0 : 0 ≤ n) (h1 : n ≤ 65536) : Calls Try.prog 27 #[agC c, .int .i64 n] w fun e w' => e = .returned (.tuple #[agC { learnV c n with wt := knowsV (learnV c n) }, .int .i64 0]) ∧ Fr [] w w' := by
  have hk := fun W => rknows (learnV c n) W (learn_inv hi h0 h1)
  obtain ⟨l1, lf, fm, m1, t1, t2, tm0, tm1, sp0, sp1, w1, w2, s0, s1, r0, r1⟩ := hi
  revert hk
  generalize knowsV (learnV c n) = K
  intro hk
  obtain ⟨f, l, m, t, is, tm, sp, wt, si, tr, rn⟩ := c
  unfold learnV at *
  dsimp only at *
  cases is
  · rw [if_neg (by simp)] at *
    dsimp only at *
    have Hk : Hid _ := hk
    clear hk
    go_enter Try.func27, Try.ntmps27
    go_wp2_with (first | (go_at_call 33; refine (Hk.out _).mono ?_; rintro e w' ⟨rfl, rfl⟩))
    go_returns
    exact ⟨rfl, by repeat (first | (with_reducible exact Fr.refl _ _) | (with_reducible refine Fr.drew ?_) | (with_reducible refine Fr.alloc ?_ _) | (with_reducible refine Fr.setCell ?_ (Or.inr (by simp)) _))⟩
  · rw [if_pos rfl] at *
    dsimp only at *
    by_cases h2 : n - tm / 8 < 0
    · rw [show sp + (max (n - tm / 8) (-(n - tm / 8)) - sp / 4) = sp + -(n - tm / 8) - sp / 4 from by omega] at *
      have Hk : Hid _ := hk
      clear hk
      go_enter Try.func27, Try.ntmps27
      go_wp2_with (first | (go_at_call 33; refine (Hk.out _).mono ?_; rintro e w' ⟨rfl, rfl⟩))
      go_returns
      exact ⟨rfl, by repeat (first | (with_reducible exact Fr.refl _ _) | (with_reducible refine Fr.drew ?_) | (with_reducible refine Fr.alloc ?_ _) | (with_reducible refine Fr.setCell ?_ (Or.inr (by simp)) _))⟩
    · rw [show sp + (max (n - tm / 8) (-(n - tm / 8)) - sp / 4) = sp + (n - tm / 8) - sp / 4 from by omega] at *
      have Hk : Hid _ := hk
      clear hk
      go_enter Try.func27, Try.ntmps27
      go_wp2_with (first | (go_at_call 33; refine (Hk.out _).mono ?_; rintro e w' ⟨rfl, rfl⟩))
      go_returns
      exact ⟨rfl, by repeat (first | (with_reducible exact Fr.refl _ _) | (with_reducible refine Fr.drew ?_) | (with_reducible refine Fr.alloc ?_ _) | (with_reducible refine Fr.setCell ?_ (Or.inr (by simp)) _))⟩
end Go.Proofs.Ytkpgkoeclhlidaa
