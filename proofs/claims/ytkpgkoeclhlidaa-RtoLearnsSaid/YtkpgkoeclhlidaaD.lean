import Derived.Test.YtkpgkoeclhlidaaC
namespace Go.Proofs.Ytkpgkoeclhlidaa
open Go.RowKit

abbrev agC (c : Ck) : Value := .agg c.arr
abbrev bx (c : Ck) : Obj := .cells c.arr 40

theorem rknows (c : Ck) (w : World) (hi : Inv c) : Calls Try.prog 33 #[agC c] w fun e w' => e = .returned (.int .i64 (knowsV c)) ∧ w.alloc (bx c) = w' := by
  obtain ⟨l1, lf, fm, m1, t1, t2, tm0, tm1, sp0, sp1, w1, w2, s0, s1, r0, r1⟩ := hi
  obtain ⟨f, l, m, t, is, tm, sp, wt, si, tr, rn⟩ := c
  unfold knowsV
  dsimp only at *
  cases is
  · go_enter Try.func33, Try.ntmps33
    go_wp2
    go_ret
    exact ⟨rfl, rfl⟩
  · rw [if_pos rfl]
    by_cases h1 : sp < 1
    · by_cases h2 : tm / 8 + 1 < l
      · rw [show max l (min m (tm / 8 + max 1 sp)) = l from by omega]
        go_enter Try.func33, Try.ntmps33
        go_wp2
        go_ret
        exact ⟨rfl, rfl⟩
      by_cases h3 : m < tm / 8 + 1
      · rw [show max l (min m (tm / 8 + max 1 sp)) = m from by omega]
        go_enter Try.func33, Try.ntmps33
        go_wp2
        go_ret
        exact ⟨rfl, rfl⟩
      rw [show max l (min m (tm / 8 + max 1 sp)) = tm / 8 + 1 from by omega]
      go_enter Try.func33, Try.ntmps33
      go_wp2
      go_ret
      exact ⟨rfl, rfl⟩
    · by_cases h2 : tm / 8 + sp < l
      · rw [show max l (min m (tm / 8 + max 1 sp)) = l from by omega]
        go_enter Try.func33, Try.ntmps33
        go_wp2
        go_ret
        exact ⟨rfl, rfl⟩
      by_cases h3 : m < tm / 8 + sp
      · rw [show max l (min m (tm / 8 + max 1 sp)) = m from by omega]
        go_enter Try.func33, Try.ntmps33
        go_wp2
        go_ret
        exact ⟨rfl, rfl⟩
      rw [show max l (min m (tm / 8 + max 1 sp)) = tm / 8 + sp from by omega]
      go_enter Try.func33, Try.ntmps33
      go_wp2
      go_ret
      exact ⟨rfl, rfl⟩

theorem rmay (c : Ck) (n : Int) (w : World) : Calls Try.prog 34 #[agC c, .int .i64 n] w fun e w' => e = .returned (.bool (mayV c n)) ∧ w.alloc (bx c) = w' := by
  obtain ⟨f, l, m, t, is, tm, sp, wt, si, tr, rn⟩ := c
  by_cases h1 : n < 0
  · rw [show mayV ⟨f, l, m, t, is, tm, sp, wt, si, tr, rn⟩ n = false from by unfold mayV; simp; omega]
    go_enter Try.func34, Try.ntmps34
    go_wp2
    go_ret
    exact ⟨rfl, rfl⟩
  by_cases h2 : 2147483647 < n
  · rw [show mayV ⟨f, l, m, t, is, tm, sp, wt, si, tr, rn⟩ n = false from by unfold mayV; simp; omega]
    go_enter Try.func34, Try.ntmps34
    go_wp2
    go_ret
    exact ⟨rfl, rfl⟩
  cases rn
  · rw [show mayV ⟨f, l, m, t, is, tm, sp, wt, si, tr, false⟩ n = true from by unfold mayV; simp; omega]
    go_enter Try.func34, Try.ntmps34
    go_wp2
    go_ret
    exact ⟨rfl, rfl⟩
  · by_cases h4 : n < si
    · rw [show mayV ⟨f, l, m, t, is, tm, sp, wt, si, tr, true⟩ n = false from by unfold mayV; simp; omega]
      go_enter Try.func34, Try.ntmps34
      go_wp2
      go_ret
      exact ⟨retb_eq (by simp; omega), rfl⟩
    · rw [show mayV ⟨f, l, m, t, is, tm, sp, wt, si, tr, true⟩ n = true from by unfold mayV; simp; omega]
      go_enter Try.func34, Try.ntmps34
      go_wp2
      go_ret
      exact ⟨rfl, rfl⟩

def dueW (c : Ck) (w : World) : World := if c.rn then (w.alloc (bx c)).alloc (bx c) else w.alloc (bx c)

theorem rdue (c : Ck) (n : Int) (w : World) (hi : Inv c) : Calls Try.prog 31 #[agC c, .int .i64 n] w fun e w' => e = .returned (.bool (dueV c n)) ∧ dueW c w = w' := by
  obtain ⟨l1, lf, fm, m1, t1, t2, tm0, tm1, sp0, sp1, w1, w2, s0, s1, r0, r1⟩ := hi
  have hm := fun W => rmay c n W
  have hb := fun h => may_bd (c := c) (n := n) h
  unfold dueV dueW
  revert hm hb
  generalize mayV c n = B
  intro hm hb
  obtain ⟨f, l, m, t, is, tm, sp, wt, si, tr, rn⟩ := c
  dsimp only at *
  have Hm : Hid _ := hm
  clear hm
  cases rn
  · rw [show (B && (false && decide (wt ≤ n - si))) = false from by simp, if_neg (by simp)]
    clear hb
    go_enter Try.func31, Try.ntmps31
    go_wp2
    go_ret
    exact ⟨rfl, rfl⟩
  · rw [if_pos rfl]
    cases B
    · rw [show (false && (true && decide (wt ≤ n - si))) = false from by simp]
      clear hb
      go_enter Try.func31, Try.ntmps31
      go_wp2_with (first | (go_at_call 34; refine (Hm.out _).mono ?_; rintro e w' ⟨rfl, rfl⟩))
      go_ret
      exact ⟨rfl, rfl⟩
    · rw [show (true && (true && decide (wt ≤ n - si))) = decide (wt ≤ n - si) from by simp]
      obtain ⟨b0, b1⟩ := hb rfl
      clear hb
      go_enter Try.func31, Try.ntmps31
      go_wp2_with (first | (go_at_call 34; refine (Hm.out _).mono ?_; rintro e w' ⟨rfl, rfl⟩))
      go_ret
      exact ⟨rfl, rfl⟩

theorem rstop (c : Ck) (w : World) (hi : Inv c) : Calls Try.prog 29 #[agC c] w fun e w' => e = .returned (agC (stopV c)) ∧ Fr [] w w' := by
  have hk := fun W => rknows c W hi
  unfold stopV
  revert hk
  generalize knowsV c = K
  intro hk
  obtain ⟨f, l, m, t, is, tm, sp, wt, si, tr, rn⟩ := c
  dsimp only at *
  have Hk : Hid _ := hk
  clear hk
  go_enter Try.func29, Try.ntmps29
  go_wp2_with (first | (go_at_call 33; refine (Hk.out _).mono ?_; rintro e w' ⟨rfl, rfl⟩))
  go_returns
  exact ⟨rfl, by repeat (first | (with_reducible exact Fr.refl _ _) | (with_reducible refine Fr.drew ?_) | (with_reducible refine Fr.alloc ?_ _) | (with_reducible refine Fr.setCell ?_ (Or.inr (by simp)) _))⟩
end Go.Proofs.Ytkpgkoeclhlidaa
