import Derived.Test.YtkpgkoeclhlidaaE
namespace Go.Proofs.Ytkpgkoeclhlidaa
open Go.RowKit

set_option maxHeartbeats 1000000 in
theorem rlate (c : Ck) (n : Int) (w : World) (hi : Inv c) : Calls Try.prog 30 #[agC c, .int .i64 n] w fun e w' => e = .returned (.tuple #[agC (lateV c n).1, .bool (lateV c n).2.1, .int .i64 (lateV c n).2.2]) ∧ Fr [] w w' := by
  have hm := fun W => rmay c n W
  have hd := fun W => rdue c n W hi
  have hb := fun h => may_bd (c := c) (n := n) h
  have hrn : dueV c n = true → c.rn = true := fun h => by unfold dueV at h; simp at h; exact h.2.1
  obtain ⟨l1, lf, fm, m1, t1, t2, tm0, tm1, sp0, sp1, w1, w2, s0, s1, r0, r1⟩ := hi
  unfold lateV
  revert hm hb hd hrn
  generalize mayV c n = B
  generalize dueV c n = D
  intro hm hd hb hrn
  obtain ⟨f, l, m, t, is, tm, sp, wt, si, tr, rn⟩ := c
  unfold dueW at hd
  dsimp only at *
  have Hm : Hid _ := hm
  clear hm
  cases B
  · rw [if_neg (by simp)]
    clear hb hrn hd
    go_enter Try.func30, Try.ntmps30
    go_wp2_with (first | (go_at_call 34; refine (Hm.out _).mono ?_; rintro e w' ⟨rfl, rfl⟩))
    go_returns
    exact ⟨rfl, by repeat (first | (with_reducible exact Fr.refl _ _) | (with_reducible refine Fr.drew ?_) | (with_reducible refine Fr.alloc ?_ _) | (with_reducible refine Fr.setCell ?_ (Or.inr (by simp)) _))⟩
  · rw [if_pos rfl]
    obtain ⟨b0, b1⟩ := hb rfl
    clear hb
    cases D
    · rw [if_neg (by simp)]
      clear hrn
      cases rn
      · simp only [Bool.false_eq_true, if_false] at hd
        have Hd : Hid _ := hd
        clear hd
        go_enter Try.func30, Try.ntmps30
        go_wp2_with (first | (go_at_call 34; refine (Hm.out _).mono ?_; rintro e w' ⟨rfl, rfl⟩) | (go_at_call 31; refine (Hd.out _).mono ?_; rintro e w' ⟨rfl, rfl⟩))
        go_returns
        exact ⟨rfl, by repeat (first | (with_reducible exact Fr.refl _ _) | (with_reducible refine Fr.drew ?_) | (with_reducible refine Fr.alloc ?_ _) | (with_reducible refine Fr.setCell ?_ (Or.inr (by simp)) _))⟩
      · simp only [if_true] at hd
        have Hd : Hid _ := hd
        clear hd
        go_enter Try.func30, Try.ntmps30
        go_wp2_with (first | (go_at_call 34; refine (Hm.out _).mono ?_; rintro e w' ⟨rfl, rfl⟩) | (go_at_call 31; refine (Hd.out _).mono ?_; rintro e w' ⟨rfl, rfl⟩))
        go_returns
        exact ⟨rfl, by repeat (first | (with_reducible exact Fr.refl _ _) | (with_reducible refine Fr.drew ?_) | (with_reducible refine Fr.alloc ?_ _) | (with_reducible refine Fr.setCell ?_ (Or.inr (by simp)) _))⟩
    · rw [if_pos rfl]
      obtain rfl : rn = true := hrn rfl
      clear hrn
      simp only [if_true] at hd
      have Hd : Hid _ := hd
      clear hd
      by_cases h3 : tr = t
      · rw [if_pos h3]
        subst h3
        go_enter Try.func30, Try.ntmps30
        go_wp2_with (first | (go_at_call 34; refine (Hm.out _).mono ?_; rintro e w' ⟨rfl, rfl⟩) | (go_at_call 31; refine (Hd.out _).mono ?_; rintro e w' ⟨rfl, rfl⟩))
        go_returns
        exact ⟨rfl, by repeat (first | (with_reducible exact Fr.refl _ _) | (with_reducible refine Fr.drew ?_) | (with_reducible refine Fr.alloc ?_ _) | (with_reducible refine Fr.setCell ?_ (Or.inr (by simp)) _))⟩
      · rw [if_neg h3]
        have h4 : tr < t := by omega
        clear h3
        by_cases h5 : m < 2 * wt
        · rw [show min (2 * wt) m = m from by omega]
          go_enter Try.func30, Try.ntmps30
          go_wp2_with (first | (go_at_call 34; refine (Hm.out _).mono ?_; rintro e w' ⟨rfl, rfl⟩) | (go_at_call 31; refine (Hd.out _).mono ?_; rintro e w' ⟨rfl, rfl⟩))
          go_returns
          exact ⟨rfl, by repeat (first | (with_reducible exact Fr.refl _ _) | (with_reducible refine Fr.drew ?_) | (with_reducible refine Fr.alloc ?_ _) | (with_reducible refine Fr.setCell ?_ (Or.inr (by simp)) _))⟩
        · rw [show min (2 * wt) m = 2 * wt from by omega]
          go_enter Try.func30, Try.ntmps30
          go_wp2_with (first | (go_at_call 34; refine (Hm.out _).mono ?_; rintro e w' ⟨rfl, rfl⟩) | (go_at_call 31; refine (Hd.out _).mono ?_; rintro e w' ⟨rfl, rfl⟩))
          go_returns
          exact ⟨rfl, by repeat (first | (with_reducible exact Fr.refl _ _) | (with_reducible refine Fr.drew ?_) | (with_reducible refine Fr.alloc ?_ _) | (with_reducible refine Fr.setCell ?_ (Or.inr (by simp)) _))⟩

theorem rsample (c : Ck) (n : Int) (w : World) (hi : Inv c) : Calls Try.prog 27 #[agC c, .int .i64 n] w fun e w' => e = .returned (.tuple #[agC (sampleV c n).1, .int .i64 (sampleV c n).2]) ∧ Fr [] w w' := by
  unfold sampleV
  by_cases h : n < 0 ∨ 65536 < n
  · rw [if_pos h]
    exact rsample_no c n w h
  · rw [if_neg h]
    exact rsample_yes c n w hi (by omega) (by omega)

abbrev agR (f l m t : Int) : Value := .agg #[.int .i64 f, .int .i64 l, .int .i64 m, .int .i64 t]
def rightV (f l m t : Int) : Bool := decide (1 ≤ l ∧ l ≤ f ∧ f ≤ m ∧ m ≤ 65536 ∧ 1 ≤ t ∧ t ≤ 100)
theorem rright_yes (f l m t : Int) (w : World) (h1 : 1 ≤ l) (h2 : l ≤ f) (h3 : f ≤ m) (h4 : m ≤ 65536) (h5 : 1 ≤ t) (h6 : t ≤ 100) :
    Calls Try.prog 16 #[agR f l m t] w fun e w' => e = .returned (.bool true) ∧ Fr [] w w' := by
  go_enter Try.func16, Try.ntmps16
  go_wp2
  go_ret
  exact ⟨rfl, by repeat (first | (with_reducible exact Fr.refl _ _) | (with_reducible refine Fr.drew ?_) | (with_reducible refine Fr.alloc ?_ _) | (with_reducible refine Fr.setCell ?_ (Or.inr (by simp)) _))⟩
theorem rright_no (f l m t : Int) (w : World) (h : l < 1 ∨ f < l ∨ m < f ∨ 65536 < m ∨ t < 1 ∨ 100 < t) :
    Calls Try.prog 16 #[agR f l m t] w fun e w' => e = .returned (.bool false) ∧ Fr [] w w' := by
  by_cases a0 : l < 1
  · go_enter Try.func16, Try.ntmps16
    go_wp2
    go_ret
    exact ⟨rfl, by repeat (first | (with_reducible exact Fr.refl _ _) | (with_reducible refine Fr.drew ?_) | (with_reducible refine Fr.alloc ?_ _) | (with_reducible refine Fr.setCell ?_ (Or.inr (by simp)) _))⟩
  by_cases a1 : f < l
  · go_enter Try.func16, Try.ntmps16
    go_wp2
    go_ret
    exact ⟨rfl, by repeat (first | (with_reducible exact Fr.refl _ _) | (with_reducible refine Fr.drew ?_) | (with_reducible refine Fr.alloc ?_ _) | (with_reducible refine Fr.setCell ?_ (Or.inr (by simp)) _))⟩
  by_cases a2 : m < f
  · go_enter Try.func16, Try.ntmps16
    go_wp2
    go_ret
    exact ⟨rfl, by repeat (first | (with_reducible exact Fr.refl _ _) | (with_reducible refine Fr.drew ?_) | (with_reducible refine Fr.alloc ?_ _) | (with_reducible refine Fr.setCell ?_ (Or.inr (by simp)) _))⟩
  by_cases a3 : 65536 < m
  · go_enter Try.func16, Try.ntmps16
    go_wp2
    go_ret
    exact ⟨rfl, by repeat (first | (with_reducible exact Fr.refl _ _) | (with_reducible refine Fr.drew ?_) | (with_reducible refine Fr.alloc ?_ _) | (with_reducible refine Fr.setCell ?_ (Or.inr (by simp)) _))⟩
  by_cases a4 : t < 1
  · go_enter Try.func16, Try.ntmps16
    go_wp2
    go_ret
    exact ⟨rfl, by repeat (first | (with_reducible exact Fr.refl _ _) | (with_reducible refine Fr.drew ?_) | (with_reducible refine Fr.alloc ?_ _) | (with_reducible refine Fr.setCell ?_ (Or.inr (by simp)) _))⟩
  have a5 : 100 < t := by omega
  clear h
  go_enter Try.func16, Try.ntmps16
  go_wp2
  go_ret
  exact ⟨retb_eq (by simp; omega), by repeat (first | (with_reducible exact Fr.refl _ _) | (with_reducible refine Fr.drew ?_) | (with_reducible refine Fr.alloc ?_ _) | (with_reducible refine Fr.setCell ?_ (Or.inr (by simp)) _))⟩
theorem rnew (f l m t : Int) (w : World) : Calls Try.prog 17 #[agR f l m t] w fun e w' => e = .returned (agC (newV f l m t)) ∧ Fr [] w w' := by
  unfold newV
  go_enter Try.func17, Try.ntmps17
  go_wp2
  go_returns
  exact ⟨rfl, by repeat (first | (with_reducible exact Fr.refl _ _) | (with_reducible refine Fr.drew ?_) | (with_reducible refine Fr.alloc ?_ _) | (with_reducible refine Fr.setCell ?_ (Or.inr (by simp)) _))⟩
end Go.Proofs.Ytkpgkoeclhlidaa
