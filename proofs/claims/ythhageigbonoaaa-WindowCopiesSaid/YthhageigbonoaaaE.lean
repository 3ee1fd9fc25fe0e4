import Derived.Test.YthhageigbonoaaaD
namespace Go.Proofs.Ythhageigbonoaaa
open Go.RowKit

abbrev agW (x : Wn) : Value := .agg #[.int .i64 x.a, .int .i64 x.s, .int .i64 x.m, .int .i64 x.l]

theorem rroom (x : Wn) (w : World) (B : Int) (hB : B ≤ 1000000000) (hi : Inv B x) : Calls Try.prog 15 #[agW x] w fun e w' => e = .returned (.int .i64 (roomV x)) ∧ Fr [] w w' := by
  obtain ⟨i0, i1, i2, i3, i4⟩ := hi
  unfold roomV
  go_enter Try.func15, Try.ntmps15
  go_wp2
  all_goals go_ret
  all_goals exact ⟨ret1_eq (by omega), by repeat (first | exact Fr.refl _ _ | apply Fr.drew | apply Fr.alloc | refine Fr.setCell ?_ (Or.inr (by simp)) _)⟩

theorem rzero (x : Wn) (w : World) : Calls Try.prog 17 #[agW x] w fun e w' => e = .returned (.bool (zeroV x)) ∧ Fr [] w w' := by
  unfold zeroV
  by_cases h1 : x.a = x.m
  · have e : (x.a == x.m) = true := by simp [h1]
    have e2 : (x.l == x.a && x.m == x.a) = (x.a == x.l) := by rw [h1, Bool.eq_iff_iff]; simp; omega
    rw [e2]
    clear h1 e2
    go_enter Try.func17, Try.ntmps17
    go_wp2
    go_ret
    exact ⟨rfl, by repeat (first | exact Fr.refl _ _ | apply Fr.drew | apply Fr.alloc | refine Fr.setCell ?_ (Or.inr (by simp)) _)⟩
  · have e : (x.a == x.m) = false := by simp [h1]
    have e2 : (x.l == x.a && x.m == x.a) = false := by simp; omega
    rw [e2]
    clear h1 e2
    go_enter Try.func17, Try.ntmps17
    go_wp2
    go_ret
    exact ⟨rfl, by repeat (first | exact Fr.refl _ _ | apply Fr.drew | apply Fr.alloc | refine Fr.setCell ?_ (Or.inr (by simp)) _)⟩

theorem rtake (x : Wn) (n : Int) (w : World) (B : Int) (hB : B ≤ 1000000000) (hi : Inv B x) : Calls Try.prog 24 #[agW x, .int .i64 n] w fun e w' => e = .returned (.tuple #[agW (takeV x n).1, .int .i64 (takeV x n).2.1, .int .i64 (takeV x n).2.2]) ∧ Fr [] w w' := by
  obtain ⟨i0, i1, i2, i3, i4⟩ := hi
  unfold takeV
  by_cases h1 : n < 0
  · rw [if_pos h1]
    go_enter Try.func24, Try.ntmps24
    go_wp2
    go_returns
    exact ⟨rfl, by repeat (first | exact Fr.refl _ _ | apply Fr.drew | apply Fr.alloc | refine Fr.setCell ?_ (Or.inr (by simp)) _)⟩
  · rw [if_neg h1]
    by_cases h3 : x.s < x.l
    · have hroom : roomV x = x.l - x.s := by unfold roomV; omega
      rw [hroom]
      clear hroom
      by_cases h2 : x.l - x.s < n
      · rw [if_pos h2]
        go_enter Try.func24, Try.ntmps24
        go_wp2
        go_returns
        exact ⟨rfl, by repeat (first | exact Fr.refl _ _ | apply Fr.drew | apply Fr.alloc | refine Fr.setCell ?_ (Or.inr (by simp)) _)⟩
      · rw [if_neg h2]
        by_cases h4 : x.m < x.s + n
        · rw [show max x.m (x.s + n) = x.s + n from by omega]
          go_enter Try.func24, Try.ntmps24
          go_wp2
          go_returns
          exact ⟨rfl, by repeat (first | exact Fr.refl _ _ | apply Fr.drew | apply Fr.alloc | refine Fr.setCell ?_ (Or.inr (by simp)) _)⟩
        · rw [show max x.m (x.s + n) = x.m from by omega]
          go_enter Try.func24, Try.ntmps24
          go_wp2
          go_returns
          exact ⟨rfl, by repeat (first | exact Fr.refl _ _ | apply Fr.drew | apply Fr.alloc | refine Fr.setCell ?_ (Or.inr (by simp)) _)⟩
    · have hroom : roomV x = 0 := by unfold roomV; omega
      rw [hroom]
      clear hroom
      by_cases h2 : 0 < n
      · rw [if_pos h2]
        go_enter Try.func24, Try.ntmps24
        go_wp2
        go_returns
        exact ⟨rfl, by repeat (first | exact Fr.refl _ _ | apply Fr.drew | apply Fr.alloc | refine Fr.setCell ?_ (Or.inr (by simp)) _)⟩
      · rw [if_neg h2]
        obtain rfl : n = 0 := by omega
        rw [show max x.m (x.s + 0) = x.m from by omega, show x.s + 0 = x.s from by omega]
        go_enter Try.func24, Try.ntmps24
        go_wp2
        go_returns
        exact ⟨rfl, by repeat (first | exact Fr.refl _ _ | apply Fr.drew | apply Fr.alloc | refine Fr.setCell ?_ (Or.inr (by simp)) _)⟩

set_option maxHeartbeats 2000000 in
theorem rack (x : Wn) (u r : Int) (w : World) (B : Int) (hB : B ≤ 1000000000) (hi : Inv B x) : Calls Try.prog 25 #[agW x, .int .i64 u, .int .i64 r] w fun e w' => e = .returned (.tuple #[agW (ackV x u r).1, .int .i64 (ackV x u r).2.1, .int .i64 (ackV x u r).2.2]) ∧ Fr [] w w' := by
  obtain ⟨i0, i1, i2, i3, i4⟩ := hi
  unfold ackV
  by_cases h1 : u < 0 ∨ r < 0 ∨ 65535 < r
  · rw [if_pos h1]
    by_cases a : u < 0
    · go_enter Try.func25, Try.ntmps25
      go_wp2
      go_returns
      exact ⟨rfl, by repeat (first | exact Fr.refl _ _ | apply Fr.drew | apply Fr.alloc | refine Fr.setCell ?_ (Or.inr (by simp)) _)⟩
    by_cases b : r < 0
    · go_enter Try.func25, Try.ntmps25
      go_wp2
      go_returns
      exact ⟨rfl, by repeat (first | exact Fr.refl _ _ | apply Fr.drew | apply Fr.alloc | refine Fr.setCell ?_ (Or.inr (by simp)) _)⟩
    have c : 65535 < r := by omega
    clear h1
    go_enter Try.func25, Try.ntmps25
    go_wp2
    go_returns
    exact ⟨rfl, by repeat (first | exact Fr.refl _ _ | apply Fr.drew | apply Fr.alloc | refine Fr.setCell ?_ (Or.inr (by simp)) _)⟩
  · rw [if_neg h1]
    have j1 : 0 ≤ u := by omega
    have j2 : 0 ≤ r := by omega
    have j3 : r ≤ 65535 := by omega
    clear h1
    by_cases h2 : x.m < u
    · rw [if_pos h2]
      go_enter Try.func25, Try.ntmps25
      go_wp2
      go_returns
      exact ⟨rfl, by repeat (first | exact Fr.refl _ _ | apply Fr.drew | apply Fr.alloc | refine Fr.setCell ?_ (Or.inr (by simp)) _)⟩
    · rw [if_neg h2]
      by_cases h3 : u < x.a
      · rw [if_pos h3]
        go_enter Try.func25, Try.ntmps25
        go_wp2
        go_returns
        exact ⟨rfl, by repeat (first | exact Fr.refl _ _ | apply Fr.drew | apply Fr.alloc | refine Fr.setCell ?_ (Or.inr (by simp)) _)⟩
      · rw [if_neg h3]
        rw [show max x.a u = u from by omega]
        by_cases h4 : x.s < u
        · rw [show max x.s u = u from by omega]
          by_cases h5 : x.l < u + r
          · rw [show max x.l (u + r) = u + r from by omega]
            go_enter Try.func25, Try.ntmps25
            go_wp2
            go_returns
            exact ⟨rfl, by repeat (first | exact Fr.refl _ _ | apply Fr.drew | apply Fr.alloc | refine Fr.setCell ?_ (Or.inr (by simp)) _)⟩
          · rw [show max x.l (u + r) = x.l from by omega]
            go_enter Try.func25, Try.ntmps25
            go_wp2
            go_returns
            exact ⟨rfl, by repeat (first | exact Fr.refl _ _ | apply Fr.drew | apply Fr.alloc | refine Fr.setCell ?_ (Or.inr (by simp)) _)⟩
        · rw [show max x.s u = x.s from by omega]
          by_cases h5 : x.l < u + r
          · rw [show max x.l (u + r) = u + r from by omega]
            go_enter Try.func25, Try.ntmps25
            go_wp2
            go_returns
            exact ⟨rfl, by repeat (first | exact Fr.refl _ _ | apply Fr.drew | apply Fr.alloc | refine Fr.setCell ?_ (Or.inr (by simp)) _)⟩
          · rw [show max x.l (u + r) = x.l from by omega]
            go_enter Try.func25, Try.ntmps25
            go_wp2
            go_returns
            exact ⟨rfl, by repeat (first | exact Fr.refl _ _ | apply Fr.drew | apply Fr.alloc | refine Fr.setCell ?_ (Or.inr (by simp)) _)⟩

theorem rprobe (x : Wn) (w : World) (B : Int) (hB : B ≤ 1000000000) (hi : Inv B x) : Calls Try.prog 26 #[agW x] w fun e w' => e = .returned (.tuple #[agW (probeV x).1, .int .i64 (probeV x).2.1, .int .i64 (probeV x).2.2]) ∧ Fr [] w w' := by
  obtain ⟨i0, i1, i2, i3, i4⟩ := hi
  unfold probeV
  by_cases h1 : x.a = x.m
  · have e : (x.a == x.m) = true := by simp [h1]
    by_cases h2 : x.a = x.l
    · have e2 : (x.a == x.l) = true := by simp [h2]
      have e3 : (x.m == x.l) = true := by simp; omega
      have ez : zeroV x = true := by unfold zeroV; simp; omega
      rw [if_pos ez, show max x.m (x.a + 1) = x.a + 1 from by omega]
      clear h1 h2 ez
      go_enter Try.func26, Try.ntmps26
      go_wp2
      go_region
      all_goals go_wp2
      all_goals go_returns
      all_goals exact ⟨rfl, by repeat (first | exact Fr.refl _ _ | apply Fr.drew | apply Fr.alloc | refine Fr.setCell ?_ (Or.inr (by simp)) _)⟩
    · have e2 : (x.a == x.l) = false := by simp; omega
      have e3 : (x.m == x.l) = false := by simp; omega
      have ez : ¬ zeroV x = true := by unfold zeroV; simp; omega
      rw [if_neg ez]
      clear h1 h2 ez
      go_enter Try.func26, Try.ntmps26
      go_wp2
      go_returns
      exact ⟨rfl, by repeat (first | exact Fr.refl _ _ | apply Fr.drew | apply Fr.alloc | refine Fr.setCell ?_ (Or.inr (by simp)) _)⟩
  · have e : (x.a == x.m) = false := by simp; omega
    have ez : ¬ zeroV x = true := by unfold zeroV; simp; omega
    rw [if_neg ez]
    clear h1 ez
    go_enter Try.func26, Try.ntmps26
    go_wp2
    go_returns
    exact ⟨rfl, by repeat (first | exact Fr.refl _ _ | apply Fr.drew | apply Fr.alloc | refine Fr.setCell ?_ (Or.inr (by simp)) _)⟩
end Go.Proofs.Ythhageigbonoaaa
