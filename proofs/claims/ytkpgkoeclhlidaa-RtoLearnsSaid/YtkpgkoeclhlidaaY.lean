import Derived.Test.YtkpgkoeclhlidaaVa
namespace Go.Proofs.Ytkpgkoeclhlidaa

/-- How far the mean stands off, a sample later. -/
def offF (x : Int) : Int := x - x / 8
def lo : Nat → Int
  | 0 => -16000
  | k + 1 => offF (lo k)
def hi : Nat → Int
  | 0 => 16000
  | k + 1 => offF (hi k)
def sb : Nat → Int
  | 0 => 8000
  | k + 1 => if k < 100 then 8000 else sb k - sb k / 4
theorem off_mono {x y : Int} (h : x ≤ y) : offF x ≤ offF y := by unfold offF; omega
theorem lo_100 : lo 100 = 0 := by decide +kernel
theorem hi_100 : hi 100 = 7 := by decide +kernel
theorem lo_late : ∀ k, 100 ≤ k → lo k = 0 := by
  intro k hk
  induction k with
  | zero => omega
  | succ k ih =>
    by_cases h : k + 1 = 100
    · rw [h]; exact lo_100
    · show offF (lo k) = 0
      rw [ih (by omega)]; rfl
theorem hi_late : ∀ k, 100 ≤ k → hi k = 7 := by
  intro k hk
  induction k with
  | zero => omega
  | succ k ih =>
    by_cases h : k + 1 = 100
    · rw [h]; exact hi_100
    · show offF (hi k) = 7
      rw [ih (by omega)]; rfl
theorem lo_bd : ∀ k, -16000 ≤ lo k
  | 0 => by unfold lo; omega
  | k + 1 => by have := lo_bd k; show -16000 ≤ offF (lo k); unfold offF; omega
theorem hi_bd : ∀ k, hi k ≤ 16000
  | 0 => by unfold hi; omega
  | k + 1 => by have := hi_bd k; show offF (hi k) ≤ 16000; unfold offF; omega
theorem lo_neg : ∀ k, lo k ≤ 0
  | 0 => by unfold lo; omega
  | k + 1 => by have := lo_neg k; show offF (lo k) ≤ 0; unfold offF; omega
theorem hi_pos : ∀ k, 0 ≤ hi k
  | 0 => by unfold hi; omega
  | k + 1 => by have := hi_pos k; show 0 ≤ offF (hi k); unfold offF; omega
theorem sb_bd : ∀ k, 0 ≤ sb k ∧ sb k ≤ 8000
  | 0 => by unfold sb; omega
  | k + 1 => by have := sb_bd k; show 0 ≤ (if k < 100 then 8000 else sb k - sb k / 4) ∧ (if k < 100 then 8000 else sb k - sb k / 4) ≤ 8000; split <;> omega
theorem sb_300 : sb 300 = 3 := by decide +kernel

/-- Samples of at most 2000 ahead. -/
def Small (c : Ck) : Prop := c.is = false ∨ (c.is = true ∧ 0 ≤ c.tm ∧ c.tm ≤ 16000 ∧ 0 ≤ c.sp ∧ c.sp ≤ 8000)
theorem small_sample {c : Ck} (h : Small c) {n : Int} (h0 : 0 ≤ n) (h1 : n ≤ 2000) : Small (sampleV c n).1 := by
  unfold sampleV
  rw [if_neg (by omega)]
  unfold learnV
  rcases h with h | ⟨h, a, b, d, e⟩
  · rw [if_neg (by simp [h])]
    exact .inr ⟨rfl, by dsimp only; omega, by dsimp only; omega, by dsimp only; omega, by dsimp only; omega⟩
  · rw [if_pos h]
    exact .inr ⟨h, by dsimp only; omega, by dsimp only; omega, by dsimp only; omega, by dsimp only; omega⟩
/-- Behind k samples of n. -/
def Near (c : Ck) (n : Int) (k : Nat) : Prop :=
  (k = 0 ∧ Small c) ∨ (1 ≤ k ∧ c.is = true ∧ lo k ≤ c.tm - 8 * n ∧ c.tm - 8 * n ≤ hi k ∧ 0 ≤ c.sp ∧ c.sp ≤ sb k ∧ c.wt = knowsV c)
theorem sample_step {c : Ck} {n : Int} (h0 : 0 ≤ n) (h1 : n ≤ 2000) (k : Nat) (hs : c.is = true) (a1 : lo k ≤ c.tm - 8 * n) (a2 : c.tm - 8 * n ≤ hi k) (b1 : 0 ≤ c.sp) (b2 : c.sp ≤ sb k) : Near (sampleV c n).1 n (k + 1) := by
  refine .inr ⟨by omega, ?_⟩
  unfold sampleV
  rw [if_neg (by omega)]
  unfold learnV
  rw [if_pos hs]
  have l0 := lo_bd k
  have h9 := hi_bd k
  have s0 := sb_bd k
  have e : c.tm / 8 = n + (c.tm - 8 * n) / 8 := by omega
  have m1 := off_mono a1
  have m2 := off_mono a2
  have el : lo (k + 1) = offF (lo k) := rfl
  have eh : hi (k + 1) = offF (hi k) := rfl
  have es : sb (k + 1) = if k < 100 then 8000 else sb k - sb k / 4 := rfl
  have ef : offF (c.tm - 8 * n) = c.tm + (n - c.tm / 8) - 8 * n := by unfold offF; omega
  refine ⟨hs, ?_, ?_, ?_, ?_, rfl⟩
  · dsimp only; omega
  · dsimp only; omega
  · dsimp only; omega
  · dsimp only
    rw [es]
    by_cases hk : k < 100
    · rw [if_pos hk]; omega
    · rw [if_neg hk]
      have := lo_late k (by omega)
      have := hi_late k (by omega)
      omega
theorem near_step {c : Ck} {n : Int} (h0 : 0 ≤ n) (h1 : n ≤ 2000) (k : Nat) (h : Near c n k) : Near (sampleV c n).1 n (k + 1) := by
  rcases h with ⟨rfl, h | ⟨h, a, b, d, e⟩⟩ | ⟨hk, hs, a1, a2, b1, b2, _⟩
  · refine .inr ⟨by omega, ?_⟩
    unfold sampleV
    rw [if_neg (by omega)]
    unfold learnV
    rw [if_neg (by simp [h])]
    have e1 : lo (0 + 1) ≤ 0 := lo_neg 1
    have e2 : 0 ≤ hi (0 + 1) := hi_pos 1
    have e3 : sb (0 + 1) = 8000 := rfl
    refine ⟨rfl, ?_, ?_, ?_, ?_, rfl⟩ <;> dsimp only <;> omega
  · exact sample_step h0 h1 0 h (by unfold lo; omega) (by unfold hi; omega) d (by unfold sb; omega)
  · exact sample_step h0 h1 k hs a1 a2 b1 b2
theorem near_300 {c : Ck} {n : Int} (h : Near c n 300) : max c.l (min c.m (n + 1)) ≤ c.wt ∧ c.wt ≤ max c.l (min c.m (n + 3)) := by
  rcases h with ⟨h, _⟩ | ⟨_, hs, a1, a2, b1, b2, hw⟩
  · omega
  · rw [lo_late 300 (by omega)] at a1
    rw [hi_late 300 (by omega)] at a2
    rw [sb_300] at b2
    rw [hw]
    unfold knowsV
    rw [if_pos hs]
    omega
theorem small_new (f l m t : Int) : Small (newV f l m t) := .inl rfl
end Go.Proofs.Ytkpgkoeclhlidaa
