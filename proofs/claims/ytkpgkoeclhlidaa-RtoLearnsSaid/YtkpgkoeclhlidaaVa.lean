import Derived.Test.YtkpgkoeclhlidaaV
namespace Go.Proofs.Ytkpgkoeclhlidaa

theorem late_same (c : Ck) (n : Int) : (lateV c n).1.f = c.f ∧ (lateV c n).1.l = c.l ∧ (lateV c n).1.m = c.m ∧ (lateV c n).1.t = c.t := by
  unfold lateV
  (repeat' split) <;> exact ⟨rfl, rfl, rfl, rfl⟩
theorem sample_same (c : Ck) (n : Int) : (sampleV c n).1.f = c.f ∧ (sampleV c n).1.l = c.l ∧ (sampleV c n).1.m = c.m ∧ (sampleV c n).1.t = c.t := by
  unfold sampleV learnV
  (repeat' split) <;> exact ⟨rfl, rfl, rfl, rfl⟩
theorem sample_rn (c : Ck) (n : Int) : (sampleV c n).1.rn = c.rn := by
  unfold sampleV learnV
  (repeat' split) <;> rfl
theorem gives_step {x : Ck} (hi : Inv x) (hr : x.rn = true) (hb : x.si + x.wt ≤ 2147483647) :
    dueV x (x.si + x.wt - 1) = false ∧ dueV x (x.si + x.wt) = true ∧ ∃ y, lateV x (x.si + x.wt) = (y, decide (x.tr < x.t), 0) ∧ Inv y ∧ y.m = x.m ∧ y.t = x.t ∧ (x.tr < x.t → y.rn = true ∧ y.tr = x.tr + 1 ∧ y.si = x.si + x.wt) ∧ (x.tr = x.t → y.rn = false) := by
  have hv := late_inv hi (x.si + x.wt)
  have hs := late_same x (x.si + x.wt)
  obtain ⟨l1, lf, fm, m1, t1, t2, tm0, tm1, sp0, sp1, w1, w2, s0, s1, r0, r1⟩ := hi
  have hm : mayV x (x.si + x.wt) = true := by unfold mayV; simp; omega
  have hd : dueV x (x.si + x.wt) = true := by unfold dueV; rw [hm, hr]; simp; omega
  have hd' : dueV x (x.si + x.wt - 1) = false := by
    unfold dueV
    rw [hr]
    rw [show decide (x.wt ≤ x.si + x.wt - 1 - x.si) = false from by simp; omega]
    simp
  refine ⟨hd', hd, (lateV x (x.si + x.wt)).1, ?_, hv, hs.2.2.1, hs.2.2.2, ?_, ?_⟩
  · unfold lateV
    rw [if_pos hm, if_pos hd]
    by_cases h : x.tr = x.t
    · rw [if_pos h]; simp; omega
    · rw [if_neg h]; simp; omega
  · intro h
    unfold lateV
    rw [if_pos hm, if_pos hd, if_neg (by omega)]
    exact ⟨hr, rfl, rfl⟩
  · intro h
    unfold lateV
    rw [if_pos hm, if_pos hd, if_pos h]
/-- A clock that runs no more starts at any tick that may be. -/
theorem start_ok {x : Ck} (hr : x.rn = false) {n : Int} (h0 : 0 ≤ n) (h1 : n ≤ 1073741824) : startV x n = ({ x with rn := true, si := n, tr := 0 }, 0) := by
  have hm : mayV x n = true := by unfold mayV; rw [hr]; simp; omega
  unfold startV
  rw [if_pos hm]
end Go.Proofs.Ytkpgkoeclhlidaa
