import Derived.Test.YtmgdbbbdhkfdmaaZ1
import Derived.Test.YtmgdbbbdhkfdmaaProg
import Derived.Deep.DeepCutAuto
set_option linter.unusedSimpArgs false
set_option linter.unusedVariables false
namespace Go.Proofs.Ytmgdbbbdhkfdmaa.Rto
set_option maxRecDepth 100000
open Go.RowKit

/-- A clock: its bounds, what it learned, how long it waits, since when it runs, how often it tried. -/
structure Ck where
  f : Int
  l : Int
  m : Int
  t : Int
  is : Bool
  tm : Int
  sp : Int
  wt : Int
  si : Int
  tr : Int
  rn : Bool

def knowsV (c : Ck) : Int := if c.is then max c.l (min c.m (c.tm / 8 + max 1 c.sp)) else c.f
def learnV (c : Ck) (n : Int) : Ck :=
  if c.is then { c with tm := c.tm + (n - c.tm / 8), sp := c.sp + (max (n - c.tm / 8) (-(n - c.tm / 8)) - c.sp / 4) } else { c with is := true, tm := 8 * n, sp := 2 * n }
def sampleV (c : Ck) (n : Int) : Ck × Int :=
  if n < 0 ∨ 65536 < n then (c, 2) else ({ learnV c n with wt := knowsV (learnV c n) }, 0)
def mayV (c : Ck) (n : Int) : Bool := decide (0 ≤ n) && decide (n ≤ 2147483647) && (!c.rn || decide (c.si ≤ n))
def startV (c : Ck) (n : Int) : Ck × Int := if mayV c n then ({ c with rn := true, si := n, tr := 0 }, 0) else (c, 2)
def stopV (c : Ck) : Ck := { c with rn := false, si := 0, tr := 0, wt := knowsV c }
def dueV (c : Ck) (n : Int) : Bool := mayV c n && (c.rn && decide (c.wt ≤ n - c.si))
def lateV (c : Ck) (n : Int) : Ck × Bool × Int :=
  if mayV c n then
    if dueV c n then
      if c.tr = c.t then ({ c with rn := false, si := 0 }, false, 0) else ({ c with tr := c.tr + 1, wt := min (2 * c.wt) c.m, si := n }, true, 0)
    else (c, false, 240)
  else (c, false, 2)

/-- The bounds may be, and all numbers are small. -/
structure Inv (c : Ck) : Prop where
  l1 : 1 ≤ c.l
  lf : c.l ≤ c.f
  fm : c.f ≤ c.m
  m1 : c.m ≤ 65536
  t1 : 1 ≤ c.t
  t2 : c.t ≤ 100
  tm0 : 0 ≤ c.tm
  tm1 : c.tm ≤ 524304
  sp0 : 0 ≤ c.sp
  sp1 : c.sp ≤ 262160
  w1 : c.l ≤ c.wt
  w2 : c.wt ≤ c.m
  s0 : 0 ≤ c.si
  s1 : c.si ≤ 2147483647
  r0 : 0 ≤ c.tr
  r1 : c.tr ≤ c.t

theorem knows_bd {c : Ck} (h : Inv c) : c.l ≤ knowsV c ∧ knowsV c ≤ c.m := by
  obtain ⟨l1, lf, fm, m1, t1, t2, tm0, tm1, sp0, sp1, w1, w2, s0, s1, r0, r1⟩ := h
  unfold knowsV
  split <;> omega

theorem learn_inv {c : Ck} (h : Inv c) {n : Int} (h0 : 0 ≤ n) (h1 : n ≤ 65536) : Inv (learnV c n) := by
  obtain ⟨l1, lf, fm, m1, t1, t2, tm0, tm1, sp0, sp1, w1, w2, s0, s1, r0, r1⟩ := h
  unfold learnV
  split <;> constructor <;> dsimp only <;> omega

theorem sample_inv {c : Ck} (h : Inv c) (n : Int) : Inv (sampleV c n).1 := by
  unfold sampleV
  split
  · exact h
  · have hl := learn_inv h (n := n) (by omega) (by omega)
    have hk := knows_bd hl
    obtain ⟨l1, lf, fm, m1, t1, t2, tm0, tm1, sp0, sp1, w1, w2, s0, s1, r0, r1⟩ := hl
    constructor <;> dsimp only <;> omega

theorem stop_inv {c : Ck} (h : Inv c) : Inv (stopV c) := by
  have hk := knows_bd h
  obtain ⟨l1, lf, fm, m1, t1, t2, tm0, tm1, sp0, sp1, w1, w2, s0, s1, r0, r1⟩ := h
  unfold stopV
  constructor <;> dsimp only <;> omega

theorem may_bd {c : Ck} {n : Int} (h : mayV c n = true) : 0 ≤ n ∧ n ≤ 2147483647 := by
  unfold mayV at h
  simp at h
  omega

theorem start_inv {c : Ck} (h : Inv c) (n : Int) : Inv (startV c n).1 := by
  unfold startV
  split
  · rename_i hm
    have := may_bd hm
    obtain ⟨l1, lf, fm, m1, t1, t2, tm0, tm1, sp0, sp1, w1, w2, s0, s1, r0, r1⟩ := h
    constructor <;> dsimp only <;> omega
  · exact h

theorem late_inv {c : Ck} (h : Inv c) (n : Int) : Inv (lateV c n).1 := by
  unfold lateV
  split
  · rename_i hm
    have := may_bd hm
    split
    · split
      · obtain ⟨l1, lf, fm, m1, t1, t2, tm0, tm1, sp0, sp1, w1, w2, s0, s1, r0, r1⟩ := h
        constructor <;> dsimp only <;> omega
      · obtain ⟨l1, lf, fm, m1, t1, t2, tm0, tm1, sp0, sp1, w1, w2, s0, s1, r0, r1⟩ := h
        constructor <;> dsimp only <;> omega
    · exact h
  · exact h

def nearN (c : Ck) (n : Int) (near : Bool) : Int := if near = true ∧ -100 ≤ n ∧ n ≤ 100 then n + c.si + c.wt else n
def doesV (c : Ck) (k n : Int) (near : Bool) : Ck :=
  if k = 1 then (sampleV c n).1 else if k = 2 then (startV c (nearN c n near)).1 else if k = 3 then stopV c else if k = 4 then (lateV c (nearN c n near)).1 else c
theorem does_inv {c : Ck} (h : Inv c) (k n : Int) (near : Bool) : Inv (doesV c k n near) := by
  unfold doesV
  split
  · exact sample_inv h n
  split
  · exact start_inv h _
  split
  · exact stop_inv h
  split
  · exact late_inv h _
  exact h
theorem does_same (c : Ck) (k n : Int) (near : Bool) : (doesV c k n near).f = c.f ∧ (doesV c k n near).l = c.l ∧ (doesV c k n near).m = c.m ∧ (doesV c k n near).t = c.t := by
  unfold doesV sampleV startV stopV lateV learnV
  (repeat' split) <;> exact ⟨rfl, rfl, rfl, rfl⟩

def newV (f l m t : Int) : Ck := ⟨f, l, m, t, false, 0, 0, f, 0, 0, false⟩
theorem new_inv {f l m t : Int} (h1 : 1 ≤ l) (h2 : l ≤ f) (h3 : f ≤ m) (h4 : m ≤ 65536) (h5 : 1 ≤ t) (h6 : t ≤ 100) : Inv (newV f l m t) := by
  unfold newV
  constructor <;> dsimp only <;> omega

abbrev ptr (g : Nat) : Value := .pointer (some ⟨g, 0, none⟩)
abbrev Ck.arr (c : Ck) : Array Value := #[.int .i64 c.f, .int .i64 c.l, .int .i64 c.m, .int .i64 c.t, .bool c.is, .int .i64 c.tm, .int .i64 c.sp, .int .i64 c.wt, .int .i64 c.si, .int .i64 c.tr, .bool c.rn]
def Clk (w : World) (g : Nat) (c : Ck) : Prop := Blk w g 106 c.arr
/-- The eleven cells of a block. -/
structure Cells (w : World) (g : Nat) (c : Ck) : Prop where
  c0 : w.cell? ⟨g, 0, none⟩ = some (.int .i64 c.f)
  c1 : w.cell? ⟨g, 1, none⟩ = some (.int .i64 c.l)
  c2 : w.cell? ⟨g, 2, none⟩ = some (.int .i64 c.m)
  c3 : w.cell? ⟨g, 3, none⟩ = some (.int .i64 c.t)
  c4 : w.cell? ⟨g, 4, none⟩ = some (.bool c.is)
  c5 : w.cell? ⟨g, 5, none⟩ = some (.int .i64 c.tm)
  c6 : w.cell? ⟨g, 6, none⟩ = some (.int .i64 c.sp)
  c7 : w.cell? ⟨g, 7, none⟩ = some (.int .i64 c.wt)
  c8 : w.cell? ⟨g, 8, none⟩ = some (.int .i64 c.si)
  c9 : w.cell? ⟨g, 9, none⟩ = some (.int .i64 c.tr)
  c10 : w.cell? ⟨g, 10, none⟩ = some (.bool c.rn)
theorem cells_of {w : World} {g : Nat} {t : TypeId} {c : Ck} (h : Blk w g t c.arr) : Cells w g c := by
  have := Blk.cell h
  exact ⟨this 0, this 1, this 2, this 3, this 4, this 5, this 6, this 7, this 8, this 9, this 10⟩

theorem none_nil (w : World) : Calls Try.prog 60 #[.pointer none] w fun e w' => e = .returned (.bool true) ∧ w = w' := by
  go_enter Try.func60, Try.ntmps60
  go_wp2
  go_ret
  exact ⟨rfl, rfl⟩
theorem none_z (g : Nat) (c : Ck) (w : World) (m : Clk w g c) (h : c.f = 0) : Calls Try.prog 60 #[ptr g] w fun e w' => e = .returned (.bool true) ∧ w = w' := by
  have c0 := (cells_of m).c0
  rw [h] at c0
  go_enter Try.func60, Try.ntmps60
  go_wp2
  go_ret
  exact ⟨rfl, rfl⟩
theorem none_clk (g : Nat) (c : Ck) (w : World) (m : Clk w g c) (hi : Inv c) : Calls Try.prog 60 #[ptr g] w fun e w' => e = .returned (.bool false) ∧ w = w' := by
  have c0 := (cells_of m).c0
  have h : (c.f == 0) = false := by have := hi.l1; have := hi.lf; simp; omega
  go_enter Try.func60, Try.ntmps60
  go_wp2
  go_ret
  exact ⟨rfl, rfl⟩
theorem within_any (x l m : Int) (w : World) : Calls Try.prog 93 #[.int .i64 x, .int .i64 l, .int .i64 m] w fun e w' => e = .returned (.int .i64 (max l (min m x))) ∧ w = w' := by
  go_enter Try.func93, Try.ntmps93
  go_wp2
  go_ret
  exact ⟨rfl, rfl⟩
theorem knows_clk (g : Nat) (c : Ck) (w : World) (m : Clk w g c) (hi : Inv c) : Calls Try.prog 82 #[ptr g] w fun e w' => e = .returned (.int .i64 (knowsV c)) ∧ ∃ k, w' = w.drewN k := by
  obtain ⟨c0, c1, c2, c3, c4, c5, c6, c7, c8, c9, c10⟩ := cells_of m
  obtain ⟨l1, lf, fm, m1, t1, t2, tm0, tm1, sp0, sp1, w1, w2, s0, s1, r0, r1⟩ := hi
  unfold knowsV
  cases h : c.is
  · rw [h] at c4
    clear h
    go_enter Try.func82, Try.ntmps82
    go_wp2
    go_ret
    exact ⟨rfl, 0, rfl⟩
  · rw [h] at c4
    clear h
    rw [if_pos rfl]
    have e1 : IntKind.i64.wrap (c.tm / 8) = c.tm / 8 := IntWalk.i64_in _ (by omega)
    have e2 : IntKind.i64.wrap (c.tm / 8 + max 1 c.sp) = c.tm / 8 + max 1 c.sp := IntWalk.i64_in _ (by omega)
    go_enter Try.func82, Try.ntmps82
    go_wp2_with fail
    go_quiet ((go_at_call 93; exact quiet_left (within_any _ _ _ _)))
    go_wp2
    go_ret
    exact ⟨rfl, _, rfl⟩
theorem may_clk (g : Nat) (c : Ck) (n : Int) (w : World) (m : Clk w g c) : Calls Try.prog 61 #[ptr g, .int .i64 n] w fun e w' => e = .returned (.bool (mayV c n)) ∧ w = w' := by
  obtain ⟨c0, c1, c2, c3, c4, c5, c6, c7, c8, c9, c10⟩ := cells_of m
  by_cases h1 : n < 0
  · have e : mayV c n = false := by unfold mayV; simp; omega
    rw [e]
    clear e
    go_enter Try.func61, Try.ntmps61
    go_wp2
    go_ret
    exact ⟨rfl, rfl⟩
  by_cases h2 : 2147483647 < n
  · have e : mayV c n = false := by unfold mayV; simp; omega
    rw [e]
    clear e
    go_enter Try.func61, Try.ntmps61
    go_wp2
    go_ret
    exact ⟨rfl, rfl⟩
  cases h3 : c.rn
  · have e : mayV c n = true := by unfold mayV; simp [h3]; omega
    rw [e]
    rw [h3] at c10
    clear e h3
    go_enter Try.func61, Try.ntmps61
    go_wp2
    go_ret
    exact ⟨rfl, rfl⟩
  · by_cases h4 : n < c.si
    · have e : mayV c n = false := by unfold mayV; simp [h3]; omega
      rw [e]
      rw [h3] at c10
      clear e h3
      go_enter Try.func61, Try.ntmps61
      go_wp2
      go_ret
      exact ⟨retb_eq (by simp; omega), rfl⟩
    · have e : mayV c n = true := by unfold mayV; simp [h3]; omega
      rw [e]
      rw [h3] at c10
      clear e h3
      go_enter Try.func61, Try.ntmps61
      go_wp2
      go_ret
      exact ⟨rfl, rfl⟩

theorem start_clk (g : Nat) (c : Ck) (n : Int) (w : World) (m : Clk w g c) (hi : Inv c) : Calls Try.prog 64 #[ptr g, .int .i64 n] w fun e w' => e = .returned (.int .i64 (startV c n).2) ∧ Fr [g] w w' ∧ Clk w' g (startV c n).1 := by
  obtain ⟨c0, c1, c2, c3, c4, c5, c6, c7, c8, c9, c10⟩ := cells_of m
  have z8 := Blk.frozen m 8
  have z9 := Blk.frozen m 9
  have z10 := Blk.frozen m 10
  have hm := may_clk g c n w m
  unfold startV
  cases h : mayV c n
  · rw [if_neg (by simp)]
    rw [h] at hm
    go_enter Try.func64, Try.ntmps64
    go_wp2_with (first | (go_at_call 60; refine (none_clk _ _ _ m hi).mono ?_; rintro e w' ⟨rfl, rfl⟩) | (go_at_call 61; refine hm.mono ?_; rintro e w' ⟨rfl, rfl⟩))
    go_ret
    exact ⟨rfl, Fr.refl _ _, m⟩
  · rw [if_pos rfl]
    rw [h] at hm
    go_enter Try.func64, Try.ntmps64
    go_wp2_with (first | (go_at_call 60; refine (none_clk _ _ _ m hi).mono ?_; rintro e w' ⟨rfl, rfl⟩) | (go_at_call 61; refine hm.mono ?_; rintro e w' ⟨rfl, rfl⟩))
    go_ret
    refine ⟨rfl, Fr.setCell (Fr.setCell (Fr.setCell (Fr.refl _ _) (by simp) _) (by simp) _) (by simp) _, ?_⟩
    simpa [Clk] using Blk.set_ (Blk.set_ (Blk.set_ m 10 (.bool true)) 8 (.int .i64 n)) 9 (.int .i64 0)

theorem knows_fr (g : Nat) (c : Ck) (w : World) (m : Clk w g c) (hi : Inv c) : Calls Try.prog 82 #[ptr g] w fun e w' => e = .returned (.int .i64 (knowsV c)) ∧ Fr [] w w' :=
  (knows_clk g c w m hi).mono fun _ _ ⟨h, k, hk⟩ => ⟨h, by rw [hk]; exact (Fr.refl _ _).drewN k⟩

theorem stop_clk (g : Nat) (c : Ck) (w : World) (m : Clk w g c) (hi : Inv c) : Calls Try.prog 65 #[ptr g] w fun e w' => e = .returned (.int .i64 0) ∧ Fr [g] w w' ∧ Clk w' g (stopV c) := by
  have hk := knows_fr g c
  unfold stopV
  revert hk
  generalize knowsV c = K
  intro hk
  have Hk : Hid _ := hk
  clear hk
  go_enter Try.func65, Try.ntmps65
  go_wp2_with (first | (go_at_call 60; refine (none_clk _ _ _ m hi).mono ?_; rintro e w' ⟨rfl, rfl⟩))
  refine (Hk.out _ m hi).mono ?_
  rintro e w1 ⟨rfl, f1⟩
  have m1 : Clk w1 g c := Blk.fr m f1 (by simp)
  obtain ⟨c0, c1, c2, c3, c4, c5, c6, c7, c8, c9, c10⟩ := cells_of m1
  have z7 := Blk.frozen m1 7
  have z8 := Blk.frozen m1 8
  have z9 := Blk.frozen m1 9
  have z10 := Blk.frozen m1 10
  go_wp2_with fail
  go_ret
  refine ⟨rfl, Fr.setCell (Fr.setCell (Fr.setCell (Fr.setCell (f1.mono (by simp)) (by simp) _) (by simp) _) (by simp) _) (by simp) _, ?_⟩
  simpa [Clk] using Blk.set_ (Blk.set_ (Blk.set_ (Blk.set_ m1 10 (.bool false)) 8 (.int .i64 0)) 9 (.int .i64 0)) 7 (.int .i64 K)

theorem due_clk (g : Nat) (c : Ck) (n : Int) (w : World) (m : Clk w g c) (hi : Inv c) : Calls Try.prog 28 #[ptr g, .int .i64 n] w fun e w' => e = .returned (.bool (dueV c n)) ∧ ∃ k, w' = w.drewN k := by
  obtain ⟨c0, c1, c2, c3, c4, c5, c6, c7, c8, c9, c10⟩ := cells_of m
  have hm := fun W (mW : Clk W g c) => may_clk g c n W mW
  have hn := fun W (mW : Clk W g c) => none_clk g c W mW hi
  obtain ⟨l1, lf, fm, m1, t1, t2, tm0, tm1, sp0, sp1, w1, w2, s0, s1, r0, r1⟩ := hi
  unfold dueV
  have Hn : Hid _ := hn
  clear hn
  cases h : mayV c n
  · rw [h] at hm
    have Hm : Hid _ := hm
    clear hm h
    go_enter Try.func28, Try.ntmps28
    go_wp2_with fail
    go_quiet (first | (go_at_call 60; exact quiet_left (Hn.out _ (Blk.drewN m _))) | (go_at_call 61; exact quiet_left (Hm.out _ (Blk.drewN m _))))
    go_wp2
    go_ret
    exact ⟨rfl, _, rfl⟩
  · have hb := may_bd h
    rw [h] at hm
    have Hm : Hid _ := hm
    clear hm h
    obtain ⟨b0, b1⟩ := hb
    cases h1 : c.rn
    · rw [h1] at c10
      clear h1
      go_enter Try.func28, Try.ntmps28
      go_wp2_with fail
      go_quiet (first | (go_at_call 60; exact quiet_left (Hn.out _ (Blk.drewN m _))) | (go_at_call 61; exact quiet_left (Hm.out _ (Blk.drewN m _))))
      go_wp2
      go_ret
      exact ⟨rfl, _, rfl⟩
    · rw [h1] at c10
      clear h1
      have e1 : IntKind.i64.wrap (n - c.si) = n - c.si := IntWalk.i64_in _ (by omega)
      go_enter Try.func28, Try.ntmps28
      go_wp2_with fail
      go_quiet (first | (go_at_call 60; exact quiet_left (Hn.out _ (Blk.drewN m _))) | (go_at_call 61; exact quiet_left (Hm.out _ (Blk.drewN m _))))
      go_wp2
      go_ret
      exact ⟨rfl, _, rfl⟩

theorem due_fr (g : Nat) (c : Ck) (n : Int) (w : World) (m : Clk w g c) (hi : Inv c) : Calls Try.prog 28 #[ptr g, .int .i64 n] w fun e w' => e = .returned (.bool (dueV c n)) ∧ Fr [] w w' :=
  (due_clk g c n w m hi).mono fun _ _ ⟨h, k, hk⟩ => ⟨h, by rw [hk]; exact (Fr.refl _ _).drewN k⟩

theorem sample_no (g : Nat) (c : Ck) (n : Int) (w : World) (m : Clk w g c) (hi : Inv c) (h : n < 0 ∨ 65536 < n) : Calls Try.prog 76 #[ptr g, .int .i64 n] w fun e w' => e = .returned (.int .i64 2) ∧ w = w' := by
  by_cases h1 : n < 0
  · go_enter Try.func76, Try.ntmps76
    go_wp2_with (first | (go_at_call 60; refine (none_clk _ _ _ m hi).mono ?_; rintro e w' ⟨rfl, rfl⟩))
    go_ret
    exact ⟨rfl, rfl⟩
  · have h2 : 65536 < n := by omega
    clear h
    go_enter Try.func76, Try.ntmps76
    go_wp2_with (first | (go_at_call 60; refine (none_clk _ _ _ m hi).mono ?_; rintro e w' ⟨rfl, rfl⟩))
    go_ret
    exact ⟨rfl, rfl⟩

theorem sample_new (g : Nat) (c : Ck) (n : Int) (w : World) (m : Clk w g c) (hi : Inv c) (h0 : 0 ≤ n) (h1 : n ≤ 65536) (his : c.is = false) :
    Calls Try.prog 76 #[ptr g, .int .i64 n] w fun e w' => e = .returned (.int .i64 0) ∧ Fr [g] w w' ∧ Clk w' g { learnV c n with wt := knowsV (learnV c n) } := by
  obtain ⟨c0, c1, c2, c3, c4, c5, c6, c7, c8, c9, c10⟩ := cells_of m
  have z4 := Blk.frozen m 4
  have z5 := Blk.frozen m 5
  have z6 := Blk.frozen m 6
  have hl := learn_inv hi h0 h1
  have hk := fun W (mW : Clk W g (learnV c n)) => knows_fr g (learnV c n) W mW hl
  have hL : learnV c n = { c with is := true, tm := 8 * n, sp := 2 * n } := by unfold learnV; simp [his]
  rw [his] at c4
  revert hk
  generalize knowsV (learnV c n) = K
  intro hk
  have Hk : Hid _ := hk
  have HL : Hid _ := hL
  clear hk hL his
  go_enter Try.func76, Try.ntmps76
  go_wp2_with (first | (go_at_call 60; refine (none_clk _ _ _ m hi).mono ?_; rintro e w' ⟨rfl, rfl⟩))
  have m1 : Clk (((w.setCell ⟨g, 4, none⟩ (.bool true)).setCell ⟨g, 5, none⟩ (.int .i64 (8 * n))).setCell ⟨g, 6, none⟩ (.int .i64 (2 * n))) g (learnV c n) := by
    rw [HL.out]
    simpa [Clk] using Blk.set_ (Blk.set_ (Blk.set_ m 4 (.bool true)) 5 (.int .i64 (8 * n))) 6 (.int .i64 (2 * n))
  have f1 : Fr [g] w (((w.setCell ⟨g, 4, none⟩ (.bool true)).setCell ⟨g, 5, none⟩ (.int .i64 (8 * n))).setCell ⟨g, 6, none⟩ (.int .i64 (2 * n))) := Fr.setCell (Fr.setCell (Fr.setCell (Fr.refl _ _) (by simp) _) (by simp) _) (by simp) _
  refine (Hk.out _ m1).mono ?_
  rintro e w1 ⟨rfl, f2⟩
  have m2 : Clk w1 g (learnV c n) := Blk.fr m1 f2 (by simp)
  have f3 := f1.trans f2 (by simp)
  have d7 := (cells_of m2).c7
  have z7 := Blk.frozen m2 7
  clear m1 f1 f2
  go_wp2_with fail
  go_ret
  refine ⟨rfl, Fr.setCell f3 (by simp) _, ?_⟩
  simpa [Clk] using Blk.set_ m2 7 (.int .i64 K)

theorem sample_old (g : Nat) (c : Ck) (n : Int) (w : World) (m : Clk w g c) (hi : Inv c) (h0 : 0 ≤ n) (h1 : n ≤ 65536) (his : c.is = true) :
    Calls Try.prog 76 #[ptr g, .int .i64 n] w fun e w' => e = .returned (.int .i64 0) ∧ Fr [g] w w' ∧ Clk w' g { learnV c n with wt := knowsV (learnV c n) } := by
  obtain ⟨c0, c1, c2, c3, c4, c5, c6, c7, c8, c9, c10⟩ := cells_of m
  have z5 := Blk.frozen m 5
  have hl := learn_inv hi h0 h1
  have hk := fun W (mW : Clk W g (learnV c n)) => knows_fr g (learnV c n) W mW hl
  have hL : learnV c n = { c with tm := c.tm + (n - c.tm / 8), sp := c.sp + (max (n - c.tm / 8) (-(n - c.tm / 8)) - c.sp / 4) } := by unfold learnV; simp [his]
  have hi' := hi
  obtain ⟨l1, lf, fm, m1, t1, t2, tm0, tm1, sp0, sp1, w1, w2, s0, s1, r0, r1⟩ := hi'
  rw [his] at c4
  revert hk
  generalize knowsV (learnV c n) = K
  intro hk
  have Hk : Hid _ := hk
  have HL : Hid _ := hL
  clear hk hL his
  go_enter Try.func76, Try.ntmps76
  go_wp2_with (first | (go_at_call 60; refine (none_clk _ _ _ m hi).mono ?_; rintro e w' ⟨rfl, rfl⟩))
  have b1 := Blk.set_ m 5 (.int .i64 (c.tm + (n - c.tm / 8)))
  have f1 : Fr [g] w (w.setCell ⟨g, 5, none⟩ (.int .i64 (c.tm + (n - c.tm / 8)))) := Fr.setCell (Fr.refl _ _) (by simp) _
  generalize w.setCell ⟨g, 5, none⟩ (.int .i64 (c.tm + (n - c.tm / 8))) = w1 at *
  have d6 : w1.cell? ⟨g, 6, none⟩ = some (.int .i64 c.sp) := by simpa using Blk.cell b1 6
  have z6 := Blk.frozen b1 6
  have x0 : IntKind.i64.wrap (n - c.tm / 8) = n - c.tm / 8 := IntWalk.i64_in _ (by omega)
  have x1 : IntKind.i64.wrap (-(n - c.tm / 8)) = -(n - c.tm / 8) := IntWalk.i64_in _ (by omega)
  have x2 : IntKind.i64.wrap (c.sp / 4) = c.sp / 4 := IntWalk.i64_in _ (by omega)
  go_region
  all_goals go_wp2_with fail
  have m1 : Clk ((w1.setCell ⟨g, 6, none⟩ (.int .i64 (c.sp + (max (n - c.tm / 8) (-(n - c.tm / 8)) - c.sp / 4)))).drew) g (learnV c n) := by
    rw [HL.out]
    exact Blk.drew (by simpa [Clk] using Blk.set_ b1 6 (.int .i64 (c.sp + (max (n - c.tm / 8) (-(n - c.tm / 8)) - c.sp / 4))))
  have f1' : Fr [g] w ((w1.setCell ⟨g, 6, none⟩ (.int .i64 (c.sp + (max (n - c.tm / 8) (-(n - c.tm / 8)) - c.sp / 4)))).drew) := (Fr.setCell f1 (by simp) _).drew
  refine (Hk.out _ m1).mono ?_
  rintro e w2 ⟨rfl, f2⟩
  have m2 : Clk w2 g (learnV c n) := Blk.fr m1 f2 (by simp)
  have f3 := f1'.trans f2 (by simp)
  have d7 := (cells_of m2).c7
  have z7 := Blk.frozen m2 7
  clear m1 f1 f2 f1' b1 d6 z6
  go_wp2_with fail
  go_ret
  refine ⟨rfl, Fr.setCell f3 (by simp) _, ?_⟩
  simpa [Clk] using Blk.set_ m2 7 (.int .i64 K)

theorem sample_clk (g : Nat) (c : Ck) (n : Int) (w : World) (m : Clk w g c) (hi : Inv c) :
    Calls Try.prog 76 #[ptr g, .int .i64 n] w fun e w' => e = .returned (.int .i64 (sampleV c n).2) ∧ Fr [g] w w' ∧ Clk w' g (sampleV c n).1 := by
  unfold sampleV
  by_cases h : n < 0 ∨ 65536 < n
  · rw [if_pos h]
    exact (sample_no g c n w m hi h).mono fun _ _ ⟨e, hw⟩ => by subst hw; exact ⟨e, Fr.refl _ _, m⟩
  · rw [if_neg h]
    cases his : c.is
    · exact sample_new g c n w m hi (by omega) (by omega) his
    · exact sample_old g c n w m hi (by omega) (by omega) his

theorem wait_clk (g : Nat) (c : Ck) (w : World) (m : Clk w g c) (hi : Inv c) : Calls Try.prog 43 #[ptr g] w fun e w' => e = .returned (.int .i64 c.wt) ∧ w = w' := by
  have c7 := (cells_of m).c7
  go_enter Try.func43, Try.ntmps43
  go_wp2_with (first | (go_at_call 60; refine (none_clk _ _ _ m hi).mono ?_; rintro e w' ⟨rfl, rfl⟩))
  go_ret
  exact ⟨rfl, rfl⟩
theorem runs_clk (g : Nat) (c : Ck) (w : World) (m : Clk w g c) (hi : Inv c) : Calls Try.prog 63 #[ptr g] w fun e w' => e = .returned (.bool c.rn) ∧ w = w' := by
  have c10 := (cells_of m).c10
  go_enter Try.func63, Try.ntmps63
  go_wp2_with (first | (go_at_call 60; refine (none_clk _ _ _ m hi).mono ?_; rintro e w' ⟨rfl, rfl⟩))
  go_ret
  exact ⟨rfl, rfl⟩
theorem copy_clk (g : Nat) (c : Ck) (w : World) (m : Clk w g c) (hi : Inv c) : Calls Try.prog 46 #[ptr g] w fun e w' => e = .returned (ptr w.heap.size) ∧ Fr [] w w' ∧ Clk w' w.heap.size c ∧ w.heap.size < w'.heap.size := by
  obtain ⟨c0, c1, c2, c3, c4, c5, c6, c7, c8, c9, c10⟩ := cells_of m
  have hl := Blk.lt m
  go_enter Try.func46, Try.ntmps46
  go_wp2_with (first | (go_at_call 60; refine (none_clk _ _ _ m hi).mono ?_; rintro e w' ⟨rfl, rfl⟩))
  go_ret
  exact ⟨rfl, (Fr.refl _ _).alloc _, Blk.new _ _ _, by simp⟩

theorem late_clk (g : Nat) (c : Ck) (n : Int) (w : World) (m : Clk w g c) (hi : Inv c) :
    Calls Try.prog 29 #[ptr g, .int .i64 n] w fun e w' => e = .returned (.tuple #[.bool (lateV c n).2.1, .int .i64 (lateV c n).2.2]) ∧ Fr [g] w w' ∧ Clk w' g (lateV c n).1 := by
  have hm := may_clk g c n w m
  have hd := due_fr g c n w m hi
  unfold lateV
  cases h : mayV c n
  · rw [if_neg (by simp)]
    rw [h] at hm
    go_enter Try.func29, Try.ntmps29
    go_wp2_with (first | (go_at_call 60; refine (none_clk _ _ _ m hi).mono ?_; rintro e w' ⟨rfl, rfl⟩) | (go_at_call 61; refine hm.mono ?_; rintro e w' ⟨rfl, rfl⟩))
    go_ret2
    exact ⟨rfl, Fr.refl _ _, m⟩
  · rw [if_pos rfl]
    rw [h] at hm
    have hb := may_bd h
    cases h2 : dueV c n
    · rw [if_neg (by simp)]
      rw [h2] at hd
      go_enter Try.func29, Try.ntmps29
      go_wp2_with (first | (go_at_call 60; refine (none_clk _ _ _ m hi).mono ?_; rintro e w' ⟨rfl, rfl⟩) | (go_at_call 61; refine hm.mono ?_; rintro e w' ⟨rfl, rfl⟩) | (go_at_call 28; refine hd.mono ?_; rintro e w1 ⟨rfl, f1⟩))
      go_ret2
      exact ⟨rfl, f1.mono (by simp), Blk.fr m f1 (by simp)⟩
    · rw [if_pos rfl]
      rw [h2] at hd
      clear h h2
      obtain ⟨b0, b1⟩ := hb
      have hi' := hi
      obtain ⟨l1, lf, fm, m1, t1, t2, tm0, tm1, sp0, sp1, w1, w2, s0, s1, r0, r1⟩ := hi'
      by_cases h3 : c.tr = c.t
      · rw [if_pos h3]
        have h4 : (c.tr == c.t) = true := by simpa using h3
        clear h3
        go_enter Try.func29, Try.ntmps29
        go_wp2_with (first | (go_at_call 60; refine (none_clk _ _ _ m hi).mono ?_; rintro e w' ⟨rfl, rfl⟩) | (go_at_call 61; refine hm.mono ?_; rintro e w' ⟨rfl, rfl⟩))
        refine hd.mono ?_
        rintro e w1 ⟨rfl, f1⟩
        have m1 : Clk w1 g c := Blk.fr m f1 (by simp)
        obtain ⟨c0, c1, c2, c3, c4, c5, c6, c7, c8, c9, c10⟩ := cells_of m1
        have z8 := Blk.frozen m1 8
        have z10 := Blk.frozen m1 10
        go_wp2_with fail
        go_region
        all_goals go_wp2_with fail
        all_goals go_ret2
        all_goals refine ⟨rfl, (Fr.setCell (Fr.setCell (f1.mono (by simp)) (by simp) _) (by simp) _).drew, ?_⟩
        all_goals exact Blk.drew (by simpa [Clk] using Blk.set_ (Blk.set_ m1 10 (.bool false)) 8 (.int .i64 0))
      · rw [if_neg h3]
        have h4 : (c.tr == c.t) = false := by simpa using h3
        clear h3
        go_enter Try.func29, Try.ntmps29
        go_wp2_with (first | (go_at_call 60; refine (none_clk _ _ _ m hi).mono ?_; rintro e w' ⟨rfl, rfl⟩) | (go_at_call 61; refine hm.mono ?_; rintro e w' ⟨rfl, rfl⟩))
        refine hd.mono ?_
        rintro e w1 ⟨rfl, f1⟩
        have m1 : Clk w1 g c := Blk.fr m f1 (by simp)
        obtain ⟨c0, c1, c2, c3, c4, c5, c6, c7, c8, c9, c10⟩ := cells_of m1
        have z7 := Blk.frozen m1 7
        have z8 := Blk.frozen m1 8
        have z9 := Blk.frozen m1 9
        have x1 : IntKind.i64.wrap (2 * c.wt) = 2 * c.wt := IntWalk.i64_in _ (by omega)
        go_wp2_with fail
        go_region
        all_goals go_wp2_with fail
        all_goals go_region
        all_goals go_wp2_with fail
        all_goals go_ret2
        all_goals refine ⟨rfl, (Fr.setCell (Fr.setCell (Fr.setCell (f1.mono (by simp)) (by simp) _) (by simp) _) (by simp) _).drew.drew, ?_⟩
        all_goals exact Blk.drew (Blk.drew (by simpa [Clk] using Blk.set_ (Blk.set_ (Blk.set_ m1 9 (.int .i64 (c.tr + 1))) 7 (.int .i64 (min (2 * c.wt) c.m))) 8 (.int .i64 n)))

theorem new_clk (f l m t : Int) (w : World) (h1 : 1 ≤ l) (h2 : l ≤ f) (h3 : f ≤ m) (h4 : m ≤ 65536) (h5 : 1 ≤ t) (h6 : t ≤ 100) :
    Calls Try.prog 37 #[.agg #[.int .i64 f, .int .i64 l, .int .i64 m, .int .i64 t]] w fun e w' => ∃ g, e = .returned (.tuple #[ptr g, .int .i64 0]) ∧ w.heap.size ≤ g ∧ Fr [] w w' ∧ Clk w' g (newV f l m t) ∧ g < w'.heap.size := by
  go_enter Try.func37, Try.ntmps37
  go_wp2_with fail
  refine wp_scope_fwd 0 rfl ?_
  go_wp2
  rw [fwd_ret]
  go_ret2
  have hB : Blk ((w.alloc (.cells #[.int .i64 f, .int .i64 l, .int .i64 m, .int .i64 t] 83)).alloc (.cells #[.int .i64 f, .int .i64 l, .int .i64 m, .int .i64 t, .bool false, .int .i64 0, .int .i64 0, .int .i64 f, .int .i64 0, .int .i64 0, .bool false] 106)) (w.heap.size + 1) 106 (newV f l m t).arr := by
    have := Blk.new (w.alloc (.cells #[.int .i64 f, .int .i64 l, .int .i64 m, .int .i64 t] 83)) 106 (newV f l m t).arr
    simpa [newV] using this
  exact ⟨w.heap.size + 1, rfl, by omega, ((Fr.refl _ _).alloc _).alloc _, hB, by simp⟩

theorem new_no (f l m t : Int) (w : World) (h : l < 1 ∨ f < l ∨ m < f ∨ 65536 < m ∨ t < 1 ∨ 100 < t) :
    Calls Try.prog 37 #[.agg #[.int .i64 f, .int .i64 l, .int .i64 m, .int .i64 t]] w fun e w' => e = .returned (.tuple #[.pointer none, .int .i64 2]) ∧ Fr [] w w' := by
  by_cases a0 : l < 1
  · go_enter Try.func37, Try.ntmps37
    go_wp2_with fail
    refine wp_scope_fwd 0 rfl ?_
    go_wp2
    apply wp_goto
    refine fwd_goto _ _ ?_
    go_wp2
    rw [Exit.noGoto_ret]
    go_ret2
    exact ⟨rfl, by repeat (first | (with_reducible exact Fr.refl _ _) | (with_reducible refine Fr.drew ?_) | (with_reducible refine Fr.alloc ?_ _) | (with_reducible refine Fr.setCell ?_ (Or.inr (by simp)) _))⟩
  by_cases a1 : f < l
  · go_enter Try.func37, Try.ntmps37
    go_wp2_with fail
    refine wp_scope_fwd 0 rfl ?_
    go_wp2
    apply wp_goto
    refine fwd_goto _ _ ?_
    go_wp2
    rw [Exit.noGoto_ret]
    go_ret2
    exact ⟨rfl, by repeat (first | (with_reducible exact Fr.refl _ _) | (with_reducible refine Fr.drew ?_) | (with_reducible refine Fr.alloc ?_ _) | (with_reducible refine Fr.setCell ?_ (Or.inr (by simp)) _))⟩
  by_cases a2 : m < f
  · go_enter Try.func37, Try.ntmps37
    go_wp2_with fail
    refine wp_scope_fwd 0 rfl ?_
    go_wp2
    apply wp_goto
    refine fwd_goto _ _ ?_
    go_wp2
    rw [Exit.noGoto_ret]
    go_ret2
    exact ⟨rfl, by repeat (first | (with_reducible exact Fr.refl _ _) | (with_reducible refine Fr.drew ?_) | (with_reducible refine Fr.alloc ?_ _) | (with_reducible refine Fr.setCell ?_ (Or.inr (by simp)) _))⟩
  by_cases a3 : 65536 < m
  · go_enter Try.func37, Try.ntmps37
    go_wp2_with fail
    refine wp_scope_fwd 0 rfl ?_
    go_wp2
    apply wp_goto
    refine fwd_goto _ _ ?_
    go_wp2
    rw [Exit.noGoto_ret]
    go_ret2
    exact ⟨rfl, by repeat (first | (with_reducible exact Fr.refl _ _) | (with_reducible refine Fr.drew ?_) | (with_reducible refine Fr.alloc ?_ _) | (with_reducible refine Fr.setCell ?_ (Or.inr (by simp)) _))⟩
  by_cases a4 : t < 1
  · go_enter Try.func37, Try.ntmps37
    go_wp2_with fail
    refine wp_scope_fwd 0 rfl ?_
    go_wp2
    apply wp_goto
    refine fwd_goto _ _ ?_
    go_wp2
    rw [Exit.noGoto_ret]
    go_ret2
    exact ⟨rfl, by repeat (first | (with_reducible exact Fr.refl _ _) | (with_reducible refine Fr.drew ?_) | (with_reducible refine Fr.alloc ?_ _) | (with_reducible refine Fr.setCell ?_ (Or.inr (by simp)) _))⟩
  have a5 : 100 < t := by omega
  clear h
  go_enter Try.func37, Try.ntmps37
  go_wp2_with fail
  refine wp_scope_fwd 0 rfl ?_
  go_wp2
  apply wp_goto
  refine fwd_goto _ _ ?_
  go_wp2
  rw [Exit.noGoto_ret]
  go_ret2
  exact ⟨rfl, by repeat (first | (with_reducible exact Fr.refl _ _) | (with_reducible refine Fr.drew ?_) | (with_reducible refine Fr.alloc ?_ _) | (with_reducible refine Fr.setCell ?_ (Or.inr (by simp)) _))⟩
end Go.Proofs.Ytmgdbbbdhkfdmaa.Rto

namespace Go.Proofs.Ytmgdbbbdhkfdmaa.Rto
set_option maxRecDepth 100000
open Go.RowKit Go.Deep

abbrev agC (c : Ck) : Value := .agg c.arr

abbrev ckz : Ck := ⟨0, 0, 0, 0, false, 0, 0, 0, 0, 0, false⟩
theorem late_nil (n : Int) (w : World) : Calls Try.prog 29 #[.pointer none, .int .i64 n] w fun e w' => e = .returned (.tuple #[.bool false, .int .i64 1]) ∧ w = w' := by
  go_enter Try.func29, Try.ntmps29
  go_wp2_with (go_at_call 60; refine (none_nil _).mono ?_; rintro e w' ⟨rfl, rfl⟩)
  go_ret2
  exact ⟨rfl, rfl⟩
theorem sample_nil (n : Int) (w : World) : Calls Try.prog 76 #[.pointer none, .int .i64 n] w fun e w' => e = .returned (.int .i64 1) ∧ w = w' := by
  go_enter Try.func76, Try.ntmps76
  go_wp2_with (go_at_call 60; refine (none_nil _).mono ?_; rintro e w' ⟨rfl, rfl⟩)
  go_ret
  exact ⟨rfl, rfl⟩
theorem start_z (g : Nat) (n : Int) (w : World) (m : Clk w g ckz) : Calls Try.prog 64 #[ptr g, .int .i64 n] w fun e w' => e = .returned (.int .i64 1) ∧ w = w' := by
  go_enter Try.func64, Try.ntmps64
  go_wp2_with (go_at_call 60; refine (none_z _ _ _ m rfl).mono ?_; rintro e w' ⟨rfl, rfl⟩)
  go_ret
  exact ⟨rfl, rfl⟩
theorem stop_nil (w : World) : Calls Try.prog 65 #[.pointer none] w fun e w' => e = .returned (.int .i64 1) ∧ w = w' := by
  go_enter Try.func65, Try.ntmps65
  go_wp2_with (go_at_call 60; refine (none_nil _).mono ?_; rintro e w' ⟨rfl, rfl⟩)
  go_ret
  exact ⟨rfl, rfl⟩
theorem wait_nil (w : World) : Calls Try.prog 43 #[.pointer none] w fun e w' => e = .returned (.int .i64 0) ∧ w = w' := by
  go_enter Try.func43, Try.ntmps43
  go_wp2_with (go_at_call 60; refine (none_nil _).mono ?_; rintro e w' ⟨rfl, rfl⟩)
  go_ret
  exact ⟨rfl, rfl⟩
theorem runs_nil (w : World) : Calls Try.prog 63 #[.pointer none] w fun e w' => e = .returned (.bool false) ∧ w = w' := by
  go_enter Try.func63, Try.ntmps63
  go_wp2_with (go_at_call 60; refine (none_nil _).mono ?_; rintro e w' ⟨rfl, rfl⟩)
  go_ret
  exact ⟨rfl, rfl⟩
theorem copy_z (g : Nat) (w : World) (m : Clk w g ckz) : Calls Try.prog 46 #[ptr g] w fun e w' => e = .returned (.pointer none) ∧ w = w' := by
  go_enter Try.func46, Try.ntmps46
  go_wp2_with (go_at_call 60; refine (none_z _ _ _ m rfl).mono ?_; rintro e w' ⟨rfl, rfl⟩)
  go_ret
  exact ⟨rfl, rfl⟩
theorem due_z (g : Nat) (n : Int) (w : World) (m : Clk w g ckz) : Calls Try.prog 28 #[ptr g, .int .i64 n] w fun e w' => e = .returned (.bool false) ∧ Fr [] w w' := by
  obtain ⟨c0, c1, c2, c3, c4, c5, c6, c7, c8, c9, c10⟩ := cells_of m
  go_enter Try.func28, Try.ntmps28
  go_wp2_with fail
  go_quiet ((go_at_call 60; exact quiet_left (none_z _ _ _ (Blk.drewN m _) rfl)))
  go_wp2
  go_ret
  exact ⟨rfl, (Fr.refl _ _).drewN _⟩
theorem same_nil_z (g : Nat) (w : World) (m : Clk w g ckz) : Calls Try.prog 49 #[.pointer none, ptr g] w fun e w' => e = .returned (.bool true) ∧ w = w' := by
  go_enter Try.func49, Try.ntmps49
  go_wp2_with (first | (go_at_call_of 60 (Value.pointer none); refine (none_nil _).mono ?_; rintro e w' ⟨rfl, rfl⟩) | (go_at_call 60; refine (none_z _ _ _ m rfl).mono ?_; rintro e w' ⟨rfl, rfl⟩))
  go_ret
  exact ⟨rfl, rfl⟩
theorem same_nil_clk (g : Nat) (x : Ck) (w : World) (m : Clk w g x) (hi : Inv x) : Calls Try.prog 49 #[.pointer none, ptr g] w fun e w' => e = .returned (.bool false) ∧ w = w' := by
  go_enter Try.func49, Try.ntmps49
  go_wp2_with (first | (go_at_call_of 60 (Value.pointer none); refine (none_nil _).mono ?_; rintro e w' ⟨rfl, rfl⟩) | (go_at_call 60; refine (none_clk _ _ _ m hi).mono ?_; rintro e w' ⟨rfl, rfl⟩))
  go_ret
  exact ⟨rfl, rfl⟩
theorem same_clk_z (g g' : Nat) (x : Ck) (w : World) (m : Clk w g x) (hi : Inv x) (m' : Clk w g' ckz) : Calls Try.prog 49 #[ptr g, ptr g'] w fun e w' => e = .returned (.bool false) ∧ w = w' := by
  go_enter Try.func49, Try.ntmps49
  go_wp2_with fail
  refine (none_clk _ _ _ m hi).mono ?_
  rintro e w' ⟨rfl, rfl⟩
  go_wp2_with fail
  refine (none_z _ _ _ m' rfl).mono ?_
  rintro e w' ⟨rfl, rfl⟩
  go_wp2_with fail
  refine (none_clk _ _ _ m hi).mono ?_
  rintro e w' ⟨rfl, rfl⟩
  go_wp2_with fail
  go_ret
  exact ⟨rfl, rfl⟩

theorem eq54 (x : Ck) (w : World) : (Op.equalIn 10000 106 (agC x) (agC x)).run Try.prog w = .ok true w := by
  have h1 : Try.prog.stoodInHeld 106 = false := by kernel_rfl
  have h2 : Try.prog.stoodInHeld 83 = false := by kernel_rfl
  simp [go_sem, h1, h2]
theorem eql54_same (x : Ck) (w : World) : (binOp .eql 106 (agC x) (agC x)).run Try.prog w = .ok (.bool true) w := by
  rw [run_eql_struct, eq54]; rfl
theorem eqg54 (op : BinOp) (x y : Operand) (xs ys : Array Value) (w : World) : (eqGuard op 106 x y (.agg xs) (.agg ys)).run Try.prog w = .ok () w := run_eqGuard_agg w op 106 x y xs ys (by kernel_rfl)

theorem same2_clk (g g' : Nat) (x : Ck) (w : World) (m : Clk w g x) (m' : Clk w g' x) (hi : Inv x) : Calls Try.prog 49 #[ptr g, ptr g'] w fun e w' => e = .returned (.bool true) ∧ Fr [] w w' := by
  obtain ⟨c0, c1, c2, c3, c4, c5, c6, c7, c8, c9, c10⟩ := cells_of m
  obtain ⟨d0, d1, d2, d3, d4, d5, d6, d7, d8, d9, d10⟩ := cells_of m'
  have e1 := eql54_same x
  have e2 := eqg54
  go_enter Try.func49, Try.ntmps49
  go_wp2_with fail
  refine (none_clk _ _ _ m hi).mono ?_
  rintro e w' ⟨rfl, rfl⟩
  go_wp2_with fail
  refine (none_clk _ _ _ m' hi).mono ?_
  rintro e w' ⟨rfl, rfl⟩
  go_wp2_with fail
  go_quiet (fail)
  go_wp2
  go_ret
  exact ⟨rfl, (Fr.refl _ _).drewN _⟩
end Go.Proofs.Ytmgdbbbdhkfdmaa.Rto
