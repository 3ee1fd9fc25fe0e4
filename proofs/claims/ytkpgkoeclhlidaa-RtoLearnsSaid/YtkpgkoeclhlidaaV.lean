/-
  The plain functions of the clock: numbers alone, no program in sight.
-/
namespace Go.Proofs.Ytkpgkoeclhlidaa

/-- A clock: its bounds, what it learned, how long it waits, since when it runs, how often it tried. -/
structure Ck where
  f : Int
  l : Int
  m : Int
  t : Int
  is : Bool
  tm : Int
  sp : Int
  wt : Int
  si : Int
  tr : Int
  rn : Bool

def knowsV (c : Ck) : Int := if c.is then max c.l (min c.m (c.tm / 8 + max 1 c.sp)) else c.f
def learnV (c : Ck) (n : Int) : Ck :=
  if c.is then { c with tm := c.tm + (n - c.tm / 8), sp := c.sp + (max (n - c.tm / 8) (-(n - c.tm / 8)) - c.sp / 4) } else { c with is := true, tm := 8 * n, sp := 2 * n }
def sampleV (c : Ck) (n : Int) : Ck × Int :=
  if n < 0 ∨ 65536 < n then (c, 2) else ({ learnV c n with wt := knowsV (learnV c n) }, 0)
def mayV (c : Ck) (n : Int) : Bool := decide (0 ≤ n) && decide (n ≤ 2147483647) && (!c.rn || decide (c.si ≤ n))
def startV (c : Ck) (n : Int) : Ck × Int := if mayV c n then ({ c with rn := true, si := n, tr := 0 }, 0) else (c, 2)
def stopV (c : Ck) : Ck := { c with rn := false, si := 0, tr := 0, wt := knowsV c }
def dueV (c : Ck) (n : Int) : Bool := mayV c n && (c.rn && decide (c.wt ≤ n - c.si))
def lateV (c : Ck) (n : Int) : Ck × Bool × Int :=
  if mayV c n then
    if dueV c n then
      if c.tr = c.t then ({ c with rn := false, si := 0 }, false, 0) else ({ c with tr := c.tr + 1, wt := min (2 * c.wt) c.m, si := n }, true, 0)
    else (c, false, 240)
  else (c, false, 2)

/-- The bounds may be, and all numbers are small. -/
structure Inv (c : Ck) : Prop where
  l1 : 1 ≤ c.l
  lf : c.l ≤ c.f
  fm : c.f ≤ c.m
  m1 : c.m ≤ 65536
  t1 : 1 ≤ c.t
  t2 : c.t ≤ 100
  tm0 : 0 ≤ c.tm
  tm1 : c.tm ≤ 524304
  sp0 : 0 ≤ c.sp
  sp1 : c.sp ≤ 262160
  w1 : c.l ≤ c.wt
  w2 : c.wt ≤ c.m
  s0 : 0 ≤ c.si
  s1 : c.si ≤ 2147483647
  r0 : 0 ≤ c.tr
  r1 : c.tr ≤ c.t

theorem knows_bd {c : Ck} (h : Inv c) : c.l ≤ knowsV c ∧ knowsV c ≤ c.m := by
  obtain ⟨l1, lf, fm, m1, t1, t2, tm0, tm1, sp0, sp1, w1, w2, s0, s1, r0, r1⟩ := h
  unfold knowsV
  split <;> omega

theorem learn_inv {c : Ck} (h : Inv c) {n : Int} (h0 : 0 ≤ n) (h1 : n ≤ 65536) : Inv (learnV c n) := by
  obtain ⟨l1, lf, fm, m1, t1, t2, tm0, tm1, sp0, sp1, w1, w2, s0, s1, r0, r1⟩ := h
  unfold learnV
  split <;> constructor <;> dsimp only <;> omega

theorem sample_inv {c : Ck} (h : Inv c) (n : Int) : Inv (sampleV c n).1 := by
  unfold sampleV
  split
  · exact h
  · have hl := learn_inv h (n := n) (by omega) (by omega)
    have hk := knows_bd hl
    obtain ⟨l1, lf, fm, m1, t1, t2, tm0, tm1, sp0, sp1, w1, w2, s0, s1, r0, r1⟩ := hl
    constructor <;> dsimp only <;> omega

theorem stop_inv {c : Ck} (h : Inv c) : Inv (stopV c) := by
  have hk := knows_bd h
  obtain ⟨l1, lf, fm, m1, t1, t2, tm0, tm1, sp0, sp1, w1, w2, s0, s1, r0, r1⟩ := h
  unfold stopV
  constructor <;> dsimp only <;> omega

theorem may_bd {c : Ck} {n : Int} (h : mayV c n = true) : 0 ≤ n ∧ n ≤ 2147483647 := by
  unfold mayV at h
  simp at h
  omega

theorem start_inv {c : Ck} (h : Inv c) (n : Int) : Inv (startV c n).1 := by
  unfold startV
  split
  · rename_i hm
    have := may_bd hm
    obtain ⟨l1, lf, fm, m1, t1, t2, tm0, tm1, sp0, sp1, w1, w2, s0, s1, r0, r1⟩ := h
    constructor <;> dsimp only <;> omega
  · exact h

theorem late_inv {c : Ck} (h : Inv c) (n : Int) : Inv (lateV c n).1 := by
  unfold lateV
  split
  · rename_i hm
    have := may_bd hm
    split
    · split
      · obtain ⟨l1, lf, fm, m1, t1, t2, tm0, tm1, sp0, sp1, w1, w2, s0, s1, r0, r1⟩ := h
        constructor <;> dsimp only <;> omega
      · obtain ⟨l1, lf, fm, m1, t1, t2, tm0, tm1, sp0, sp1, w1, w2, s0, s1, r0, r1⟩ := h
        constructor <;> dsimp only <;> omega
    · exact h
  · exact h

def nearN (c : Ck) (n : Int) (near : Bool) : Int := if near = true ∧ -100 ≤ n ∧ n ≤ 100 then n + c.si + c.wt else n
def doesV (c : Ck) (k n : Int) (near : Bool) : Ck :=
  if k = 1 then (sampleV c n).1 else if k = 2 then (startV c (nearN c n near)).1 else if k = 3 then stopV c else if k = 4 then (lateV c (nearN c n near)).1 else c
theorem does_inv {c : Ck} (h : Inv c) (k n : Int) (near : Bool) : Inv (doesV c k n near) := by
  unfold doesV
  split
  · exact sample_inv h n
  split
  · exact start_inv h _
  split
  · exact stop_inv h
  split
  · exact late_inv h _
  exact h
theorem does_same (c : Ck) (k n : Int) (near : Bool) : (doesV c k n near).f = c.f ∧ (doesV c k n near).l = c.l ∧ (doesV c k n near).m = c.m ∧ (doesV c k n near).t = c.t := by
  unfold doesV sampleV startV stopV lateV learnV
  (repeat' split) <;> exact ⟨rfl, rfl, rfl, rfl⟩

def newV (f l m t : Int) : Ck := ⟨f, l, m, t, false, 0, 0, f, 0, 0, false⟩
theorem new_inv {f l m t : Int} (h1 : 1 ≤ l) (h2 : l ≤ f) (h3 : f ≤ m) (h4 : m ≤ 65536) (h5 : 1 ≤ t) (h6 : t ≤ 100) : Inv (newV f l m t) := by
  unfold newV
  constructor <;> dsimp only <;> omega
end Go.Proofs.Ytkpgkoeclhlidaa
