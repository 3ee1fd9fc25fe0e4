import Derived.Test.YtmgdbbbdhkfdmaaZ1
import Derived.Test.YtmgdbbbdhkfdmaaProg
import Derived.Deep.DeepCutAuto
set_option linter.unusedSimpArgs false
set_option linter.unusedVariables false
namespace Go.Proofs.Ytmgdbbbdhkfdmaa.Win
set_option maxRecDepth 100000
open Go.RowKit

theorem makeFunc_run (fn : Fn) (first cap : Array Value) (w : World) : (Instr.makeFunc fn first cap).run Try.prog w = .ok (.func fn first cap) w := rfl
abbrev ptr (g : Nat) : Value := .pointer (some ⟨g, 0, none⟩)

/-- The places of a window. -/
structure Wn where
  a : Int
  s : Int
  m : Int
  l : Int
def Wn.cells (x : Wn) : Array Value := #[.int .i64 x.a, .int .i64 x.s, .int .i64 x.m, .int .i64 x.l]
def Win (w : World) (g : Nat) (x : Wn) (h : Bool) : Prop := Blk w g 111 #[.int .i64 x.a, .int .i64 x.s, .int .i64 x.m, .int .i64 x.l, .bool h]

section
variable {w : World} {g : Nat} {x : Wn} {h : Bool} (m : Win w g x h)
include m
theorem Win.c0 : w.cell? ⟨g, 0, none⟩ = some (.int .i64 x.a) := by simpa using Blk.cell m 0
theorem Win.c1 : w.cell? ⟨g, 1, none⟩ = some (.int .i64 x.s) := by simpa using Blk.cell m 1
theorem Win.c2 : w.cell? ⟨g, 2, none⟩ = some (.int .i64 x.m) := by simpa using Blk.cell m 2
theorem Win.c3 : w.cell? ⟨g, 3, none⟩ = some (.int .i64 x.l) := by simpa using Blk.cell m 3
theorem Win.c4 : w.cell? ⟨g, 4, none⟩ = some (.bool h) := by simpa using Blk.cell m 4
theorem Win.fz (i : Nat) : w.frozen? ⟨g, i, none⟩ = false := Blk.frozen m i
end

theorem raise_one (g j v : Nat) (p n : Int) (cs : Array Value) (w : World) (hB : Blk w g 111 cs) (hp : cs[j]? = some (.int .i64 p)) (hv : w.cell? ⟨v, 0, none⟩ = some (.pointer (some ⟨g, j, none⟩))) :
    Calls Try.prog 92 #[.int .i64 n, .pointer (some ⟨v, 0, none⟩)] w fun e w' => e = .returned (.tuple #[]) ∧ Fr [g] w w' ∧ Blk w' g 111 (cs.setIfInBounds j (.int .i64 (max p n))) := by
  have hc : w.cell? ⟨g, j, none⟩ = some (.int .i64 p) := by rw [← hp]; exact Blk.cell hB j
  have hf : w.frozen? ⟨g, j, none⟩ = false := Blk.frozen hB j
  go_enter Try.func92, Try.ntmps92
  go_wp2_with fail
  go_region
  all_goals go_wp2
  all_goals go_end0
  all_goals exact ⟨rfl, Fr.setCell (Fr.refl _ _).drew (by simp) _, Blk.set_ (Blk.drew hB) j _⟩

theorem rise_one (g j b : Nat) (p n : Int) (cs : Array Value) (w : World) (hB : Blk w g 111 cs) (hp : cs[j]? = some (.int .i64 p)) (hb : w.cell? ⟨b, 0, none⟩ = some (.int .i64 n)) :
    Calls Try.prog 80 #[.pointer (some ⟨g, j, none⟩), .slice (some ⟨b, 0, none⟩) 1 1] w fun e w' => e = .returned (.tuple #[]) ∧ Fr [g] w w' ∧ Blk w' g 111 (cs.setIfInBounds j (.int .i64 (max p n))) := by
  have hmf := makeFunc_run
  have hc : w.cell? ⟨g, j, none⟩ = some (.int .i64 p) := by rw [← hp]; exact Blk.cell hB j
  have hf : w.frozen? ⟨g, j, none⟩ = false := Blk.frozen hB j
  have hlt := hB.lt
  go_enter Try.func80, Try.ntmps80
  have hbl : b < w.heap.size := World.block_lt_of_cell? w _ hb
  go_wp2_with fail
  refine wp_loop_rounds 2 ?_
  rw [rounds_succ]
  go_wp2_with fail
  have hA : Blk (w.alloc (.cells #[.pointer (some ⟨g, j, none⟩)] 113)) g 111 cs := Blk.alloc hB _
  refine (raise_one g j _ p n cs _ hA hp (by simp [go_sem])).mono ?_
  rintro e w1 ⟨rfl, f1, b1⟩
  have f2 : Fr [g] w w1 := ((Fr.refl _ _).alloc _).trans f1 (by simp)
  go_wp2_with fail
  rw [rounds_succ]
  go_wp2_with fail
  go_end0
  exact ⟨rfl, f2, b1⟩

def roomV (x : Wn) : Int := max 0 (x.l - x.s)
def takeV (x : Wn) (n : Int) : Wn × Int × Int := if n < 0 then (x, 0, 2) else if roomV x < n then (x, 0, 231) else (⟨x.a, x.s + n, max x.m (x.s + n), x.l⟩, x.s, 0)
def ackV (x : Wn) (u r : Int) : Wn × Int × Int := if u < 0 ∨ r < 0 ∨ 65535 < r then (x, 0, 2) else if x.m < u then (x, 0, 230) else if u < x.a then (x, 0, 0) else (⟨max x.a u, max x.s u, x.m, max x.l (u + r)⟩, u - x.a, 0)
def backV (x : Wn) : Wn := ⟨x.a, x.a, x.m, x.l⟩
def zeroV (x : Wn) : Bool := x.l == x.a && x.m == x.a
def probeV (x : Wn) : Wn × Int × Int := if zeroV x then (⟨x.a, x.s, max x.m (x.a + 1), x.l⟩, x.a, 0) else (x, 0, 231)

/-- In order, and small. -/
def Inv (B : Int) (x : Wn) : Prop := 0 ≤ x.a ∧ x.a ≤ x.s ∧ x.s ≤ x.m ∧ x.m ≤ x.l + 1 ∧ x.l ≤ B

theorem none_win (g : Nat) (x : Wn) (h : Bool) (w : World) (m : Win w g x h) : Calls Try.prog 67 #[ptr g] w fun e w' => e = .returned (.bool (!h)) ∧ w = w' := by
  have c4 := m.c4
  go_enter Try.func67, Try.ntmps67
  go_wp2
  go_ret
  exact ⟨rfl, rfl⟩

theorem room_win (g : Nat) (x : Wn) (w : World) (B : Int) (hB : B ≤ 1000000000) (hi : Inv B x) (m : Win w g x true) : Calls Try.prog 58 #[ptr g] w fun e w' => e = .returned (.int .i64 (roomV x)) ∧ ∃ k, w' = w.drewN k := by
  obtain ⟨i0, i1, i2, i3, i4⟩ := hi
  have c4 := m.c4
  have c1 := m.c1
  have c3 := m.c3
  unfold roomV
  go_enter Try.func58, Try.ntmps58
  go_wp2_with (go_at_call 67; refine (none_win _ _ _ _ m).mono ?_; rintro e w' ⟨rfl, rfl⟩)
  go_quiet (fail)
  go_wp2
  go_ret
  exact ⟨rfl, _, rfl⟩

theorem zero_win (g : Nat) (x : Wn) (w : World) (m : Win w g x true) : Calls Try.prog 81 #[ptr g] w fun e w' => e = .returned (.bool (zeroV x)) ∧ ∃ k, w' = w.drewN k := by
  have c4 := m.c4
  have c0 := m.c0
  have c2 := m.c2
  have c3 := m.c3
  by_cases h1 : x.l = x.a
  · by_cases h2 : x.m = x.a
    · have e : zeroV x = true := by simp [zeroV, h1, h2]
      have d1 : (x.l == x.a) = true := by simp [h1]
      have d2 : (x.m == x.a) = true := by simp [h2]
      rw [e]
      clear h1 h2 e
      go_enter Try.func81, Try.ntmps81
      go_wp2_with fail
      go_quiet ((go_at_call 67; exact quiet_left (none_win _ _ _ _ (Blk.drewN m _))))
      go_wp2
      go_ret
      exact ⟨rfl, _, rfl⟩
    · have e : zeroV x = false := by simp [zeroV, h1, h2]
      have d1 : (x.l == x.a) = true := by simp [h1]
      have d2 : (x.m == x.a) = false := by simp [h2]
      rw [e]
      clear h1 h2 e
      go_enter Try.func81, Try.ntmps81
      go_wp2_with fail
      go_quiet ((go_at_call 67; exact quiet_left (none_win _ _ _ _ (Blk.drewN m _))))
      go_wp2
      go_ret
      exact ⟨rfl, _, rfl⟩
  · have e : zeroV x = false := by simp [zeroV, h1]
    have d1 : (x.l == x.a) = false := by simp [h1]
    rw [e]
    clear h1 e
    go_enter Try.func81, Try.ntmps81
    go_wp2_with fail
    go_quiet ((go_at_call 67; exact quiet_left (none_win _ _ _ _ (Blk.drewN m _))))
    go_wp2
    go_ret
    exact ⟨rfl, _, rfl⟩

theorem Inv.bd {B : Int} {x : Wn} (h : Inv B x) : 0 ≤ x.a ∧ x.a ≤ x.s ∧ x.s ≤ x.m ∧ x.m ≤ x.l + 1 ∧ x.l ≤ B := h

theorem room_fr (g : Nat) (x : Wn) (w : World) (B : Int) (hB : B ≤ 1000000000) (hi : Inv B x) (m : Win w g x true) : Calls Try.prog 58 #[ptr g] w fun e w' => e = .returned (.int .i64 (roomV x)) ∧ Fr [] w w' :=
  (room_win g x w B hB hi m).mono fun _ _ ⟨h, k, hk⟩ => ⟨h, by rw [hk]; exact (Fr.refl _ _).drewN k⟩
theorem zero_fr (g : Nat) (x : Wn) (w : World) (m : Win w g x true) : Calls Try.prog 81 #[ptr g] w fun e w' => e = .returned (.bool (zeroV x)) ∧ Fr [] w w' :=
  (zero_win g x w m).mono fun _ _ ⟨h, k, hk⟩ => ⟨h, by rw [hk]; exact (Fr.refl _ _).drewN k⟩

theorem take_win (g : Nat) (x : Wn) (n : Int) (w : World) (B : Int) (hB : B ≤ 1000000000) (hi : Inv B x) (m : Win w g x true) :
    Calls Try.prog 59 #[ptr g, .int .i64 n] w fun e w' => e = .returned (.tuple #[.int .i64 (takeV x n).2.1, .int .i64 (takeV x n).2.2]) ∧ Fr [g] w w' ∧ Win w' g (takeV x n).1 true := by
  have hi' := hi
  obtain ⟨i0, i1, i2, i3, i4⟩ := hi
  unfold takeV
  by_cases h1 : n < 0
  · rw [if_pos h1]
    go_enter Try.func59, Try.ntmps59
    go_wp2_with fail
    refine wp_scope_fwd 0 rfl ?_
    go_wp2_with (go_at_call 67; refine (none_win _ _ _ _ m).mono ?_; rintro e w' ⟨rfl, rfl⟩)
    apply wp_goto
    refine fwd_goto _ _ ?_
    go_wp2
    rw [Exit.noGoto_ret]
    go_ret2
    exact ⟨rfl, Fr.refl _ _, m⟩
  · rw [if_neg h1]
    by_cases h2 : roomV x < n
    · rw [if_pos h2]
      go_enter Try.func59, Try.ntmps59
      go_wp2_with fail
      refine wp_scope_fwd 0 rfl ?_
      go_wp2_with (go_at_call 67; refine (none_win _ _ _ _ m).mono ?_; rintro e w' ⟨rfl, rfl⟩)
      refine (room_fr _ _ _ B hB hi' m).mono ?_
      rintro e w1 ⟨rfl, f1⟩
      go_wp2_with fail
      apply wp_goto
      refine fwd_goto _ _ ?_
      go_wp2
      rw [Exit.noGoto_ret]
      go_ret2
      exact ⟨rfl, f1.mono (by simp), Blk.fr m f1 (by simp)⟩
    · rw [if_neg h2]
      have hroom : x.s + n ≤ max x.s x.l := by unfold roomV at h2; omega
      go_enter Try.func59, Try.ntmps59
      go_wp2_with fail
      refine wp_scope_fwd 0 rfl ?_
      go_wp2_with (go_at_call 67; refine (none_win _ _ _ _ m).mono ?_; rintro e w' ⟨rfl, rfl⟩)
      refine (room_fr _ _ _ B hB hi' m).mono ?_
      rintro e w1 ⟨rfl, f1⟩
      have m1 : Win w1 g x true := Blk.fr m f1 (by simp)
      have c1 := m1.c1
      have z1 := m1.fz 1
      go_wp2_with fail
      have m2 : Blk (w1.setCell ⟨g, 1, none⟩ (.int .i64 (x.s + n))) g 111 _ := Blk.set_ m1 1 (.int .i64 (x.s + n))
      have f2 : Fr [g] w (w1.setCell ⟨g, 1, none⟩ (.int .i64 (x.s + n))) := Fr.setCell (f1.mono (by simp)) (by simp) _
      generalize w1.setCell ⟨g, 1, none⟩ (.int .i64 (x.s + n)) = w2 at *
      have hs2 : w2.cell? ⟨g, 1, none⟩ = some (.int .i64 (x.s + n)) := by have := Blk.cell m2 1; simpa using this
      go_region_held3 (fun w' => w'.cell? ⟨g, 1, none⟩ = some (.int .i64 (x.s + n))) (go_keep) (first | (go_at_call 80; refine (rise_one g 2 _ x.m (x.s + n) _ _ (by exact Blk.alloc (Blk.drew m2) _) rfl ?_).mono ?_; (simp [go_sem]); rintro e w3 ⟨rfl, f3, m3⟩; have c13 : w3.cell? ⟨g, 1, none⟩ = some (.int .i64 (x.s + n)) := (by have := Blk.cell m3 1; simpa using this)))
      have f4 : Fr [g] w w3 := ((f2.drew).alloc _).trans f3 (by simp)
      have m4 : Win w3 g ⟨x.a, x.s + n, max x.m (x.s + n), x.l⟩ true := (by simpa [Win] using m3)
      go_wp2
      rw [fwd_ret]
      go_ret2
      exact ⟨rfl, f4, m4⟩

theorem ack_no1 (g : Nat) (x : Wn) (u r : Int) (w : World) (m : Win w g x true) (h : u < 0 ∨ r < 0 ∨ 65535 < r) :
    Calls Try.prog 74 #[ptr g, .int .i64 u, .int .i64 r] w fun e w' => e = .returned (.tuple #[.int .i64 0, .int .i64 2]) ∧ w = w' := by
  by_cases a : u < 0
  · go_enter Try.func74, Try.ntmps74
    go_wp2_with fail
    refine wp_scope_fwd 0 rfl ?_
    go_wp2_with (go_at_call 67; refine (none_win _ _ _ _ m).mono ?_; rintro e w' ⟨rfl, rfl⟩)
    apply wp_goto
    refine fwd_goto _ _ ?_
    go_wp2
    rw [Exit.noGoto_ret]
    go_ret2
    exact ⟨rfl, rfl⟩
  by_cases b : r < 0
  · go_enter Try.func74, Try.ntmps74
    go_wp2_with fail
    refine wp_scope_fwd 0 rfl ?_
    go_wp2_with (go_at_call 67; refine (none_win _ _ _ _ m).mono ?_; rintro e w' ⟨rfl, rfl⟩)
    apply wp_goto
    refine fwd_goto _ _ ?_
    go_wp2
    rw [Exit.noGoto_ret]
    go_ret2
    exact ⟨rfl, rfl⟩
  have c : 65535 < r := by omega
  clear h
  go_enter Try.func74, Try.ntmps74
  go_wp2_with fail
  refine wp_scope_fwd 0 rfl ?_
  go_wp2_with (go_at_call 67; refine (none_win _ _ _ _ m).mono ?_; rintro e w' ⟨rfl, rfl⟩)
  apply wp_goto
  refine fwd_goto _ _ ?_
  go_wp2
  rw [Exit.noGoto_ret]
  go_ret2
  exact ⟨rfl, rfl⟩

theorem ack_no2 (g : Nat) (x : Wn) (u r : Int) (w : World) (m : Win w g x true) (h0 : 0 ≤ u) (h1 : 0 ≤ r) (h2 : r ≤ 65535) (h : x.m < u) :
    Calls Try.prog 74 #[ptr g, .int .i64 u, .int .i64 r] w fun e w' => e = .returned (.tuple #[.int .i64 0, .int .i64 230]) ∧ w = w' := by
  have c2 := m.c2
  go_enter Try.func74, Try.ntmps74
  go_wp2_with fail
  refine wp_scope_fwd 0 rfl ?_
  go_wp2_with (go_at_call 67; refine (none_win _ _ _ _ m).mono ?_; rintro e w' ⟨rfl, rfl⟩)
  apply wp_goto
  refine fwd_goto _ _ ?_
  go_wp2
  rw [Exit.noGoto_ret]
  go_ret2
  exact ⟨rfl, rfl⟩

theorem ack_old (g : Nat) (x : Wn) (u r : Int) (w : World) (m : Win w g x true) (h0 : 0 ≤ u) (h1 : 0 ≤ r) (h2 : r ≤ 65535) (h : u ≤ x.m) (h' : u < x.a) :
    Calls Try.prog 74 #[ptr g, .int .i64 u, .int .i64 r] w fun e w' => e = .returned (.tuple #[.int .i64 0, .int .i64 0]) ∧ w = w' := by
  have c2 := m.c2
  have c0 := m.c0
  have hh : ¬ x.m < u := by omega
  go_enter Try.func74, Try.ntmps74
  go_wp2_with fail
  refine wp_scope_fwd 0 rfl ?_
  go_wp2_with (go_at_call 67; refine (none_win _ _ _ _ m).mono ?_; rintro e w' ⟨rfl, rfl⟩)
  try rw [fwd_ret]
  go_ret2
  exact ⟨rfl, rfl⟩

set_option maxHeartbeats 1000000 in
theorem ack_yes (g : Nat) (x : Wn) (u r : Int) (w : World) (m : Win w g x true) (h0 : 0 ≤ u) (h1 : 0 ≤ r) (h2 : r ≤ 65535) (h : u ≤ x.m) (h' : x.a ≤ u) (ha : 0 ≤ x.a) (hm : x.m ≤ 1000000001) :
    Calls Try.prog 74 #[ptr g, .int .i64 u, .int .i64 r] w fun e w' => e = .returned (.tuple #[.int .i64 (u - x.a), .int .i64 0]) ∧ Fr [g] w w' ∧ Win w' g ⟨max x.a u, max x.s u, x.m, max x.l (u + r)⟩ true := by
  have c2 := m.c2
  have c0 := m.c0
  have hh : ¬ x.m < u := by omega
  have hh' : ¬ u < x.a := by omega
  go_enter Try.func74, Try.ntmps74
  go_wp2_with fail
  refine wp_scope_fwd 0 rfl ?_
  go_wp2_with (go_at_call 67; refine (none_win _ _ _ _ m).mono ?_; rintro e w' ⟨rfl, rfl⟩)
  refine (rise_one g 0 _ x.a u _ _ (Blk.alloc m _) rfl (by simp [go_sem])).mono ?_
  rintro e w1 ⟨rfl, f1, m1⟩
  have g1 : Fr [g] w w1 := ((Fr.refl _ _).alloc _).trans f1 (by simp)
  go_wp2_with fail
  refine (rise_one g 1 _ x.s u _ _ (Blk.alloc m1 _) rfl (by simp [go_sem])).mono ?_
  rintro e w2 ⟨rfl, f2, m2⟩
  have g2 : Fr [g] w w2 := (g1.alloc _).trans f2 (by simp)
  go_wp2_with fail
  refine (rise_one g 3 _ x.l (u + r) _ _ (Blk.alloc m2 _) rfl (by simp [go_sem])).mono ?_
  rintro e w3 ⟨rfl, f3, m3⟩
  have g3 : Fr [g] w w3 := (g2.alloc _).trans f3 (by simp)
  go_wp2_with fail
  try rw [fwd_ret]
  go_ret2
  exact ⟨rfl, g3, by simpa [Win] using m3⟩

theorem ack_win (g : Nat) (x : Wn) (u r : Int) (w : World) (B : Int) (hB : B ≤ 1000000000) (hi : Inv B x) (m : Win w g x true) :
    Calls Try.prog 74 #[ptr g, .int .i64 u, .int .i64 r] w fun e w' => e = .returned (.tuple #[.int .i64 (ackV x u r).2.1, .int .i64 (ackV x u r).2.2]) ∧ Fr [g] w w' ∧ Win w' g (ackV x u r).1 true := by
  obtain ⟨i0, i1, i2, i3, i4⟩ := hi
  unfold ackV
  by_cases h1 : u < 0 ∨ r < 0 ∨ 65535 < r
  · rw [if_pos h1]
    exact (ack_no1 g x u r w m h1).mono fun _ _ ⟨e, hw⟩ => by subst hw; exact ⟨e, Fr.refl _ _, m⟩
  · rw [if_neg h1]
    by_cases h2 : x.m < u
    · rw [if_pos h2]
      exact (ack_no2 g x u r w m (by omega) (by omega) (by omega) h2).mono fun _ _ ⟨e, hw⟩ => by subst hw; exact ⟨e, Fr.refl _ _, m⟩
    · rw [if_neg h2]
      by_cases h3 : u < x.a
      · rw [if_pos h3]
        exact (ack_old g x u r w m (by omega) (by omega) (by omega) (by omega) h3).mono fun _ _ ⟨e, hw⟩ => by subst hw; exact ⟨e, Fr.refl _ _, m⟩
      · rw [if_neg h3]
        exact ack_yes g x u r w m (by omega) (by omega) (by omega) (by omega) (by omega) (by omega) (by omega)

theorem probe_win (g : Nat) (x : Wn) (w : World) (B : Int) (hB : B ≤ 1000000000) (hi : Inv B x) (m : Win w g x true) :
    Calls Try.prog 66 #[ptr g] w fun e w' => e = .returned (.tuple #[.int .i64 (probeV x).2.1, .int .i64 (probeV x).2.2]) ∧ Fr [g] w w' ∧ Win w' g (probeV x).1 true := by
  obtain ⟨i0, i1, i2, i3, i4⟩ := hi
  have hz := zero_fr g x w m
  unfold probeV
  cases hzv : zeroV x
  · rw [if_neg (by simp)]
    rw [hzv] at hz
    go_enter Try.func66, Try.ntmps66
    go_wp2_with (first | (go_at_call 67; refine (none_win _ _ _ _ m).mono ?_; rintro e w' ⟨rfl, rfl⟩) | (go_at_call 81; refine hz.mono ?_; rintro e w1 ⟨rfl, f1⟩))
    go_ret2
    exact ⟨rfl, f1.mono (by simp), Blk.fr m f1 (by simp)⟩
  · rw [if_pos rfl]
    rw [hzv] at hz
    go_enter Try.func66, Try.ntmps66
    go_wp2_with (first | (go_at_call 67; refine (none_win _ _ _ _ m).mono ?_; rintro e w' ⟨rfl, rfl⟩) | (go_at_call 81; refine hz.mono ?_; rintro e w1 ⟨rfl, f1⟩))
    have m1 : Win w1 g x true := Blk.fr m f1 (by simp)
    have c0 := m1.c0
    go_wp2_with fail
    have e1 : IntKind.i64.wrap (x.a + 1) = x.a + 1 := IntWalk.i64_in _ (by omega)
    go_region_held3 (fun w' => w'.cell? ⟨g, 0, none⟩ = some (.int .i64 x.a)) (go_keep) (first | (go_at_call 80; refine (rise_one g 2 _ x.m (x.a + 1) _ _ (by exact Blk.alloc (Blk.drew m1) _) rfl ?_).mono ?_; (simp [go_sem]); rintro e w3 ⟨rfl, f3, m3⟩; have c13 : w3.cell? ⟨g, 0, none⟩ = some (.int .i64 x.a) := (by have := Blk.cell m3 0; simpa using this)))
    have f4 : Fr [g] w w3 := (((f1.mono (by simp)).drew).alloc _).trans f3 (by simp)
    have m4 : Win w3 g ⟨x.a, x.s, max x.m (x.a + 1), x.l⟩ true := (by simpa [Win] using m3)
    go_wp2
    go_ret2
    exact ⟨rfl, f4, m4⟩

theorem state_win (g : Nat) (x : Wn) (w : World) (m : Win w g x true) :
    Calls Try.prog 34 #[ptr g] w fun e w' => e = .returned (.agg #[.int .i64 x.a, .int .i64 x.s, .int .i64 x.m, .int .i64 x.l]) ∧ Fr [] w w' := by
  have c4 := m.c4
  have c0 := m.c0
  have c1 := m.c1
  have c2 := m.c2
  have c3 := m.c3
  have hl := Blk.lt m
  go_enter Try.func34, Try.ntmps34
  go_wp2_with fail
  refine (none_win _ _ _ _ (Blk.alloc m _)).mono ?_
  rintro e w1 ⟨rfl, rfl⟩
  go_wp2_with fail
  go_returns
  exact ⟨rfl, by repeat (first | exact Fr.refl _ _ | apply Fr.drew | apply Fr.alloc | refine Fr.setCell ?_ (Or.inr (by simp)) _)⟩

theorem copy_win (g : Nat) (x : Wn) (w : World) (m : Win w g x true) :
    Calls Try.prog 45 #[ptr g] w fun e w' => e = .returned (ptr w.heap.size) ∧ Fr [] w w' ∧ Win w' w.heap.size x true ∧ w.heap.size < w'.heap.size := by
  have c4 := m.c4
  have c0 := m.c0
  have c1 := m.c1
  have c2 := m.c2
  have c3 := m.c3
  have hl := Blk.lt m
  go_enter Try.func45, Try.ntmps45
  go_wp2_with fail
  refine (none_win _ _ _ _ m).mono ?_
  rintro e w1 ⟨rfl, rfl⟩
  go_wp2_with fail
  go_ret
  exact ⟨rfl, (Fr.refl _ _).alloc _, Blk.new _ _ _, by simp⟩
end Go.Proofs.Ytmgdbbbdhkfdmaa.Win

namespace Go.Proofs.Ytmgdbbbdhkfdmaa.Win
set_option maxRecDepth 100000
open Go.RowKit Go.Deep

abbrev agW (x : Wn) : Value := .agg #[.int .i64 x.a, .int .i64 x.s, .int .i64 x.m, .int .i64 x.l]

theorem eq33 (x y : Wn) (w : World) : (Op.equalIn 10000 32 (agW x) (agW y)).run Try.prog w = .ok (x.a == y.a && (x.s == y.s && (x.m == y.m && x.l == y.l))) w := by
  have h1 : Try.prog.stoodInHeld 32 = false := by kernel_rfl
  by_cases h : x.a = y.a <;> by_cases h' : x.s = y.s <;> by_cases h'' : x.m = y.m <;> by_cases h3 : x.l = y.l <;> simp [go_sem, h1, h, h', h'', h3]
theorem neq33 (x y : Wn) (w : World) : (binOp .neq 32 (agW x) (agW y)).run Try.prog w = .ok (.bool (!(x.a == y.a && (x.s == y.s && (x.m == y.m && x.l == y.l))))) w := by
  rw [run_neq_struct, eq33]; rfl
theorem eql33 (x y : Wn) (w : World) : (binOp .eql 32 (agW x) (agW y)).run Try.prog w = .ok (.bool (x.a == y.a && (x.s == y.s && (x.m == y.m && x.l == y.l)))) w := by
  rw [run_eql_struct, eq33]; rfl
theorem neq33_same (x : Wn) (w : World) : (binOp .neq 32 (agW x) (agW x)).run Try.prog w = .ok (.bool false) w := by
  rw [neq33]; simp
theorem eqg33 (op : BinOp) (x y : Operand) (xs ys : Array Value) (w : World) : (eqGuard op 32 x y (.agg xs) (.agg ys)).run Try.prog w = .ok () w := run_eqGuard_agg w op 32 x y xs ys (by kernel_rfl)

def offerV (most held : Int) : Int × Int := if most < 0 ∨ 65535 < most ∨ held < 0 ∨ most < held then (0, 2) else if most - held < 64 ∧ 2 * (most - held) < most then (0, 0) else (most - held, 0)

theorem offer_any (most held : Int) (w : World) : Calls Try.prog 68 #[.int .i64 most, .int .i64 held] w fun e w' => e = .returned (.tuple #[.int .i64 (offerV most held).1, .int .i64 (offerV most held).2]) ∧ w = w' := by
  unfold offerV
  by_cases h1 : most < 0
  · rw [if_pos (by omega)]
    go_enter Try.func68, Try.ntmps68
    go_wp2
    go_ret2
    exact ⟨rfl, rfl⟩
  by_cases h2 : held < 0
  · rw [if_pos (by omega)]
    go_enter Try.func68, Try.ntmps68
    go_wp2
    go_ret2
    exact ⟨rfl, rfl⟩
  by_cases h3 : most < held
  · rw [if_pos (by omega)]
    go_enter Try.func68, Try.ntmps68
    go_wp2
    go_ret2
    exact ⟨rfl, rfl⟩
  by_cases h4 : 65535 < most
  · rw [if_pos (by omega)]
    go_enter Try.func68, Try.ntmps68
    go_wp2
    go_ret2
    exact ⟨rfl, rfl⟩
  rw [if_neg (by omega)]
  by_cases h5 : most - held < 64
  · by_cases h6 : 2 * (most - held) < most
    · rw [if_pos (by omega)]
      go_enter Try.func68, Try.ntmps68
      go_wp2
      go_ret2
      exact ⟨rfl, rfl⟩
    · rw [if_neg (by omega)]
      go_enter Try.func68, Try.ntmps68
      go_wp2
      go_ret2
      exact ⟨rfl, rfl⟩
  · rw [if_neg (by omega)]
    go_enter Try.func68, Try.ntmps68
    go_wp2
    go_ret2
    exact ⟨rfl, rfl⟩

theorem new_win (w : World) : Calls Try.prog 36 #[] w fun e w' => e = .returned (ptr w.heap.size) ∧ Fr [] w w' ∧ Win w' w.heap.size ⟨0, 0, 0, 0⟩ true ∧ w.heap.size < w'.heap.size := by
  go_enter Try.func36, Try.ntmps36
  go_wp2
  go_ret
  exact ⟨rfl, (Fr.refl _ _).alloc _, Blk.new _ _ _, by simp⟩

theorem eql33_same (x : Wn) (w : World) : (binOp .eql 32 (agW x) (agW x)).run Try.prog w = .ok (.bool true) w := by
  rw [eql33]; simp
theorem none_nil (w : World) : Calls Try.prog 67 #[.pointer none] w fun e w' => e = .returned (.bool true) ∧ w = w' := by
  go_enter Try.func67, Try.ntmps67
  go_wp2
  go_ret
  exact ⟨rfl, rfl⟩
theorem take_nil (n : Int) (w : World) : Calls Try.prog 59 #[.pointer none, .int .i64 n] w fun e w' => e = .returned (.tuple #[.int .i64 0, .int .i64 1]) ∧ w = w' := by
  go_enter Try.func59, Try.ntmps59
  go_wp2_with fail
  refine wp_scope_fwd 0 rfl ?_
  go_wp2_with (go_at_call 67; refine (none_nil _).mono ?_; rintro e w' ⟨rfl, rfl⟩)
  apply wp_goto
  refine fwd_goto _ _ ?_
  go_wp2
  rw [Exit.noGoto_ret]
  go_ret2
  exact ⟨rfl, rfl⟩
theorem ack_z (g : Nat) (x : Wn) (u r : Int) (w : World) (m : Win w g x false) : Calls Try.prog 74 #[ptr g, .int .i64 u, .int .i64 r] w fun e w' => e = .returned (.tuple #[.int .i64 0, .int .i64 1]) ∧ w = w' := by
  go_enter Try.func74, Try.ntmps74
  go_wp2_with fail
  refine wp_scope_fwd 0 rfl ?_
  go_wp2_with (go_at_call 67; refine (none_win _ _ _ _ m).mono ?_; rintro e w' ⟨rfl, rfl⟩)
  apply wp_goto
  refine fwd_goto _ _ ?_
  go_wp2
  rw [Exit.noGoto_ret]
  go_ret2
  exact ⟨rfl, rfl⟩
theorem probe_nil (w : World) : Calls Try.prog 66 #[.pointer none] w fun e w' => e = .returned (.tuple #[.int .i64 0, .int .i64 1]) ∧ w = w' := by
  go_enter Try.func66, Try.ntmps66
  go_wp2_with (go_at_call 67; refine (none_nil _).mono ?_; rintro e w' ⟨rfl, rfl⟩)
  go_ret2
  exact ⟨rfl, rfl⟩
theorem zero_nil (w : World) : Calls Try.prog 81 #[.pointer none] w fun e w' => e = .returned (.bool false) ∧ ∃ k, w' = w.drewN k := by
  go_enter Try.func81, Try.ntmps81
  go_wp2_with fail
  go_quiet ((go_at_call 67; exact quiet_left (none_nil _)))
  go_wp2
  go_ret
  exact ⟨rfl, _, rfl⟩
theorem zero_z (g : Nat) (x : Wn) (w : World) (m : Win w g x false) : Calls Try.prog 81 #[ptr g] w fun e w' => e = .returned (.bool false) ∧ ∃ k, w' = w.drewN k := by
  go_enter Try.func81, Try.ntmps81
  go_wp2_with fail
  go_quiet ((go_at_call 67; exact quiet_left (none_win _ _ _ _ (Blk.drewN m _))))
  go_wp2
  go_ret
  exact ⟨rfl, _, rfl⟩
theorem room_nil (w : World) : Calls Try.prog 58 #[.pointer none] w fun e w' => e = .returned (.int .i64 0) ∧ w = w' := by
  go_enter Try.func58, Try.ntmps58
  go_wp2_with (go_at_call 67; refine (none_nil _).mono ?_; rintro e w' ⟨rfl, rfl⟩)
  go_ret
  exact ⟨rfl, rfl⟩
theorem state_z (g : Nat) (x : Wn) (w : World) (m : Win w g x false) : Calls Try.prog 34 #[ptr g] w fun e w' => e = .returned (agW ⟨0, 0, 0, 0⟩) ∧ Fr [] w w' := by
  go_enter Try.func34, Try.ntmps34
  go_wp2_with fail
  refine (none_win _ _ _ _ (Blk.alloc m _)).mono ?_
  rintro e w1 ⟨rfl, rfl⟩
  go_wp2_with fail
  go_returns
  exact ⟨rfl, by repeat (first | exact Fr.refl _ _ | apply Fr.drew | apply Fr.alloc | refine Fr.setCell ?_ (Or.inr (by simp)) _)⟩
theorem copy_nil (w : World) : Calls Try.prog 45 #[.pointer none] w fun e w' => e = .returned (.pointer none) ∧ w = w' := by
  go_enter Try.func45, Try.ntmps45
  go_wp2_with (go_at_call 67; refine (none_nil _).mono ?_; rintro e w' ⟨rfl, rfl⟩)
  go_ret
  exact ⟨rfl, rfl⟩
theorem same_nil_z (g : Nat) (x : Wn) (w : World) (m : Win w g x false) : Calls Try.prog 48 #[.pointer none, ptr g] w fun e w' => e = .returned (.bool true) ∧ w = w' := by
  go_enter Try.func48, Try.ntmps48
  go_wp2_with (first | (go_at_call_of 67 (Value.pointer none); refine (none_nil _).mono ?_; rintro e w' ⟨rfl, rfl⟩) | (go_at_call 67; refine (none_win _ _ _ _ m).mono ?_; rintro e w' ⟨rfl, rfl⟩))
  go_ret
  exact ⟨rfl, rfl⟩
theorem same_nil_win (g : Nat) (x : Wn) (w : World) (m : Win w g x true) : Calls Try.prog 48 #[.pointer none, ptr g] w fun e w' => e = .returned (.bool false) ∧ w = w' := by
  go_enter Try.func48, Try.ntmps48
  go_wp2_with (first | (go_at_call_of 67 (Value.pointer none); refine (none_nil _).mono ?_; rintro e w' ⟨rfl, rfl⟩) | (go_at_call 67; refine (none_win _ _ _ _ m).mono ?_; rintro e w' ⟨rfl, rfl⟩))
  go_ret
  exact ⟨rfl, rfl⟩
theorem same_win_z (g g' : Nat) (x x' : Wn) (w : World) (m : Win w g x true) (m' : Win w g' x' false) : Calls Try.prog 48 #[ptr g, ptr g'] w fun e w' => e = .returned (.bool false) ∧ w = w' := by
  go_enter Try.func48, Try.ntmps48
  go_wp2_with fail
  refine (none_win _ _ _ _ m).mono ?_
  rintro e w' ⟨rfl, rfl⟩
  go_wp2_with fail
  refine (none_win _ _ _ _ m').mono ?_
  rintro e w' ⟨rfl, rfl⟩
  go_wp2_with fail
  refine (none_win _ _ _ _ m).mono ?_
  rintro e w' ⟨rfl, rfl⟩
  go_wp2_with fail
  go_ret
  exact ⟨rfl, rfl⟩

def eqV (x y : Wn) : Bool := x.a == y.a && (x.s == y.s && (x.m == y.m && x.l == y.l))
theorem eqV_same (x : Wn) : eqV x x = true := by simp [eqV]
theorem eqV_eql33 (x y : Wn) (w : World) : (binOp .eql 32 (agW x) (agW y)).run Try.prog w = .ok (.bool (eqV x y)) w := eql33 x y w

theorem five {w : World} {g : Nat} {x : Wn} (h : Win w g x true) :
    w.cell? ⟨g, 0, none⟩ = some (.int .i64 x.a) ∧ w.cell? ⟨g, 1, none⟩ = some (.int .i64 x.s) ∧ w.cell? ⟨g, 2, none⟩ = some (.int .i64 x.m) ∧ w.cell? ⟨g, 3, none⟩ = some (.int .i64 x.l) ∧ w.cell? ⟨g, 4, none⟩ = some (.bool true) :=
  ⟨by simpa using Blk.cell h 0, by simpa using Blk.cell h 1, by simpa using Blk.cell h 2, by simpa using Blk.cell h 3, by simpa using Blk.cell h 4⟩

theorem same_win (g g' : Nat) (x x' : Wn) (w : World) (m : Win w g x true) (m' : Win w g' x' true) : Calls Try.prog 48 #[ptr g, ptr g'] w fun e w' => e = .returned (.bool (eqV x x')) ∧ Fr [] w w' := by
  obtain ⟨c0, c1, c2, c3, c4⟩ := five m
  obtain ⟨d0, d1, d2, d3, d4⟩ := five m'
  have e1 := eqV_eql33 x x'
  have e2 := eqg33
  go_enter Try.func48, Try.ntmps48
  go_wp2_with fail
  refine (none_win _ _ _ _ m).mono ?_
  rintro e w' ⟨rfl, rfl⟩
  go_wp2_with fail
  refine (none_win _ _ _ _ m').mono ?_
  rintro e w' ⟨rfl, rfl⟩
  go_wp2_with fail
  go_quiet (fail)
  go_wp2
  go_ret
  exact ⟨rfl, (Fr.refl _ _).drewN _⟩
end Go.Proofs.Ytmgdbbbdhkfdmaa.Win
