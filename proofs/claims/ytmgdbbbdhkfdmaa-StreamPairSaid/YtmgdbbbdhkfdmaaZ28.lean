import Derived.Test.YtmgdbbbdhkfdmaaZ22
import Derived.Deep.DeepCutAuto
set_option linter.unusedSimpArgs false
set_option linter.unusedVariables false
/-
  The law's invariant: what holds of two ends, whatever of what they sent comes.
-/
namespace Go.Proofs.Ytmgdbbbdhkfdmaa
set_option maxRecDepth 100000
set_option linter.unusedSectionVars false
open Go.RowKit Go.Deep

theorem putB_len (t : Int) : ∀ (l : List Prt) (bag : List (Int × Prt)), bag.length ≤ 400 → (putB t bag l).length ≤ 400
  | [], bag, h => h
  | p :: l, bag, h => by
    unfold putB
    split
    · exact putB_len t l _ (by simp; omega)
    · exact h
theorem acks_now (x : St) (p : Prt) : (acksV x p).now = x.now := by unfold acksV acks2V; (repeat' split) <;> rfl
theorem data_now (x : St) (p : Prt) : (dataV x p).now = x.now := by rw [dataV_eq]; split <;> rfl
theorem open_now (x : St) (p : Prt) : (openV x p).1.now = x.now := by
  unfold openV
  split
  · split <;> rfl
  split
  · rfl
  split
  · rfl
  dsimp only
  (repeat' split) <;> first | exact acks_now x p | exact (data_now _ p).trans (acks_now x p)
theorem listen_now (x : St) (p : Prt) : (listenV x p).1.now = x.now := by unfold listenV; split <;> rfl
theorem comes_now (x : St) (p : Prt) : (comesV x p).1.now = x.now := by
  unfold comesV
  split
  · exact listen_now x p
  split
  · unfold callsV; (repeat' split) <;> first | exact listen_now x p | rfl
  split
  · unfold heardV; (repeat' split) <;> first | exact listen_now x p | exact open_now x p | exact open_now _ p | rfl
  split
  · exact open_now x p
  · unfold endedV; split <;> rfl
theorem send_now (x : St) : (sendV x).1.now = x.now := by rw [sendV_eq]; unfold timesV; dsimp only; split <;> rfl
theorem loop_now : ∀ (k : Nat) (x : St), (loopV k x).1.now = x.now
  | 0, x => rfl
  | k + 1, x => by
    by_cases h : 0 < nextV x
    · rw [loop_go k x h]; exact (loop_now k _).trans (send_now x)
    · rw [loop_stop _ x h]
theorem rests_now (x : St) : (restsV x).now = x.now := by unfold restsV; (repeat' split) <;> rfl
theorem sends_now (x : St) : (sendsV x).1.now = x.now := by
  by_cases h : x.at_ = 4
  · rw [sendsV_open x h]
    have h1 := loop_now x.all.length x
    have h2 : (closesV (loopV x.all.length x).1).1.now = (loopV x.all.length x).1.now := by unfold closesV; split <;> rfl
    have h3 : ∀ y : St, (lastV y).now = y.now := fun y => by unfold lastV; split <;> rfl
    show (restsV (lastV (closesV (loopV x.all.length x).1).1)).now = x.now
    rw [rests_now, h3, h2, h1]
  · rw [sendsV_else x h]; exact rests_now x
theorem come_now (x : St) (p : Prt) : (comeV x p).1.now = x.now := by
  unfold comeV
  split
  · rfl
  · exact (sends_now _).trans (comes_now x p)
theorem write_now (x : St) (b : List Int) : (writeV x b).1.now = x.now := by
  unfold writeV
  split
  · rfl
  split
  · rfl
  · exact sends_now _
theorem close_now (x : St) : (closeV x).1.now = x.now := by
  unfold closeV
  split
  · rfl
  · exact sends_now _
theorem read_now (x : St) : (readV x).1.now = x.now := by unfold readV; dsimp only; split <;> rfl
theorem again_now (x : St) : (againV x).1.now = x.now := by unfold againV; (repeat' split) <;> rfl
theorem tick_now (x : St) : (tickV x).1.now = x.now + 1 := by
  unfold tickV
  dsimp only
  split
  · split
    · exact (rests_now _).trans (again_now _)
    · exact rests_now _
  · rfl
theorem up1 {n : Int} {k : Nat} (h : n ≤ k) : n ≤ (k + 1 : Nat) := by omega
theorem up2 {n k : Nat} (h : n ≤ 300 * k) : n ≤ 300 * (k + 1) := by omega
structure PInv (i0 i1 : Int) (k : Nat) (P : Pm) : Prop where
  h0 : EI i0 i1 P.s0 P.s1 P.r0 P.e0
  h1 : EI i1 i0 P.s1 P.s0 P.r1 P.e1
  q0 : Rest P.e0
  q1 : Rest P.e1
  n0 : P.e0.now ≤ k
  n1 : P.e1.now ≤ k
  l0 : P.s0.length ≤ 300 * k
  l1 : P.s1.length ≤ 300 * k
  bag : ∀ x ∈ P.bag, (x.1 = 0 ∧ GoodP i1 P.s1 x.2) ∨ (x.1 = 1 ∧ GoodP i0 P.s0 x.2)
  bl : P.bag.length ≤ 400
section
variable {i0 i1 : Int} {k : Nat} {P : Pm} (h : PInv i0 i1 k P) (hk : k ≤ 120) (a0 : 0 ≤ i0 ∧ i0 < 4294967296) (a1 : 0 ≤ i1 ∧ i1 < 4294967296)
include h hk
theorem PInv.none_ : PInv i0 i1 (k + 1) P := ⟨h.h0, h.h1, h.q0, h.q1, up1 h.n0, up1 h.n1, up2 h.l0, up2 h.l1, h.bag, h.bl⟩
theorem PInv.tick0 : PInv i0 i1 (k + 1) { P with e0 := (tickV P.e0).1, bag := putB 1 P.bag (tickV P.e0).2 } := by
  obtain ⟨e, g⟩ := h.h0.tick h.q0 (by have := h.n0; omega)
  refine ⟨e, h.h1, (h.h0.ok.tick h.q0 (by have := h.n0; omega)).2, h.q1, by show (tickV P.e0).1.now ≤ _; rw [tick_now]; have := h.n0; omega, up1 h.n1, up2 h.l0, up2 h.l1, fun x hx => ?_, putB_len _ _ _ h.bl⟩
  rcases putB_mem _ _ _ x hx with h1 | ⟨h1, h2⟩
  · exact h.bag x h1
  · exact .inr ⟨h1, g _ h2⟩
theorem PInv.tick1 : PInv i0 i1 (k + 1) { P with e1 := (tickV P.e1).1, bag := putB 0 P.bag (tickV P.e1).2 } := by
  obtain ⟨e, g⟩ := h.h1.tick h.q1 (by have := h.n1; omega)
  refine ⟨h.h0, e, h.q0, (h.h1.ok.tick h.q1 (by have := h.n1; omega)).2, up1 h.n0, by show (tickV P.e1).1.now ≤ _; rw [tick_now]; have := h.n1; omega, up2 h.l0, up2 h.l1, fun x hx => ?_, putB_len _ _ _ h.bl⟩
  rcases putB_mem _ _ _ x hx with h1 | ⟨h1, h2⟩
  · exact h.bag x h1
  · exact .inl ⟨h1, g _ h2⟩
theorem PInv.close0 : PInv i0 i1 (k + 1) { P with e0 := (closeV P.e0).1, bag := putB 1 P.bag (closeV P.e0).2.1 } := by
  obtain ⟨e, g⟩ := h.h0.close
  refine ⟨e, h.h1, close_rest h.h0.ok h.q0, h.q1, by show (closeV P.e0).1.now ≤ _; rw [close_now]; have := h.n0; omega, up1 h.n1, up2 h.l0, up2 h.l1, fun x hx => ?_, putB_len _ _ _ h.bl⟩
  rcases putB_mem _ _ _ x hx with h1 | ⟨h1, h2⟩
  · exact h.bag x h1
  · exact .inr ⟨h1, g _ h2⟩
theorem PInv.close1 : PInv i0 i1 (k + 1) { P with e1 := (closeV P.e1).1, bag := putB 0 P.bag (closeV P.e1).2.1 } := by
  obtain ⟨e, g⟩ := h.h1.close
  refine ⟨h.h0, e, h.q0, close_rest h.h1.ok h.q1, up1 h.n0, by show (closeV P.e1).1.now ≤ _; rw [close_now]; have := h.n1; omega, up2 h.l0, up2 h.l1, fun x hx => ?_, putB_len _ _ _ h.bl⟩
  rcases putB_mem _ _ _ x hx with h1 | ⟨h1, h2⟩
  · exact h.bag x h1
  · exact .inl ⟨h1, g _ h2⟩
theorem PInv.read0 : PInv i0 i1 (k + 1) { P with e0 := (readV P.e0).1, bag := putB 1 P.bag (readV P.e0).2.2, r0 := P.r0 ++ (readV P.e0).2.1 } := by
  obtain ⟨e, g⟩ := h.h0.read
  rw [← read_unread] at e
  refine ⟨e, h.h1, read_rest h.q0, h.q1, by show (readV P.e0).1.now ≤ _; rw [read_now]; have := h.n0; omega, up1 h.n1, up2 h.l0, up2 h.l1, fun x hx => ?_, putB_len _ _ _ h.bl⟩
  rcases putB_mem _ _ _ x hx with h1 | ⟨h1, h2⟩
  · exact h.bag x h1
  · exact .inr ⟨h1, g _ h2⟩
theorem PInv.read1 : PInv i0 i1 (k + 1) { P with e1 := (readV P.e1).1, bag := putB 0 P.bag (readV P.e1).2.2, r1 := P.r1 ++ (readV P.e1).2.1 } := by
  obtain ⟨e, g⟩ := h.h1.read
  rw [← read_unread] at e
  refine ⟨h.h0, e, h.q0, read_rest h.q1, up1 h.n0, by show (readV P.e1).1.now ≤ _; rw [read_now]; have := h.n1; omega, up2 h.l0, up2 h.l1, fun x hx => ?_, putB_len _ _ _ h.bl⟩
  rcases putB_mem _ _ _ x hx with h1 | ⟨h1, h2⟩
  · exact h.bag x h1
  · exact .inl ⟨h1, g _ h2⟩
theorem PInv.write0 (d : List Int) (hd : d.length ≤ 300) : PInv i0 i1 (k + 1) { P with e0 := (writeV P.e0 d).1, bag := putB 1 P.bag (writeV P.e0 d).2.1, s0 := if (writeV P.e0 d).2.2 = 0 then P.s0 ++ d else P.s0 } := by
  have hl := h.l0
  obtain ⟨e, g⟩ := h.h0.write d (by omega)
  have hr := write_rest h.h0.ok h.q0 d (by rw [h.h0.all]; omega)
  have hn : (writeV P.e0 d).1.now ≤ k + 1 := by rw [write_now]; have := h.n0; omega
  generalize writeV P.e0 d = r at *
  by_cases he : r.2.2 = 0
  · rw [if_pos he] at e g ⊢
    refine ⟨e, h.h1.app, hr, h.q1, hn, up1 h.n1, by simp; omega, up2 h.l1, fun x hx => ?_, putB_len _ _ _ h.bl⟩
    rcases putB_mem _ _ _ x hx with h1 | ⟨h1, h2⟩
    · exact (h.bag x h1).imp id (fun q => ⟨q.1, q.2.app⟩)
    · exact .inr ⟨h1, g _ h2⟩
  · rw [if_neg he] at e g ⊢
    refine ⟨e, h.h1, hr, h.q1, hn, up1 h.n1, by simp only []; omega, up2 h.l1, fun x hx => ?_, putB_len _ _ _ h.bl⟩
    rcases putB_mem _ _ _ x hx with h1 | ⟨h1, h2⟩
    · exact h.bag x h1
    · exact .inr ⟨h1, g _ h2⟩
theorem PInv.write1 (d : List Int) (hd : d.length ≤ 300) : PInv i0 i1 (k + 1) { P with e1 := (writeV P.e1 d).1, bag := putB 0 P.bag (writeV P.e1 d).2.1, s1 := if (writeV P.e1 d).2.2 = 0 then P.s1 ++ d else P.s1 } := by
  have hl := h.l1
  obtain ⟨e, g⟩ := h.h1.write d (by omega)
  have hr := write_rest h.h1.ok h.q1 d (by rw [h.h1.all]; omega)
  have hn : (writeV P.e1 d).1.now ≤ k + 1 := by rw [write_now]; have := h.n1; omega
  generalize writeV P.e1 d = r at *
  by_cases he : r.2.2 = 0
  · rw [if_pos he] at e g ⊢
    refine ⟨h.h0.app, e, h.q0, hr, up1 h.n0, hn, up2 h.l0, by simp; omega, fun x hx => ?_, putB_len _ _ _ h.bl⟩
    rcases putB_mem _ _ _ x hx with h1 | ⟨h1, h2⟩
    · exact (h.bag x h1).imp (fun q => ⟨q.1, q.2.app⟩) id
    · exact .inl ⟨h1, g _ h2⟩
  · rw [if_neg he] at e g ⊢
    refine ⟨h.h0, e, h.q0, hr, up1 h.n0, hn, up2 h.l0, by simp only []; omega, fun x hx => ?_, putB_len _ _ _ h.bl⟩
    rcases putB_mem _ _ _ x hx with h1 | ⟨h1, h2⟩
    · exact h.bag x h1
    · exact .inl ⟨h1, g _ h2⟩
theorem PInv.less (b : List (Int × Prt)) (hb : ∀ x ∈ b, x ∈ P.bag) (hl : b.length ≤ 400) : PInv i0 i1 k { P with bag := b } := ⟨h.h0, h.h1, h.q0, h.q1, h.n0, h.n1, h.l0, h.l1, fun x hx => h.bag x (hb x hx), hl⟩
include a0 a1
theorem PInv.come0 (q : Prt) (hq : GoodP i1 P.s1 q) : PInv i0 i1 (k + 1) { P with e0 := (comeV P.e0 q).1, bag := putB 1 P.bag (comeV P.e0 q).2.1 } := by
  obtain ⟨e, g⟩ := h.h0.come a1.1 a1.2 (by have := h.l1; omega) hq
  refine ⟨e, h.h1, come_rest h.h0.ok h.q0 q, h.q1, by show (comeV P.e0 q).1.now ≤ _; rw [come_now]; have := h.n0; omega, up1 h.n1, up2 h.l0, up2 h.l1, fun x hx => ?_, putB_len _ _ _ h.bl⟩
  rcases putB_mem _ _ _ x hx with h1 | ⟨h1, h2⟩
  · exact h.bag x h1
  · exact .inr ⟨h1, g _ h2⟩
theorem PInv.come1 (q : Prt) (hq : GoodP i0 P.s0 q) : PInv i0 i1 (k + 1) { P with e1 := (comeV P.e1 q).1, bag := putB 0 P.bag (comeV P.e1 q).2.1 } := by
  obtain ⟨e, g⟩ := h.h1.come a0.1 a0.2 (by have := h.l0; omega) hq
  refine ⟨h.h0, e, h.q0, come_rest h.h1.ok h.q1 q, up1 h.n0, by show (comeV P.e1 q).1.now ≤ _; rw [come_now]; have := h.n1; omega, up2 h.l0, up2 h.l1, fun x hx => ?_, putB_len _ _ _ h.bl⟩
  rcases putB_mem _ _ _ x hx with h1 | ⟨h1, h2⟩
  · exact h.bag x h1
  · exact .inl ⟨h1, g _ h2⟩
end
theorem newS_now (isn : Int) (c : Bool) : (newSV isn c).1.now = 0 := by
  unfold newSV
  cases c
  · rfl
  · exact rests_now _
/-- The pair at first. -/
def startV (i0 i1 : Int) (c : Bool) : Pm := ⟨(newSV i0 true).1, (newSV i1 c).1, putB 0 (putB 1 [] (newSV i0 true).2) (newSV i1 c).2, [], [], [], []⟩
theorem start_inv (i0 i1 : Int) (c : Bool) : PInv i0 i1 0 (startV i0 i1 c) := by
  obtain ⟨e0, g0⟩ := EI.new i0 i1 true
  obtain ⟨e1, g1⟩ := EI.new i1 i0 c
  refine ⟨e0, e1, (new_ok i0 true).2, (new_ok i1 c).2, by show (newSV i0 true).1.now ≤ _; rw [newS_now]; simp, by show (newSV i1 c).1.now ≤ _; rw [newS_now]; simp, by simp [startV], by simp [startV], fun x hx => ?_, putB_len _ _ _ (putB_len _ _ _ (by simp))⟩
  rcases putB_mem _ _ _ x hx with h1 | ⟨h1, h2⟩
  · rcases putB_mem _ _ _ x h1 with h1 | ⟨h1, h2⟩
    · simp at h1
    · exact .inr ⟨h1, g0 _ h2⟩
  · exact .inl ⟨h1, g1 _ h2⟩
end Go.Proofs.Ytmgdbbbdhkfdmaa

namespace Go.Proofs.Ytmgdbbbdhkfdmaa
set_option maxRecDepth 100000
open Go.RowKit Go.Deep

set_option maxHeartbeats 8000000 in
theorem turn_none {S : Nat → Prop} {w : World} {Ha Hb : Hd} {P : Pm} {bv s0 s1 r0 r1 : Value} {L : List (Int × Prt × Value)} (m : PV S w Ha Hb P bv s0 s1 r0 r1 L) (hbl : P.bag.length ≤ 400) (kd : Int) (hk : kd < 0 ∨ 9 < kd) (pk : Int) (kp : Bool) (dA : Option Addr) (dn dc : Nat) :
    Calls Try.prog 18 #[.agg (arM Ha Hb bv s0 s1 r0 r1), .agg #[.int .i64 kd, .int .i64 pk, .bool kp, .slice dA dn dc]] w (TurnPost S w Ha Hb P) := by
  have hLl : L.length ≤ 1000 := by have := congrArg List.length m.bagL; rw [List.length_map] at this; omega
  have f0 : Fr [] w (((w.alloc (.cells (arM Ha Hb bv s0 s1 r0 r1) 61)).alloc (.cells #[.int .i64 kd, .int .i64 pk, .bool kp, .slice dA dn dc] 65)).alloc (.cells pmZ 61)) := (((Fr.refl [] w).alloc _).alloc _).alloc _
  have b0 : Blk (((w.alloc (.cells (arM Ha Hb bv s0 s1 r0 r1) 61)).alloc (.cells #[.int .i64 kd, .int .i64 pk, .bool kp, .slice dA dn dc] 65)).alloc (.cells pmZ 61)) w.heap.size 61 (arM Ha Hb bv s0 s1 r0 r1) := ((Blk.new w 61 (arM Ha Hb bv s0 s1 r0 r1)).alloc _).alloc _
  have b1 : Blk (((w.alloc (.cells (arM Ha Hb bv s0 s1 r0 r1) 61)).alloc (.cells #[.int .i64 kd, .int .i64 pk, .bool kp, .slice dA dn dc] 65)).alloc (.cells pmZ 61)) (w.heap.size + 1) 65 #[.int .i64 kd, .int .i64 pk, .bool kp, .slice dA dn dc] := by
    have h := (Blk.new (w.alloc (.cells (arM Ha Hb bv s0 s1 r0 r1) 61)) 65 #[.int .i64 kd, .int .i64 pk, .bool kp, .slice dA dn dc]).alloc (.cells pmZ 61)
    simpa using h
  have b2 : Blk (((w.alloc (.cells (arM Ha Hb bv s0 s1 r0 r1) 61)).alloc (.cells #[.int .i64 kd, .int .i64 pk, .bool kp, .slice dA dn dc] 65)).alloc (.cells pmZ 61)) (w.heap.size + 2) 61 pmZ := by
    have h := Blk.new ((w.alloc (.cells (arM Ha Hb bv s0 s1 r0 r1) 61)).alloc (.cells #[.int .i64 kd, .int .i64 pk, .bool kp, .slice dA dn dc] 65)) 61 pmZ
    simpa using h
  have hz : w.heap.size + 2 < (((w.alloc (.cells (arM Ha Hb bv s0 s1 r0 r1) 61)).alloc (.cells #[.int .i64 kd, .int .i64 pk, .bool kp, .slice dA dn dc] 65)).alloc (.cells pmZ 61)).heap.size := b2.lt
  have M := Lib.hid m
  have HB2 := Lib.hid b2
  have HZ := Lib.hid hz
  clear m b2 hz
  go_enter Try.func18, Try.ntmps18
  go_upto_region 1 with fail
  generalize ((w.alloc (.cells (arM Ha Hb bv s0 s1 r0 r1) 61)).alloc (.cells #[.int .i64 kd, .int .i64 pk, .bool kp, .slice dA dn dc] 65)).alloc (.cells pmZ 61) = w3 at *
  have BX := Lib.hid (box_start M.out f0 HZ.out b0 HB2.out)
  have F0 := Lib.hid f0
  obtain ⟨t0, t1, t2, t3, t4, t5, t6⟩ := cells7 b0
  obtain ⟨x0, x1, x2, x3⟩ := cells4t b1
  clear f0 b0 b1 HB2 HZ
  have d0 : decide (kd = 0) = false := decide_eq_false (by omega)
  have e0 : (kd == 0) = false := beq_eq_false_iff_ne.2 (by omega)
  have d1 : decide (kd = 1) = false := decide_eq_false (by omega)
  have e1 : (kd == 1) = false := beq_eq_false_iff_ne.2 (by omega)
  have d2 : decide (kd = 2) = false := decide_eq_false (by omega)
  have e2 : (kd == 2) = false := beq_eq_false_iff_ne.2 (by omega)
  have d3 : decide (kd = 3) = false := decide_eq_false (by omega)
  have e3 : (kd == 3) = false := beq_eq_false_iff_ne.2 (by omega)
  have d4 : decide (kd = 4) = false := decide_eq_false (by omega)
  have e4 : (kd == 4) = false := beq_eq_false_iff_ne.2 (by omega)
  have d5 : decide (kd = 5) = false := decide_eq_false (by omega)
  have e5 : (kd == 5) = false := beq_eq_false_iff_ne.2 (by omega)
  have d6 : decide (kd = 6) = false := decide_eq_false (by omega)
  have e6 : (kd == 6) = false := beq_eq_false_iff_ne.2 (by omega)
  have d7 : decide (kd = 7) = false := decide_eq_false (by omega)
  have e7 : (kd == 7) = false := beq_eq_false_iff_ne.2 (by omega)
  have d8 : decide (kd = 8) = false := decide_eq_false (by omega)
  have e8 : (kd == 8) = false := beq_eq_false_iff_ne.2 (by omega)
  have d9 : decide (kd = 9) = false := decide_eq_false (by omega)
  have e9 : (kd == 9) = false := beq_eq_false_iff_ne.2 (by omega)
  have C76 := Lib.hid BX.out.m.c7
  go_wp2_with ((with_reducible refine gate_store 61 (.tmp 4) ?_); refine wpList_store_blk rfl 61 (.tmp 4) (.tmp 169) rfl (w.heap.size + 2) 61 pmZ _ rfl rfl BX.out.z rfl (by kernel_rfl) C76.out ?_; intro w7 B7 F7)
  obtain ⟨u0, u1, u2, u3, u4, u5, u6⟩ := cells7 B7
  refine bodyPost_ret (v := .agg (arM Ha Hb bv s0 s1 r0 r1)) (by simp [results, Try.results18, go_sem, u0, u1, u2, u3, u4, u5, u6]) rfl ?_
  exact BX.out.post F7
set_option maxHeartbeats 8000000 in
theorem turn_empty0 {S : Nat → Prop} {w : World} {Ha Hb : Hd} {P : Pm} {bv s0 s1 r0 r1 : Value} {L : List (Int × Prt × Value)} (m : PV S w Ha Hb P bv s0 s1 r0 r1 L) (hbl : P.bag.length ≤ 400) (he : P.bag = []) (pk : Int) (kp : Bool) (dA : Option Addr) (dn dc : Nat) :
    Calls Try.prog 18 #[.agg (arM Ha Hb bv s0 s1 r0 r1), .agg #[.int .i64 0, .int .i64 pk, .bool kp, .slice dA dn dc]] w (TurnPost S w Ha Hb P) := by
  have hLl : L.length ≤ 1000 := by have := congrArg List.length m.bagL; rw [List.length_map] at this; omega
  have f0 : Fr [] w (((w.alloc (.cells (arM Ha Hb bv s0 s1 r0 r1) 61)).alloc (.cells #[.int .i64 0, .int .i64 pk, .bool kp, .slice dA dn dc] 65)).alloc (.cells pmZ 61)) := (((Fr.refl [] w).alloc _).alloc _).alloc _
  have b0 : Blk (((w.alloc (.cells (arM Ha Hb bv s0 s1 r0 r1) 61)).alloc (.cells #[.int .i64 0, .int .i64 pk, .bool kp, .slice dA dn dc] 65)).alloc (.cells pmZ 61)) w.heap.size 61 (arM Ha Hb bv s0 s1 r0 r1) := ((Blk.new w 61 (arM Ha Hb bv s0 s1 r0 r1)).alloc _).alloc _
  have b1 : Blk (((w.alloc (.cells (arM Ha Hb bv s0 s1 r0 r1) 61)).alloc (.cells #[.int .i64 0, .int .i64 pk, .bool kp, .slice dA dn dc] 65)).alloc (.cells pmZ 61)) (w.heap.size + 1) 65 #[.int .i64 0, .int .i64 pk, .bool kp, .slice dA dn dc] := by
    have h := (Blk.new (w.alloc (.cells (arM Ha Hb bv s0 s1 r0 r1) 61)) 65 #[.int .i64 0, .int .i64 pk, .bool kp, .slice dA dn dc]).alloc (.cells pmZ 61)
    simpa using h
  have b2 : Blk (((w.alloc (.cells (arM Ha Hb bv s0 s1 r0 r1) 61)).alloc (.cells #[.int .i64 0, .int .i64 pk, .bool kp, .slice dA dn dc] 65)).alloc (.cells pmZ 61)) (w.heap.size + 2) 61 pmZ := by
    have h := Blk.new ((w.alloc (.cells (arM Ha Hb bv s0 s1 r0 r1) 61)).alloc (.cells #[.int .i64 0, .int .i64 pk, .bool kp, .slice dA dn dc] 65)) 61 pmZ
    simpa using h
  have hz : w.heap.size + 2 < (((w.alloc (.cells (arM Ha Hb bv s0 s1 r0 r1) 61)).alloc (.cells #[.int .i64 0, .int .i64 pk, .bool kp, .slice dA dn dc] 65)).alloc (.cells pmZ 61)).heap.size := b2.lt
  have M := Lib.hid m
  have HB2 := Lib.hid b2
  have HZ := Lib.hid hz
  clear m b2 hz
  go_enter Try.func18, Try.ntmps18
  go_upto_region 1 with fail
  generalize ((w.alloc (.cells (arM Ha Hb bv s0 s1 r0 r1) 61)).alloc (.cells #[.int .i64 0, .int .i64 pk, .bool kp, .slice dA dn dc] 65)).alloc (.cells pmZ 61) = w3 at *
  have BX := Lib.hid (box_start M.out f0 HZ.out b0 HB2.out)
  have F0 := Lib.hid f0
  obtain ⟨t0, t1, t2, t3, t4, t5, t6⟩ := cells7 b0
  obtain ⟨x0, x1, x2, x3⟩ := cells4t b1
  clear f0 b0 b1 HB2 HZ
  have hL0 : L.length = 0 := by have := congrArg List.length M.out.bagL; rw [List.length_map, he] at this; simpa using this
  obtain ⟨bA, bc, hbv, _, _⟩ := BX.out.m.bag.sl.form
  rw [hL0] at hbv
  subst hbv
  have C76 := Lib.hid BX.out.m.c7
  go_wp2_with ((with_reducible refine gate_store 61 (.tmp 4) ?_); refine wpList_store_blk rfl 61 (.tmp 4) (.tmp 30) rfl (w.heap.size + 2) 61 pmZ _ rfl rfl BX.out.z rfl (by kernel_rfl) C76.out ?_; intro w7 B7 F7)
  obtain ⟨u0, u1, u2, u3, u4, u5, u6⟩ := cells7 B7
  refine bodyPost_ret (v := .agg (arM Ha Hb (.slice bA 0 bc) s0 s1 r0 r1)) (by simp [results, Try.results18, go_sem, u0, u1, u2, u3, u4, u5, u6]) rfl ?_
  exact BX.out.post F7
set_option maxHeartbeats 8000000 in
theorem turn_empty1 {S : Nat → Prop} {w : World} {Ha Hb : Hd} {P : Pm} {bv s0 s1 r0 r1 : Value} {L : List (Int × Prt × Value)} (m : PV S w Ha Hb P bv s0 s1 r0 r1 L) (hbl : P.bag.length ≤ 400) (he : P.bag = []) (pk : Int) (kp : Bool) (dA : Option Addr) (dn dc : Nat) :
    Calls Try.prog 18 #[.agg (arM Ha Hb bv s0 s1 r0 r1), .agg #[.int .i64 1, .int .i64 pk, .bool kp, .slice dA dn dc]] w (TurnPost S w Ha Hb P) := by
  have hLl : L.length ≤ 1000 := by have := congrArg List.length m.bagL; rw [List.length_map] at this; omega
  have f0 : Fr [] w (((w.alloc (.cells (arM Ha Hb bv s0 s1 r0 r1) 61)).alloc (.cells #[.int .i64 1, .int .i64 pk, .bool kp, .slice dA dn dc] 65)).alloc (.cells pmZ 61)) := (((Fr.refl [] w).alloc _).alloc _).alloc _
  have b0 : Blk (((w.alloc (.cells (arM Ha Hb bv s0 s1 r0 r1) 61)).alloc (.cells #[.int .i64 1, .int .i64 pk, .bool kp, .slice dA dn dc] 65)).alloc (.cells pmZ 61)) w.heap.size 61 (arM Ha Hb bv s0 s1 r0 r1) := ((Blk.new w 61 (arM Ha Hb bv s0 s1 r0 r1)).alloc _).alloc _
  have b1 : Blk (((w.alloc (.cells (arM Ha Hb bv s0 s1 r0 r1) 61)).alloc (.cells #[.int .i64 1, .int .i64 pk, .bool kp, .slice dA dn dc] 65)).alloc (.cells pmZ 61)) (w.heap.size + 1) 65 #[.int .i64 1, .int .i64 pk, .bool kp, .slice dA dn dc] := by
    have h := (Blk.new (w.alloc (.cells (arM Ha Hb bv s0 s1 r0 r1) 61)) 65 #[.int .i64 1, .int .i64 pk, .bool kp, .slice dA dn dc]).alloc (.cells pmZ 61)
    simpa using h
  have b2 : Blk (((w.alloc (.cells (arM Ha Hb bv s0 s1 r0 r1) 61)).alloc (.cells #[.int .i64 1, .int .i64 pk, .bool kp, .slice dA dn dc] 65)).alloc (.cells pmZ 61)) (w.heap.size + 2) 61 pmZ := by
    have h := Blk.new ((w.alloc (.cells (arM Ha Hb bv s0 s1 r0 r1) 61)).alloc (.cells #[.int .i64 1, .int .i64 pk, .bool kp, .slice dA dn dc] 65)) 61 pmZ
    simpa using h
  have hz : w.heap.size + 2 < (((w.alloc (.cells (arM Ha Hb bv s0 s1 r0 r1) 61)).alloc (.cells #[.int .i64 1, .int .i64 pk, .bool kp, .slice dA dn dc] 65)).alloc (.cells pmZ 61)).heap.size := b2.lt
  have M := Lib.hid m
  have HB2 := Lib.hid b2
  have HZ := Lib.hid hz
  clear m b2 hz
  go_enter Try.func18, Try.ntmps18
  go_upto_region 1 with fail
  generalize ((w.alloc (.cells (arM Ha Hb bv s0 s1 r0 r1) 61)).alloc (.cells #[.int .i64 1, .int .i64 pk, .bool kp, .slice dA dn dc] 65)).alloc (.cells pmZ 61) = w3 at *
  have BX := Lib.hid (box_start M.out f0 HZ.out b0 HB2.out)
  have F0 := Lib.hid f0
  obtain ⟨t0, t1, t2, t3, t4, t5, t6⟩ := cells7 b0
  obtain ⟨x0, x1, x2, x3⟩ := cells4t b1
  clear f0 b0 b1 HB2 HZ
  have hL0 : L.length = 0 := by have := congrArg List.length M.out.bagL; rw [List.length_map, he] at this; simpa using this
  obtain ⟨bA, bc, hbv, _, _⟩ := BX.out.m.bag.sl.form
  rw [hL0] at hbv
  subst hbv
  have C76 := Lib.hid BX.out.m.c7
  go_wp2_with ((with_reducible refine gate_store 61 (.tmp 4) ?_); refine wpList_store_blk rfl 61 (.tmp 4) (.tmp 30) rfl (w.heap.size + 2) 61 pmZ _ rfl rfl BX.out.z rfl (by kernel_rfl) C76.out ?_; intro w7 B7 F7)
  obtain ⟨u0, u1, u2, u3, u4, u5, u6⟩ := cells7 B7
  refine bodyPost_ret (v := .agg (arM Ha Hb (.slice bA 0 bc) s0 s1 r0 r1)) (by simp [results, Try.results18, go_sem, u0, u1, u2, u3, u4, u5, u6]) rfl ?_
  exact BX.out.post F7
end Go.Proofs.Ytmgdbbbdhkfdmaa
