import Derived.Test.YtmgdbbbdhkfdmaaZ28
import Derived.Test.YtmgdbbbdhkfdmaaZ23
import Derived.Test.YtmgdbbbdhkfdmaaZ24
import Derived.Test.YtmgdbbbdhkfdmaaZ25
import Derived.Test.YtmgdbbbdhkfdmaaZ26
import Derived.Test.YtmgdbbbdhkfdmaaZ27
import Derived.Deep.DeepCutAuto
import Derived.Deep.RegionWith
import Derived.Test.YtmgdbbbdhkfdmaaZ18
set_option linter.unusedSimpArgs false
set_option linter.unusedVariables false
/-
  What a turn does, of whatever kind it is.
-/
namespace Go.Proofs.Ytmgdbbbdhkfdmaa
set_option maxRecDepth 100000
open Go.RowKit Go.Deep

theorem turn_any {S : Nat → Prop} {w : World} {Ha Hb : Hd} {P : Pm} {bv s0 s1 r0 r1 : Value} {L : List (Int × Prt × Value)} {i0 i1 : Int} {k : Nat} (m : PV S w Ha Hb P bv s0 s1 r0 r1 L) (h : PInv i0 i1 k P) (hk : k ≤ 120) (a0 : 0 ≤ i0 ∧ i0 < 4294967296) (a1 : 0 ≤ i1 ∧ i1 < 4294967296)
    (kd pk : Int) (kp : Bool) (d : List Int) (hdl : d.length ≤ 300) (dA : Option Addr) (dn dc : Nat) (T : Nat → Prop) (hd : Byt T w (.slice dA dn dc) d) (hT : ∀ b, T b → b ∉ Ha.own ∧ b ∉ Hb.own ∧ b < w.heap.size) :
    ∃ P', PInv i0 i1 (k + 1) P' ∧ Calls Try.prog 18 #[.agg (arM Ha Hb bv s0 s1 r0 r1), .agg #[.int .i64 kd, .int .i64 pk, .bool kp, .slice dA dn dc]] w (TurnPost S w Ha Hb P') := by
  have hb0 := h.h0.asks
  have hb1 := h.h1.asks
  have l0 := h.l0
  have l1 := h.l1
  have n0 := h.n0
  have n1 := h.n1
  by_cases hne : kd < 0 ∨ 9 < kd
  · exact ⟨P, h.none_ hk, turn_none m h.bl kd hne pk kp dA dn dc⟩
  by_cases k01 : kd = 0 ∨ kd = 1
  · by_cases hb : P.bag = []
    · refine ⟨P, h.none_ hk, ?_⟩
      rcases k01 with rfl | rfl
      · exact turn_empty0 m h.bl hb pk kp dA dn dc
      · exact turn_empty1 m h.bl hb pk kp dA dn dc
    · have hp : 0 < P.bag.length := List.length_pos_iff.2 hb
      obtain ⟨i, hi⟩ : ∃ i, i = pickI pk P.bag.length := ⟨_, rfl⟩
      have hil : i < P.bag.length := by rw [hi]; exact pick_lt pk hp
      have hx : P.bag[i]? = some P.bag[i] := List.getElem?_eq_getElem hil
      have hg := h.bag _ (List.getElem_mem hil)
      have hle : (P.bag.eraseIdx i).length ≤ 400 := by have := List.length_eraseIdx_le P.bag i; have := h.bl; omega
      have hlm : ∀ x ∈ P.bag.eraseIdx i, x ∈ P.bag := fun x hx => List.mem_of_mem_eraseIdx hx
      generalize P.bag[i] = x at *
      rcases k01 with rfl | rfl
      · rcases hg with ⟨e, g⟩ | ⟨e, g⟩
        · obtain ⟨t, q⟩ := x
          dsimp only at e g
          subst e
          cases kp
          · exact ⟨_, (h.less hk _ hlm hle).come0 hk a0 a1 q g, turn_pick00f m h.bl pk dA dn dc i hi hp h.h0.ok q hx ⟨g.w0, g.w1⟩⟩
          · exact ⟨_, h.come0 hk a0 a1 q g, turn_pick00t m h.bl pk dA dn dc i hi hp h.h0.ok q hx ⟨g.w0, g.w1⟩⟩
        · obtain ⟨t, q⟩ := x
          dsimp only at e g
          subst e
          cases kp
          · exact ⟨_, (h.less hk _ hlm hle).come1 hk a0 a1 q g, turn_pick01f m h.bl pk dA dn dc i hi hp h.h1.ok q hx ⟨g.w0, g.w1⟩⟩
          · exact ⟨_, h.come1 hk a0 a1 q g, turn_pick01t m h.bl pk dA dn dc i hi hp h.h1.ok q hx ⟨g.w0, g.w1⟩⟩
      · cases kp
        · exact ⟨_, (h.less hk _ hlm hle).none_ hk, turn_pick1f m h.bl pk dA dn dc i hi hp⟩
        · exact ⟨_, h.none_ hk, turn_pick1t m h.bl pk dA dn dc i hi hp⟩
  obtain rfl | rfl | rfl | rfl | rfl | rfl | rfl | rfl : kd = 2 ∨ kd = 3 ∨ kd = 4 ∨ kd = 5 ∨ kd = 6 ∨ kd = 7 ∨ kd = 8 ∨ kd = 9 := by omega
  · exact ⟨_, h.write0 hk d hdl, turn_write0 m h.bl h.h0.ok (by omega) (by omega) d T hT hdl pk kp dA dn dc hd⟩
  · exact ⟨_, h.write1 hk d hdl, turn_write1 m h.bl h.h1.ok (by omega) (by omega) d T hT hdl pk kp dA dn dc hd⟩
  · exact ⟨_, h.tick0 hk, turn_tick0 m h.bl h.h0.ok h.q0 (by omega) pk kp dA dn dc⟩
  · exact ⟨_, h.tick1 hk, turn_tick1 m h.bl h.h1.ok h.q1 (by omega) pk kp dA dn dc⟩
  · exact ⟨_, h.close0 hk, turn_close0 m h.bl h.h0.ok pk kp dA dn dc⟩
  · exact ⟨_, h.close1 hk, turn_close1 m h.bl h.h1.ok pk kp dA dn dc⟩
  · exact ⟨_, h.read0 hk, turn_read0 m h.bl h.h0.ok (by omega) pk kp dA dn dc⟩
  · exact ⟨_, h.read1 hk, turn_read1 m h.bl h.h1.ok (by omega) pk kp dA dn dc⟩
end Go.Proofs.Ytmgdbbbdhkfdmaa

/-
  What pair makes.
-/
namespace Go.Proofs.Ytmgdbbbdhkfdmaa
set_option maxRecDepth 100000
open Go.RowKit Go.Deep

def MakePost (w : World) (P : Pm) (e : Ending) (w' : World) : Prop :=
  ∃ S Ha Hb bv s0 s1 r0 r1 L, e = .returned (.agg (arM Ha Hb bv s0 s1 r0 r1)) ∧ PV S w' Ha Hb P bv s0 s1 r0 r1 L ∧ Late w Ha ∧ Late w Hb ∧ Fr [] w w'
set_option maxHeartbeats 8000000 in
theorem make_any (i0 i1 : Int) (c : Bool) (w : World) : Calls Try.prog 17 #[.agg #[.int .u32 i0, .int .u32 i1], .bool c] w (MakePost w (startV i0 i1 c)) := by
  have f0 : Fr [] w ((w.alloc (.cells #[.int .u32 i0, .int .u32 i1] 54)).alloc (.cells pmZ 61)) := ((Fr.refl [] w).alloc _).alloc _
  have b0 : Blk ((w.alloc (.cells #[.int .u32 i0, .int .u32 i1] 54)).alloc (.cells pmZ 61)) w.heap.size 54 #[.int .u32 i0, .int .u32 i1] := (Blk.new w 54 #[.int .u32 i0, .int .u32 i1]).alloc _
  have bz : Blk ((w.alloc (.cells #[.int .u32 i0, .int .u32 i1] 54)).alloc (.cells pmZ 61)) (w.heap.size + 1) 61 pmZ := by
    have h := Blk.new (w.alloc (.cells #[.int .u32 i0, .int .u32 i1] 54)) 61 pmZ
    simpa using h
  go_enter Try.func17, Try.ntmps17
  go_upto_region 1 with fail
  generalize (w.alloc (.cells #[.int .u32 i0, .int .u32 i1] 54)).alloc (.cells pmZ 61) = w1 at *
  have c0 : w1.cell? ⟨w.heap.size, 0, none⟩ = some (.int .u32 i0) := by simpa using b0.cell 0
  have c1 : w1.cell? ⟨w.heap.size, 1, none⟩ = some (.int .u32 i1) := by simpa using b0.cell 1
  have F1 := Lib.hid f0
  have BZ1 := Lib.hid bz
  have HZ := Lib.hid bz.lt
  clear f0 b0 bz
  go_upto_region 2 with (go_at_call 11; refine (new_si (fun b => b < w.heap.size) i0 true w1 (fun b hb => by have := HZ.out; omega)).mono ?_; rintro e w2 ⟨S2, Ha, v2, L2, rfl, hL2, x2, ma, pr2, n2, f2, la⟩; have MA := Lib.hid ma; have PR2 := Lib.hid pr2; have HL2 := Lib.hid hL2; have LA := Lib.hid la; have F2 := Lib.hid f2; have NS2 : Hid (¬ S2 (w.heap.size + 1)) := Lib.hid (fun hs => by rcases x2.2 _ hs with h | h; omega; have := HZ.out; omega); have c1 := fr_cell f2 c1; clear hL2 x2 ma pr2 n2 f2 la)
  go_upto_region 3 with (go_at_call 11; refine (new_si S2 i1 c w2 (HP.pub' MA.out.hp)).mono ?_; rintro e w3 ⟨S3, Hb, v3, L3, rfl, hL3, x3, mb, pr3, n3, f3, lb⟩; have D3 : Hid (Duo S3 w3 Ha Hb (newSV i0 true).1 (newSV i1 c).1) := Lib.hid ⟨MA.out.ext f3 x3 (HP.pub' mb.hp), mb, fun y hy hb => by have h1 := MA.out.lt y hy; have h2 := lb y hb; omega⟩; have PR3 := Lib.hid pr3; have PR23 : Hid (Pr S3 w3 v2 L2) := Lib.hid (PR2.out.fr f3 (by simp) (by simp) x3.1); have HL3 := Lib.hid hL3; have F3 := Lib.hid f3; have NS3 : Hid (¬ S3 (w.heap.size + 1)) := Lib.hid (x3.off (by have := HZ.out; have := F2.out.size; omega) NS2.out); have LA3 : Hid (Late w1 Ha) := Lib.hid (fun y hy => LA.out y hy); have LB3 : Hid (Late w1 Hb) := Lib.hid (fun y hy => Nat.le_trans F2.out.size (lb y hy)); have HZ3 : Hid (w.heap.size + 1 < w3.heap.size) := Lib.hid (by have := HZ.out; have := F2.out.size; have := f3.size; omega); clear hL3 x3 mb pr3 n3 f3 lb)
  clear MA PR2 LA
  go_upto_region 4 with fail
  have f4 : Fr [] w3 (w3.alloc (.cells (arM Ha Hb (.slice none 0 0) (.slice none 0 0) (.slice none 0 0) (.slice none 0 0) (.slice none 0 0)) 61)) := (Fr.refl [] w3).alloc _
  have b4 := Blk.new w3 61 (arM Ha Hb (.slice none 0 0) (.slice none 0 0) (.slice none 0 0) (.slice none 0 0) (.slice none 0 0))
  have m4 : PV S3 (w3.alloc (.cells (arM Ha Hb (.slice none 0 0) (.slice none 0 0) (.slice none 0 0) (.slice none 0 0) (.slice none 0 0)) 61)) Ha Hb ⟨(newSV i0 true).1, (newSV i1 c).1, [], [], [], [], []⟩ (.slice none 0 0) (.slice none 0 0) (.slice none 0 0) (.slice none 0 0) (.slice none 0 0) [] :=
    ⟨D3.out.fr f4, Bag.nil, rfl, Byt.nil, Byt.nil, Byt.nil, Byt.nil⟩
  have pr4 := PR23.out.fr f4 (by simp) (by simp) (fun _ h => h)
  have pr5 := PR3.out.fr f4 (by simp) (by simp) (fun _ h => h)
  generalize w3.alloc (.cells (arM Ha Hb (.slice none 0 0) (.slice none 0 0) (.slice none 0 0) (.slice none 0 0) (.slice none 0 0)) 61) = w4 at *
  obtain ⟨t0, t1, t2, t3, t4, t5, t6⟩ := cells7 b4
  have hl2 : L2.length ≤ 2000000 := by
    have := congrArg List.length HL2.out
    rw [List.length_map] at this
    have : (newSV i0 true).2.length ≤ 1 := by unfold newSV; simp
    omega
  have hl3 : L3.length ≤ 2000000 := by
    have := congrArg List.length HL3.out
    rw [List.length_map] at this
    have : (newSV i1 c).2.length ≤ 1 := by unfold newSV; split <;> simp
    omega
  have hp0 := lput_any m4 0 (by omega) v2 L2 pr4 hl2 (by simp)
  rw [HL2.out] at hp0
  have HP0 := Lib.hid hp0
  have PR5 := Lib.hid pr5
  have HL3' := Lib.hid hl3
  have FW4 : Hid (Fr [] w w4) := Lib.hid (((F1.out.trans F2.out (by simp)).trans F3.out (by simp)).trans f4 (by simp))
  have HZ4 : Hid (w.heap.size + 1 < w4.heap.size) := Lib.hid (by have := HZ3.out; have := f4.size; omega)
  have BZ4 := Lib.hid ((((BZ1.out.fr F2.out (by simp)).fr F3.out (by simp)).fr f4 (by simp)))
  clear m4 pr4 pr5 hl2 hl3 hp0 f4 b4 c0 c1 D3 PR3 PR23
  go_wp2_with fail
  refine HP0.out.mono ?_
  rintro e w5 ⟨S5, bv5, L5, rfl, x5, m5, f5⟩
  have hL5 : L5.length ≤ 1000 := by
    have := congrArg List.length m5.bagL
    rw [List.length_map] at this
    have h2 := putB_len (1 - 0) (newSV i0 true).2 [] (by simp)
    dsimp only at this
    omega
  have hp1 := lput_any m5 1 (by omega) v3 L3 (PR5.out.fr f5 (by simp) (by simp) x5.1) HL3'.out hL5
  rw [HL3.out] at hp1
  have HP1 := Lib.hid hp1
  have F5 := Lib.hid f5
  have NS5 : Hid (¬ S5 (w.heap.size + 1)) := Lib.hid (x5.off (by have := HZ4.out; omega) NS3.out)
  clear hp1 m5 x5 f5 hL5 t0 t1 t2 t3 t4 t5 t6
  go_wp2_with fail
  refine HP1.out.mono ?_
  rintro e w6 ⟨S6, bv6, L6, rfl, x6, m6, f6⟩
  have BZ6 := Lib.hid ((BZ4.out.fr F5.out (by simp)).fr f6 (by simp))
  have M6 := Lib.hid m6
  have F6 := Lib.hid f6
  have NS6 : Hid (¬ S6 (w.heap.size + 1)) := Lib.hid (x6.off (by have := HZ4.out; have := F5.out.size; omega) NS5.out)
  have C76 := Lib.hid m6.c7
  clear m6 x6 f6
  go_wp2_with ((with_reducible refine gate_store 61 (.tmp 4) ?_); refine wpList_store_blk rfl 61 (.tmp 4) (.tmp 31) rfl (w.heap.size + 1) 61 pmZ _ rfl rfl BZ6.out rfl (by kernel_rfl) C76.out ?_; intro w7 B7 F7)
  obtain ⟨u0, u1, u2, u3, u4, u5, u6⟩ := cells7 B7
  refine bodyPost_ret (v := .agg (arM Ha Hb bv6 (.slice none 0 0) (.slice none 0 0) (.slice none 0 0) (.slice none 0 0))) (by simp [results, Try.results17, go_sem, u0, u1, u2, u3, u4, u5, u6]) rfl ?_
  refine ⟨S6, Ha, Hb, _, _, _, _, _, L6, rfl, M6.out.box F7 NS6.out (fun hm => by have := LA3.out _ hm; have := HZ.out; omega) (fun hm => by have := LB3.out _ hm; have := HZ.out; omega), fun y hy => Nat.le_trans F1.out.size (LA3.out y hy), fun y hy => Nat.le_trans F1.out.size (LB3.out y hy), ((FW4.out.trans F5.out (by simp)).trans F6.out (by simp)).trans F7 (fun y hy => .inr (by simp at hy; omega))⟩
end Go.Proofs.Ytmgdbbbdhkfdmaa

/-
  StreamPair: the walk.
-/
namespace Go.Proofs.Ytmgdbbbdhkfdmaa
set_option maxRecDepth 100000
open Go.RowKit Go.Deep

/-- What is asked of the first end: nothing is amiss. -/
structure Asks0 (x : St) (P : Pm) (a s m l : Int) (un : Nat) : Prop where
  e : stA x = #[.int .i64 x.at_, .bool x.broken, .int .u32 x.peer, .int .i64 a, .int .i64 s, .int .i64 m, .int .i64 l, .int .i64 P.s0.length, .int .i64 ((P.r0.length : Int) + (un : Int)), .int .i64 un, .int .i64 x.clk.wt, .bool x.closing, .bool x.ended]
  d1 : decide (s < a) = false
  d2 : decide ((P.s0.length : Int) < m) = false
  d5 : decide (4096 < (P.s0.length : Int) - a) = false
  d6 : decide (1024 < (un : Int)) = false
  w1 : IntKind.i64.wrap ((P.r0.length : Int) + (un : Int)) = (P.r0.length : Int) + (un : Int)
  w2 : IntKind.i64.wrap ((P.s0.length : Int) - a) = (P.s0.length : Int) - a
theorem asks0 {i0 i1 : Int} {k : Nat} {P : Pm} (h : PInv i0 i1 k P) (hk : k ≤ 121) : ∃ a s m l un, Asks0 P.e0 P a s m l un := by
  obtain ⟨q1, q2, q3, q4, q5, q6, q7, q8⟩ := h.h0.asks
  have hl := h.l0
  have hl1 := h.l1
  have hw := Win.Inv.bd h.h0.ok.s.hw
  refine ⟨P.e0.win.a, P.e0.win.s, P.e0.win.m, P.e0.win.l, P.e0.unread.length, ⟨?_, ?_, ?_, ?_, ?_, ?_, ?_⟩⟩
  · show stA P.e0 = _
    unfold stA
    rw [q5, q6]
  · simpa using q3
  · simp; omega
  · simp; omega
  · simp; omega
  · exact IntWalk.i64_in _ (by omega)
  · exact IntWalk.i64_in _ (by omega)
/-- What is asked of the second end: nothing is amiss. -/
structure Asks1 (x : St) (P : Pm) (a s m l : Int) (un : Nat) : Prop where
  e : stA x = #[.int .i64 x.at_, .bool x.broken, .int .u32 x.peer, .int .i64 a, .int .i64 s, .int .i64 m, .int .i64 l, .int .i64 P.s1.length, .int .i64 ((P.r1.length : Int) + (un : Int)), .int .i64 un, .int .i64 x.clk.wt, .bool x.closing, .bool x.ended]
  d1 : decide (s < a) = false
  d2 : decide ((P.s1.length : Int) < m) = false
  d5 : decide (4096 < (P.s1.length : Int) - a) = false
  d6 : decide (1024 < (un : Int)) = false
  w1 : IntKind.i64.wrap ((P.r1.length : Int) + (un : Int)) = (P.r1.length : Int) + (un : Int)
  w2 : IntKind.i64.wrap ((P.s1.length : Int) - a) = (P.s1.length : Int) - a
theorem asks1 {i0 i1 : Int} {k : Nat} {P : Pm} (h : PInv i0 i1 k P) (hk : k ≤ 121) : ∃ a s m l un, Asks1 P.e1 P a s m l un := by
  obtain ⟨q1, q2, q3, q4, q5, q6, q7, q8⟩ := h.h1.asks
  have hl := h.l0
  have hl1 := h.l1
  have hw := Win.Inv.bd h.h1.ok.s.hw
  refine ⟨P.e1.win.a, P.e1.win.s, P.e1.win.m, P.e1.win.l, P.e1.unread.length, ⟨?_, ?_, ?_, ?_, ?_, ?_, ?_⟩⟩
  · show stA P.e1 = _
    unfold stA
    rw [q5, q6]
  · simpa using q3
  · simp; omega
  · simp; omega
  · simp; omega
  · exact IntWalk.i64_in _ (by omega)
  · exact IntWalk.i64_in _ (by omega)
theorem PV.forms {S : Nat → Prop} {w : World} {Ha Hb : Hd} {P : Pm} {bv s0 s1 r0 r1 : Value} {L : List (Int × Prt × Value)} (m : PV S w Ha Hb P bv s0 s1 r0 r1 L) : (∃ A n c, bv = .slice A n c) ∧ (∃ A n c, s0 = .slice A n c) ∧ (∃ A n c, s1 = .slice A n c) ∧ (∃ A n c, r0 = .slice A n c) ∧ (∃ A n c, r1 = .slice A n c) := by
  obtain ⟨A0, c0, h0, _⟩ := m.bag.sl.form
  obtain ⟨A1, c1, h1, _⟩ := m.s0.form
  obtain ⟨A2, c2, h2, _⟩ := m.s1.form
  obtain ⟨A3, c3, h3, _⟩ := m.r0.form
  obtain ⟨A4, c4, h4, _⟩ := m.r1.form
  exact ⟨⟨_, _, _, h0⟩, ⟨_, _, _, h1⟩, ⟨_, _, _, h2⟩, ⟨_, _, _, h3⟩, ⟨_, _, _, h4⟩⟩
structure InLoop (w : World) (b7 : Nat) (i0 i1 : Int) (k : Nat) (S : Nat → Prop) (Ha Hb : Hd) (P : Pm) (bv s0 s1 r0 r1 : Value) (L : List (Int × Prt × Value)) (wr : World) : Prop where
  inv : PInv i0 i1 k P
  m : PV S wr Ha Hb P bv s0 s1 r0 r1 L
  la : Late w Ha
  lb : Late w Hb
  b : Blk wr b7 61 (arM Ha Hb bv s0 s1 r0 r1)
  nS : ¬ S b7
  na : b7 ∉ Ha.own
  nb : b7 ∉ Hb.own
  f : Fr [] w wr
  z : w.heap.size ≤ b7
theorem InLoop.fr {w wr w' : World} {b7 : Nat} {i0 i1 : Int} {k : Nat} {S : Nat → Prop} {Ha Hb : Hd} {P : Pm} {bv s0 s1 r0 r1 : Value} {L : List (Int × Prt × Value)} (h : InLoop w b7 i0 i1 k S Ha Hb P bv s0 s1 r0 r1 L wr) (f : Fr [] wr w') : InLoop w b7 i0 i1 k S Ha Hb P bv s0 s1 r0 r1 L w' :=
  ⟨h.inv, h.m.fr f, h.la, h.lb, h.b.fr f (by simp), h.nS, h.na, h.nb, h.f.trans f (by simp), h.z⟩
theorem set7 {w : World} {b : Nat} {t : TypeId} {v0 v1 v2 v3 v4 v5 v6 : Value} (B : Blk w b t #[v0, v1, v2, v3, v4, v5, v6]) (u0 u1 u2 u3 u4 u5 u6 : Value) : Blk (((((((w.setCell ⟨b, 0, none⟩ u0).setCell ⟨b, 1, none⟩ u1).setCell ⟨b, 2, none⟩ u2).setCell ⟨b, 3, none⟩ u3).setCell ⟨b, 4, none⟩ u4).setCell ⟨b, 5, none⟩ u5).setCell ⟨b, 6, none⟩ u6) b t #[u0, u1, u2, u3, u4, u5, u6] := by
  simpa using ((((((B.set_ 0 u0).set_ 1 u1).set_ 2 u2).set_ 3 u3).set_ 4 u4).set_ 5 u5).set_ 6 u6
theorem fr7 {O : List Nat} {a w : World} {b : Nat} (h : Fr O a w) (hp : b ∈ O ∨ a.heap.size ≤ b) (u0 u1 u2 u3 u4 u5 u6 : Value) : Fr O a (((((((w.setCell ⟨b, 0, none⟩ u0).setCell ⟨b, 1, none⟩ u1).setCell ⟨b, 2, none⟩ u2).setCell ⟨b, 3, none⟩ u3).setCell ⟨b, 4, none⟩ u4).setCell ⟨b, 5, none⟩ u5).setCell ⟨b, 6, none⟩ u6) :=
  ((((((h.setCell hp _).setCell hp _).setCell hp _).setCell hp _).setCell hp _).setCell hp _).setCell hp _
/-- Behind a turn. -/
theorem InLoop.turn {w wr w5 : World} {b7 : Nat} {i0 i1 : Int} {k : Nat} {S S5 : Nat → Prop} {Ha Hb Ha5 Hb5 : Hd} {P P5 : Pm} {bv s0 s1 r0 r1 bv5 s05 s15 r05 r15 : Value} {L L5 : List (Int × Prt × Value)} (h : InLoop w b7 i0 i1 k S Ha Hb P bv s0 s1 r0 r1 L wr) (inv : PInv i0 i1 (k + 1) P5)
    (x5 : Ext wr S S5) (m5 : PV S5 w5 Ha5 Hb5 P5 bv5 s05 s15 r05 r15 L5) (la5 : Hd.like wr Ha Ha5) (lb5 : Hd.like wr Hb Hb5) (f5 : Fr (Ha.own ++ Hb.own) wr w5) :
    InLoop w b7 i0 i1 (k + 1) S5 Ha5 Hb5 P5 bv5 s05 s15 r05 r15 L5 (((((((w5.setCell ⟨b7, 0, none⟩ (ptr Ha5.g)).setCell ⟨b7, 1, none⟩ (ptr Hb5.g)).setCell ⟨b7, 2, none⟩ bv5).setCell ⟨b7, 3, none⟩ s05).setCell ⟨b7, 4, none⟩ s15).setCell ⟨b7, 5, none⟩ r05).setCell ⟨b7, 6, none⟩ r15) := by
  have hb := h.b.lt
  have hz := h.f.size
  have nS5 : ¬ S5 b7 := x5.off hb h.nS
  have na5 : b7 ∉ Ha5.own := fun hm => by rcases la5.own _ hm with q | q; exact h.na q; omega
  have nb5 : b7 ∉ Hb5.own := fun hm => by rcases lb5.own _ hm with q | q; exact h.nb q; omega
  have b5 := h.b.fr f5 (fun hm => by rcases List.mem_append.1 hm with q | q; exact h.na q; exact h.nb q)
  have f7 := fr7 (b := b7) (Fr.refl [b7] w5) (.inl (by simp)) (ptr Ha5.g) (ptr Hb5.g) bv5 s05 s15 r05 r15
  refine ⟨inv, m5.box f7 nS5 na5 nb5, fun y hy => ?_, fun y hy => ?_, set7 b5 _ _ _ _ _ _ _, nS5, na5, nb5, (h.f.trans f5 (fun y hy => ?_)).trans f7 (fun y hy => .inr (by simp at hy; subst hy; exact h.z)), h.z⟩
  · rcases la5.own y hy with q | q
    · exact h.la y q
    · omega
  · rcases lb5.own y hy with q | q
    · exact h.lb y q
    · omega
  · rcases List.mem_append.1 hy with q | q
    · exact .inr (h.la y q)
    · exact .inr (h.lb y q)
def LoopRel (w : World) (b7 : Nat) (i0 i1 : Int) (n : Nat) (s8 : Value) (wr : World) : Prop := ∃ k S Ha Hb P bv s0 s1 r0 r1 L, s8 = .int .i64 (k : Nat) ∧ k ≤ n ∧ InLoop w b7 i0 i1 k S Ha Hb P bv s0 s1 r0 r1 L wr
set_option maxHeartbeats 16000000 in
theorem pair_any (i0 i1 : Int) (a0 : 0 ≤ i0 ∧ i0 < 4294967296) (a1 : 0 ≤ i1 ∧ i1 < 4294967296) (both : Bool) (A : Option Addr) (n c : Nat) (f : Nat → PTurn) (w : World) (h : Turns w w.heap.size A n f) (hn : n ≤ maxLen) :
    Calls Try.prog 4 #[.agg #[.int .u32 i0, .int .u32 i1], .bool both, .slice A n c] w fun e w' => e = .returned (.bool true) ∧ Fr [] w w' := by
  have f0 : Fr [] w (w.alloc (.cells #[.int .u32 i0, .int .u32 i1] 54)) := (Fr.refl [] w).alloc _
  have b0 : Blk (w.alloc (.cells #[.int .u32 i0, .int .u32 i1] 54)) w.heap.size 54 #[.int .u32 i0, .int .u32 i1] := Blk.new w _ _
  have hsm := small_any (w.alloc (.cells #[.int .u32 i0, .int .u32 i1] 54)) w.heap.size A n c f (h.fr f0 (Nat.le_refl _) (by simp)) hn
  have HSM := Lib.hid hsm
  have H := Lib.hid h
  clear hsm h
  go_enter Try.func4, Try.ntmps4
  go_wp2_with fail
  refine HSM.out.mono ?_
  rintro e w1 ⟨sm, rfl, rfl, hsm⟩
  generalize w.alloc (.cells #[.int .u32 i0, .int .u32 i1] 54) = w1 at *
  have c0 : w1.cell? ⟨w.heap.size, 0, none⟩ = some (.int .u32 i0) := by simpa using b0.cell 0
  have c1 : w1.cell? ⟨w.heap.size, 1, none⟩ = some (.int .u32 i1) := by simpa using b0.cell 1
  have F1 := Lib.hid f0
  have HS := Lib.hid hsm
  clear f0 b0 hsm HSM
  rcases Bool.eq_false_or_eq_true sm with rfl | rfl
  · obtain ⟨hn120, hd300⟩ := HS.out rfl
    have HD3 := Lib.hid hd300
    clear hd300 HS
    have hmk := make_any i0 i1 both w1
    have HMK := Lib.hid hmk
    clear hmk
    go_upto_region 4 with (go_at_call 17; refine HMK.out.mono ?_; rintro e w2 ⟨S2, Ha, Hb, bv, s0, s1, r0, r1, L, rfl, m2, la2, lb2, f2⟩; obtain ⟨⟨A0, n0, c0', rfl⟩, ⟨A1, n1, c1', rfl⟩, ⟨A2, n2, c2', rfl⟩, ⟨A3, n3, c3', rfl⟩, ⟨A4, n4, c4', rfl⟩⟩ := m2.forms; have M2 := Lib.hid m2; have LA2 := Lib.hid la2; have LB2 := Lib.hid lb2; have F2 := Lib.hid f2; clear m2 la2 lb2 f2)
    have hst : LoopRel w w2.heap.size i0 i1 n (.int .i64 (0 : Nat)) (w2.alloc (.cells (arM Ha Hb (.slice A0 n0 c0') (.slice A1 n1 c1') (.slice A2 n2 c2') (.slice A3 n3 c3') (.slice A4 n4 c4')) 61)) := by
      have f3 : Fr [] w2 (w2.alloc (.cells (arM Ha Hb (.slice A0 n0 c0') (.slice A1 n1 c1') (.slice A2 n2 c2') (.slice A3 n3 c3') (.slice A4 n4 c4')) 61)) := (Fr.refl [] w2).alloc _
      exact ⟨0, S2, Ha, Hb, startV i0 i1 both, _, _, _, _, _, L, rfl, Nat.zero_le _, ⟨start_inv i0 i1 both, M2.out.fr f3, fun y hy => Nat.le_trans F1.out.size (LA2.out y hy), fun y hy => Nat.le_trans F1.out.size (LB2.out y hy), Blk.new w2 _ _, fun hs => by have := M2.out.duo.pub _ hs; omega, fun hm => by have := M2.out.duo.a.lt _ hm; omega, fun hm => by have := M2.out.duo.b.lt _ hm; omega, (F1.out.trans F2.out (by simp)).trans f3 (by simp), by have := F1.out.size; have := F2.out.size; omega⟩⟩
    have HST := Lib.hid hst
    clear hst M2 LA2 LB2 F2 HMK
    generalize w2.alloc (.cells (arM Ha Hb (.slice A0 n0 c0') (.slice A1 n1 c1') (.slice A2 n2 c2') (.slice A3 n3 c3') (.slice A4 n4 c4')) 61) = w3 at *
    generalize w2.heap.size = b7 at *
    go_wp2_with fail
    go_loopw [8] (fun s8 wr => LoopRel w b7 i0 i1 n s8 wr) (fun s8 _ => n - (intOf s8).toNat)
    case atStart => exact HST.out
    case round =>
      obtain ⟨k, S, Ha, Hb, P, bv, s0, s1, r0, r1, L, rfl, hk, IL⟩ := hrel
      have HIL := Lib.hid IL
      clear IL
      by_cases hkn : k < n
      · have dk : decide ((k : Int) < (n : Int)) = true := by simpa using hkn
        obtain ⟨tb, to', hA, htb, x0, x1, x2, x3, hby⟩ := (H.out.fr HIL.out.f (Nat.le_refl _) (by simp)) k hkn
        subst hA
        obtain ⟨dA, dc, hdv, _, _⟩ := hby.form
        rw [hdv] at x3 hby
        obtain ⟨P5, hinv, hcall⟩ := turn_any (HIL.out.m.fr (Fr.refl [] wr).drew) HIL.out.inv (by omega) a0 a1 (f k).kind (f k).pick (f k).keep (f k).d (HD3.out k hkn) dA _ dc (fun b => b < w.heap.size) (hby.fr (Fr.refl [] wr).drew (by simp)) (fun b hb => ⟨fun hm => by have := HIL.out.la _ hm; omega, fun hm => by have := HIL.out.lb _ hm; omega, by have := HIL.out.f.size; show b < wr.heap.size; omega⟩)
        have HCALL := Lib.hid hcall
        have HINV := Lib.hid hinv
        obtain ⟨t0, t1, t2, t3, t4, t5, t6⟩ := cells7 HIL.out.b
        have hlt7 := HIL.out.b.lt
        clear hcall hinv hby hdv
        go_upto_region 7 with fail
        go_cut [] (fun wx => ∃ S5 Ha5 Hb5 bv5 s05 s15 r05 r15 L5, InLoop w b7 i0 i1 (k + 1) S5 Ha5 Hb5 P5 bv5 s05 s15 r05 r15 L5 wx)
        case first =>
          go_region_with (first
            | (go_at_call 18; go_loud (refine HCALL.out.mono ?_; rintro e w5 ⟨S5, Ha5, Hb5, bv5, s05, s15, r05, r15, L5, rfl, y5, m5, la5, lb5, f5⟩; obtain ⟨⟨A0, n0, c0', rfl⟩, ⟨A1, n1, c1', rfl⟩, ⟨A2, n2, c2', rfl⟩, ⟨A3, n3, c3', rfl⟩, ⟨A4, n4, c4', rfl⟩⟩ := m5.forms; have IL5 := HIL.out.fr (Fr.refl [] wr).drew; have b5 := IL5.b.fr f5 (fun hm => by rcases List.mem_append.1 hm with q | q; exact HIL.out.na q; exact HIL.out.nb q); obtain ⟨u0, u1, u2, u3, u4, u5, u6⟩ := cells7 b5; have z0 := b5.frozen 0; have z1 := b5.frozen 1; have z2 := b5.frozen 2; have z3 := b5.frozen 3; have z4 := b5.frozen 4; have z5 := b5.frozen 5; have z6 := b5.frozen 6; have l5 := b5.lt; have HI5 := Lib.hid (IL5.turn HINV.out y5 m5 la5 lb5 f5); clear IL5 y5 m5 la5 lb5 f5 b5)))
          all_goals
            go_wp2_with fail
            go_meet
            exact ⟨_, _, _, _, _, _, _, _, _, HI5.out⟩
        case rest =>
          obtain ⟨S5, Ha5, Hb5, bv5, s05, s15, r05, r15, L5, IL5⟩ := hcut
          obtain ⟨A1, c1', rfl, _, _⟩ := IL5.m.s0.form
          obtain ⟨A2, c2', rfl, _, _⟩ := IL5.m.s1.form
          obtain ⟨A3, c3', rfl, _, _⟩ := IL5.m.r0.form
          obtain ⟨A4, c4', rfl, _, _⟩ := IL5.m.r1.form
          have HI := Lib.hid IL5
          clear IL5
          go_wp2_with fail
          go_loopw [9] (fun s9 wq => ∃ j : Nat, j ≤ 2 ∧ s9 = .int .i64 (j : Nat) ∧ InLoop w b7 i0 i1 (k + 1) S5 Ha5 Hb5 P5 bv5 (.slice A1 P5.s0.length c1') (.slice A2 P5.s1.length c2') (.slice A3 P5.r0.length c3') (.slice A4 P5.r1.length c4') L5 wq) (fun s9 _ => 2 - (intOf s9).toNat)
          case atStart => exact ⟨0, by omega, rfl, HI.out⟩
          case round =>
            obtain ⟨j, hj, rfl, IL⟩ := hrel
            rcases (show j = 0 ∨ j = 1 ∨ j = 2 by omega) with rfl | rfl | rfl
            · obtain ⟨a, s, m, l, un, AK⟩ := asks0 IL.inv (by omega)
              obtain ⟨p1, p2, _⟩ := IL.inv.h0.asks
              have hst := state_si IL.m.duo.a IL.inv.h0.ok.s
              rw [AK.e] at hst
              obtain ⟨t0, t1, t2, t3, t4, t5, t6⟩ := cells7 IL.b
              have HIL2 := Lib.hid IL
              have HS := Lib.hid hst
              have HAK := Lib.hid AK
              have HP1 := Lib.hid p1
              clear IL hst AK p1
              go_wp2_with fail
              refine HS.out.mono ?_
              rintro e w7 ⟨rfl, f7⟩
              have F7 := Lib.hid f7
              clear f7 t0 t1 t2 t3 t4 t5 t6
              go_upto_region 13 with fail 
              generalize hfm : (#[.int .i64 P5.e0.at_, .bool P5.e0.broken, .int .u32 P5.e0.peer, .int .i64 a, .int .i64 s, .int .i64 m, .int .i64 l, .int .i64 P5.s0.length, .int .i64 ((P5.r0.length : Int) + (un : Int)), .int .i64 un, .int .i64 P5.e0.clk.wt, .bool P5.e0.closing, .bool P5.e0.ended] : Array Value) = fm
              have b10 := (Blk.new w7 34 fm).fr ((Fr.refl [] _).alloc (.cells #[.int .i64 a, .int .i64 s, .int .i64 m, .int .i64 l] 32)) (by simp)
              have b11 := Blk.new (w7.alloc (.cells fm 34)) 32 #[.int .i64 a, .int .i64 s, .int .i64 m, .int .i64 l]
              rw [World.size_alloc] at b11
              have IL9 := HIL2.out.fr (F7.out.trans (((Fr.refl [] w7).alloc (.cells fm 34)).alloc (.cells #[.int .i64 a, .int .i64 s, .int .i64 m, .int .i64 l] 32)) (by simp))
              generalize (w7.alloc (.cells fm 34)).alloc (.cells #[.int .i64 a, .int .i64 s, .int .i64 m, .int .i64 l] 32) = w9 at *
              subst hfm
              obtain ⟨_, _, _, q3, q4, q5, q6⟩ := cells7 IL9.b
              have r7 : w9.cell? ⟨w7.heap.size, 7, none⟩ = some (.int .i64 P5.s0.length) := b10.cell 7
              have r8 : w9.cell? ⟨w7.heap.size, 8, none⟩ = some (.int .i64 ((P5.r0.length : Int) + (un : Int))) := b10.cell 8
              have r9 : w9.cell? ⟨w7.heap.size, 9, none⟩ = some (.int .i64 un) := b10.cell 9
              have r0 : w9.cell? ⟨w7.heap.size + 1, 0, none⟩ = some (.int .i64 a) := b11.cell 0
              have r1 : w9.cell? ⟨w7.heap.size + 1, 1, none⟩ = some (.int .i64 s) := b11.cell 1
              have r2 : w9.cell? ⟨w7.heap.size + 1, 2, none⟩ = some (.int .i64 m) := b11.cell 2
              have t3 := Grew.cell q3
              have t4 := Grew.cell q4
              have t5 := Grew.cell q5
              have t6 := Grew.cell q6
              have y7 := Grew.cell r7
              have y8 := Grew.cell r8
              have y9 := Grew.cell r9
              have z0 := Grew.cell r0
              have z1 := Grew.cell r1
              have z2 := Grew.cell r2
              have hbg : ∀ p : Grew w9, Calls Try.prog 19 #[.slice A2 P5.s1.length c2', .slice A3 P5.r0.length c3'] p.W fun e w' => e = .returned (.bool true) ∧ ∃ q : Grew w9, w' = q.W := fun p => grew_call (begins_any A2 c2' P5.s1 P5.r0 A3 c3' p.W (IL9.m.s1.fr p.fr (by simp)) (IL9.m.r0.fr p.fr (by simp)) p2 HP1.out)
              have HBG := Lib.hid hbg
              have HIL9 := Lib.hid IL9
              obtain ⟨_, k1, k2, k5, k6, k7, k8⟩ := HAK.out
              clear IL9 b10 b11 hbg q3 q4 q5 q6 r7 r8 r9 r0 r1 r2 HIL2 HI HS HAK
              refine wp_region_grew (by kernel_rfl) (by kernel_rfl) ?_
              repeat (go_big_quiet_step ((go_at_call 19; exact HBG.out _)))
              refine wpQuiet_nil ?_
              intro W1 f1
              go_wp2_with fail
              exact ⟨⟨1, by omega, rfl, HIL9.out.fr f1⟩, by simp [intOf]⟩
            · obtain ⟨a, s, m, l, un, AK⟩ := asks1 IL.inv (by omega)
              obtain ⟨p1, p2, _⟩ := IL.inv.h1.asks
              have hst := state_si IL.m.duo.b IL.inv.h1.ok.s
              rw [AK.e] at hst
              obtain ⟨t0, t1, t2, t3, t4, t5, t6⟩ := cells7 IL.b
              have HIL2 := Lib.hid IL
              have HS := Lib.hid hst
              have HAK := Lib.hid AK
              have HP1 := Lib.hid p1
              clear IL hst AK p1
              go_wp2_with fail
              refine HS.out.mono ?_
              rintro e w7 ⟨rfl, f7⟩
              have F7 := Lib.hid f7
              clear f7 t0 t1 t2 t3 t4 t5 t6
              go_upto_region 13 with fail 
              generalize hfm : (#[.int .i64 P5.e1.at_, .bool P5.e1.broken, .int .u32 P5.e1.peer, .int .i64 a, .int .i64 s, .int .i64 m, .int .i64 l, .int .i64 P5.s1.length, .int .i64 ((P5.r1.length : Int) + (un : Int)), .int .i64 un, .int .i64 P5.e1.clk.wt, .bool P5.e1.closing, .bool P5.e1.ended] : Array Value) = fm
              have b10 := (Blk.new w7 34 fm).fr ((Fr.refl [] _).alloc (.cells #[.int .i64 a, .int .i64 s, .int .i64 m, .int .i64 l] 32)) (by simp)
              have b11 := Blk.new (w7.alloc (.cells fm 34)) 32 #[.int .i64 a, .int .i64 s, .int .i64 m, .int .i64 l]
              rw [World.size_alloc] at b11
              have IL9 := HIL2.out.fr (F7.out.trans (((Fr.refl [] w7).alloc (.cells fm 34)).alloc (.cells #[.int .i64 a, .int .i64 s, .int .i64 m, .int .i64 l] 32)) (by simp))
              generalize (w7.alloc (.cells fm 34)).alloc (.cells #[.int .i64 a, .int .i64 s, .int .i64 m, .int .i64 l] 32) = w9 at *
              subst hfm
              obtain ⟨_, _, _, q3, q4, q5, q6⟩ := cells7 IL9.b
              have r7 : w9.cell? ⟨w7.heap.size, 7, none⟩ = some (.int .i64 P5.s1.length) := b10.cell 7
              have r8 : w9.cell? ⟨w7.heap.size, 8, none⟩ = some (.int .i64 ((P5.r1.length : Int) + (un : Int))) := b10.cell 8
              have r9 : w9.cell? ⟨w7.heap.size, 9, none⟩ = some (.int .i64 un) := b10.cell 9
              have r0 : w9.cell? ⟨w7.heap.size + 1, 0, none⟩ = some (.int .i64 a) := b11.cell 0
              have r1 : w9.cell? ⟨w7.heap.size + 1, 1, none⟩ = some (.int .i64 s) := b11.cell 1
              have r2 : w9.cell? ⟨w7.heap.size + 1, 2, none⟩ = some (.int .i64 m) := b11.cell 2
              have t3 := Grew.cell q3
              have t4 := Grew.cell q4
              have t5 := Grew.cell q5
              have t6 := Grew.cell q6
              have y7 := Grew.cell r7
              have y8 := Grew.cell r8
              have y9 := Grew.cell r9
              have z0 := Grew.cell r0
              have z1 := Grew.cell r1
              have z2 := Grew.cell r2
              have hbg : ∀ p : Grew w9, Calls Try.prog 19 #[.slice A1 P5.s0.length c1', .slice A4 P5.r1.length c4'] p.W fun e w' => e = .returned (.bool true) ∧ ∃ q : Grew w9, w' = q.W := fun p => grew_call (begins_any A1 c1' P5.s0 P5.r1 A4 c4' p.W (IL9.m.s0.fr p.fr (by simp)) (IL9.m.r1.fr p.fr (by simp)) p2 HP1.out)
              have HBG := Lib.hid hbg
              have HIL9 := Lib.hid IL9
              obtain ⟨_, k1, k2, k5, k6, k7, k8⟩ := HAK.out
              clear IL9 b10 b11 hbg q3 q4 q5 q6 r7 r8 r9 r0 r1 r2 HIL2 HI HS HAK
              refine wp_region_grew (by kernel_rfl) (by kernel_rfl) ?_
              repeat (go_big_quiet_step ((go_at_call 19; exact HBG.out _)))
              refine wpQuiet_nil ?_
              intro W1 f1
              go_wp2_with fail
              exact ⟨⟨2, by omega, rfl, HIL9.out.fr f1⟩, by simp [intOf]⟩
            · have HIL2 := Lib.hid IL
              clear IL
              go_wp2_with fail
              exact ⟨⟨k + 1, S5, Ha5, Hb5, P5, bv5, _, _, _, _, L5, by simp, by omega, HIL2.out⟩, by simp [intOf]; omega⟩
      · obtain rfl : n = k := by omega
        go_wp2_with fail
        refine (known_any _).mono ?_
        rintro e w6 ⟨rfl, f6⟩
        go_wp2_with fail
        go_ret
        exact ⟨rfl, HIL.out.f.trans f6 (by simp)⟩
  · go_wp2_with fail
    refine (known_any _).mono ?_
    rintro e w6 ⟨rfl, f6⟩
    go_wp2_with fail
    go_ret
    exact ⟨rfl, F1.out.trans f6 (by simp)⟩
end Go.Proofs.Ytmgdbbbdhkfdmaa

/-
  The numbers of two ends, by value.
-/
namespace Go.Proofs.Ytmgdbbbdhkfdmaa
set_option maxRecDepth 100000
open Go.ChangeShapes Go.WideShapes Go.ChangeAt Go.RowKit Go.Deep Go.Joins

theorem okWide_array {P : Program} {w : World} {r : Reach} {base : Nat} {t e : TypeId} {n : Nat} {v : Value} (ht : P.underlying t = some (.array n e)) (h : Value.okWide P w r base t v) : ∃ cs, v = .agg cs ∧ cs.size = P.cellsOf t := by
  simp only [Value.okWide, ht] at h
  obtain ⟨cs, h1, h2, _⟩ := h
  exact ⟨cs, h1, h2⟩
theorem open_isns {H : Type} {enc : TypeId × Value → H} {w : World} {base : Nat} {spare : Nat → Bool} {held : Bool} {r : Reach} {b0 : Nat} {v : Value} {d : DataW H} {p : List MemPlace}
    (hv : Value.okWide Try.prog w r b0 54 v) (h : DataW.Trod enc Try.prog w base spare held 54 v d p) : ∃ i0 i1 : Int, v = .agg #[.int .u32 i0, .int .u32 i1] ∧ (0 ≤ i0 ∧ i0 < 4294967296) ∧ (0 ≤ i1 ∧ i1 < 4294967296) := by
  obtain ⟨cs, rfl, hsz⟩ := okWide_array Try.underlying54 hv
  have hC : Try.prog.cellsOf 54 = 2 := by kernel_rfl
  have hC1 : Try.prog.cellsOf 23 = 1 := by kernel_rfl
  rw [hC] at hsz
  obtain ⟨l⟩ := cs
  match l, hsz with
  | [c0, c1], _ =>
    obtain ⟨fuel, hf⟩ := h
    obtain ⟨xs, n, _, _, _, hlen, hat⟩ := DataW.trod_array Try.underlying54 hf
    match xs, hlen with
    | [y0, y1], _ =>
      have h0 : DataW.trod enc Try.prog w base spare held n 23 [c0] = some y0 := by simpa [Value.cells, hC1] using hat 0 (by omega)
      have h1 : DataW.trod enc Try.prog w base spare held n 23 [c1] = some y1 := by simpa [Value.cells, hC1] using hat 1 (by omega)
      obtain ⟨i0, e0, _, w0⟩ := DataW.trod_int Try.underlying23 h0
      obtain ⟨i1, e1, _, w1⟩ := DataW.trod_int Try.underlying23 h1
      simp only [List.cons.injEq, and_true] at e0 e1
      subst e0 e1
      have b0 := bounds_u32 w0
      have b1 := bounds_u32 w1
      exact ⟨i0, i1, rfl, ⟨by omega, by omega⟩, ⟨by omega, by omega⟩⟩
end Go.Proofs.Ytmgdbbbdhkfdmaa
