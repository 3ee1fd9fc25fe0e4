import Derived.Test.YtmgdbbbdhkfdmaaZ21
import Derived.Deep.DeepCutAuto
set_option linter.unusedSimpArgs false
set_option linter.unusedVariables false
namespace Go.Proofs.Ytmgdbbbdhkfdmaa
set_option maxRecDepth 100000
open Go.RowKit Go.Deep

theorem loop_len : ∀ (k : Nat) (x : St), (loopV k x).2.length ≤ k
  | 0, x => by simp [loopV]
  | k + 1, x => by
    by_cases h : 0 < nextV x
    · rw [loop_go k x h]; have := loop_len k (sendV x).1; simp; omega
    · rw [loop_stop _ x h]; simp
theorem sends_len {x : St} (hl : x.all.length ≤ 1000000) : (sendsV x).2.length ≤ 1000001 := by
  by_cases h : x.at_ = 4
  · rw [sendsV_open x h]
    have := loop_len x.all.length x
    have h2 : (closesV (loopV x.all.length x).1).2.length ≤ 1 := by unfold closesV; split <;> simp
    simp only [List.length_append]
    omega
  · rw [sendsV_else x h]; simp
theorem tick_len {x : St} (ok : Ok x) : (tickV x).2.length ≤ 1000002 := by
  unfold tickV
  dsimp only
  (repeat' split) <;> simp
theorem close_len {x : St} (ok : Ok x) : (closeV x).2.1.length ≤ 1000002 := by
  unfold closeV
  split
  · simp
  · have := sends_len (x := { x with closing := true }) ok.s.hl; simp only []; omega
theorem write_len {x : St} (ok : Ok x) (b : List Int) (hl : x.all.length + b.length ≤ 1000000) : (writeV x b).2.1.length ≤ 1000002 := by
  unfold writeV
  split
  · simp
  split
  · simp
  · have := sends_len (x := { x with all := x.all ++ b }) (by simp; omega); simp only []; omega
theorem read_len (x : St) : (readV x).2.2.length ≤ 1000002 := by
  unfold readV
  dsimp only
  split <;> simp
theorem come_len {x : St} (ok : Ok x) (p : Prt) : (comeV x p).2.1.length ≤ 1000002 := by
  unfold comeV
  split
  · simp
  · have h1 := comes_len x p
    have h2 := sends_len (ok.comes p (by omega)).s.hl
    simp only [List.length_append]
    omega
set_option maxHeartbeats 8000000 in
theorem turn_tick0 {S : Nat → Prop} {w : World} {Ha Hb : Hd} {P : Pm} {bv s0 s1 r0 r1 : Value} {L : List (Int × Prt × Value)} (m : PV S w Ha Hb P bv s0 s1 r0 r1 L) (hbl : P.bag.length ≤ 400) (ok : Ok P.e0) (rs : Rest P.e0) (hn : P.e0.now + 1 ≤ 1000000) (pk : Int) (kp : Bool) (dA : Option Addr) (dn dc : Nat) :
    Calls Try.prog 18 #[.agg (arM Ha Hb bv s0 s1 r0 r1), .agg #[.int .i64 4, .int .i64 pk, .bool kp, .slice dA dn dc]] w (TurnPost S w Ha Hb { P with e0 := (tickV P.e0).1, bag := putB 1 P.bag (tickV P.e0).2 }) := by
  have hLl : L.length ≤ 1000 := by have := congrArg List.length m.bagL; rw [List.length_map] at this; omega
  have f0 : Fr [] w (((w.alloc (.cells (arM Ha Hb bv s0 s1 r0 r1) 61)).alloc (.cells #[.int .i64 4, .int .i64 pk, .bool kp, .slice dA dn dc] 65)).alloc (.cells pmZ 61)) := (((Fr.refl [] w).alloc _).alloc _).alloc _
  have b0 : Blk (((w.alloc (.cells (arM Ha Hb bv s0 s1 r0 r1) 61)).alloc (.cells #[.int .i64 4, .int .i64 pk, .bool kp, .slice dA dn dc] 65)).alloc (.cells pmZ 61)) w.heap.size 61 (arM Ha Hb bv s0 s1 r0 r1) := ((Blk.new w 61 (arM Ha Hb bv s0 s1 r0 r1)).alloc _).alloc _
  have b1 : Blk (((w.alloc (.cells (arM Ha Hb bv s0 s1 r0 r1) 61)).alloc (.cells #[.int .i64 4, .int .i64 pk, .bool kp, .slice dA dn dc] 65)).alloc (.cells pmZ 61)) (w.heap.size + 1) 65 #[.int .i64 4, .int .i64 pk, .bool kp, .slice dA dn dc] := by
    have h := (Blk.new (w.alloc (.cells (arM Ha Hb bv s0 s1 r0 r1) 61)) 65 #[.int .i64 4, .int .i64 pk, .bool kp, .slice dA dn dc]).alloc (.cells pmZ 61)
    simpa using h
  have b2 : Blk (((w.alloc (.cells (arM Ha Hb bv s0 s1 r0 r1) 61)).alloc (.cells #[.int .i64 4, .int .i64 pk, .bool kp, .slice dA dn dc] 65)).alloc (.cells pmZ 61)) (w.heap.size + 2) 61 pmZ := by
    have h := Blk.new ((w.alloc (.cells (arM Ha Hb bv s0 s1 r0 r1) 61)).alloc (.cells #[.int .i64 4, .int .i64 pk, .bool kp, .slice dA dn dc] 65)) 61 pmZ
    simpa using h
  have hz : w.heap.size + 2 < (((w.alloc (.cells (arM Ha Hb bv s0 s1 r0 r1) 61)).alloc (.cells #[.int .i64 4, .int .i64 pk, .bool kp, .slice dA dn dc] 65)).alloc (.cells pmZ 61)).heap.size := b2.lt
  have M := Lib.hid m
  have HB2 := Lib.hid b2
  have HZ := Lib.hid hz
  clear m b2 hz
  go_enter Try.func18, Try.ntmps18
  go_upto_region 1 with fail
  generalize ((w.alloc (.cells (arM Ha Hb bv s0 s1 r0 r1) 61)).alloc (.cells #[.int .i64 4, .int .i64 pk, .bool kp, .slice dA dn dc] 65)).alloc (.cells pmZ 61) = w3 at *
  have BX := Lib.hid (box_start M.out f0 HZ.out b0 HB2.out)
  have F0 := Lib.hid f0
  obtain ⟨t0, t1, t2, t3, t4, t5, t6⟩ := cells7 b0
  obtain ⟨x0, x1, x2, x3⟩ := cells4t b1
  clear f0 b0 b1 HB2 HZ
  have hti := tick_si BX.out.m.duo.a ok rs hn
  have hlen := tick_len ok
  generalize tickV P.e0 = r at *
  have HTI := Lib.hid hti
  have HLN := Lib.hid hlen
  clear hti hlen ok rs hn
  go_wp2_with fail
  refine HTI.out.mono ?_
  rintro e w4 ⟨v4, rfl, hp4⟩
  obtain ⟨S4, Ha4, Lp4, hL4, hg4, pr4, bx4, nv4, fv4⟩ := BX.out.call0 hp4
  have HL4 := Lib.hid hL4
  have HLEN : Hid (Lp4.length ≤ 2000000) := Lib.hid (by have := congrArg List.length hL4; rw [List.length_map] at this; dsimp only at this; have := HLN.out; omega)
  have PR4 := Lib.hid pr4
  have BX4 := Lib.hid bx4
  clear hp4 hL4 hg4 pr4 bx4 nv4 fv4 t0 t1 t2 t3 t4 t5 t6 x0 x1 x2 x3 HTI HLN
  dsimp only at HL4
  have hpt := lput_any BX4.out.m 0 (by omega) _ Lp4 PR4.out HLEN.out hLl
  rw [HL4.out] at hpt
  have HPT := Lib.hid hpt
  clear hpt
  obtain ⟨t0, t1, t2, t3, t4, t5, t6⟩ := cells7 BX4.out.b
  go_wp2_with fail
  refine HPT.out.mono ?_
  rintro e w5 ⟨S5, bv5, L5, rfl, x5, m5, f5⟩
  have BB5 := Lib.hid (BX4.out.b.fr f5 (by simp))
  have M5 := Lib.hid m5
  have X5 := Lib.hid x5
  have F5 := Lib.hid f5
  have C7 := Lib.hid m5.c7
  clear m5 x5 f5 t0 t1 t2 t3 t4 t5 t6
  go_upto_region 33 with ((with_reducible refine gate_store 61 (.tmp 2) ?_); refine wpList_store_blk rfl 61 (.tmp 2) (.tmp 128) rfl w.heap.size 61 _ _ rfl rfl BB5.out rfl (by kernel_rfl) C7.out ?_; intro w6 B6 F6)
  have BX6 := Lib.hid (BX4.out.put F5.out X5.out M5.out B6 F6)
  have C76 := Lib.hid BX6.out.m.c7
  obtain ⟨t0, t1, t2, t3, t4, t5, t6⟩ := cells7 B6
  clear B6 F6
  go_wp2_with ((with_reducible refine gate_store 61 (.tmp 4) ?_); refine wpList_store_blk rfl 61 (.tmp 4) (.tmp 169) rfl (w.heap.size + 2) 61 pmZ _ rfl rfl BX6.out.z rfl (by kernel_rfl) C76.out ?_; intro w7 B7 F7)
  obtain ⟨u0, u1, u2, u3, u4, u5, u6⟩ := cells7 B7
  refine bodyPost_ret (v := .agg (arM Ha4 Hb bv5 s0 s1 r0 r1)) (by simp [results, Try.results18, go_sem, u0, u1, u2, u3, u4, u5, u6]) rfl ?_
  exact BX6.out.post F7
set_option maxHeartbeats 8000000 in
theorem turn_tick1 {S : Nat → Prop} {w : World} {Ha Hb : Hd} {P : Pm} {bv s0 s1 r0 r1 : Value} {L : List (Int × Prt × Value)} (m : PV S w Ha Hb P bv s0 s1 r0 r1 L) (hbl : P.bag.length ≤ 400) (ok : Ok P.e1) (rs : Rest P.e1) (hn : P.e1.now + 1 ≤ 1000000) (pk : Int) (kp : Bool) (dA : Option Addr) (dn dc : Nat) :
    Calls Try.prog 18 #[.agg (arM Ha Hb bv s0 s1 r0 r1), .agg #[.int .i64 5, .int .i64 pk, .bool kp, .slice dA dn dc]] w (TurnPost S w Ha Hb { P with e1 := (tickV P.e1).1, bag := putB 0 P.bag (tickV P.e1).2 }) := by
  have hLl : L.length ≤ 1000 := by have := congrArg List.length m.bagL; rw [List.length_map] at this; omega
  have f0 : Fr [] w (((w.alloc (.cells (arM Ha Hb bv s0 s1 r0 r1) 61)).alloc (.cells #[.int .i64 5, .int .i64 pk, .bool kp, .slice dA dn dc] 65)).alloc (.cells pmZ 61)) := (((Fr.refl [] w).alloc _).alloc _).alloc _
  have b0 : Blk (((w.alloc (.cells (arM Ha Hb bv s0 s1 r0 r1) 61)).alloc (.cells #[.int .i64 5, .int .i64 pk, .bool kp, .slice dA dn dc] 65)).alloc (.cells pmZ 61)) w.heap.size 61 (arM Ha Hb bv s0 s1 r0 r1) := ((Blk.new w 61 (arM Ha Hb bv s0 s1 r0 r1)).alloc _).alloc _
  have b1 : Blk (((w.alloc (.cells (arM Ha Hb bv s0 s1 r0 r1) 61)).alloc (.cells #[.int .i64 5, .int .i64 pk, .bool kp, .slice dA dn dc] 65)).alloc (.cells pmZ 61)) (w.heap.size + 1) 65 #[.int .i64 5, .int .i64 pk, .bool kp, .slice dA dn dc] := by
    have h := (Blk.new (w.alloc (.cells (arM Ha Hb bv s0 s1 r0 r1) 61)) 65 #[.int .i64 5, .int .i64 pk, .bool kp, .slice dA dn dc]).alloc (.cells pmZ 61)
    simpa using h
  have b2 : Blk (((w.alloc (.cells (arM Ha Hb bv s0 s1 r0 r1) 61)).alloc (.cells #[.int .i64 5, .int .i64 pk, .bool kp, .slice dA dn dc] 65)).alloc (.cells pmZ 61)) (w.heap.size + 2) 61 pmZ := by
    have h := Blk.new ((w.alloc (.cells (arM Ha Hb bv s0 s1 r0 r1) 61)).alloc (.cells #[.int .i64 5, .int .i64 pk, .bool kp, .slice dA dn dc] 65)) 61 pmZ
    simpa using h
  have hz : w.heap.size + 2 < (((w.alloc (.cells (arM Ha Hb bv s0 s1 r0 r1) 61)).alloc (.cells #[.int .i64 5, .int .i64 pk, .bool kp, .slice dA dn dc] 65)).alloc (.cells pmZ 61)).heap.size := b2.lt
  have M := Lib.hid m
  have HB2 := Lib.hid b2
  have HZ := Lib.hid hz
  clear m b2 hz
  go_enter Try.func18, Try.ntmps18
  go_upto_region 1 with fail
  generalize ((w.alloc (.cells (arM Ha Hb bv s0 s1 r0 r1) 61)).alloc (.cells #[.int .i64 5, .int .i64 pk, .bool kp, .slice dA dn dc] 65)).alloc (.cells pmZ 61) = w3 at *
  have BX := Lib.hid (box_start M.out f0 HZ.out b0 HB2.out)
  have F0 := Lib.hid f0
  obtain ⟨t0, t1, t2, t3, t4, t5, t6⟩ := cells7 b0
  obtain ⟨x0, x1, x2, x3⟩ := cells4t b1
  clear f0 b0 b1 HB2 HZ
  have hti := tick_si BX.out.m.duo.b ok rs hn
  have hlen := tick_len ok
  generalize tickV P.e1 = r at *
  have HTI := Lib.hid hti
  have HLN := Lib.hid hlen
  clear hti hlen ok rs hn
  go_wp2_with fail
  refine HTI.out.mono ?_
  rintro e w4 ⟨v4, rfl, hp4⟩
  obtain ⟨S4, Hb4, Lp4, hL4, hg4, pr4, bx4, nv4, fv4⟩ := BX.out.call1 hp4
  have HL4 := Lib.hid hL4
  have HLEN : Hid (Lp4.length ≤ 2000000) := Lib.hid (by have := congrArg List.length hL4; rw [List.length_map] at this; dsimp only at this; have := HLN.out; omega)
  have PR4 := Lib.hid pr4
  have BX4 := Lib.hid bx4
  clear hp4 hL4 hg4 pr4 bx4 nv4 fv4 t0 t1 t2 t3 t4 t5 t6 x0 x1 x2 x3 HTI HLN
  dsimp only at HL4
  have hpt := lput_any BX4.out.m 1 (by omega) _ Lp4 PR4.out HLEN.out hLl
  rw [HL4.out] at hpt
  have HPT := Lib.hid hpt
  clear hpt
  obtain ⟨t0, t1, t2, t3, t4, t5, t6⟩ := cells7 BX4.out.b
  go_wp2_with fail
  refine HPT.out.mono ?_
  rintro e w5 ⟨S5, bv5, L5, rfl, x5, m5, f5⟩
  have BB5 := Lib.hid (BX4.out.b.fr f5 (by simp))
  have M5 := Lib.hid m5
  have X5 := Lib.hid x5
  have F5 := Lib.hid f5
  have C7 := Lib.hid m5.c7
  clear m5 x5 f5 t0 t1 t2 t3 t4 t5 t6
  go_upto_region 33 with ((with_reducible refine gate_store 61 (.tmp 2) ?_); refine wpList_store_blk rfl 61 (.tmp 2) (.tmp 128) rfl w.heap.size 61 _ _ rfl rfl BB5.out rfl (by kernel_rfl) C7.out ?_; intro w6 B6 F6)
  have BX6 := Lib.hid (BX4.out.put F5.out X5.out M5.out B6 F6)
  have C76 := Lib.hid BX6.out.m.c7
  obtain ⟨t0, t1, t2, t3, t4, t5, t6⟩ := cells7 B6
  clear B6 F6
  go_wp2_with ((with_reducible refine gate_store 61 (.tmp 4) ?_); refine wpList_store_blk rfl 61 (.tmp 4) (.tmp 169) rfl (w.heap.size + 2) 61 pmZ _ rfl rfl BX6.out.z rfl (by kernel_rfl) C76.out ?_; intro w7 B7 F7)
  obtain ⟨u0, u1, u2, u3, u4, u5, u6⟩ := cells7 B7
  refine bodyPost_ret (v := .agg (arM Ha Hb4 bv5 s0 s1 r0 r1)) (by simp [results, Try.results18, go_sem, u0, u1, u2, u3, u4, u5, u6]) rfl ?_
  exact BX6.out.post F7
set_option maxHeartbeats 8000000 in
theorem turn_close0 {S : Nat → Prop} {w : World} {Ha Hb : Hd} {P : Pm} {bv s0 s1 r0 r1 : Value} {L : List (Int × Prt × Value)} (m : PV S w Ha Hb P bv s0 s1 r0 r1 L) (hbl : P.bag.length ≤ 400) (ok : Ok P.e0) (pk : Int) (kp : Bool) (dA : Option Addr) (dn dc : Nat) :
    Calls Try.prog 18 #[.agg (arM Ha Hb bv s0 s1 r0 r1), .agg #[.int .i64 6, .int .i64 pk, .bool kp, .slice dA dn dc]] w (TurnPost S w Ha Hb { P with e0 := (closeV P.e0).1, bag := putB 1 P.bag (closeV P.e0).2.1 }) := by
  have hLl : L.length ≤ 1000 := by have := congrArg List.length m.bagL; rw [List.length_map] at this; omega
  have f0 : Fr [] w (((w.alloc (.cells (arM Ha Hb bv s0 s1 r0 r1) 61)).alloc (.cells #[.int .i64 6, .int .i64 pk, .bool kp, .slice dA dn dc] 65)).alloc (.cells pmZ 61)) := (((Fr.refl [] w).alloc _).alloc _).alloc _
  have b0 : Blk (((w.alloc (.cells (arM Ha Hb bv s0 s1 r0 r1) 61)).alloc (.cells #[.int .i64 6, .int .i64 pk, .bool kp, .slice dA dn dc] 65)).alloc (.cells pmZ 61)) w.heap.size 61 (arM Ha Hb bv s0 s1 r0 r1) := ((Blk.new w 61 (arM Ha Hb bv s0 s1 r0 r1)).alloc _).alloc _
  have b1 : Blk (((w.alloc (.cells (arM Ha Hb bv s0 s1 r0 r1) 61)).alloc (.cells #[.int .i64 6, .int .i64 pk, .bool kp, .slice dA dn dc] 65)).alloc (.cells pmZ 61)) (w.heap.size + 1) 65 #[.int .i64 6, .int .i64 pk, .bool kp, .slice dA dn dc] := by
    have h := (Blk.new (w.alloc (.cells (arM Ha Hb bv s0 s1 r0 r1) 61)) 65 #[.int .i64 6, .int .i64 pk, .bool kp, .slice dA dn dc]).alloc (.cells pmZ 61)
    simpa using h
  have b2 : Blk (((w.alloc (.cells (arM Ha Hb bv s0 s1 r0 r1) 61)).alloc (.cells #[.int .i64 6, .int .i64 pk, .bool kp, .slice dA dn dc] 65)).alloc (.cells pmZ 61)) (w.heap.size + 2) 61 pmZ := by
    have h := Blk.new ((w.alloc (.cells (arM Ha Hb bv s0 s1 r0 r1) 61)).alloc (.cells #[.int .i64 6, .int .i64 pk, .bool kp, .slice dA dn dc] 65)) 61 pmZ
    simpa using h
  have hz : w.heap.size + 2 < (((w.alloc (.cells (arM Ha Hb bv s0 s1 r0 r1) 61)).alloc (.cells #[.int .i64 6, .int .i64 pk, .bool kp, .slice dA dn dc] 65)).alloc (.cells pmZ 61)).heap.size := b2.lt
  have M := Lib.hid m
  have HB2 := Lib.hid b2
  have HZ := Lib.hid hz
  clear m b2 hz
  go_enter Try.func18, Try.ntmps18
  go_upto_region 1 with fail
  generalize ((w.alloc (.cells (arM Ha Hb bv s0 s1 r0 r1) 61)).alloc (.cells #[.int .i64 6, .int .i64 pk, .bool kp, .slice dA dn dc] 65)).alloc (.cells pmZ 61) = w3 at *
  have BX := Lib.hid (box_start M.out f0 HZ.out b0 HB2.out)
  have F0 := Lib.hid f0
  obtain ⟨t0, t1, t2, t3, t4, t5, t6⟩ := cells7 b0
  obtain ⟨x0, x1, x2, x3⟩ := cells4t b1
  clear f0 b0 b1 HB2 HZ
  have hti := close_si BX.out.m.duo.a ok.s
  have hlen := close_len ok
  generalize closeV P.e0 = r at *
  have HTI := Lib.hid hti
  have HLN := Lib.hid hlen
  clear hti hlen ok
  go_wp2_with fail
  refine HTI.out.mono ?_
  rintro e w4 ⟨v4, rfl, hp4⟩
  obtain ⟨S4, Ha4, Lp4, hL4, hg4, pr4, bx4, nv4, fv4⟩ := BX.out.call0 hp4
  have HL4 := Lib.hid hL4
  have HLEN : Hid (Lp4.length ≤ 2000000) := Lib.hid (by have := congrArg List.length hL4; rw [List.length_map] at this; dsimp only at this; have := HLN.out; omega)
  have PR4 := Lib.hid pr4
  have BX4 := Lib.hid bx4
  clear hp4 hL4 hg4 pr4 bx4 nv4 fv4 t0 t1 t2 t3 t4 t5 t6 x0 x1 x2 x3 HTI HLN
  dsimp only at HL4
  have hpt := lput_any BX4.out.m 0 (by omega) _ Lp4 PR4.out HLEN.out hLl
  rw [HL4.out] at hpt
  have HPT := Lib.hid hpt
  clear hpt
  obtain ⟨t0, t1, t2, t3, t4, t5, t6⟩ := cells7 BX4.out.b
  go_wp2_with fail
  refine HPT.out.mono ?_
  rintro e w5 ⟨S5, bv5, L5, rfl, x5, m5, f5⟩
  have BB5 := Lib.hid (BX4.out.b.fr f5 (by simp))
  have M5 := Lib.hid m5
  have X5 := Lib.hid x5
  have F5 := Lib.hid f5
  have C7 := Lib.hid m5.c7
  clear m5 x5 f5 t0 t1 t2 t3 t4 t5 t6
  go_upto_region 33 with ((with_reducible refine gate_store 61 (.tmp 2) ?_); refine wpList_store_blk rfl 61 (.tmp 2) (.tmp 143) rfl w.heap.size 61 _ _ rfl rfl BB5.out rfl (by kernel_rfl) C7.out ?_; intro w6 B6 F6)
  have BX6 := Lib.hid (BX4.out.put F5.out X5.out M5.out B6 F6)
  have C76 := Lib.hid BX6.out.m.c7
  obtain ⟨t0, t1, t2, t3, t4, t5, t6⟩ := cells7 B6
  clear B6 F6
  go_wp2_with ((with_reducible refine gate_store 61 (.tmp 4) ?_); refine wpList_store_blk rfl 61 (.tmp 4) (.tmp 169) rfl (w.heap.size + 2) 61 pmZ _ rfl rfl BX6.out.z rfl (by kernel_rfl) C76.out ?_; intro w7 B7 F7)
  obtain ⟨u0, u1, u2, u3, u4, u5, u6⟩ := cells7 B7
  refine bodyPost_ret (v := .agg (arM Ha4 Hb bv5 s0 s1 r0 r1)) (by simp [results, Try.results18, go_sem, u0, u1, u2, u3, u4, u5, u6]) rfl ?_
  exact BX6.out.post F7
set_option maxHeartbeats 8000000 in
theorem turn_close1 {S : Nat → Prop} {w : World} {Ha Hb : Hd} {P : Pm} {bv s0 s1 r0 r1 : Value} {L : List (Int × Prt × Value)} (m : PV S w Ha Hb P bv s0 s1 r0 r1 L) (hbl : P.bag.length ≤ 400) (ok : Ok P.e1) (pk : Int) (kp : Bool) (dA : Option Addr) (dn dc : Nat) :
    Calls Try.prog 18 #[.agg (arM Ha Hb bv s0 s1 r0 r1), .agg #[.int .i64 7, .int .i64 pk, .bool kp, .slice dA dn dc]] w (TurnPost S w Ha Hb { P with e1 := (closeV P.e1).1, bag := putB 0 P.bag (closeV P.e1).2.1 }) := by
  have hLl : L.length ≤ 1000 := by have := congrArg List.length m.bagL; rw [List.length_map] at this; omega
  have f0 : Fr [] w (((w.alloc (.cells (arM Ha Hb bv s0 s1 r0 r1) 61)).alloc (.cells #[.int .i64 7, .int .i64 pk, .bool kp, .slice dA dn dc] 65)).alloc (.cells pmZ 61)) := (((Fr.refl [] w).alloc _).alloc _).alloc _
  have b0 : Blk (((w.alloc (.cells (arM Ha Hb bv s0 s1 r0 r1) 61)).alloc (.cells #[.int .i64 7, .int .i64 pk, .bool kp, .slice dA dn dc] 65)).alloc (.cells pmZ 61)) w.heap.size 61 (arM Ha Hb bv s0 s1 r0 r1) := ((Blk.new w 61 (arM Ha Hb bv s0 s1 r0 r1)).alloc _).alloc _
  have b1 : Blk (((w.alloc (.cells (arM Ha Hb bv s0 s1 r0 r1) 61)).alloc (.cells #[.int .i64 7, .int .i64 pk, .bool kp, .slice dA dn dc] 65)).alloc (.cells pmZ 61)) (w.heap.size + 1) 65 #[.int .i64 7, .int .i64 pk, .bool kp, .slice dA dn dc] := by
    have h := (Blk.new (w.alloc (.cells (arM Ha Hb bv s0 s1 r0 r1) 61)) 65 #[.int .i64 7, .int .i64 pk, .bool kp, .slice dA dn dc]).alloc (.cells pmZ 61)
    simpa using h
  have b2 : Blk (((w.alloc (.cells (arM Ha Hb bv s0 s1 r0 r1) 61)).alloc (.cells #[.int .i64 7, .int .i64 pk, .bool kp, .slice dA dn dc] 65)).alloc (.cells pmZ 61)) (w.heap.size + 2) 61 pmZ := by
    have h := Blk.new ((w.alloc (.cells (arM Ha Hb bv s0 s1 r0 r1) 61)).alloc (.cells #[.int .i64 7, .int .i64 pk, .bool kp, .slice dA dn dc] 65)) 61 pmZ
    simpa using h
  have hz : w.heap.size + 2 < (((w.alloc (.cells (arM Ha Hb bv s0 s1 r0 r1) 61)).alloc (.cells #[.int .i64 7, .int .i64 pk, .bool kp, .slice dA dn dc] 65)).alloc (.cells pmZ 61)).heap.size := b2.lt
  have M := Lib.hid m
  have HB2 := Lib.hid b2
  have HZ := Lib.hid hz
  clear m b2 hz
  go_enter Try.func18, Try.ntmps18
  go_upto_region 1 with fail
  generalize ((w.alloc (.cells (arM Ha Hb bv s0 s1 r0 r1) 61)).alloc (.cells #[.int .i64 7, .int .i64 pk, .bool kp, .slice dA dn dc] 65)).alloc (.cells pmZ 61) = w3 at *
  have BX := Lib.hid (box_start M.out f0 HZ.out b0 HB2.out)
  have F0 := Lib.hid f0
  obtain ⟨t0, t1, t2, t3, t4, t5, t6⟩ := cells7 b0
  obtain ⟨x0, x1, x2, x3⟩ := cells4t b1
  clear f0 b0 b1 HB2 HZ
  have hti := close_si BX.out.m.duo.b ok.s
  have hlen := close_len ok
  generalize closeV P.e1 = r at *
  have HTI := Lib.hid hti
  have HLN := Lib.hid hlen
  clear hti hlen ok
  go_wp2_with fail
  refine HTI.out.mono ?_
  rintro e w4 ⟨v4, rfl, hp4⟩
  obtain ⟨S4, Hb4, Lp4, hL4, hg4, pr4, bx4, nv4, fv4⟩ := BX.out.call1 hp4
  have HL4 := Lib.hid hL4
  have HLEN : Hid (Lp4.length ≤ 2000000) := Lib.hid (by have := congrArg List.length hL4; rw [List.length_map] at this; dsimp only at this; have := HLN.out; omega)
  have PR4 := Lib.hid pr4
  have BX4 := Lib.hid bx4
  clear hp4 hL4 hg4 pr4 bx4 nv4 fv4 t0 t1 t2 t3 t4 t5 t6 x0 x1 x2 x3 HTI HLN
  dsimp only at HL4
  have hpt := lput_any BX4.out.m 1 (by omega) _ Lp4 PR4.out HLEN.out hLl
  rw [HL4.out] at hpt
  have HPT := Lib.hid hpt
  clear hpt
  obtain ⟨t0, t1, t2, t3, t4, t5, t6⟩ := cells7 BX4.out.b
  go_wp2_with fail
  refine HPT.out.mono ?_
  rintro e w5 ⟨S5, bv5, L5, rfl, x5, m5, f5⟩
  have BB5 := Lib.hid (BX4.out.b.fr f5 (by simp))
  have M5 := Lib.hid m5
  have X5 := Lib.hid x5
  have F5 := Lib.hid f5
  have C7 := Lib.hid m5.c7
  clear m5 x5 f5 t0 t1 t2 t3 t4 t5 t6
  go_upto_region 33 with ((with_reducible refine gate_store 61 (.tmp 2) ?_); refine wpList_store_blk rfl 61 (.tmp 2) (.tmp 143) rfl w.heap.size 61 _ _ rfl rfl BB5.out rfl (by kernel_rfl) C7.out ?_; intro w6 B6 F6)
  have BX6 := Lib.hid (BX4.out.put F5.out X5.out M5.out B6 F6)
  have C76 := Lib.hid BX6.out.m.c7
  obtain ⟨t0, t1, t2, t3, t4, t5, t6⟩ := cells7 B6
  clear B6 F6
  go_wp2_with ((with_reducible refine gate_store 61 (.tmp 4) ?_); refine wpList_store_blk rfl 61 (.tmp 4) (.tmp 169) rfl (w.heap.size + 2) 61 pmZ _ rfl rfl BX6.out.z rfl (by kernel_rfl) C76.out ?_; intro w7 B7 F7)
  obtain ⟨u0, u1, u2, u3, u4, u5, u6⟩ := cells7 B7
  refine bodyPost_ret (v := .agg (arM Ha Hb4 bv5 s0 s1 r0 r1)) (by simp [results, Try.results18, go_sem, u0, u1, u2, u3, u4, u5, u6]) rfl ?_
  exact BX6.out.post F7
end Go.Proofs.Ytmgdbbbdhkfdmaa
