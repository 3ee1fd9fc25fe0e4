import Derived.Test.YtmgdbbbdhkfdmaaZ22
import Derived.Deep.DeepCutAuto
set_option linter.unusedSimpArgs false
set_option linter.unusedVariables false
namespace Go.Proofs.Ytmgdbbbdhkfdmaa
set_option maxRecDepth 100000
open Go.RowKit Go.Deep

set_option maxHeartbeats 8000000 in
theorem turn_read0 {S : Nat → Prop} {w : World} {Ha Hb : Hd} {P : Pm} {bv s0 s1 r0 r1 : Value} {L : List (Int × Prt × Value)} (m : PV S w Ha Hb P bv s0 s1 r0 r1 L) (hbl : P.bag.length ≤ 400) (ok : Ok P.e0) (hr : P.r0.length ≤ 1000000) (pk : Int) (kp : Bool) (dA : Option Addr) (dn dc : Nat) :
    Calls Try.prog 18 #[.agg (arM Ha Hb bv s0 s1 r0 r1), .agg #[.int .i64 8, .int .i64 pk, .bool kp, .slice dA dn dc]] w (TurnPost S w Ha Hb { P with e0 := (readV P.e0).1, bag := putB 1 P.bag (readV P.e0).2.2, r0 := P.r0 ++ (readV P.e0).2.1 }) := by
  have hLl : L.length ≤ 1000 := by have := congrArg List.length m.bagL; rw [List.length_map] at this; omega
  have f0 : Fr [] w (((w.alloc (.cells (arM Ha Hb bv s0 s1 r0 r1) 61)).alloc (.cells #[.int .i64 8, .int .i64 pk, .bool kp, .slice dA dn dc] 65)).alloc (.cells pmZ 61)) := (((Fr.refl [] w).alloc _).alloc _).alloc _
  have b0 : Blk (((w.alloc (.cells (arM Ha Hb bv s0 s1 r0 r1) 61)).alloc (.cells #[.int .i64 8, .int .i64 pk, .bool kp, .slice dA dn dc] 65)).alloc (.cells pmZ 61)) w.heap.size 61 (arM Ha Hb bv s0 s1 r0 r1) := ((Blk.new w 61 (arM Ha Hb bv s0 s1 r0 r1)).alloc _).alloc _
  have b1 : Blk (((w.alloc (.cells (arM Ha Hb bv s0 s1 r0 r1) 61)).alloc (.cells #[.int .i64 8, .int .i64 pk, .bool kp, .slice dA dn dc] 65)).alloc (.cells pmZ 61)) (w.heap.size + 1) 65 #[.int .i64 8, .int .i64 pk, .bool kp, .slice dA dn dc] := by
    have h := (Blk.new (w.alloc (.cells (arM Ha Hb bv s0 s1 r0 r1) 61)) 65 #[.int .i64 8, .int .i64 pk, .bool kp, .slice dA dn dc]).alloc (.cells pmZ 61)
    simpa using h
  have b2 : Blk (((w.alloc (.cells (arM Ha Hb bv s0 s1 r0 r1) 61)).alloc (.cells #[.int .i64 8, .int .i64 pk, .bool kp, .slice dA dn dc] 65)).alloc (.cells pmZ 61)) (w.heap.size + 2) 61 pmZ := by
    have h := Blk.new ((w.alloc (.cells (arM Ha Hb bv s0 s1 r0 r1) 61)).alloc (.cells #[.int .i64 8, .int .i64 pk, .bool kp, .slice dA dn dc] 65)) 61 pmZ
    simpa using h
  have hz : w.heap.size + 2 < (((w.alloc (.cells (arM Ha Hb bv s0 s1 r0 r1) 61)).alloc (.cells #[.int .i64 8, .int .i64 pk, .bool kp, .slice dA dn dc] 65)).alloc (.cells pmZ 61)).heap.size := b2.lt
  have M := Lib.hid m
  have HB2 := Lib.hid b2
  have HZ := Lib.hid hz
  clear m b2 hz
  go_enter Try.func18, Try.ntmps18
  go_upto_region 1 with fail
  generalize ((w.alloc (.cells (arM Ha Hb bv s0 s1 r0 r1) 61)).alloc (.cells #[.int .i64 8, .int .i64 pk, .bool kp, .slice dA dn dc] 65)).alloc (.cells pmZ 61) = w3 at *
  have BX := Lib.hid (box_start M.out f0 HZ.out b0 HB2.out)
  have F0 := Lib.hid f0
  obtain ⟨t0, t1, t2, t3, t4, t5, t6⟩ := cells7 b0
  obtain ⟨x0, x1, x2, x3⟩ := cells4t b1
  clear f0 b0 b1 HB2 HZ
  have hti := read_si BX.out.m.duo.a ok.s
  have hlen := read_len P.e0
  have hun : (readV P.e0).2.1.length ≤ 1024 := by rw [read_unread]; exact ok.s.hu
  generalize readV P.e0 = r at *
  have HTI := Lib.hid hti
  have HLN := Lib.hid hlen
  have HUN := Lib.hid hun
  clear hti hlen ok hun
  go_wp2_with fail
  refine HTI.out.mono ?_
  rintro e w4 ⟨S4', H4', v4, L4', rfl, hL4', x4', lk4', m4', p4', n4', f4', by4, na4⟩
  obtain ⟨uA, uc, huv, _, huc⟩ := by4.form
  rw [huv] at by4 ⊢
  obtain ⟨S4, Ha4, Lp4, hL4, hg4, pr4, bx4, nv4, fv4⟩ := BX.out.call0 (r := (r.1, r.2.2)) ⟨S4', H4', v4, L4', rfl, hL4', x4', lk4', m4', p4', n4', f4'.mono (by simp [Hd.own])⟩
  have HL4 := Lib.hid hL4
  have HLEN : Hid (Lp4.length ≤ 2000000) := Lib.hid (by have := congrArg List.length hL4; rw [List.length_map] at this; dsimp only at this; have := HLN.out; omega)
  have PR4 := Lib.hid pr4
  have BX4 := Lib.hid bx4
  have NV4 := Lib.hid nv4
  have BY4 := Lib.hid by4
  clear hL4 hg4 pr4 bx4 nv4 fv4 t0 t1 t2 t3 t4 t5 t6 x0 x1 x2 x3 HTI HLN hL4' x4' lk4' m4' p4' n4' f4' by4 na4
  dsimp only at HL4
  obtain ⟨rA, rc, hrv, _, _⟩ := BX4.out.m.r0.form
  have HRV := Lib.hid hrv
  obtain ⟨t0, t1, t2, t3, t4, t5, t6⟩ := cells7 BX4.out.b
  have z5 := BX4.out.b.frozen 5
  have l5 := BX4.out.b.lt
  change w4.cell? ⟨w.heap.size, 5, none⟩ = some r0 at t5
  rw [hrv] at t5
  dsimp only at t5
  have BR := Lib.hid BX4.out.m.r0
  rw [hrv] at BR
  dsimp only at BR
  clear hrv
  obtain ⟨i0, hi0, hz0, hz1, hz2⟩ := info_parts info_u8
  have HLm1 : Hid (0 + P.r0.length ≤ maxLen) := Lib.hid (by unfold maxLen; omega)
  have HLb1 : Hid ((0 + P.r0.length) * 1 ≤ 140737488355328) := Lib.hid (by omega)
  have HN1 : Hid (0 + P.r0.length = P.r0.length) := Lib.hid (by omega)
  have HLm2 : Hid (P.r0.length + r.2.1.length ≤ maxLen) := Lib.hid (by unfold maxLen; have := HUN.out; omega)
  have HLb2 : Hid ((P.r0.length + r.2.1.length) * 1 ≤ 140737488355328) := Lib.hid (by have := HUN.out; omega)
  go_upto_region 32 with (first
    | (at_builtin; refine wpList_append_sl _ rfl (.const (.slice none 0 0)) (.tmp 159) 25 rfl 5 i0 (.int .u8 0) 1 1 Try.underlying25 hi0 hz0 hz1 hz2 rfl (by decide) (.slice none 0 0) 0 [] (by rfl) (World.ownsRow_nil _ 0 5 1) S4 (.slice rA P.r0.length rc) P.r0.length (byts P.r0) (by rfl) BR.out (byts_one _) HLm1.out HLb1.out P.r0.length HN1.out ?_; intro A7 c7 W7 h10 h11 h12; have F7 : Hid (Fr [] w4 W7) := Lib.hid (by simpa [ob, Value.ownBlock] using h11); have N7 := Lib.hid (fresh_nil h12); have H10 := Lib.hid h10; clear h10 h11 h12)
    | (at_builtin; refine wpList_append_sl _ rfl (.tmp 160) (.tmp 161) 25 rfl 5 i0 (.int .u8 0) 1 1 Try.underlying25 hi0 hz0 hz1 hz2 rfl (by decide) (.slice A7 P.r0.length c7) P.r0.length ([] ++ byts P.r0) (by rfl) H10.out _ (.slice uA r.2.1.length uc) r.2.1.length (byts r.2.1) (by rfl) (BY4.out.fr F7.out (by simp)) (byts_one _) HLm2.out HLb2.out (P.r0.length + r.2.1.length) rfl ?_; intro A8 c8 W8 h13 h14 h15; have F8 : Hid (Fr [] w4 W8) := Lib.hid (F7.out.trans h14 (fun y hy => .inr (N7.out y (mem_ob.1 hy)))); have N8 : Hid (∀ b, (Value.slice A8 (P.r0.length + r.2.1.length) c8).ownBlock = some b → w4.heap.size ≤ b) := Lib.hid (fresh_two F7.out.size N7.out h15); have H13 := Lib.hid h13; have z8 := (BX4.out.b.fr F8.out (by simp)).frozen 5; have y8 := fr_cell F8.out t5; have l8 := (BX4.out.b.fr F8.out (by simp)).lt; clear h13 h14 h15))
  have hown : W8.ownsRow 0 5 1 (.slice A8 (P.r0 ++ r.2.1).length c8) (P.r0 ++ r.2.1).length (byts (P.r0 ++ r.2.1)) := by
    have h := H13.out
    rw [List.nil_append, byts_app] at h
    rwa [List.length_append]
  obtain ⟨S9, e9, bx9⟩ := BX4.out.read0 hown F8.out (by rw [List.length_append]; exact N8.out)
  have hl9 : (P.r0 ++ r.2.1).length = P.r0.length + r.2.1.length := List.length_append ..
  have f9 : Fr [w.heap.size] w4 (W8.setCell ⟨w.heap.size, 5, none⟩ (.slice A8 (P.r0 ++ r.2.1).length c8)) := (F8.out.mono (by simp)).setCell (p := ⟨w.heap.size, 5, none⟩) (.inl (by simp)) _
  rw [← hl9]
  clear hl9 H13 H10 N8
  generalize P.r0 ++ r.2.1 = rt at *
  generalize W8.setCell ⟨w.heap.size, 5, none⟩ (.slice A8 rt.length c8) = w9 at *
  have PR9 := Lib.hid (PR4.out.fr f9 (fun y hy => by simp at hy; subst hy; simpa using (BX4.out.n 0 (by omega)).1) (fun b hb => by have := NV4.out b hb; have := BX.out.s; simp; omega) e9.1)
  have BX9 := Lib.hid bx9
  clear hown e9 bx9 f9 t0 t1 t2 t3 t4 t5 t6 z5 l5 z8 y8 l8 F7 F8 N7
  have hpt := lput_any BX9.out.m 0 (by omega) _ Lp4 PR9.out HLEN.out hLl
  rw [HL4.out] at hpt
  have HPT := Lib.hid hpt
  clear hpt
  obtain ⟨t0, t1, t2, t3, t4, t5, t6⟩ := cells7 BX9.out.b
  go_wp2_with fail
  refine HPT.out.mono ?_
  rintro e w5 ⟨S5, bv5, L5, rfl, x5, m5, f5⟩
  have BB5 := Lib.hid (BX9.out.b.fr f5 (by simp))
  have M5 := Lib.hid m5
  have X5 := Lib.hid x5
  have F5 := Lib.hid f5
  have C7 := Lib.hid m5.c7
  clear m5 x5 f5 t0 t1 t2 t3 t4 t5 t6
  go_upto_region 33 with ((with_reducible refine gate_store 61 (.tmp 2) ?_); refine wpList_store_blk rfl 61 (.tmp 2) (.tmp 168) rfl w.heap.size 61 _ _ rfl rfl BB5.out rfl (by kernel_rfl) C7.out ?_; intro w6 B6 F6)
  have BX6 := Lib.hid (BX9.out.put F5.out X5.out M5.out B6 F6)
  have C76 := Lib.hid BX6.out.m.c7
  obtain ⟨t0, t1, t2, t3, t4, t5, t6⟩ := cells7 B6
  clear B6 F6
  go_wp2_with ((with_reducible refine gate_store 61 (.tmp 4) ?_); refine wpList_store_blk rfl 61 (.tmp 4) (.tmp 169) rfl (w.heap.size + 2) 61 pmZ _ rfl rfl BX6.out.z rfl (by kernel_rfl) C76.out ?_; intro w7 B7 F7)
  obtain ⟨u0, u1, u2, u3, u4, u5, u6⟩ := cells7 B7
  refine bodyPost_ret (v := .agg (arM Ha4 Hb bv5 s0 s1 (.slice A8 rt.length c8) r1)) (by simp [results, Try.results18, go_sem, u0, u1, u2, u3, u4, u5, u6]) rfl ?_
  exact BX6.out.post F7
set_option maxHeartbeats 8000000 in
theorem turn_read1 {S : Nat → Prop} {w : World} {Ha Hb : Hd} {P : Pm} {bv s0 s1 r0 r1 : Value} {L : List (Int × Prt × Value)} (m : PV S w Ha Hb P bv s0 s1 r0 r1 L) (hbl : P.bag.length ≤ 400) (ok : Ok P.e1) (hr : P.r1.length ≤ 1000000) (pk : Int) (kp : Bool) (dA : Option Addr) (dn dc : Nat) :
    Calls Try.prog 18 #[.agg (arM Ha Hb bv s0 s1 r0 r1), .agg #[.int .i64 9, .int .i64 pk, .bool kp, .slice dA dn dc]] w (TurnPost S w Ha Hb { P with e1 := (readV P.e1).1, bag := putB 0 P.bag (readV P.e1).2.2, r1 := P.r1 ++ (readV P.e1).2.1 }) := by
  have hLl : L.length ≤ 1000 := by have := congrArg List.length m.bagL; rw [List.length_map] at this; omega
  have f0 : Fr [] w (((w.alloc (.cells (arM Ha Hb bv s0 s1 r0 r1) 61)).alloc (.cells #[.int .i64 9, .int .i64 pk, .bool kp, .slice dA dn dc] 65)).alloc (.cells pmZ 61)) := (((Fr.refl [] w).alloc _).alloc _).alloc _
  have b0 : Blk (((w.alloc (.cells (arM Ha Hb bv s0 s1 r0 r1) 61)).alloc (.cells #[.int .i64 9, .int .i64 pk, .bool kp, .slice dA dn dc] 65)).alloc (.cells pmZ 61)) w.heap.size 61 (arM Ha Hb bv s0 s1 r0 r1) := ((Blk.new w 61 (arM Ha Hb bv s0 s1 r0 r1)).alloc _).alloc _
  have b1 : Blk (((w.alloc (.cells (arM Ha Hb bv s0 s1 r0 r1) 61)).alloc (.cells #[.int .i64 9, .int .i64 pk, .bool kp, .slice dA dn dc] 65)).alloc (.cells pmZ 61)) (w.heap.size + 1) 65 #[.int .i64 9, .int .i64 pk, .bool kp, .slice dA dn dc] := by
    have h := (Blk.new (w.alloc (.cells (arM Ha Hb bv s0 s1 r0 r1) 61)) 65 #[.int .i64 9, .int .i64 pk, .bool kp, .slice dA dn dc]).alloc (.cells pmZ 61)
    simpa using h
  have b2 : Blk (((w.alloc (.cells (arM Ha Hb bv s0 s1 r0 r1) 61)).alloc (.cells #[.int .i64 9, .int .i64 pk, .bool kp, .slice dA dn dc] 65)).alloc (.cells pmZ 61)) (w.heap.size + 2) 61 pmZ := by
    have h := Blk.new ((w.alloc (.cells (arM Ha Hb bv s0 s1 r0 r1) 61)).alloc (.cells #[.int .i64 9, .int .i64 pk, .bool kp, .slice dA dn dc] 65)) 61 pmZ
    simpa using h
  have hz : w.heap.size + 2 < (((w.alloc (.cells (arM Ha Hb bv s0 s1 r0 r1) 61)).alloc (.cells #[.int .i64 9, .int .i64 pk, .bool kp, .slice dA dn dc] 65)).alloc (.cells pmZ 61)).heap.size := b2.lt
  have M := Lib.hid m
  have HB2 := Lib.hid b2
  have HZ := Lib.hid hz
  clear m b2 hz
  go_enter Try.func18, Try.ntmps18
  go_upto_region 1 with fail
  generalize ((w.alloc (.cells (arM Ha Hb bv s0 s1 r0 r1) 61)).alloc (.cells #[.int .i64 9, .int .i64 pk, .bool kp, .slice dA dn dc] 65)).alloc (.cells pmZ 61) = w3 at *
  have BX := Lib.hid (box_start M.out f0 HZ.out b0 HB2.out)
  have F0 := Lib.hid f0
  obtain ⟨t0, t1, t2, t3, t4, t5, t6⟩ := cells7 b0
  obtain ⟨x0, x1, x2, x3⟩ := cells4t b1
  clear f0 b0 b1 HB2 HZ
  have hti := read_si BX.out.m.duo.b ok.s
  have hlen := read_len P.e1
  have hun : (readV P.e1).2.1.length ≤ 1024 := by rw [read_unread]; exact ok.s.hu
  generalize readV P.e1 = r at *
  have HTI := Lib.hid hti
  have HLN := Lib.hid hlen
  have HUN := Lib.hid hun
  clear hti hlen ok hun
  go_wp2_with fail
  refine HTI.out.mono ?_
  rintro e w4 ⟨S4', H4', v4, L4', rfl, hL4', x4', lk4', m4', p4', n4', f4', by4, na4⟩
  obtain ⟨uA, uc, huv, _, huc⟩ := by4.form
  rw [huv] at by4 ⊢
  obtain ⟨S4, Hb4, Lp4, hL4, hg4, pr4, bx4, nv4, fv4⟩ := BX.out.call1 (r := (r.1, r.2.2)) ⟨S4', H4', v4, L4', rfl, hL4', x4', lk4', m4', p4', n4', f4'.mono (by simp [Hd.own])⟩
  have HL4 := Lib.hid hL4
  have HLEN : Hid (Lp4.length ≤ 2000000) := Lib.hid (by have := congrArg List.length hL4; rw [List.length_map] at this; dsimp only at this; have := HLN.out; omega)
  have PR4 := Lib.hid pr4
  have BX4 := Lib.hid bx4
  have NV4 := Lib.hid nv4
  have BY4 := Lib.hid by4
  clear hL4 hg4 pr4 bx4 nv4 fv4 t0 t1 t2 t3 t4 t5 t6 x0 x1 x2 x3 HTI HLN hL4' x4' lk4' m4' p4' n4' f4' by4 na4
  dsimp only at HL4
  obtain ⟨rA, rc, hrv, _, _⟩ := BX4.out.m.r1.form
  have HRV := Lib.hid hrv
  obtain ⟨t0, t1, t2, t3, t4, t5, t6⟩ := cells7 BX4.out.b
  have z5 := BX4.out.b.frozen 6
  have l5 := BX4.out.b.lt
  change w4.cell? ⟨w.heap.size, 6, none⟩ = some r1 at t6
  rw [hrv] at t6
  dsimp only at t6
  have BR := Lib.hid BX4.out.m.r1
  rw [hrv] at BR
  dsimp only at BR
  clear hrv
  obtain ⟨i0, hi0, hz0, hz1, hz2⟩ := info_parts info_u8
  have HLm1 : Hid (0 + P.r1.length ≤ maxLen) := Lib.hid (by unfold maxLen; omega)
  have HLb1 : Hid ((0 + P.r1.length) * 1 ≤ 140737488355328) := Lib.hid (by omega)
  have HN1 : Hid (0 + P.r1.length = P.r1.length) := Lib.hid (by omega)
  have HLm2 : Hid (P.r1.length + r.2.1.length ≤ maxLen) := Lib.hid (by unfold maxLen; have := HUN.out; omega)
  have HLb2 : Hid ((P.r1.length + r.2.1.length) * 1 ≤ 140737488355328) := Lib.hid (by have := HUN.out; omega)
  go_upto_region 32 with (first
    | (at_builtin; refine wpList_append_sl _ rfl (.const (.slice none 0 0)) (.tmp 159) 25 rfl 5 i0 (.int .u8 0) 1 1 Try.underlying25 hi0 hz0 hz1 hz2 rfl (by decide) (.slice none 0 0) 0 [] (by rfl) (World.ownsRow_nil _ 0 5 1) S4 (.slice rA P.r1.length rc) P.r1.length (byts P.r1) (by rfl) BR.out (byts_one _) HLm1.out HLb1.out P.r1.length HN1.out ?_; intro A7 c7 W7 h10 h11 h12; have F7 : Hid (Fr [] w4 W7) := Lib.hid (by simpa [ob, Value.ownBlock] using h11); have N7 := Lib.hid (fresh_nil h12); have H10 := Lib.hid h10; clear h10 h11 h12)
    | (at_builtin; refine wpList_append_sl _ rfl (.tmp 160) (.tmp 161) 25 rfl 5 i0 (.int .u8 0) 1 1 Try.underlying25 hi0 hz0 hz1 hz2 rfl (by decide) (.slice A7 P.r1.length c7) P.r1.length ([] ++ byts P.r1) (by rfl) H10.out _ (.slice uA r.2.1.length uc) r.2.1.length (byts r.2.1) (by rfl) (BY4.out.fr F7.out (by simp)) (byts_one _) HLm2.out HLb2.out (P.r1.length + r.2.1.length) rfl ?_; intro A8 c8 W8 h13 h14 h15; have F8 : Hid (Fr [] w4 W8) := Lib.hid (F7.out.trans h14 (fun y hy => .inr (N7.out y (mem_ob.1 hy)))); have N8 : Hid (∀ b, (Value.slice A8 (P.r1.length + r.2.1.length) c8).ownBlock = some b → w4.heap.size ≤ b) := Lib.hid (fresh_two F7.out.size N7.out h15); have H13 := Lib.hid h13; have z8 := (BX4.out.b.fr F8.out (by simp)).frozen 6; have y8 := fr_cell F8.out t6; have l8 := (BX4.out.b.fr F8.out (by simp)).lt; clear h13 h14 h15))
  have hown : W8.ownsRow 0 5 1 (.slice A8 (P.r1 ++ r.2.1).length c8) (P.r1 ++ r.2.1).length (byts (P.r1 ++ r.2.1)) := by
    have h := H13.out
    rw [List.nil_append, byts_app] at h
    rwa [List.length_append]
  obtain ⟨S9, e9, bx9⟩ := BX4.out.read1 hown F8.out (by rw [List.length_append]; exact N8.out)
  have hl9 : (P.r1 ++ r.2.1).length = P.r1.length + r.2.1.length := List.length_append ..
  have f9 : Fr [w.heap.size] w4 (W8.setCell ⟨w.heap.size, 6, none⟩ (.slice A8 (P.r1 ++ r.2.1).length c8)) := (F8.out.mono (by simp)).setCell (p := ⟨w.heap.size, 6, none⟩) (.inl (by simp)) _
  rw [← hl9]
  clear hl9 H13 H10 N8
  generalize P.r1 ++ r.2.1 = rt at *
  generalize W8.setCell ⟨w.heap.size, 6, none⟩ (.slice A8 rt.length c8) = w9 at *
  have PR9 := Lib.hid (PR4.out.fr f9 (fun y hy => by simp at hy; subst hy; simpa using (BX4.out.n 0 (by omega)).1) (fun b hb => by have := NV4.out b hb; have := BX.out.s; simp; omega) e9.1)
  have BX9 := Lib.hid bx9
  clear hown e9 bx9 f9 t0 t1 t2 t3 t4 t5 t6 z5 l5 z8 y8 l8 F7 F8 N7
  have hpt := lput_any BX9.out.m 1 (by omega) _ Lp4 PR9.out HLEN.out hLl
  rw [HL4.out] at hpt
  have HPT := Lib.hid hpt
  clear hpt
  obtain ⟨t0, t1, t2, t3, t4, t5, t6⟩ := cells7 BX9.out.b
  go_wp2_with fail
  refine HPT.out.mono ?_
  rintro e w5 ⟨S5, bv5, L5, rfl, x5, m5, f5⟩
  have BB5 := Lib.hid (BX9.out.b.fr f5 (by simp))
  have M5 := Lib.hid m5
  have X5 := Lib.hid x5
  have F5 := Lib.hid f5
  have C7 := Lib.hid m5.c7
  clear m5 x5 f5 t0 t1 t2 t3 t4 t5 t6
  go_upto_region 33 with ((with_reducible refine gate_store 61 (.tmp 2) ?_); refine wpList_store_blk rfl 61 (.tmp 2) (.tmp 168) rfl w.heap.size 61 _ _ rfl rfl BB5.out rfl (by kernel_rfl) C7.out ?_; intro w6 B6 F6)
  have BX6 := Lib.hid (BX9.out.put F5.out X5.out M5.out B6 F6)
  have C76 := Lib.hid BX6.out.m.c7
  obtain ⟨t0, t1, t2, t3, t4, t5, t6⟩ := cells7 B6
  clear B6 F6
  go_wp2_with ((with_reducible refine gate_store 61 (.tmp 4) ?_); refine wpList_store_blk rfl 61 (.tmp 4) (.tmp 169) rfl (w.heap.size + 2) 61 pmZ _ rfl rfl BX6.out.z rfl (by kernel_rfl) C76.out ?_; intro w7 B7 F7)
  obtain ⟨u0, u1, u2, u3, u4, u5, u6⟩ := cells7 B7
  refine bodyPost_ret (v := .agg (arM Ha Hb4 bv5 s0 s1 r0 (.slice A8 rt.length c8))) (by simp [results, Try.results18, go_sem, u0, u1, u2, u3, u4, u5, u6]) rfl ?_
  exact BX6.out.post F7
end Go.Proofs.Ytmgdbbbdhkfdmaa
