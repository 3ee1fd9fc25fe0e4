import Derived.Test.YtmgdbbbdhkfdmaaZ22
import Derived.Deep.DeepCutAuto
import Derived.Deep.RegionLaw
set_option linter.unusedSimpArgs false
set_option linter.unusedVariables false
namespace Go.Proofs.Ytmgdbbbdhkfdmaa
set_option maxRecDepth 100000
open Go.RowKit Go.Deep

set_option maxHeartbeats 8000000 in
theorem turn_write0 {S : Nat → Prop} {w : World} {Ha Hb : Hd} {P : Pm} {bv s0 s1 r0 r1 : Value} {L : List (Int × Prt × Value)} (m : PV S w Ha Hb P bv s0 s1 r0 r1 L) (hbl : P.bag.length ≤ 400) (ok : Ok P.e0) (hal : P.e0.all.length ≤ 990000) (hs : P.s0.length ≤ 1000000) (d : List Int) (T : Nat → Prop) (hT : ∀ b, T b → b ∉ Ha.own ∧ b ∉ Hb.own ∧ b < w.heap.size) (hdl : d.length ≤ 300) (pk : Int) (kp : Bool) (dA : Option Addr) (dn dc : Nat) (hd : Byt T w (.slice dA dn dc) d) :
    Calls Try.prog 18 #[.agg (arM Ha Hb bv s0 s1 r0 r1), .agg #[.int .i64 2, .int .i64 pk, .bool kp, .slice dA dn dc]] w (TurnPost S w Ha Hb { P with e0 := (writeV P.e0 d).1, bag := putB 1 P.bag (writeV P.e0 d).2.1, s0 := if (writeV P.e0 d).2.2 = 0 then P.s0 ++ d else P.s0 }) := by
  obtain rfl : dn = d.length := hd.len
  have hLl : L.length ≤ 1000 := by have := congrArg List.length m.bagL; rw [List.length_map] at this; omega
  have f0 : Fr [] w (((w.alloc (.cells (arM Ha Hb bv s0 s1 r0 r1) 61)).alloc (.cells #[.int .i64 2, .int .i64 pk, .bool kp, .slice dA d.length dc] 65)).alloc (.cells pmZ 61)) := (((Fr.refl [] w).alloc _).alloc _).alloc _
  have b0 : Blk (((w.alloc (.cells (arM Ha Hb bv s0 s1 r0 r1) 61)).alloc (.cells #[.int .i64 2, .int .i64 pk, .bool kp, .slice dA d.length dc] 65)).alloc (.cells pmZ 61)) w.heap.size 61 (arM Ha Hb bv s0 s1 r0 r1) := ((Blk.new w 61 (arM Ha Hb bv s0 s1 r0 r1)).alloc _).alloc _
  have b1 : Blk (((w.alloc (.cells (arM Ha Hb bv s0 s1 r0 r1) 61)).alloc (.cells #[.int .i64 2, .int .i64 pk, .bool kp, .slice dA d.length dc] 65)).alloc (.cells pmZ 61)) (w.heap.size + 1) 65 #[.int .i64 2, .int .i64 pk, .bool kp, .slice dA d.length dc] := by
    have h := (Blk.new (w.alloc (.cells (arM Ha Hb bv s0 s1 r0 r1) 61)) 65 #[.int .i64 2, .int .i64 pk, .bool kp, .slice dA d.length dc]).alloc (.cells pmZ 61)
    simpa using h
  have b2 : Blk (((w.alloc (.cells (arM Ha Hb bv s0 s1 r0 r1) 61)).alloc (.cells #[.int .i64 2, .int .i64 pk, .bool kp, .slice dA d.length dc] 65)).alloc (.cells pmZ 61)) (w.heap.size + 2) 61 pmZ := by
    have h := Blk.new ((w.alloc (.cells (arM Ha Hb bv s0 s1 r0 r1) 61)).alloc (.cells #[.int .i64 2, .int .i64 pk, .bool kp, .slice dA d.length dc] 65)) 61 pmZ
    simpa using h
  have hz : w.heap.size + 2 < (((w.alloc (.cells (arM Ha Hb bv s0 s1 r0 r1) 61)).alloc (.cells #[.int .i64 2, .int .i64 pk, .bool kp, .slice dA d.length dc] 65)).alloc (.cells pmZ 61)).heap.size := b2.lt
  have M := Lib.hid m
  have HB2 := Lib.hid b2
  have HZ := Lib.hid hz
  clear m b2 hz
  go_enter Try.func18, Try.ntmps18
  go_upto_region 1 with fail
  generalize ((w.alloc (.cells (arM Ha Hb bv s0 s1 r0 r1) 61)).alloc (.cells #[.int .i64 2, .int .i64 pk, .bool kp, .slice dA d.length dc] 65)).alloc (.cells pmZ 61) = w3 at *
  have BX := Lib.hid (box_start M.out f0 HZ.out b0 HB2.out)
  have F0 := Lib.hid f0
  obtain ⟨t0, t1, t2, t3, t4, t5, t6⟩ := cells7 b0
  obtain ⟨x0, x1, x2, x3⟩ := cells4t b1
  clear f0 b0 b1 HB2 HZ
  have hti := write_si ((BX.out.fr (Fr.refl [] w3).drew).m.duo.a) ok.s d hal dA dc T ((hd.fr F0.out (by simp)).fr (Fr.refl [] w3).drew (by simp))
  have hlen := write_len ok d (by omega)
  generalize writeV P.e0 d = r at *
  generalize hsx : (if r.2.2 = 0 then P.s0 ++ d else P.s0) = sx at *
  have HSX := Lib.hid hsx
  clear hsx
  have HTI := Lib.hid hti
  have HLN := Lib.hid hlen
  have HD := Lib.hid (hd.fr F0.out (by simp))
  have HT := Lib.hid hT
  clear hti hlen ok hd hT
  go_upto_region 16 with fail
  go_region_held3 (fun w' => w'.cell? ⟨w.heap.size, 0, none⟩ = some (ptr Ha.g) ∧ w'.cell? ⟨w.heap.size + 1, 3, none⟩ = some (.slice dA d.length dc))
    (first
      | (with_reducible exact ⟨s0', s1'⟩)
      | go_keep)
    (first | (go_at_call 7; refine HTI.out.mono ?_; rintro e w4 ⟨v4, rfl, hp4⟩; obtain ⟨S4, Ha4, Lp4, hL4, hg4, pr4, bx4, nv4, fv4⟩ := (BX.out.fr (Fr.refl [] w3).drew).call0 hp4; obtain ⟨t0', t1', t2', t3', t4', t5', t6'⟩ := cells7 bx4.b; have s0' : w4.cell? ⟨w.heap.size, 0, none⟩ = some (ptr Ha.g) := (by rw [← hg4]; exact t0'); have s1' : w4.cell? ⟨w.heap.size + 1, 3, none⟩ = some (.slice dA d.length dc) := ((fv4.cell (p := ⟨w.heap.size + 1, 3, none⟩) (by have := BX.out.s; show w.heap.size + 1 < w3.heap.size; omega) ((BX.out.n 1 (by omega)).2.1)).trans x3); have HL4 := Lib.hid hL4; have PR4 := Lib.hid pr4; have BX4 := Lib.hid bx4; have NV4 := Lib.hid nv4; have FV4 := Lib.hid fv4; have HG4 := Lib.hid hg4; clear t0' t1' t2' t3' t4' t5' t6' hp4 hL4 hg4 pr4 bx4 nv4 fv4))
  have HLEN : Hid (Lp4.length ≤ 2000000) := Lib.hid (by have := congrArg List.length HL4.out; rw [List.length_map] at this; (try dsimp only at this); have := HLN.out; omega)
  try dsimp only at HL4
  have HD4 : Hid (Byt T w4 (.slice dA d.length dc) d) := Lib.hid ((HD.out.fr (Fr.refl [] w3).drew (by simp)).fr FV4.out (fun y hy hs => (HT.out y hs).1 hy))
  clear t0 t1 t2 t3 t4 t5 t6 x0 x1 x2 x3 HTI HLN s0'
  have x3 := s1'
  clear s1'
  obtain ⟨rA, rc, hrv, _, _⟩ := BX4.out.m.s0.form
  by_cases he : r.2.2 = 0
  · have e0 : decide (r.2.2 = 0) = true := by simpa using he
    have e1 : (r.2.2 == 0) = true := by simpa using he
    obtain ⟨t0, t1, t2, t3, t4, t5, t6⟩ := cells7 BX4.out.b
    have z5 := BX4.out.b.frozen 3
    have l5 := BX4.out.b.lt
    change w4.cell? ⟨w.heap.size, 3, none⟩ = some s0 at t3
    rw [hrv] at t3
    dsimp only at t3
    have BR := Lib.hid BX4.out.m.s0
    rw [hrv] at BR
    dsimp only at BR
    clear hrv
    obtain ⟨i0, hi0, hz0, hz1, hz2⟩ := info_parts info_u8
    have HLm1 : Hid (0 + P.s0.length ≤ maxLen) := Lib.hid (by unfold maxLen; omega)
    have HLb1 : Hid ((0 + P.s0.length) * 1 ≤ 140737488355328) := Lib.hid (by omega)
    have HN1 : Hid (0 + P.s0.length = P.s0.length) := Lib.hid (by omega)
    have HLm2 : Hid (P.s0.length + d.length ≤ maxLen) := Lib.hid (by unfold maxLen; omega)
    have HLb2 : Hid ((P.s0.length + d.length) * 1 ≤ 140737488355328) := Lib.hid (by omega)
    obtain ⟨st, hst⟩ : ∃ st, st = P.s0 ++ d := ⟨_, rfl⟩
    have HST := Lib.hid hst
    clear hst
    have HHE := Lib.hid he
    clear he
    clear t1 t2 t4 t5 t6
    go_upto_region 18 with fail
    go_cut [] (fun wx => ∃ S9 A9 c9, Ext w4 S4 S9 ∧ Fr [w.heap.size] w4 wx ∧ Box S w Ha Hb S9 wx Ha4 Hb { P with e0 := r.1, s0 := st } bv (.slice A9 st.length c9) s1 r0 r1 L)
    case first =>
      go_region_law (first
        | ((refine step_append_sl _ (by rfl) (.const (.slice none 0 0)) (.tmp 103) 25 (by rfl) 5 i0 (.int .u8 0) 1 1 Try.underlying25 hi0 hz0 hz1 hz2 (by rfl) (by decide) (.slice none 0 0) 0 [] (by rfl) (World.ownsRow_nil _ 0 5 1) S4 (.slice rA P.s0.length rc) P.s0.length (byts P.s0) (by rfl) (BR.out.fr (Fr.refl [] w4).drew (by simp)) (byts_one _) HLm1.out HLb1.out P.s0.length HN1.out ?_); intro A7 c7 W7 h10 h11 h12; have F7 : Hid (Fr [] w4 W7) := Lib.hid ((Fr.refl [] w4).drew.trans h11 (by simp [ob, Value.ownBlock])); have N7 := Lib.hid (fresh_nil h12); have H10 := Lib.hid h10; have y7 := fr_cell F7.out x3; clear h10 h11 h12)
        | ((refine step_append_sl _ (by rfl) (.tmp 104) (.tmp 106) 25 (by rfl) 5 i0 (.int .u8 0) 1 1 Try.underlying25 hi0 hz0 hz1 hz2 (by rfl) (by decide) (.slice A7 P.s0.length c7) P.s0.length ([] ++ byts P.s0) (by rfl) H10.out T (.slice dA d.length dc) d.length (byts d) (by rfl) (HD4.out.fr F7.out (by simp)) (byts_one _) HLm2.out HLb2.out (P.s0.length + d.length) (by rfl) ?_); intro A8 c8 W8 h13 h14 h15; have F8 : Hid (Fr [] w4 W8) := Lib.hid (F7.out.trans h14 (fun y hy => .inr (N7.out y (mem_ob.1 hy)))); have N8 : Hid (∀ b, (Value.slice A8 (P.s0.length + d.length) c8).ownBlock = some b → w4.heap.size ≤ b) := Lib.hid (fresh_two F7.out.size N7.out h15); have H13 := Lib.hid h13; have z8 := (BX4.out.b.fr F8.out (by simp)).frozen 3; have y8 := fr_cell F8.out t3; have l8 := (BX4.out.b.fr F8.out (by simp)).lt; clear h13 h14 h15))
      all_goals
        have hown : W8.ownsRow 0 5 1 (.slice A8 st.length c8) st.length (byts st) := by
          have h := H13.out
          rw [List.nil_append, byts_app] at h
          rw [HST.out]
          rwa [List.length_append]
        have hsl : P.s0.length + d.length = st.length := by rw [HST.out, List.length_append]
        obtain ⟨S9, e9, bx9⟩ := BX4.out.said0 hown F8.out (by rw [← hsl]; exact N8.out)
        have f9 : Fr [w.heap.size] w4 (W8.setCell ⟨w.heap.size, 3, none⟩ (.slice A8 st.length c8)) := (F8.out.mono (by simp)).setCell (p := ⟨w.heap.size, 3, none⟩) (.inl (by simp)) _
        have hfin : ∃ S9 A9 c9, Ext w4 S4 S9 ∧ Fr [w.heap.size] w4 (W8.setCell ⟨w.heap.size, 3, none⟩ (.slice A8 st.length c8)) ∧ Box S w Ha Hb S9 (W8.setCell ⟨w.heap.size, 3, none⟩ (.slice A8 st.length c8)) Ha4 Hb { P with e0 := r.1, s0 := st } bv (.slice A9 st.length c9) s1 r0 r1 L := ⟨S9, A8, c8, e9, f9, bx9⟩
        have HF := Lib.hid hfin
        have HSL := Lib.hid hsl
        clear hown hsl e9 bx9 f9 hfin
        go_wp2_with fail
        go_meet
        rw [HSL.out]
        exact HF.out
    case rest =>
      obtain ⟨S9, A9, c9, e9, f9, bx9⟩ := hcut
      have PR9 := Lib.hid (PR4.out.fr f9 (fun y hy => by simp at hy; subst hy; simpa using (BX4.out.n 0 (by omega)).1) (fun b hb => by have := NV4.out b hb; have := BX.out.s; have : w3.drew.heap.size ≤ b := NV4.out b hb; have : w3.heap.size ≤ b := this; simp; omega) e9.1)
      have BX9 := Lib.hid bx9
      clear e9 bx9 f9 t0 t3 z5 l5 x3
      have hpt := lput_any BX9.out.m 0 (by omega) _ Lp4 PR9.out HLEN.out hLl
      rw [HL4.out] at hpt
      have HPT := Lib.hid hpt
      clear hpt
      obtain ⟨t0, t1, t2, t3, t4, t5, t6⟩ := cells7 BX9.out.b
      go_wp2_with fail
      refine HPT.out.mono ?_
      rintro e w5 ⟨S5, bv5, L5, rfl, x5, m5, f5⟩
      have BB5 := Lib.hid (BX9.out.b.fr f5 (by simp))
      have M5 := Lib.hid m5
      have X5 := Lib.hid x5
      have F5 := Lib.hid f5
      have C7 := Lib.hid m5.c7
      clear m5 x5 f5 t0 t1 t2 t3 t4 t5 t6
      go_upto_region 33 with ((with_reducible refine gate_store 61 (.tmp 2) ?_); refine wpList_store_blk rfl 61 (.tmp 2) (.tmp 113) rfl w.heap.size 61 _ _ rfl rfl BB5.out rfl (by kernel_rfl) C7.out ?_; intro w6 B6 F6)
      have BX6 := Lib.hid (BX9.out.put F5.out X5.out M5.out B6 F6)
      have C76 := Lib.hid BX6.out.m.c7
      obtain ⟨t0, t1, t2, t3, t4, t5, t6⟩ := cells7 B6
      clear B6 F6
      go_wp2_with ((with_reducible refine gate_store 61 (.tmp 4) ?_); refine wpList_store_blk rfl 61 (.tmp 4) (.tmp 169) rfl (w.heap.size + 2) 61 pmZ _ rfl rfl BX6.out.z rfl (by kernel_rfl) C76.out ?_; intro w7 B7 F7)
      obtain ⟨u0, u1, u2, u3, u4, u5, u6⟩ := cells7 B7
      refine bodyPost_ret (v := .agg (arM Ha4 Hb bv5 (.slice A9 st.length c9) s1 r0 r1)) (by simp [results, Try.results18, go_sem, u0, u1, u2, u3, u4, u5, u6]) rfl ?_
      have hsx := HSX.out
      rw [if_pos HHE.out, ← HST.out] at hsx
      rw [← hsx]
      exact BX6.out.post F7
  · have e0 : decide (r.2.2 = 0) = false := by simpa using he
    have e1 : (r.2.2 == 0) = false := by simpa using he
    have HHE := Lib.hid he
    clear he hrv x3
    have hpt := lput_any BX4.out.m 0 (by omega) _ Lp4 PR4.out HLEN.out hLl
    rw [HL4.out] at hpt
    unfold arM at hpt
    rw [HG4.out] at hpt
    have HPT := Lib.hid hpt
    clear hpt
    obtain ⟨t0, t1, t2, t3, t4, t5, t6⟩ := cells7 BX4.out.b
    go_wp2_with fail
    refine HPT.out.mono ?_
    rintro e w5 ⟨S5, bv5, L5, rfl, x5, m5, f5⟩
    have BB5 := Lib.hid (BX4.out.b.fr f5 (by simp))
    have M5 := Lib.hid m5
    have X5 := Lib.hid x5
    have F5 := Lib.hid f5
    have C7 := Lib.hid m5.c7
    clear m5 x5 f5 t0 t1 t2 t3 t4 t5 t6
    go_upto_region 33 with ((with_reducible refine gate_store 61 (.tmp 2) ?_); refine wpList_store_blk rfl 61 (.tmp 2) (.tmp 113) rfl w.heap.size 61 _ _ rfl rfl BB5.out rfl (by kernel_rfl) C7.out ?_; intro w6 B6 F6)
    have BX6 := Lib.hid (BX4.out.put F5.out X5.out M5.out B6 F6)
    have C76 := Lib.hid BX6.out.m.c7
    obtain ⟨t0, t1, t2, t3, t4, t5, t6⟩ := cells7 B6
    clear B6 F6
    go_wp2_with ((with_reducible refine gate_store 61 (.tmp 4) ?_); refine wpList_store_blk rfl 61 (.tmp 4) (.tmp 169) rfl (w.heap.size + 2) 61 pmZ _ rfl rfl BX6.out.z rfl (by kernel_rfl) C76.out ?_; intro w7 B7 F7)
    obtain ⟨u0, u1, u2, u3, u4, u5, u6⟩ := cells7 B7
    refine bodyPost_ret (v := .agg (arM Ha4 Hb bv5 s0 s1 r0 r1)) (by simp [results, Try.results18, go_sem, u0, u1, u2, u3, u4, u5, u6]) rfl ?_
    have hsx := HSX.out
    rw [if_neg HHE.out] at hsx
    rw [← hsx]
    exact BX6.out.post F7
set_option maxHeartbeats 8000000 in
theorem turn_write1 {S : Nat → Prop} {w : World} {Ha Hb : Hd} {P : Pm} {bv s0 s1 r0 r1 : Value} {L : List (Int × Prt × Value)} (m : PV S w Ha Hb P bv s0 s1 r0 r1 L) (hbl : P.bag.length ≤ 400) (ok : Ok P.e1) (hal : P.e1.all.length ≤ 990000) (hs : P.s1.length ≤ 1000000) (d : List Int) (T : Nat → Prop) (hT : ∀ b, T b → b ∉ Ha.own ∧ b ∉ Hb.own ∧ b < w.heap.size) (hdl : d.length ≤ 300) (pk : Int) (kp : Bool) (dA : Option Addr) (dn dc : Nat) (hd : Byt T w (.slice dA dn dc) d) :
    Calls Try.prog 18 #[.agg (arM Ha Hb bv s0 s1 r0 r1), .agg #[.int .i64 3, .int .i64 pk, .bool kp, .slice dA dn dc]] w (TurnPost S w Ha Hb { P with e1 := (writeV P.e1 d).1, bag := putB 0 P.bag (writeV P.e1 d).2.1, s1 := if (writeV P.e1 d).2.2 = 0 then P.s1 ++ d else P.s1 }) := by
  obtain rfl : dn = d.length := hd.len
  have hLl : L.length ≤ 1000 := by have := congrArg List.length m.bagL; rw [List.length_map] at this; omega
  have f0 : Fr [] w (((w.alloc (.cells (arM Ha Hb bv s0 s1 r0 r1) 61)).alloc (.cells #[.int .i64 3, .int .i64 pk, .bool kp, .slice dA d.length dc] 65)).alloc (.cells pmZ 61)) := (((Fr.refl [] w).alloc _).alloc _).alloc _
  have b0 : Blk (((w.alloc (.cells (arM Ha Hb bv s0 s1 r0 r1) 61)).alloc (.cells #[.int .i64 3, .int .i64 pk, .bool kp, .slice dA d.length dc] 65)).alloc (.cells pmZ 61)) w.heap.size 61 (arM Ha Hb bv s0 s1 r0 r1) := ((Blk.new w 61 (arM Ha Hb bv s0 s1 r0 r1)).alloc _).alloc _
  have b1 : Blk (((w.alloc (.cells (arM Ha Hb bv s0 s1 r0 r1) 61)).alloc (.cells #[.int .i64 3, .int .i64 pk, .bool kp, .slice dA d.length dc] 65)).alloc (.cells pmZ 61)) (w.heap.size + 1) 65 #[.int .i64 3, .int .i64 pk, .bool kp, .slice dA d.length dc] := by
    have h := (Blk.new (w.alloc (.cells (arM Ha Hb bv s0 s1 r0 r1) 61)) 65 #[.int .i64 3, .int .i64 pk, .bool kp, .slice dA d.length dc]).alloc (.cells pmZ 61)
    simpa using h
  have b2 : Blk (((w.alloc (.cells (arM Ha Hb bv s0 s1 r0 r1) 61)).alloc (.cells #[.int .i64 3, .int .i64 pk, .bool kp, .slice dA d.length dc] 65)).alloc (.cells pmZ 61)) (w.heap.size + 2) 61 pmZ := by
    have h := Blk.new ((w.alloc (.cells (arM Ha Hb bv s0 s1 r0 r1) 61)).alloc (.cells #[.int .i64 3, .int .i64 pk, .bool kp, .slice dA d.length dc] 65)) 61 pmZ
    simpa using h
  have hz : w.heap.size + 2 < (((w.alloc (.cells (arM Ha Hb bv s0 s1 r0 r1) 61)).alloc (.cells #[.int .i64 3, .int .i64 pk, .bool kp, .slice dA d.length dc] 65)).alloc (.cells pmZ 61)).heap.size := b2.lt
  have M := Lib.hid m
  have HB2 := Lib.hid b2
  have HZ := Lib.hid hz
  clear m b2 hz
  go_enter Try.func18, Try.ntmps18
  go_upto_region 1 with fail
  generalize ((w.alloc (.cells (arM Ha Hb bv s0 s1 r0 r1) 61)).alloc (.cells #[.int .i64 3, .int .i64 pk, .bool kp, .slice dA d.length dc] 65)).alloc (.cells pmZ 61) = w3 at *
  have BX := Lib.hid (box_start M.out f0 HZ.out b0 HB2.out)
  have F0 := Lib.hid f0
  obtain ⟨t0, t1, t2, t3, t4, t5, t6⟩ := cells7 b0
  obtain ⟨x0, x1, x2, x3⟩ := cells4t b1
  clear f0 b0 b1 HB2 HZ
  have hti := write_si ((BX.out.fr (Fr.refl [] w3).drew).m.duo.b) ok.s d hal dA dc T ((hd.fr F0.out (by simp)).fr (Fr.refl [] w3).drew (by simp))
  have hlen := write_len ok d (by omega)
  generalize writeV P.e1 d = r at *
  generalize hsx : (if r.2.2 = 0 then P.s1 ++ d else P.s1) = sx at *
  have HSX := Lib.hid hsx
  clear hsx
  have HTI := Lib.hid hti
  have HLN := Lib.hid hlen
  have HD := Lib.hid (hd.fr F0.out (by simp))
  have HT := Lib.hid hT
  clear hti hlen ok hd hT
  go_upto_region 16 with fail
  go_region_held3 (fun w' => w'.cell? ⟨w.heap.size, 1, none⟩ = some (ptr Hb.g) ∧ w'.cell? ⟨w.heap.size + 1, 3, none⟩ = some (.slice dA d.length dc))
    (first
      | (with_reducible exact ⟨s0', s1'⟩)
      | go_keep)
    (first | (go_at_call 7; refine HTI.out.mono ?_; rintro e w4 ⟨v4, rfl, hp4⟩; obtain ⟨S4, Hb4, Lp4, hL4, hg4, pr4, bx4, nv4, fv4⟩ := (BX.out.fr (Fr.refl [] w3).drew).call1 hp4; obtain ⟨t0', t1', t2', t3', t4', t5', t6'⟩ := cells7 bx4.b; have s0' : w4.cell? ⟨w.heap.size, 1, none⟩ = some (ptr Hb.g) := (by rw [← hg4]; exact t1'); have s1' : w4.cell? ⟨w.heap.size + 1, 3, none⟩ = some (.slice dA d.length dc) := ((fv4.cell (p := ⟨w.heap.size + 1, 3, none⟩) (by have := BX.out.s; show w.heap.size + 1 < w3.heap.size; omega) ((BX.out.n 1 (by omega)).2.2)).trans x3); have HL4 := Lib.hid hL4; have PR4 := Lib.hid pr4; have BX4 := Lib.hid bx4; have NV4 := Lib.hid nv4; have FV4 := Lib.hid fv4; have HG4 := Lib.hid hg4; clear t0' t1' t2' t3' t4' t5' t6' hp4 hL4 hg4 pr4 bx4 nv4 fv4))
  have HLEN : Hid (Lp4.length ≤ 2000000) := Lib.hid (by have := congrArg List.length HL4.out; rw [List.length_map] at this; (try dsimp only at this); have := HLN.out; omega)
  try dsimp only at HL4
  have HD4 : Hid (Byt T w4 (.slice dA d.length dc) d) := Lib.hid ((HD.out.fr (Fr.refl [] w3).drew (by simp)).fr FV4.out (fun y hy hs => (HT.out y hs).2.1 hy))
  clear t0 t1 t2 t3 t4 t5 t6 x0 x1 x2 x3 HTI HLN s0'
  have x3 := s1'
  clear s1'
  obtain ⟨rA, rc, hrv, _, _⟩ := BX4.out.m.s1.form
  by_cases he : r.2.2 = 0
  · have e0 : decide (r.2.2 = 0) = true := by simpa using he
    have e1 : (r.2.2 == 0) = true := by simpa using he
    obtain ⟨t0, t1, t2, t3, t4, t5, t6⟩ := cells7 BX4.out.b
    have z5 := BX4.out.b.frozen 4
    have l5 := BX4.out.b.lt
    change w4.cell? ⟨w.heap.size, 4, none⟩ = some s1 at t4
    rw [hrv] at t4
    dsimp only at t4
    have BR := Lib.hid BX4.out.m.s1
    rw [hrv] at BR
    dsimp only at BR
    clear hrv
    obtain ⟨i0, hi0, hz0, hz1, hz2⟩ := info_parts info_u8
    have HLm1 : Hid (0 + P.s1.length ≤ maxLen) := Lib.hid (by unfold maxLen; omega)
    have HLb1 : Hid ((0 + P.s1.length) * 1 ≤ 140737488355328) := Lib.hid (by omega)
    have HN1 : Hid (0 + P.s1.length = P.s1.length) := Lib.hid (by omega)
    have HLm2 : Hid (P.s1.length + d.length ≤ maxLen) := Lib.hid (by unfold maxLen; omega)
    have HLb2 : Hid ((P.s1.length + d.length) * 1 ≤ 140737488355328) := Lib.hid (by omega)
    obtain ⟨st, hst⟩ : ∃ st, st = P.s1 ++ d := ⟨_, rfl⟩
    have HST := Lib.hid hst
    clear hst
    have HHE := Lib.hid he
    clear he
    clear t0 t2 t3 t5 t6
    go_upto_region 18 with fail
    go_cut [] (fun wx => ∃ S9 A9 c9, Ext w4 S4 S9 ∧ Fr [w.heap.size] w4 wx ∧ Box S w Ha Hb S9 wx Ha Hb4 { P with e1 := r.1, s1 := st } bv s0 (.slice A9 st.length c9) r0 r1 L)
    case first =>
      go_region_law (first
        | ((refine step_append_sl _ (by rfl) (.const (.slice none 0 0)) (.tmp 103) 25 (by rfl) 5 i0 (.int .u8 0) 1 1 Try.underlying25 hi0 hz0 hz1 hz2 (by rfl) (by decide) (.slice none 0 0) 0 [] (by rfl) (World.ownsRow_nil _ 0 5 1) S4 (.slice rA P.s1.length rc) P.s1.length (byts P.s1) (by rfl) (BR.out.fr (Fr.refl [] w4).drew (by simp)) (byts_one _) HLm1.out HLb1.out P.s1.length HN1.out ?_); intro A7 c7 W7 h10 h11 h12; have F7 : Hid (Fr [] w4 W7) := Lib.hid ((Fr.refl [] w4).drew.trans h11 (by simp [ob, Value.ownBlock])); have N7 := Lib.hid (fresh_nil h12); have H10 := Lib.hid h10; have y7 := fr_cell F7.out x3; clear h10 h11 h12)
        | ((refine step_append_sl _ (by rfl) (.tmp 104) (.tmp 106) 25 (by rfl) 5 i0 (.int .u8 0) 1 1 Try.underlying25 hi0 hz0 hz1 hz2 (by rfl) (by decide) (.slice A7 P.s1.length c7) P.s1.length ([] ++ byts P.s1) (by rfl) H10.out T (.slice dA d.length dc) d.length (byts d) (by rfl) (HD4.out.fr F7.out (by simp)) (byts_one _) HLm2.out HLb2.out (P.s1.length + d.length) (by rfl) ?_); intro A8 c8 W8 h13 h14 h15; have F8 : Hid (Fr [] w4 W8) := Lib.hid (F7.out.trans h14 (fun y hy => .inr (N7.out y (mem_ob.1 hy)))); have N8 : Hid (∀ b, (Value.slice A8 (P.s1.length + d.length) c8).ownBlock = some b → w4.heap.size ≤ b) := Lib.hid (fresh_two F7.out.size N7.out h15); have H13 := Lib.hid h13; have z8 := (BX4.out.b.fr F8.out (by simp)).frozen 4; have y8 := fr_cell F8.out t4; have l8 := (BX4.out.b.fr F8.out (by simp)).lt; clear h13 h14 h15))
      all_goals
        have hown : W8.ownsRow 0 5 1 (.slice A8 st.length c8) st.length (byts st) := by
          have h := H13.out
          rw [List.nil_append, byts_app] at h
          rw [HST.out]
          rwa [List.length_append]
        have hsl : P.s1.length + d.length = st.length := by rw [HST.out, List.length_append]
        obtain ⟨S9, e9, bx9⟩ := BX4.out.said1 hown F8.out (by rw [← hsl]; exact N8.out)
        have f9 : Fr [w.heap.size] w4 (W8.setCell ⟨w.heap.size, 4, none⟩ (.slice A8 st.length c8)) := (F8.out.mono (by simp)).setCell (p := ⟨w.heap.size, 4, none⟩) (.inl (by simp)) _
        have hfin : ∃ S9 A9 c9, Ext w4 S4 S9 ∧ Fr [w.heap.size] w4 (W8.setCell ⟨w.heap.size, 4, none⟩ (.slice A8 st.length c8)) ∧ Box S w Ha Hb S9 (W8.setCell ⟨w.heap.size, 4, none⟩ (.slice A8 st.length c8)) Ha Hb4 { P with e1 := r.1, s1 := st } bv s0 (.slice A9 st.length c9) r0 r1 L := ⟨S9, A8, c8, e9, f9, bx9⟩
        have HF := Lib.hid hfin
        have HSL := Lib.hid hsl
        clear hown hsl e9 bx9 f9 hfin
        go_wp2_with fail
        go_meet
        rw [HSL.out]
        exact HF.out
    case rest =>
      obtain ⟨S9, A9, c9, e9, f9, bx9⟩ := hcut
      have PR9 := Lib.hid (PR4.out.fr f9 (fun y hy => by simp at hy; subst hy; simpa using (BX4.out.n 0 (by omega)).1) (fun b hb => by have := NV4.out b hb; have := BX.out.s; have : w3.drew.heap.size ≤ b := NV4.out b hb; have : w3.heap.size ≤ b := this; simp; omega) e9.1)
      have BX9 := Lib.hid bx9
      clear e9 bx9 f9 t1 t4 z5 l5 x3
      have hpt := lput_any BX9.out.m 1 (by omega) _ Lp4 PR9.out HLEN.out hLl
      rw [HL4.out] at hpt
      have HPT := Lib.hid hpt
      clear hpt
      obtain ⟨t0, t1, t2, t3, t4, t5, t6⟩ := cells7 BX9.out.b
      go_wp2_with fail
      refine HPT.out.mono ?_
      rintro e w5 ⟨S5, bv5, L5, rfl, x5, m5, f5⟩
      have BB5 := Lib.hid (BX9.out.b.fr f5 (by simp))
      have M5 := Lib.hid m5
      have X5 := Lib.hid x5
      have F5 := Lib.hid f5
      have C7 := Lib.hid m5.c7
      clear m5 x5 f5 t0 t1 t2 t3 t4 t5 t6
      go_upto_region 33 with ((with_reducible refine gate_store 61 (.tmp 2) ?_); refine wpList_store_blk rfl 61 (.tmp 2) (.tmp 113) rfl w.heap.size 61 _ _ rfl rfl BB5.out rfl (by kernel_rfl) C7.out ?_; intro w6 B6 F6)
      have BX6 := Lib.hid (BX9.out.put F5.out X5.out M5.out B6 F6)
      have C76 := Lib.hid BX6.out.m.c7
      obtain ⟨t0, t1, t2, t3, t4, t5, t6⟩ := cells7 B6
      clear B6 F6
      go_wp2_with ((with_reducible refine gate_store 61 (.tmp 4) ?_); refine wpList_store_blk rfl 61 (.tmp 4) (.tmp 169) rfl (w.heap.size + 2) 61 pmZ _ rfl rfl BX6.out.z rfl (by kernel_rfl) C76.out ?_; intro w7 B7 F7)
      obtain ⟨u0, u1, u2, u3, u4, u5, u6⟩ := cells7 B7
      refine bodyPost_ret (v := .agg (arM Ha Hb4 bv5 s0 (.slice A9 st.length c9) r0 r1)) (by simp [results, Try.results18, go_sem, u0, u1, u2, u3, u4, u5, u6]) rfl ?_
      have hsx := HSX.out
      rw [if_pos HHE.out, ← HST.out] at hsx
      rw [← hsx]
      exact BX6.out.post F7
  · have e0 : decide (r.2.2 = 0) = false := by simpa using he
    have e1 : (r.2.2 == 0) = false := by simpa using he
    have HHE := Lib.hid he
    clear he hrv x3
    have hpt := lput_any BX4.out.m 1 (by omega) _ Lp4 PR4.out HLEN.out hLl
    rw [HL4.out] at hpt
    unfold arM at hpt
    rw [HG4.out] at hpt
    have HPT := Lib.hid hpt
    clear hpt
    obtain ⟨t0, t1, t2, t3, t4, t5, t6⟩ := cells7 BX4.out.b
    go_wp2_with fail
    refine HPT.out.mono ?_
    rintro e w5 ⟨S5, bv5, L5, rfl, x5, m5, f5⟩
    have BB5 := Lib.hid (BX4.out.b.fr f5 (by simp))
    have M5 := Lib.hid m5
    have X5 := Lib.hid x5
    have F5 := Lib.hid f5
    have C7 := Lib.hid m5.c7
    clear m5 x5 f5 t0 t1 t2 t3 t4 t5 t6
    go_upto_region 33 with ((with_reducible refine gate_store 61 (.tmp 2) ?_); refine wpList_store_blk rfl 61 (.tmp 2) (.tmp 113) rfl w.heap.size 61 _ _ rfl rfl BB5.out rfl (by kernel_rfl) C7.out ?_; intro w6 B6 F6)
    have BX6 := Lib.hid (BX4.out.put F5.out X5.out M5.out B6 F6)
    have C76 := Lib.hid BX6.out.m.c7
    obtain ⟨t0, t1, t2, t3, t4, t5, t6⟩ := cells7 B6
    clear B6 F6
    go_wp2_with ((with_reducible refine gate_store 61 (.tmp 4) ?_); refine wpList_store_blk rfl 61 (.tmp 4) (.tmp 169) rfl (w.heap.size + 2) 61 pmZ _ rfl rfl BX6.out.z rfl (by kernel_rfl) C76.out ?_; intro w7 B7 F7)
    obtain ⟨u0, u1, u2, u3, u4, u5, u6⟩ := cells7 B7
    refine bodyPost_ret (v := .agg (arM Ha Hb4 bv5 s0 s1 r0 r1)) (by simp [results, Try.results18, go_sem, u0, u1, u2, u3, u4, u5, u6]) rfl ?_
    have hsx := HSX.out
    rw [if_neg HHE.out] at hsx
    rw [← hsx]
    exact BX6.out.post F7
end Go.Proofs.Ytmgdbbbdhkfdmaa
