import Derived.Test.YtmgdbbbdhkfdmaaZ25
import Derived.Deep.DeepCutAuto
import Derived.Deep.RegionLaw
set_option linter.unusedSimpArgs false
set_option linter.unusedVariables false
namespace Go.Proofs.Ytmgdbbbdhkfdmaa
set_option maxRecDepth 100000
open Go.RowKit Go.Deep

set_option maxHeartbeats 8000000 in
theorem turn_pick00t {S : Nat → Prop} {w : World} {Ha Hb : Hd} {P : Pm} {bv s0 s1 r0 r1 : Value} {L : List (Int × Prt × Value)} (m : PV S w Ha Hb P bv s0 s1 r0 r1 L) (hbl : P.bag.length ≤ 400)  (pk : Int) (dA : Option Addr) (dn dc : Nat) (i : Nat) (hi : i = pickI pk P.bag.length) (hne : 0 < P.bag.length) (ok : Ok P.e0) (q : Prt) (hq : P.bag[i]? = some (0, q)) (hwin : 0 ≤ q.win ∧ q.win < 65536) :
    Calls Try.prog 18 #[.agg (arM Ha Hb bv s0 s1 r0 r1), .agg #[.int .i64 0, .int .i64 pk, .bool true, .slice dA dn dc]] w (TurnPost S w Ha Hb { P with e0 := (comeV P.e0 q).1, bag := putB 1 (P.bag) (comeV P.e0 q).2.1 }) := by
  have hLl : L.length ≤ 1000 := by have := congrArg List.length m.bagL; rw [List.length_map] at this; omega
  have f0 : Fr [] w (((w.alloc (.cells (arM Ha Hb bv s0 s1 r0 r1) 61)).alloc (.cells #[.int .i64 0, .int .i64 pk, .bool true, .slice dA dn dc] 65)).alloc (.cells pmZ 61)) := (((Fr.refl [] w).alloc _).alloc _).alloc _
  have b0 : Blk (((w.alloc (.cells (arM Ha Hb bv s0 s1 r0 r1) 61)).alloc (.cells #[.int .i64 0, .int .i64 pk, .bool true, .slice dA dn dc] 65)).alloc (.cells pmZ 61)) w.heap.size 61 (arM Ha Hb bv s0 s1 r0 r1) := ((Blk.new w 61 (arM Ha Hb bv s0 s1 r0 r1)).alloc _).alloc _
  have b1 : Blk (((w.alloc (.cells (arM Ha Hb bv s0 s1 r0 r1) 61)).alloc (.cells #[.int .i64 0, .int .i64 pk, .bool true, .slice dA dn dc] 65)).alloc (.cells pmZ 61)) (w.heap.size + 1) 65 #[.int .i64 0, .int .i64 pk, .bool true, .slice dA dn dc] := by
    have h := (Blk.new (w.alloc (.cells (arM Ha Hb bv s0 s1 r0 r1) 61)) 65 #[.int .i64 0, .int .i64 pk, .bool true, .slice dA dn dc]).alloc (.cells pmZ 61)
    simpa using h
  have b2 : Blk (((w.alloc (.cells (arM Ha Hb bv s0 s1 r0 r1) 61)).alloc (.cells #[.int .i64 0, .int .i64 pk, .bool true, .slice dA dn dc] 65)).alloc (.cells pmZ 61)) (w.heap.size + 2) 61 pmZ := by
    have h := Blk.new ((w.alloc (.cells (arM Ha Hb bv s0 s1 r0 r1) 61)).alloc (.cells #[.int .i64 0, .int .i64 pk, .bool true, .slice dA dn dc] 65)) 61 pmZ
    simpa using h
  have hz : w.heap.size + 2 < (((w.alloc (.cells (arM Ha Hb bv s0 s1 r0 r1) 61)).alloc (.cells #[.int .i64 0, .int .i64 pk, .bool true, .slice dA dn dc] 65)).alloc (.cells pmZ 61)).heap.size := b2.lt
  have M := Lib.hid m
  have HB2 := Lib.hid b2
  have HZ := Lib.hid hz
  clear m b2 hz
  go_enter Try.func18, Try.ntmps18
  go_upto_region 1 with fail
  generalize ((w.alloc (.cells (arM Ha Hb bv s0 s1 r0 r1) 61)).alloc (.cells #[.int .i64 0, .int .i64 pk, .bool true, .slice dA dn dc] 65)).alloc (.cells pmZ 61) = w3 at *
  have BX := Lib.hid (box_start M.out f0 HZ.out b0 HB2.out)
  have F0 := Lib.hid f0
  obtain ⟨t0, t1, t2, t3, t4, t5, t6⟩ := cells7 b0
  obtain ⟨x0, x1, x2, x3⟩ := cells4t b1
  clear f0 b0 b1 HB2 HZ
  have hLL : P.bag.length = L.length := by rw [← M.out.bagL, List.length_map]
  rw [hLL] at hne hi
  obtain ⟨bA, bc, hbv, hbn, hbc⟩ := BX.out.m.bag.sl.form
  rw [hbv] at t2
  unfold maxLen at hbc
  have dz2 : (L.length : Int) ≠ 0 := by omega
  have dz : ((L.length : Int) == 0) = false := beq_eq_false_iff_ne.2 dz2
  have dz1 : decide ((L.length : Int) = 0) = false := decide_eq_false dz2
  obtain ⟨k0, k1⟩ := pick_bd pk hne
  have w1 : IntKind.i64.wrap (pk.tmod L.length + L.length) = pk.tmod L.length + L.length := IntWalk.i64_in _ (by omega)
  have hpi : (pk.tmod L.length + L.length) % L.length = (pickI pk L.length : Nat) := by
    have := Int.emod_nonneg (pk.tmod L.length + L.length) (show (L.length : Int) ≠ 0 by omega)
    unfold pickI
    omega
  have hil := pick_lt pk hne
  rw [← hi] at hpi hil
  clear hi
  have HPI := Lib.hid hpi
  have HLL := Lib.hid hLL
  clear hpi hLL
  go_upto_region 7 with fail
  go_quiet (fail)
  rw [HPI.out]
  have BX3 := Lib.hid (BX.out.fr ((Fr.refl [] w3).drewN nq))
  have f3q : Fr [] w3 (w3.drewN nq) := (Fr.refl [] w3).drewN nq
  have t0 := fr_cell f3q t0
  have t1 := fr_cell f3q t1
  have t2 := fr_cell f3q t2
  have t3 := fr_cell f3q t3
  have t4 := fr_cell f3q t4
  have t5 := fr_cell f3q t5
  have t6 := fr_cell f3q t6
  have x0 := fr_cell f3q x0
  have x2 := fr_cell f3q x2
  clear f3q dz dz1 dz2 k0 k1 w1 x1 x3
  generalize w3.drewN nq = w4 at *
  obtain ⟨x, hx⟩ : ∃ x, L[i]? = some x := ⟨_, List.getElem?_eq_getElem hil⟩
  have hbg := BX3.out.m.bag
  rw [hbv] at hbg
  obtain ⟨b, o, dA', dc', rfl, hSb, hdv, c0, c1, c2, c3, c4, c5, hby⟩ := hbg.at_ hx
  have hSl := Lib.hid hbg.sl
  obtain ⟨tt, q', dv'⟩ := x
  dsimp only at hdv c0 c1 c2 c3 c4 c5 hby
  subst hdv
  have HX := Lib.hid hx
  have HBY := Lib.hid hby
  have HBV := Lib.hid hbv
  have hi0 : (0 : Int) ≤ (i : Int) := by omega
  have hi1 : (i : Int) < (L.length : Int) := by omega
  clear hbg hby hbv hx
  go_upto_region 9 with fail
  have f5 : Fr [] w4 (w4.alloc (.cells #[.int .i64 tt, .int .i64 q'.flags, .int .u32 q'.seq, .int .u32 q'.ack, .int .u16 q'.win, .slice dA' q'.d.length dc'] 96)) := (Fr.refl [] w4).alloc _
  have bm := Blk.new w4 96 #[.int .i64 tt, .int .i64 q'.flags, .int .u32 q'.seq, .int .u32 q'.ack, .int .u16 q'.win, .slice dA' q'.d.length dc']
  have t0 := fr_cell f5 t0
  have t1 := fr_cell f5 t1
  have t2 := fr_cell f5 t2
  have t3 := fr_cell f5 t3
  have t4 := fr_cell f5 t4
  have t5 := fr_cell f5 t5
  have t6 := fr_cell f5 t6
  have x0 := fr_cell f5 x0
  have x2 := fr_cell f5 x2
  have BX5 := Lib.hid (BX3.out.fr f5)
  have F5 := Lib.hid f5
  have HB5 := Lib.hid (show w.heap.size + 2 < w4.heap.size from BX3.out.s)
  have HLT4 : Hid (∀ y ∈ Ha.own ++ Hb.own, y < w4.heap.size) := Lib.hid (fun y hy => by
    rcases List.mem_append.1 hy with h | h
    · exact BX3.out.m.duo.a.lt y h
    · exact BX3.out.m.duo.b.lt y h)
  have HP4 : Hid (∀ y, S y → y < w4.heap.size) := Lib.hid BX3.out.m.duo.pub
  generalize w4.alloc (.cells #[.int .i64 tt, .int .i64 q'.flags, .int .u32 q'.seq, .int .u32 q'.ack, .int .u16 q'.win, .slice dA' q'.d.length dc'] 96) = w5 at *
  generalize hgm : w4.heap.size = gm at *
  have BM := Lib.hid bm
  have HBY5 : Hid (Byt S w5 (.slice dA' q'.d.length dc') q'.d) := Lib.hid (HBY.out.fr f5 (by simp))
  clear c0 c1 c2 c3 c4 c5 f5 bm
  obtain ⟨hto, hqq⟩ : tt = 0 ∧ q' = q := by
    have h := congrArg (fun l => l[i]?) M.out.bagL
    rw [List.getElem?_map, HX.out, hq] at h
    simp at h
    exact h
  subst hto hqq
  have BX9 := BX5
  have BM9 := BM
  have HBY9 := HBY5
  have HSS : Hid (Ext w5 S S) := Lib.hid (Ext.refl w5 S)
  have HEX : Hid (Fr [w.heap.size] w5 w5) := Lib.hid (Fr.refl _ w5)
  have hti := come_si ((BX9.out.fr (Fr.refl [] w5).drew).m.duo.a) ok q' hwin.1 hwin.2 dA' dc' S (HBY9.out.fr (Fr.refl [] w5).drew (by simp)) (fun y hy => ⟨fun hm => BX9.out.m.duo.a.off y hm hy, BX9.out.m.duo.pub y hy⟩)
  have hlen := come_len ok q'
  generalize comeV P.e0 q' = r at *
  have HTI := Lib.hid hti
  have HLN := Lib.hid hlen
  clear hti hlen ok hwin hq
  obtain ⟨m0', m1, m2, m3, m4, m5⟩ := cells6 BM9.out
  clear t0 t1 t2 t3 t4 t5 t6
  obtain ⟨t0, t1, t2, t3, t4, t5, t6⟩ := cells7 BX9.out.b
  have HGM : Hid (gm ∉ Ha.own) := Lib.hid (fun hm => by have := HLT4.out gm (by simp [hm]); omega)
  have HGZ : Hid (gm < w5.heap.size) := Lib.hid BM9.out.lt
  go_upto_region 12 with fail
  go_region_held3 (fun w' => w'.cell? ⟨w.heap.size, 0, none⟩ = some (ptr Ha.g) ∧ w'.cell? ⟨gm, 0, none⟩ = some (.int .i64 0) ∧ w'.cell? ⟨gm, 1, none⟩ = some (.int .i64 q'.flags) ∧ w'.cell? ⟨gm, 2, none⟩ = some (.int .u32 q'.seq) ∧ w'.cell? ⟨gm, 3, none⟩ = some (.int .u32 q'.ack) ∧ w'.cell? ⟨gm, 4, none⟩ = some (.int .u16 q'.win) ∧ w'.cell? ⟨gm, 5, none⟩ = some (.slice dA' q'.d.length dc'))
    (first
      | (with_reducible exact ⟨s0', s1', s2', s3', s4', s5', s6'⟩)
      | go_keep)
    (first | (go_at_call 6; refine HTI.out.mono ?_; rintro e w7 ⟨v4, rfl, hp4⟩; obtain ⟨S4, Ha4, Lp4, hL4, hg4, pr4, bx4, nv4, fv4⟩ := (BX9.out.fr (Fr.refl [] w5).drew).call0 hp4; obtain ⟨t0', t1', t2', t3', t4', t5', t6'⟩ := cells7 bx4.b; have s0' : w7.cell? ⟨w.heap.size, 0, none⟩ = some (ptr Ha.g) := (by rw [← hg4]; exact t0'); obtain ⟨s1', s2', s3', s4', s5', s6'⟩ := cells6 (BM9.out.drew.fr fv4 HGM.out); have HL4 := Lib.hid hL4; have PR4 := Lib.hid pr4; have BX4 := Lib.hid bx4; have HG4 := Lib.hid hg4; clear t0' t1' t2' t3' t4' t5' t6' hp4 hL4 hg4 pr4 bx4 nv4 fv4))
  have HLEN : Hid (Lp4.length ≤ 2000000) := Lib.hid (by have := congrArg List.length HL4.out; rw [List.length_map] at this; (try dsimp only at this); have := HLN.out; omega)
  try dsimp only at HL4
  clear t0 t1 t2 t3 t4 t5 t6 x0 HTI HLN m0' m1 m2 m3 m4 m5 s0'
  have hpt := lput_any BX4.out.m 0 (by omega) _ Lp4 PR4.out HLEN.out hLl
  rw [HL4.out] at hpt
  unfold arM at hpt
  rw [HG4.out] at hpt
  have HPT := Lib.hid hpt
  clear hpt
  obtain ⟨t0, t1, t2, t3, t4, t5, t6⟩ := cells7 BX4.out.b
  go_wp2_with fail
  refine HPT.out.mono ?_
  rintro e w5 ⟨S5, bv5, L5, rfl, x5, m5, f5⟩
  have BB5 := Lib.hid (BX4.out.b.fr f5 (by simp))
  have M5 := Lib.hid m5
  have X5 := Lib.hid x5
  have F5 := Lib.hid f5
  have C7 := Lib.hid m5.c7
  clear m5 x5 f5 t0 t1 t2 t3 t4 t5 t6
  go_upto_region 33 with ((with_reducible refine gate_store 61 (.tmp 2) ?_); refine wpList_store_blk rfl 61 (.tmp 2) (.tmp 83) rfl w.heap.size 61 _ _ rfl rfl BB5.out rfl (by kernel_rfl) C7.out ?_; intro w6 B6 F6)
  have BX6 := Lib.hid (BX4.out.put F5.out X5.out M5.out B6 F6)
  have C76 := Lib.hid BX6.out.m.c7
  obtain ⟨t0, t1, t2, t3, t4, t5, t6⟩ := cells7 B6
  clear B6 F6
  go_wp2_with ((with_reducible refine gate_store 61 (.tmp 4) ?_); refine wpList_store_blk rfl 61 (.tmp 4) (.tmp 169) rfl (w.heap.size + 2) 61 pmZ _ rfl rfl BX6.out.z rfl (by kernel_rfl) C76.out ?_; intro w7 B7 F7)
  obtain ⟨u0, u1, u2, u3, u4, u5, u6⟩ := cells7 B7
  refine bodyPost_ret (v := .agg (arM Ha4 Hb bv5 s0 s1 r0 r1)) (by simp [results, Try.results18, go_sem, u0, u1, u2, u3, u4, u5, u6]) rfl ?_
  exact BX6.out.post F7
set_option maxHeartbeats 8000000 in
theorem turn_pick01t {S : Nat → Prop} {w : World} {Ha Hb : Hd} {P : Pm} {bv s0 s1 r0 r1 : Value} {L : List (Int × Prt × Value)} (m : PV S w Ha Hb P bv s0 s1 r0 r1 L) (hbl : P.bag.length ≤ 400)  (pk : Int) (dA : Option Addr) (dn dc : Nat) (i : Nat) (hi : i = pickI pk P.bag.length) (hne : 0 < P.bag.length) (ok : Ok P.e1) (q : Prt) (hq : P.bag[i]? = some (1, q)) (hwin : 0 ≤ q.win ∧ q.win < 65536) :
    Calls Try.prog 18 #[.agg (arM Ha Hb bv s0 s1 r0 r1), .agg #[.int .i64 0, .int .i64 pk, .bool true, .slice dA dn dc]] w (TurnPost S w Ha Hb { P with e1 := (comeV P.e1 q).1, bag := putB 0 (P.bag) (comeV P.e1 q).2.1 }) := by
  have hLl : L.length ≤ 1000 := by have := congrArg List.length m.bagL; rw [List.length_map] at this; omega
  have f0 : Fr [] w (((w.alloc (.cells (arM Ha Hb bv s0 s1 r0 r1) 61)).alloc (.cells #[.int .i64 0, .int .i64 pk, .bool true, .slice dA dn dc] 65)).alloc (.cells pmZ 61)) := (((Fr.refl [] w).alloc _).alloc _).alloc _
  have b0 : Blk (((w.alloc (.cells (arM Ha Hb bv s0 s1 r0 r1) 61)).alloc (.cells #[.int .i64 0, .int .i64 pk, .bool true, .slice dA dn dc] 65)).alloc (.cells pmZ 61)) w.heap.size 61 (arM Ha Hb bv s0 s1 r0 r1) := ((Blk.new w 61 (arM Ha Hb bv s0 s1 r0 r1)).alloc _).alloc _
  have b1 : Blk (((w.alloc (.cells (arM Ha Hb bv s0 s1 r0 r1) 61)).alloc (.cells #[.int .i64 0, .int .i64 pk, .bool true, .slice dA dn dc] 65)).alloc (.cells pmZ 61)) (w.heap.size + 1) 65 #[.int .i64 0, .int .i64 pk, .bool true, .slice dA dn dc] := by
    have h := (Blk.new (w.alloc (.cells (arM Ha Hb bv s0 s1 r0 r1) 61)) 65 #[.int .i64 0, .int .i64 pk, .bool true, .slice dA dn dc]).alloc (.cells pmZ 61)
    simpa using h
  have b2 : Blk (((w.alloc (.cells (arM Ha Hb bv s0 s1 r0 r1) 61)).alloc (.cells #[.int .i64 0, .int .i64 pk, .bool true, .slice dA dn dc] 65)).alloc (.cells pmZ 61)) (w.heap.size + 2) 61 pmZ := by
    have h := Blk.new ((w.alloc (.cells (arM Ha Hb bv s0 s1 r0 r1) 61)).alloc (.cells #[.int .i64 0, .int .i64 pk, .bool true, .slice dA dn dc] 65)) 61 pmZ
    simpa using h
  have hz : w.heap.size + 2 < (((w.alloc (.cells (arM Ha Hb bv s0 s1 r0 r1) 61)).alloc (.cells #[.int .i64 0, .int .i64 pk, .bool true, .slice dA dn dc] 65)).alloc (.cells pmZ 61)).heap.size := b2.lt
  have M := Lib.hid m
  have HB2 := Lib.hid b2
  have HZ := Lib.hid hz
  clear m b2 hz
  go_enter Try.func18, Try.ntmps18
  go_upto_region 1 with fail
  generalize ((w.alloc (.cells (arM Ha Hb bv s0 s1 r0 r1) 61)).alloc (.cells #[.int .i64 0, .int .i64 pk, .bool true, .slice dA dn dc] 65)).alloc (.cells pmZ 61) = w3 at *
  have BX := Lib.hid (box_start M.out f0 HZ.out b0 HB2.out)
  have F0 := Lib.hid f0
  obtain ⟨t0, t1, t2, t3, t4, t5, t6⟩ := cells7 b0
  obtain ⟨x0, x1, x2, x3⟩ := cells4t b1
  clear f0 b0 b1 HB2 HZ
  have hLL : P.bag.length = L.length := by rw [← M.out.bagL, List.length_map]
  rw [hLL] at hne hi
  obtain ⟨bA, bc, hbv, hbn, hbc⟩ := BX.out.m.bag.sl.form
  rw [hbv] at t2
  unfold maxLen at hbc
  have dz2 : (L.length : Int) ≠ 0 := by omega
  have dz : ((L.length : Int) == 0) = false := beq_eq_false_iff_ne.2 dz2
  have dz1 : decide ((L.length : Int) = 0) = false := decide_eq_false dz2
  obtain ⟨k0, k1⟩ := pick_bd pk hne
  have w1 : IntKind.i64.wrap (pk.tmod L.length + L.length) = pk.tmod L.length + L.length := IntWalk.i64_in _ (by omega)
  have hpi : (pk.tmod L.length + L.length) % L.length = (pickI pk L.length : Nat) := by
    have := Int.emod_nonneg (pk.tmod L.length + L.length) (show (L.length : Int) ≠ 0 by omega)
    unfold pickI
    omega
  have hil := pick_lt pk hne
  rw [← hi] at hpi hil
  clear hi
  have HPI := Lib.hid hpi
  have HLL := Lib.hid hLL
  clear hpi hLL
  go_upto_region 7 with fail
  go_quiet (fail)
  rw [HPI.out]
  have BX3 := Lib.hid (BX.out.fr ((Fr.refl [] w3).drewN nq))
  have f3q : Fr [] w3 (w3.drewN nq) := (Fr.refl [] w3).drewN nq
  have t0 := fr_cell f3q t0
  have t1 := fr_cell f3q t1
  have t2 := fr_cell f3q t2
  have t3 := fr_cell f3q t3
  have t4 := fr_cell f3q t4
  have t5 := fr_cell f3q t5
  have t6 := fr_cell f3q t6
  have x0 := fr_cell f3q x0
  have x2 := fr_cell f3q x2
  clear f3q dz dz1 dz2 k0 k1 w1 x1 x3
  generalize w3.drewN nq = w4 at *
  obtain ⟨x, hx⟩ : ∃ x, L[i]? = some x := ⟨_, List.getElem?_eq_getElem hil⟩
  have hbg := BX3.out.m.bag
  rw [hbv] at hbg
  obtain ⟨b, o, dA', dc', rfl, hSb, hdv, c0, c1, c2, c3, c4, c5, hby⟩ := hbg.at_ hx
  have hSl := Lib.hid hbg.sl
  obtain ⟨tt, q', dv'⟩ := x
  dsimp only at hdv c0 c1 c2 c3 c4 c5 hby
  subst hdv
  have HX := Lib.hid hx
  have HBY := Lib.hid hby
  have HBV := Lib.hid hbv
  have hi0 : (0 : Int) ≤ (i : Int) := by omega
  have hi1 : (i : Int) < (L.length : Int) := by omega
  clear hbg hby hbv hx
  go_upto_region 9 with fail
  have f5 : Fr [] w4 (w4.alloc (.cells #[.int .i64 tt, .int .i64 q'.flags, .int .u32 q'.seq, .int .u32 q'.ack, .int .u16 q'.win, .slice dA' q'.d.length dc'] 96)) := (Fr.refl [] w4).alloc _
  have bm := Blk.new w4 96 #[.int .i64 tt, .int .i64 q'.flags, .int .u32 q'.seq, .int .u32 q'.ack, .int .u16 q'.win, .slice dA' q'.d.length dc']
  have t0 := fr_cell f5 t0
  have t1 := fr_cell f5 t1
  have t2 := fr_cell f5 t2
  have t3 := fr_cell f5 t3
  have t4 := fr_cell f5 t4
  have t5 := fr_cell f5 t5
  have t6 := fr_cell f5 t6
  have x0 := fr_cell f5 x0
  have x2 := fr_cell f5 x2
  have BX5 := Lib.hid (BX3.out.fr f5)
  have F5 := Lib.hid f5
  have HB5 := Lib.hid (show w.heap.size + 2 < w4.heap.size from BX3.out.s)
  have HLT4 : Hid (∀ y ∈ Ha.own ++ Hb.own, y < w4.heap.size) := Lib.hid (fun y hy => by
    rcases List.mem_append.1 hy with h | h
    · exact BX3.out.m.duo.a.lt y h
    · exact BX3.out.m.duo.b.lt y h)
  have HP4 : Hid (∀ y, S y → y < w4.heap.size) := Lib.hid BX3.out.m.duo.pub
  generalize w4.alloc (.cells #[.int .i64 tt, .int .i64 q'.flags, .int .u32 q'.seq, .int .u32 q'.ack, .int .u16 q'.win, .slice dA' q'.d.length dc'] 96) = w5 at *
  generalize hgm : w4.heap.size = gm at *
  have BM := Lib.hid bm
  have HBY5 : Hid (Byt S w5 (.slice dA' q'.d.length dc') q'.d) := Lib.hid (HBY.out.fr f5 (by simp))
  clear c0 c1 c2 c3 c4 c5 f5 bm
  obtain ⟨hto, hqq⟩ : tt = 1 ∧ q' = q := by
    have h := congrArg (fun l => l[i]?) M.out.bagL
    rw [List.getElem?_map, HX.out, hq] at h
    simp at h
    exact h
  subst hto hqq
  have BX9 := BX5
  have BM9 := BM
  have HBY9 := HBY5
  have HSS : Hid (Ext w5 S S) := Lib.hid (Ext.refl w5 S)
  have HEX : Hid (Fr [w.heap.size] w5 w5) := Lib.hid (Fr.refl _ w5)
  have hti := come_si ((BX9.out.fr (Fr.refl [] w5).drew).m.duo.b) ok q' hwin.1 hwin.2 dA' dc' S (HBY9.out.fr (Fr.refl [] w5).drew (by simp)) (fun y hy => ⟨fun hm => BX9.out.m.duo.b.off y hm hy, BX9.out.m.duo.pub y hy⟩)
  have hlen := come_len ok q'
  generalize comeV P.e1 q' = r at *
  have HTI := Lib.hid hti
  have HLN := Lib.hid hlen
  clear hti hlen ok hwin hq
  obtain ⟨m0', m1, m2, m3, m4, m5⟩ := cells6 BM9.out
  clear t0 t1 t2 t3 t4 t5 t6
  obtain ⟨t0, t1, t2, t3, t4, t5, t6⟩ := cells7 BX9.out.b
  have HGM : Hid (gm ∉ Hb.own) := Lib.hid (fun hm => by have := HLT4.out gm (by simp [hm]); omega)
  have HGZ : Hid (gm < w5.heap.size) := Lib.hid BM9.out.lt
  go_upto_region 12 with fail
  go_region_held3 (fun w' => w'.cell? ⟨w.heap.size, 1, none⟩ = some (ptr Hb.g) ∧ w'.cell? ⟨gm, 0, none⟩ = some (.int .i64 1) ∧ w'.cell? ⟨gm, 1, none⟩ = some (.int .i64 q'.flags) ∧ w'.cell? ⟨gm, 2, none⟩ = some (.int .u32 q'.seq) ∧ w'.cell? ⟨gm, 3, none⟩ = some (.int .u32 q'.ack) ∧ w'.cell? ⟨gm, 4, none⟩ = some (.int .u16 q'.win) ∧ w'.cell? ⟨gm, 5, none⟩ = some (.slice dA' q'.d.length dc'))
    (first
      | (with_reducible exact ⟨s0', s1', s2', s3', s4', s5', s6'⟩)
      | go_keep)
    (first | (go_at_call 6; refine HTI.out.mono ?_; rintro e w7 ⟨v4, rfl, hp4⟩; obtain ⟨S4, Hb4, Lp4, hL4, hg4, pr4, bx4, nv4, fv4⟩ := (BX9.out.fr (Fr.refl [] w5).drew).call1 hp4; obtain ⟨t0', t1', t2', t3', t4', t5', t6'⟩ := cells7 bx4.b; have s0' : w7.cell? ⟨w.heap.size, 1, none⟩ = some (ptr Hb.g) := (by rw [← hg4]; exact t1'); obtain ⟨s1', s2', s3', s4', s5', s6'⟩ := cells6 (BM9.out.drew.fr fv4 HGM.out); have HL4 := Lib.hid hL4; have PR4 := Lib.hid pr4; have BX4 := Lib.hid bx4; have HG4 := Lib.hid hg4; clear t0' t1' t2' t3' t4' t5' t6' hp4 hL4 hg4 pr4 bx4 nv4 fv4))
  have HLEN : Hid (Lp4.length ≤ 2000000) := Lib.hid (by have := congrArg List.length HL4.out; rw [List.length_map] at this; (try dsimp only at this); have := HLN.out; omega)
  try dsimp only at HL4
  clear t0 t1 t2 t3 t4 t5 t6 x0 HTI HLN m0' m1 m2 m3 m4 m5 s0'
  have hpt := lput_any BX4.out.m 1 (by omega) _ Lp4 PR4.out HLEN.out hLl
  rw [HL4.out] at hpt
  unfold arM at hpt
  rw [HG4.out] at hpt
  have HPT := Lib.hid hpt
  clear hpt
  obtain ⟨t0, t1, t2, t3, t4, t5, t6⟩ := cells7 BX4.out.b
  go_wp2_with fail
  refine HPT.out.mono ?_
  rintro e w5 ⟨S5, bv5, L5, rfl, x5, m5, f5⟩
  have BB5 := Lib.hid (BX4.out.b.fr f5 (by simp))
  have M5 := Lib.hid m5
  have X5 := Lib.hid x5
  have F5 := Lib.hid f5
  have C7 := Lib.hid m5.c7
  clear m5 x5 f5 t0 t1 t2 t3 t4 t5 t6
  go_upto_region 33 with ((with_reducible refine gate_store 61 (.tmp 2) ?_); refine wpList_store_blk rfl 61 (.tmp 2) (.tmp 83) rfl w.heap.size 61 _ _ rfl rfl BB5.out rfl (by kernel_rfl) C7.out ?_; intro w6 B6 F6)
  have BX6 := Lib.hid (BX4.out.put F5.out X5.out M5.out B6 F6)
  have C76 := Lib.hid BX6.out.m.c7
  obtain ⟨t0, t1, t2, t3, t4, t5, t6⟩ := cells7 B6
  clear B6 F6
  go_wp2_with ((with_reducible refine gate_store 61 (.tmp 4) ?_); refine wpList_store_blk rfl 61 (.tmp 4) (.tmp 169) rfl (w.heap.size + 2) 61 pmZ _ rfl rfl BX6.out.z rfl (by kernel_rfl) C76.out ?_; intro w7 B7 F7)
  obtain ⟨u0, u1, u2, u3, u4, u5, u6⟩ := cells7 B7
  refine bodyPost_ret (v := .agg (arM Ha Hb4 bv5 s0 s1 r0 r1)) (by simp [results, Try.results18, go_sem, u0, u1, u2, u3, u4, u5, u6]) rfl ?_
  exact BX6.out.post F7
end Go.Proofs.Ytmgdbbbdhkfdmaa
