import Derived.Test.YtmgdbbbdhkfdmaaZ22
import Derived.Deep.DeepCutAuto
import Derived.Deep.RegionLaw
set_option linter.unusedSimpArgs false
set_option linter.unusedVariables false
namespace Go.Proofs.Ytmgdbbbdhkfdmaa
set_option maxRecDepth 100000
open Go.RowKit Go.Deep

/-- Which part is picked. -/
def pickI (pick : Int) (n : Nat) : Nat := ((pick.tmod n + n) % n).toNat
theorem pick_bd (pick : Int) {n : Nat} (h : 0 < n) : 0 ≤ pick.tmod n + n ∧ pick.tmod n + n < 2 * n := by
  have h1 : pick.tmod n < n := Int.tmod_lt_of_pos _ (by omega)
  have h2 : -(n : Int) < pick.tmod n := by have := Int.lt_tmod_of_pos pick (show (0 : Int) < n by omega); omega
  exact ⟨by omega, by omega⟩
theorem pick_lt (pick : Int) {n : Nat} (h : 0 < n) : pickI pick n < n := by
  have := Int.emod_lt_of_pos (pick.tmod n + n) (show (0 : Int) < n by omega)
  have := Int.emod_nonneg (pick.tmod n + n) (show (n : Int) ≠ 0 by omega)
  unfold pickI
  omega
/-- The i-th one of a bag. -/
theorem Bag.at_ {S : Nat → Prop} {w : World} {A : Option Addr} {c : Nat} {L : List (Int × Prt × Value)} (h : Bag S w (.slice A L.length c) L) {i : Nat} {x : Int × Prt × Value} (hi : L[i]? = some x) : ∃ b o dA dc, A = some ⟨b, o, none⟩ ∧ S b ∧ x.2.2 = .slice dA x.2.1.d.length dc ∧
    w.cell? ⟨b, o + i * 6, none⟩ = some (.int .i64 x.1) ∧ w.cell? ⟨b, o + i * 6 + 1, none⟩ = some (.int .i64 x.2.1.flags) ∧ w.cell? ⟨b, o + i * 6 + 2, none⟩ = some (.int .u32 x.2.1.seq) ∧ w.cell? ⟨b, o + i * 6 + 3, none⟩ = some (.int .u32 x.2.1.ack) ∧ w.cell? ⟨b, o + i * 6 + 4, none⟩ = some (.int .u16 x.2.1.win) ∧
    w.cell? ⟨b, o + i * 6 + 5, none⟩ = some (.slice dA x.2.1.d.length dc) ∧ Byt S w (.slice dA x.2.1.d.length dc) x.2.1.d := by
  have hlt : i < L.length := (List.getElem?_eq_some_iff.1 hi).1
  obtain ⟨_, A', c', hv, _, _, hx⟩ := h.sl
  injection hv with hA _ _
  subst hA
  obtain ⟨b, o, e, hb, hu⟩ := hx (by omega)
  have hby := h.byt x (List.mem_of_getElem? hi)
  obtain ⟨dA, dc, hdv, _, _⟩ := hby.form
  obtain ⟨q0, q1, q2, q3, q4, q5⟩ := snts_at L i x hi
  rw [hdv] at q5 hby
  exact ⟨b, o, dA, dc, e, hb, hdv, hu _ _ q0, hu _ _ q1, hu _ _ q2, hu _ _ q3, hu _ _ q4, hu _ _ q5, hby⟩
theorem cells6 {w : World} {b : Nat} {t : TypeId} {v0 v1 v2 v3 v4 v5 : Value} (h : Blk w b t #[v0, v1, v2, v3, v4, v5]) : w.cell? ⟨b, 0, none⟩ = some v0 ∧ w.cell? ⟨b, 1, none⟩ = some v1 ∧ w.cell? ⟨b, 2, none⟩ = some v2 ∧ w.cell? ⟨b, 3, none⟩ = some v3 ∧ w.cell? ⟨b, 4, none⟩ = some v4 ∧ w.cell? ⟨b, 5, none⟩ = some v5 :=
  ⟨h.cell 0, h.cell 1, h.cell 2, h.cell 3, h.cell 4, h.cell 5⟩
section
variable {S0 S : Nat → Prop} {w0 w w8 : World} {Ha0 Hb0 Ha Hb : Hd} {P : Pm} {bv s0 s1 r0 r1 : Value} {L L8 : List (Int × Prt × Value)}
/-- Another bag, laid anew. -/
theorem Box.bag {A : Option Addr} {c n : Nat} (B : Box S0 w0 Ha0 Hb0 S w Ha Hb P bv s0 s1 r0 r1 L) (own : w8.ownsRow 0 96 6 (.slice A n c) n (snts L8)) (hn8 : n = L8.length) (f : Fr [] w w8) (n8 : ∀ b, (Value.slice A n c).ownBlock = some b → w.heap.size ≤ b) (hL : ∀ x ∈ L8, x ∈ L) :
    ∃ S', Ext w S S' ∧ Box S0 w0 Ha0 Hb0 S' (w8.setCell ⟨w0.heap.size, 2, none⟩ (.slice A n c)) Ha Hb { P with bag := L8.map (fun x => (x.1, x.2.1)) } (.slice A n c) s0 s1 r0 r1 L8 := by
  have e : Ext w S (fun b => S b ∨ (Value.slice A n c).ownBlock = some b) := ⟨fun b h => .inl h, fun b h => h.imp id (n8 b)⟩
  have m8 := B.m.ext f e (fun b hb => by
    rcases hb with h | h
    · exact Nat.lt_of_lt_of_le (B.m.duo.pub b h) f.size
    · exact own_lt own h)
  have bg : Bag (fun b => S b ∨ (Value.slice A n c).ownBlock = some b) w8 (.slice A n c) L8 := Bag.new own hn8 (fun x hx => (B.m.bag.byt x (hL x hx)).fr f (by simp))
  exact ⟨_, e, B.put f e ⟨m8.duo, bg, rfl, m8.s0, m8.s1, m8.r0, m8.r1⟩ ((B.b.fr f (by simp)).set_ 2 _) ((Fr.refl _ w8).setCell (p := ⟨w0.heap.size, 2, none⟩) (.inl (by simp)) _)⟩
end
theorem cut_bag {S0 S : Nat → Prop} {w0 w w9 : World} {Ha0 Hb0 Ha Hb : Hd} {P : Pm} {bv s0 s1 r0 r1 : Value} {L : List (Int × Prt × Value)} {i n : Nat} {A : Option Addr} {c : Nat} (B : Box S0 w0 Ha0 Hb0 S w Ha Hb P bv s0 s1 r0 r1 L)
    (own : w9.ownsRow 0 96 6 (.slice A n c) n (([] ++ snts (L.take i)) ++ snts (L.drop (i + 1)))) (hn : (L.eraseIdx i).length = n) (f : Fr [] w w9) (n9 : ∀ b, (Value.slice A n c).ownBlock = some b → w.heap.size ≤ b) :
    ∃ S9 A9 c9, Ext w S S9 ∧ Fr [w0.heap.size] w (w9.setCell ⟨w0.heap.size, 2, none⟩ (.slice A n c)) ∧ Box S0 w0 Ha0 Hb0 S9 (w9.setCell ⟨w0.heap.size, 2, none⟩ (.slice A n c)) Ha Hb { P with bag := (L.eraseIdx i).map (fun x => (x.1, x.2.1)) } (.slice A9 n c9) s0 s1 r0 r1 (L.eraseIdx i) := by
  rw [List.nil_append, snts_app, ← List.eraseIdx_eq_take_drop_succ] at own
  obtain ⟨S9, e9, bx9⟩ := B.bag own hn.symm f n9 (fun x hx => List.mem_of_mem_eraseIdx hx)
  exact ⟨S9, A, c, e9, (f.mono (by simp)).setCell (p := ⟨w0.heap.size, 2, none⟩) (.inl (by simp)) _, bx9⟩
theorem erase_eq {α : Type} (L : List α) (i : Nat) : L.take i ++ L.drop (i + 1) = L.eraseIdx i := (List.eraseIdx_eq_take_drop_succ L i).symm
theorem map_erase' {α β : Type} (f : α → β) : ∀ (L : List α) (i : Nat), (L.eraseIdx i).map f = (L.map f).eraseIdx i
  | [], i => by simp
  | x :: L, 0 => by simp
  | x :: L, i + 1 => by simp [map_erase' f L i]
theorem bag_slices {S : Nat → Prop} {w : World} {b o c : Nat} {L : List (Int × Prt × Value)} {i : Nat} (h : Sl S w 6 (.slice (some ⟨b, o, none⟩) L.length c) L.length (snts L)) (hi : i < L.length) :
    Sl S w 6 (.slice (some ⟨b, o, none⟩) i c) i (snts (L.take i)) ∧ Sl S w 6 (.slice (if c = i + 1 then some ⟨b, o, none⟩ else some ⟨b, o + (i + 1) * 6, none⟩) (L.length - (i + 1)) (c - (i + 1))) (L.length - (i + 1)) (snts (L.drop (i + 1))) := by
  have h1 := h.take (k := i) (by omega)
  have h2 := h.cut (k := i + 1) (by omega)
  rw [snts_take] at h1
  rw [snts_drop] at h2
  refine ⟨h1, ?_⟩
  simp only [Option.map_some, add_lit'] at h2
  exact h2
end Go.Proofs.Ytmgdbbbdhkfdmaa

namespace Go.Proofs.Ytmgdbbbdhkfdmaa
set_option maxRecDepth 100000
open Go.RowKit Go.Deep

set_option maxHeartbeats 8000000 in
theorem turn_pick1t {S : Nat → Prop} {w : World} {Ha Hb : Hd} {P : Pm} {bv s0 s1 r0 r1 : Value} {L : List (Int × Prt × Value)} (m : PV S w Ha Hb P bv s0 s1 r0 r1 L) (hbl : P.bag.length ≤ 400)  (pk : Int) (dA : Option Addr) (dn dc : Nat) (i : Nat) (hi : i = pickI pk P.bag.length) (hne : 0 < P.bag.length) :
    Calls Try.prog 18 #[.agg (arM Ha Hb bv s0 s1 r0 r1), .agg #[.int .i64 1, .int .i64 pk, .bool true, .slice dA dn dc]] w (TurnPost S w Ha Hb { P with bag := P.bag }) := by
  have hLl : L.length ≤ 1000 := by have := congrArg List.length m.bagL; rw [List.length_map] at this; omega
  have f0 : Fr [] w (((w.alloc (.cells (arM Ha Hb bv s0 s1 r0 r1) 61)).alloc (.cells #[.int .i64 1, .int .i64 pk, .bool true, .slice dA dn dc] 65)).alloc (.cells pmZ 61)) := (((Fr.refl [] w).alloc _).alloc _).alloc _
  have b0 : Blk (((w.alloc (.cells (arM Ha Hb bv s0 s1 r0 r1) 61)).alloc (.cells #[.int .i64 1, .int .i64 pk, .bool true, .slice dA dn dc] 65)).alloc (.cells pmZ 61)) w.heap.size 61 (arM Ha Hb bv s0 s1 r0 r1) := ((Blk.new w 61 (arM Ha Hb bv s0 s1 r0 r1)).alloc _).alloc _
  have b1 : Blk (((w.alloc (.cells (arM Ha Hb bv s0 s1 r0 r1) 61)).alloc (.cells #[.int .i64 1, .int .i64 pk, .bool true, .slice dA dn dc] 65)).alloc (.cells pmZ 61)) (w.heap.size + 1) 65 #[.int .i64 1, .int .i64 pk, .bool true, .slice dA dn dc] := by
    have h := (Blk.new (w.alloc (.cells (arM Ha Hb bv s0 s1 r0 r1) 61)) 65 #[.int .i64 1, .int .i64 pk, .bool true, .slice dA dn dc]).alloc (.cells pmZ 61)
    simpa using h
  have b2 : Blk (((w.alloc (.cells (arM Ha Hb bv s0 s1 r0 r1) 61)).alloc (.cells #[.int .i64 1, .int .i64 pk, .bool true, .slice dA dn dc] 65)).alloc (.cells pmZ 61)) (w.heap.size + 2) 61 pmZ := by
    have h := Blk.new ((w.alloc (.cells (arM Ha Hb bv s0 s1 r0 r1) 61)).alloc (.cells #[.int .i64 1, .int .i64 pk, .bool true, .slice dA dn dc] 65)) 61 pmZ
    simpa using h
  have hz : w.heap.size + 2 < (((w.alloc (.cells (arM Ha Hb bv s0 s1 r0 r1) 61)).alloc (.cells #[.int .i64 1, .int .i64 pk, .bool true, .slice dA dn dc] 65)).alloc (.cells pmZ 61)).heap.size := b2.lt
  have M := Lib.hid m
  have HB2 := Lib.hid b2
  have HZ := Lib.hid hz
  clear m b2 hz
  go_enter Try.func18, Try.ntmps18
  go_upto_region 1 with fail
  generalize ((w.alloc (.cells (arM Ha Hb bv s0 s1 r0 r1) 61)).alloc (.cells #[.int .i64 1, .int .i64 pk, .bool true, .slice dA dn dc] 65)).alloc (.cells pmZ 61) = w3 at *
  have BX := Lib.hid (box_start M.out f0 HZ.out b0 HB2.out)
  have F0 := Lib.hid f0
  obtain ⟨t0, t1, t2, t3, t4, t5, t6⟩ := cells7 b0
  obtain ⟨x0, x1, x2, x3⟩ := cells4t b1
  clear f0 b0 b1 HB2 HZ
  have hLL : P.bag.length = L.length := by rw [← M.out.bagL, List.length_map]
  rw [hLL] at hne hi
  obtain ⟨bA, bc, hbv, hbn, hbc⟩ := BX.out.m.bag.sl.form
  rw [hbv] at t2
  unfold maxLen at hbc
  have dz2 : (L.length : Int) ≠ 0 := by omega
  have dz : ((L.length : Int) == 0) = false := beq_eq_false_iff_ne.2 dz2
  have dz1 : decide ((L.length : Int) = 0) = false := decide_eq_false dz2
  obtain ⟨k0, k1⟩ := pick_bd pk hne
  have w1 : IntKind.i64.wrap (pk.tmod L.length + L.length) = pk.tmod L.length + L.length := IntWalk.i64_in _ (by omega)
  have hpi : (pk.tmod L.length + L.length) % L.length = (pickI pk L.length : Nat) := by
    have := Int.emod_nonneg (pk.tmod L.length + L.length) (show (L.length : Int) ≠ 0 by omega)
    unfold pickI
    omega
  have hil := pick_lt pk hne
  rw [← hi] at hpi hil
  clear hi
  have HPI := Lib.hid hpi
  have HLL := Lib.hid hLL
  clear hpi hLL
  go_upto_region 7 with fail
  go_quiet (fail)
  rw [HPI.out]
  have BX3 := Lib.hid (BX.out.fr ((Fr.refl [] w3).drewN nq))
  have f3q : Fr [] w3 (w3.drewN nq) := (Fr.refl [] w3).drewN nq
  have t0 := fr_cell f3q t0
  have t1 := fr_cell f3q t1
  have t2 := fr_cell f3q t2
  have t3 := fr_cell f3q t3
  have t4 := fr_cell f3q t4
  have t5 := fr_cell f3q t5
  have t6 := fr_cell f3q t6
  have x0 := fr_cell f3q x0
  have x2 := fr_cell f3q x2
  clear f3q dz dz1 dz2 k0 k1 w1 x1 x3
  generalize w3.drewN nq = w4 at *
  obtain ⟨x, hx⟩ : ∃ x, L[i]? = some x := ⟨_, List.getElem?_eq_getElem hil⟩
  have hbg := BX3.out.m.bag
  rw [hbv] at hbg
  obtain ⟨b, o, dA', dc', rfl, hSb, hdv, c0, c1, c2, c3, c4, c5, hby⟩ := hbg.at_ hx
  have hSl := Lib.hid hbg.sl
  obtain ⟨tt, q', dv'⟩ := x
  dsimp only at hdv c0 c1 c2 c3 c4 c5 hby
  subst hdv
  have HX := Lib.hid hx
  have HBY := Lib.hid hby
  have HBV := Lib.hid hbv
  have hi0 : (0 : Int) ≤ (i : Int) := by omega
  have hi1 : (i : Int) < (L.length : Int) := by omega
  clear hbg hby hbv hx
  go_upto_region 9 with fail
  have f5 : Fr [] w4 (w4.alloc (.cells #[.int .i64 tt, .int .i64 q'.flags, .int .u32 q'.seq, .int .u32 q'.ack, .int .u16 q'.win, .slice dA' q'.d.length dc'] 96)) := (Fr.refl [] w4).alloc _
  have bm := Blk.new w4 96 #[.int .i64 tt, .int .i64 q'.flags, .int .u32 q'.seq, .int .u32 q'.ack, .int .u16 q'.win, .slice dA' q'.d.length dc']
  have t0 := fr_cell f5 t0
  have t1 := fr_cell f5 t1
  have t2 := fr_cell f5 t2
  have t3 := fr_cell f5 t3
  have t4 := fr_cell f5 t4
  have t5 := fr_cell f5 t5
  have t6 := fr_cell f5 t6
  have x0 := fr_cell f5 x0
  have x2 := fr_cell f5 x2
  have BX5 := Lib.hid (BX3.out.fr f5)
  have F5 := Lib.hid f5
  have HB5 := Lib.hid (show w.heap.size + 2 < w4.heap.size from BX3.out.s)
  have HLT4 : Hid (∀ y ∈ Ha.own ++ Hb.own, y < w4.heap.size) := Lib.hid (fun y hy => by
    rcases List.mem_append.1 hy with h | h
    · exact BX3.out.m.duo.a.lt y h
    · exact BX3.out.m.duo.b.lt y h)
  have HP4 : Hid (∀ y, S y → y < w4.heap.size) := Lib.hid BX3.out.m.duo.pub
  generalize w4.alloc (.cells #[.int .i64 tt, .int .i64 q'.flags, .int .u32 q'.seq, .int .u32 q'.ack, .int .u16 q'.win, .slice dA' q'.d.length dc'] 96) = w5 at *
  generalize hgm : w4.heap.size = gm at *
  have BM := Lib.hid bm
  have HBY5 : Hid (Byt S w5 (.slice dA' q'.d.length dc') q'.d) := Lib.hid (HBY.out.fr f5 (by simp))
  clear c0 c1 c2 c3 c4 c5 f5 bm
  have BX9 := BX5
  have BM9 := BM
  have HBY9 := HBY5
  have HSS : Hid (Ext w5 S S) := Lib.hid (Ext.refl w5 S)
  have HEX : Hid (Fr [w.heap.size] w5 w5) := Lib.hid (Fr.refl _ w5)
  have C76 := Lib.hid BX9.out.m.c7
  clear t0 t1 t2 t3 t4 t5 t6
  obtain ⟨t0, t1, t2, t3, t4, t5, t6⟩ := cells7 BX9.out.b
  go_wp2_with ((with_reducible refine gate_store 61 (.tmp 4) ?_); refine wpList_store_blk rfl 61 (.tmp 4) (.tmp 169) rfl (w.heap.size + 2) 61 pmZ _ rfl rfl BX9.out.z rfl (by kernel_rfl) C76.out ?_; intro w7 B7 F7)
  obtain ⟨u0, u1, u2, u3, u4, u5, u6⟩ := cells7 B7
  refine bodyPost_ret (v := .agg (arM Ha Hb bv s0 s1 r0 r1)) (by simp [results, Try.results18, go_sem, u0, u1, u2, u3, u4, u5, u6]) rfl ?_
  exact BX9.out.post F7
set_option maxHeartbeats 8000000 in
theorem turn_pick1f {S : Nat → Prop} {w : World} {Ha Hb : Hd} {P : Pm} {bv s0 s1 r0 r1 : Value} {L : List (Int × Prt × Value)} (m : PV S w Ha Hb P bv s0 s1 r0 r1 L) (hbl : P.bag.length ≤ 400)  (pk : Int) (dA : Option Addr) (dn dc : Nat) (i : Nat) (hi : i = pickI pk P.bag.length) (hne : 0 < P.bag.length) :
    Calls Try.prog 18 #[.agg (arM Ha Hb bv s0 s1 r0 r1), .agg #[.int .i64 1, .int .i64 pk, .bool false, .slice dA dn dc]] w (TurnPost S w Ha Hb { P with bag := P.bag.eraseIdx i }) := by
  have hLl : L.length ≤ 1000 := by have := congrArg List.length m.bagL; rw [List.length_map] at this; omega
  have f0 : Fr [] w (((w.alloc (.cells (arM Ha Hb bv s0 s1 r0 r1) 61)).alloc (.cells #[.int .i64 1, .int .i64 pk, .bool false, .slice dA dn dc] 65)).alloc (.cells pmZ 61)) := (((Fr.refl [] w).alloc _).alloc _).alloc _
  have b0 : Blk (((w.alloc (.cells (arM Ha Hb bv s0 s1 r0 r1) 61)).alloc (.cells #[.int .i64 1, .int .i64 pk, .bool false, .slice dA dn dc] 65)).alloc (.cells pmZ 61)) w.heap.size 61 (arM Ha Hb bv s0 s1 r0 r1) := ((Blk.new w 61 (arM Ha Hb bv s0 s1 r0 r1)).alloc _).alloc _
  have b1 : Blk (((w.alloc (.cells (arM Ha Hb bv s0 s1 r0 r1) 61)).alloc (.cells #[.int .i64 1, .int .i64 pk, .bool false, .slice dA dn dc] 65)).alloc (.cells pmZ 61)) (w.heap.size + 1) 65 #[.int .i64 1, .int .i64 pk, .bool false, .slice dA dn dc] := by
    have h := (Blk.new (w.alloc (.cells (arM Ha Hb bv s0 s1 r0 r1) 61)) 65 #[.int .i64 1, .int .i64 pk, .bool false, .slice dA dn dc]).alloc (.cells pmZ 61)
    simpa using h
  have b2 : Blk (((w.alloc (.cells (arM Ha Hb bv s0 s1 r0 r1) 61)).alloc (.cells #[.int .i64 1, .int .i64 pk, .bool false, .slice dA dn dc] 65)).alloc (.cells pmZ 61)) (w.heap.size + 2) 61 pmZ := by
    have h := Blk.new ((w.alloc (.cells (arM Ha Hb bv s0 s1 r0 r1) 61)).alloc (.cells #[.int .i64 1, .int .i64 pk, .bool false, .slice dA dn dc] 65)) 61 pmZ
    simpa using h
  have hz : w.heap.size + 2 < (((w.alloc (.cells (arM Ha Hb bv s0 s1 r0 r1) 61)).alloc (.cells #[.int .i64 1, .int .i64 pk, .bool false, .slice dA dn dc] 65)).alloc (.cells pmZ 61)).heap.size := b2.lt
  have M := Lib.hid m
  have HB2 := Lib.hid b2
  have HZ := Lib.hid hz
  clear m b2 hz
  go_enter Try.func18, Try.ntmps18
  go_upto_region 1 with fail
  generalize ((w.alloc (.cells (arM Ha Hb bv s0 s1 r0 r1) 61)).alloc (.cells #[.int .i64 1, .int .i64 pk, .bool false, .slice dA dn dc] 65)).alloc (.cells pmZ 61) = w3 at *
  have BX := Lib.hid (box_start M.out f0 HZ.out b0 HB2.out)
  have F0 := Lib.hid f0
  obtain ⟨t0, t1, t2, t3, t4, t5, t6⟩ := cells7 b0
  obtain ⟨x0, x1, x2, x3⟩ := cells4t b1
  clear f0 b0 b1 HB2 HZ
  have hLL : P.bag.length = L.length := by rw [← M.out.bagL, List.length_map]
  rw [hLL] at hne hi
  obtain ⟨bA, bc, hbv, hbn, hbc⟩ := BX.out.m.bag.sl.form
  rw [hbv] at t2
  unfold maxLen at hbc
  have dz2 : (L.length : Int) ≠ 0 := by omega
  have dz : ((L.length : Int) == 0) = false := beq_eq_false_iff_ne.2 dz2
  have dz1 : decide ((L.length : Int) = 0) = false := decide_eq_false dz2
  obtain ⟨k0, k1⟩ := pick_bd pk hne
  have w1 : IntKind.i64.wrap (pk.tmod L.length + L.length) = pk.tmod L.length + L.length := IntWalk.i64_in _ (by omega)
  have hpi : (pk.tmod L.length + L.length) % L.length = (pickI pk L.length : Nat) := by
    have := Int.emod_nonneg (pk.tmod L.length + L.length) (show (L.length : Int) ≠ 0 by omega)
    unfold pickI
    omega
  have hil := pick_lt pk hne
  rw [← hi] at hpi hil
  clear hi
  have HPI := Lib.hid hpi
  have HLL := Lib.hid hLL
  clear hpi hLL
  go_upto_region 7 with fail
  go_quiet (fail)
  rw [HPI.out]
  have BX3 := Lib.hid (BX.out.fr ((Fr.refl [] w3).drewN nq))
  have f3q : Fr [] w3 (w3.drewN nq) := (Fr.refl [] w3).drewN nq
  have t0 := fr_cell f3q t0
  have t1 := fr_cell f3q t1
  have t2 := fr_cell f3q t2
  have t3 := fr_cell f3q t3
  have t4 := fr_cell f3q t4
  have t5 := fr_cell f3q t5
  have t6 := fr_cell f3q t6
  have x0 := fr_cell f3q x0
  have x2 := fr_cell f3q x2
  clear f3q dz dz1 dz2 k0 k1 w1 x1 x3
  generalize w3.drewN nq = w4 at *
  obtain ⟨x, hx⟩ : ∃ x, L[i]? = some x := ⟨_, List.getElem?_eq_getElem hil⟩
  have hbg := BX3.out.m.bag
  rw [hbv] at hbg
  obtain ⟨b, o, dA', dc', rfl, hSb, hdv, c0, c1, c2, c3, c4, c5, hby⟩ := hbg.at_ hx
  have hSl := Lib.hid hbg.sl
  obtain ⟨tt, q', dv'⟩ := x
  dsimp only at hdv c0 c1 c2 c3 c4 c5 hby
  subst hdv
  have HX := Lib.hid hx
  have HBY := Lib.hid hby
  have HBV := Lib.hid hbv
  have hi0 : (0 : Int) ≤ (i : Int) := by omega
  have hi1 : (i : Int) < (L.length : Int) := by omega
  clear hbg hby hbv hx
  go_upto_region 9 with fail
  have f5 : Fr [] w4 (w4.alloc (.cells #[.int .i64 tt, .int .i64 q'.flags, .int .u32 q'.seq, .int .u32 q'.ack, .int .u16 q'.win, .slice dA' q'.d.length dc'] 96)) := (Fr.refl [] w4).alloc _
  have bm := Blk.new w4 96 #[.int .i64 tt, .int .i64 q'.flags, .int .u32 q'.seq, .int .u32 q'.ack, .int .u16 q'.win, .slice dA' q'.d.length dc']
  have t0 := fr_cell f5 t0
  have t1 := fr_cell f5 t1
  have t2 := fr_cell f5 t2
  have t3 := fr_cell f5 t3
  have t4 := fr_cell f5 t4
  have t5 := fr_cell f5 t5
  have t6 := fr_cell f5 t6
  have x0 := fr_cell f5 x0
  have x2 := fr_cell f5 x2
  have BX5 := Lib.hid (BX3.out.fr f5)
  have F5 := Lib.hid f5
  have HB5 := Lib.hid (show w.heap.size + 2 < w4.heap.size from BX3.out.s)
  have HLT4 : Hid (∀ y ∈ Ha.own ++ Hb.own, y < w4.heap.size) := Lib.hid (fun y hy => by
    rcases List.mem_append.1 hy with h | h
    · exact BX3.out.m.duo.a.lt y h
    · exact BX3.out.m.duo.b.lt y h)
  have HP4 : Hid (∀ y, S y → y < w4.heap.size) := Lib.hid BX3.out.m.duo.pub
  generalize w4.alloc (.cells #[.int .i64 tt, .int .i64 q'.flags, .int .u32 q'.seq, .int .u32 q'.ack, .int .u16 q'.win, .slice dA' q'.d.length dc'] 96) = w5 at *
  generalize hgm : w4.heap.size = gm at *
  have BM := Lib.hid bm
  have HBY5 : Hid (Byt S w5 (.slice dA' q'.d.length dc') q'.d) := Lib.hid (HBY.out.fr f5 (by simp))
  clear c0 c1 c2 c3 c4 c5 f5 bm
  obtain ⟨m0, hm0⟩ : ∃ m0, L.length = i + 1 + m0 := ⟨L.length - i - 1, by omega⟩
  have HM0 := Lib.hid hm0
  rw [hm0] at t2
  obtain ⟨i0, hi0', hz0, hz1, hz2⟩ := info_parts info_sent
  have hone : ∀ u ∈ snts L, u.oneCell' = true := BX5.out.m.bag.one
  have HS1 : Hid (∀ W, Fr [] w5 W → Sl S W 6 (.slice (some ⟨b, o, none⟩) i bc) i (snts (L.take i))) := Lib.hid (fun W f => (bag_slices ((hSl.out.fr F5.out (by simp)).fr f (by simp)) hil).1)
  have HS2 : Hid (∀ W, Fr [] w5 W → Sl S W 6 (.slice (if bc = i + 1 then some ⟨b, o, none⟩ else some ⟨b, o + (i + 1) * 6, none⟩) m0 (bc - (i + 1))) m0 (snts (L.drop (i + 1)))) := Lib.hid (fun W f => by
    have h := (bag_slices ((hSl.out.fr F5.out (by simp)).fr f (by simp)) hil).2
    rwa [show L.length - (i + 1) = m0 by omega] at h)
  have HOne1 : Hid (∀ u ∈ snts (L.take i), u.oneCell' = true) := Lib.hid (fun u hu => hone u (by rw [← snts_take] at hu; exact List.mem_of_mem_take hu))
  have HOne2 : Hid (∀ u ∈ snts (L.drop (i + 1)), u.oneCell' = true) := Lib.hid (fun u hu => hone u (by rw [← snts_drop] at hu; exact List.mem_of_mem_drop hu))
  have HLm1 : Hid (0 + i ≤ maxLen) := Lib.hid (by unfold maxLen; omega)
  have HLb1 : Hid ((0 + i) * 56 ≤ 140737488355328) := Lib.hid (by omega)
  have HLm2 : Hid (i + m0 ≤ maxLen) := Lib.hid (by unfold maxLen; omega)
  have HLb2 : Hid ((i + m0) * 56 ≤ 140737488355328) := Lib.hid (by omega)
  have HN1 : Hid (0 + i = i) := Lib.hid (by omega)
  have HEL : Hid ((L.eraseIdx i).length = i + m0) := Lib.hid (by rw [List.length_eraseIdx, if_pos hil]; omega)
  have k0 : (0 : Int) ≤ (i : Int) := by omega
  have k1 : (i : Int) ≤ (bc : Int) := by omega
  have k2 : (0 : Int) ≤ (i : Int) + 1 := by omega
  have k3 : ((i : Int) + 1) ≤ (i : Int) + 1 + (m0 : Int) := by omega
  have k4 : (i : Int) + 1 + (m0 : Int) ≤ (bc : Int) := by omega
  have k5 : ((i : Int) + 1).toNat = i + 1 := by omega
  have k6 : i ≤ bc := by omega
  have k7 : i + 1 ≤ i + 1 + m0 := by omega
  have k8 : IntKind.i64.wrap ((i : Int) + 1) = (i : Int) + 1 := IntWalk.i64_in _ (by omega)
  clear hone hm0 hi0 hi1 hbn
  go_upto_region 10 with fail
  go_cut [] (fun wx => ∃ S9 A9 c9, Ext w5 S S9 ∧ Fr [w.heap.size] w5 wx ∧ Box S w Ha Hb S9 wx Ha Hb { P with bag := (L.eraseIdx i).map (fun x => (x.1, x.2.1)) } (.slice A9 (i + m0) c9) s0 s1 r0 r1 (L.eraseIdx i))
  case first =>
    by_cases hcj : bc = i + 1
    · simp only [if_pos hcj] at HS2
      have hcj' : (bc = i + 1) = True := eq_true hcj
      clear hcj
      go_region_law (first
          | ((refine step_append_sl _ (by rfl) (.const (.slice none 0 0)) (.tmp 56) 58 (by rfl) 96 i0 (.agg #[.int .i64 0, .int .i64 0, .int .u32 0, .int .u32 0, .int .u16 0, .slice none 0 0]) 6 56 Try.underlying58 hi0' hz0 hz1 hz2 (by rfl) (by decide) (.slice none 0 0) 0 [] (by rfl) (World.ownsRow_nil _ 0 96 6) S (.slice (some ⟨b, o, none⟩) i bc) i (snts (L.take i)) (by rfl) (HS1.out _ (Fr.refl [] w5).drew) HOne1.out HLm1.out HLb1.out i HN1.out ?_); intro KA8 KC8 W8 h10 h11 h12; have F8 : Hid (Fr [] w5 W8) := Lib.hid ((Fr.refl [] w5).drew.trans h11 (by simp [ob, Value.ownBlock])); have N8 := Lib.hid (fresh_nil h12); have H10 := Lib.hid h10; have y8 := fr_cell F8.out t2; clear h10 h11 h12)
          | ((refine step_append_sl _ (by rfl) (.tmp 57) (.tmp 62) 58 (by rfl) 96 i0 (.agg #[.int .i64 0, .int .i64 0, .int .u32 0, .int .u32 0, .int .u16 0, .slice none 0 0]) 6 56 Try.underlying58 hi0' hz0 hz1 hz2 (by rfl) (by decide) (.slice KA8 i KC8) i ([] ++ snts (L.take i)) (by rfl) H10.out S _ m0 (snts (L.drop (i + 1))) (by rfl) (HS2.out _ F8.out) HOne2.out HLm2.out HLb2.out (i + m0) (by rfl) ?_); intro KA9 KC9 W9 h13 h14 h15; have F9 : Hid (Fr [] w5 W9) := Lib.hid (F8.out.trans h14 (fun y hy => .inr (N8.out y (mem_ob.1 hy)))); have N9 : Hid (∀ b, (Value.slice KA9 (i + m0) KC9).ownBlock = some b → w5.heap.size ≤ b) := Lib.hid (fresh_two F8.out.size N8.out h15); have H13 := Lib.hid h13; have y9 := fr_cell F9.out t2; have z9 := (BX5.out.b.fr F9.out (by simp)).frozen 2; have l9 := (BX5.out.b.fr F9.out (by simp)).lt; clear h13 h14 h15))
      all_goals
        have hfin := cut_bag BX5.out H13.out HEL.out F9.out N9.out
        have HF := Lib.hid hfin
        clear hfin
        go_wp2_with fail
        go_meet
        exact HF.out
    · simp only [if_neg hcj] at HS2
      go_region_law (first
          | ((refine step_append_sl _ (by rfl) (.const (.slice none 0 0)) (.tmp 56) 58 (by rfl) 96 i0 (.agg #[.int .i64 0, .int .i64 0, .int .u32 0, .int .u32 0, .int .u16 0, .slice none 0 0]) 6 56 Try.underlying58 hi0' hz0 hz1 hz2 (by rfl) (by decide) (.slice none 0 0) 0 [] (by rfl) (World.ownsRow_nil _ 0 96 6) S (.slice (some ⟨b, o, none⟩) i bc) i (snts (L.take i)) (by rfl) (HS1.out _ (Fr.refl [] w5).drew) HOne1.out HLm1.out HLb1.out i HN1.out ?_); intro KA8 KC8 W8 h10 h11 h12; have F8 : Hid (Fr [] w5 W8) := Lib.hid ((Fr.refl [] w5).drew.trans h11 (by simp [ob, Value.ownBlock])); have N8 := Lib.hid (fresh_nil h12); have H10 := Lib.hid h10; have y8 := fr_cell F8.out t2; clear h10 h11 h12)
          | ((refine step_append_sl _ (by rfl) (.tmp 57) (.tmp 62) 58 (by rfl) 96 i0 (.agg #[.int .i64 0, .int .i64 0, .int .u32 0, .int .u32 0, .int .u16 0, .slice none 0 0]) 6 56 Try.underlying58 hi0' hz0 hz1 hz2 (by rfl) (by decide) (.slice KA8 i KC8) i ([] ++ snts (L.take i)) (by rfl) H10.out S _ m0 (snts (L.drop (i + 1))) (by rfl) (HS2.out _ F8.out) HOne2.out HLm2.out HLb2.out (i + m0) (by rfl) ?_); intro KA9 KC9 W9 h13 h14 h15; have F9 : Hid (Fr [] w5 W9) := Lib.hid (F8.out.trans h14 (fun y hy => .inr (N8.out y (mem_ob.1 hy)))); have N9 : Hid (∀ b, (Value.slice KA9 (i + m0) KC9).ownBlock = some b → w5.heap.size ≤ b) := Lib.hid (fresh_two F8.out.size N8.out h15); have H13 := Lib.hid h13; have y9 := fr_cell F9.out t2; have z9 := (BX5.out.b.fr F9.out (by simp)).frozen 2; have l9 := (BX5.out.b.fr F9.out (by simp)).lt; clear h13 h14 h15))
      all_goals
        have hfin := cut_bag BX5.out H13.out HEL.out F9.out N9.out
        have HF := Lib.hid hfin
        clear hfin
        go_wp2_with fail
        go_meet
        exact HF.out
  case rest =>
    obtain ⟨S9, A9, c9, e9, f9, bx9⟩ := hcut
    have hbe : (L.eraseIdx i).map (fun x => (x.1, x.2.1)) = P.bag.eraseIdx i := by rw [map_erase', M.out.bagL]
    rw [hbe] at bx9
    have BX9 := Lib.hid bx9
    have BM9 := Lib.hid (BM.out.fr f9 (by have := HB5.out; simp; omega))
    have HBY9 : Hid (Byt S9 wc (.slice dA' q'.d.length dc') q'.d) := Lib.hid ((HBY5.out.fr f9 (fun y hy => by simp at hy; subst hy; simpa using (BX5.out.n 0 (by omega)).1)).mono e9.1)
    have x0 : wc.cell? ⟨w.heap.size + 1, 0, none⟩ = some (.int .i64 1) := (f9.cell (p := ⟨w.heap.size + 1, 0, none⟩) (World.block_lt_of_cell? w5 _ x0) (by simp)).trans x0
    have HSS := Lib.hid e9
    clear bx9 hbe f9 e9 k0 k1 k2 k3 k4 k5 k6 k7 k8 x2 HS1 HS2 HOne1 HOne2 HLm1 HLm2 HLb1 HLb2 HN1
    have hLl' : (L.eraseIdx i).length ≤ 1000 := by rw [HEL.out]; have := HM0.out; omega
    have C76 := Lib.hid BX9.out.m.c7
    clear t0 t1 t2 t3 t4 t5 t6
    obtain ⟨t0, t1, t2, t3, t4, t5, t6⟩ := cells7 BX9.out.b
    go_wp2_with ((with_reducible refine gate_store 61 (.tmp 4) ?_); refine wpList_store_blk rfl 61 (.tmp 4) (.tmp 169) rfl (w.heap.size + 2) 61 pmZ _ rfl rfl BX9.out.z rfl (by kernel_rfl) C76.out ?_; intro w7 B7 F7)
    obtain ⟨u0, u1, u2, u3, u4, u5, u6⟩ := cells7 B7
    refine bodyPost_ret (v := .agg (arM Ha Hb (.slice A9 (i + m0) c9) s0 s1 r0 r1)) (by simp [results, Try.results18, go_sem, u0, u1, u2, u3, u4, u5, u6]) rfl ?_
    exact BX9.out.post F7
end Go.Proofs.Ytmgdbbbdhkfdmaa
