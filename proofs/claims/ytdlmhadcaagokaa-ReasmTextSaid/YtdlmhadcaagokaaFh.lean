import Derived.Test.YtdlmhadcaagokaaFg
import Derived.Deep.DeepCutAuto
namespace Go.Proofs.Ytdlmhadcaagokaa
open Go.RowKit Go.Deep Go.Shelf

/-- The state of the law's two loops; P says something of the place. -/
def TS (w : World) (g bm bt bh bn bo : Nat) (tv : Value) (txt : List Int) (most : Int) (P : Int → Prop) (wr : World) : Prop :=
  ∃ (S : Nat → Prop) (kv ov : Value) (h : Hp) (out : List Int), TR w S g kv bm bt bh bn bo tv txt most h out ov wr ∧ Inv h ∧ Txt txt h out ∧ h.most = most ∧ P h.next
set_option maxRecDepth 100000 in
set_option maxHeartbeats 8000000 in
theorem text_any (most : Int) (A : Option Addr) (n c : Nat) (txt : List Int) (hn : txt.length = n) (A2 : Option Addr) (n2 c2 : Nat) (f : Nat → Int × Int) (w : World) (hb : Byt (fun b => b < w.heap.size) w (.slice A n c) txt) (hp : Pairs w w.heap.size A2 n2 f) (hn2 : n2 ≤ maxLen) :
    Calls Try.prog 4 #[.int .i64 most, .slice A n c, .slice A2 n2 c2] w fun e w' => e = .returned (.bool true) ∧ Fr [] w w' := by
  have HB := Lib.hid hb
  have HP2 := Lib.hid hp
  have HN := Lib.hid hn
  have hc0 : n ≤ c ∧ c ≤ maxLen := by
    obtain ⟨_, c', e, h1, h2⟩ := hb.form
    injection e with _ e2 e3
    subst e3
    exact ⟨by omega, h2⟩
  have hcm := hc0.2
  unfold maxLen at hcm
  have hnm : (n : Int) ≤ 9223372036854775807 := by omega
  have hnm2 : (n2 : Int) ≤ 9223372036854775807 := by unfold maxLen at hn2; omega
  clear hb hp hn hc0 hcm hn2
  have fz : Fr [] w ((w.alloc (.cells #[.int .i64 most] 3)).alloc (.cells #[.slice A n c] 35)) := ((Fr.refl _ _).alloc _).alloc _
  have bm0 : Blk ((w.alloc (.cells #[.int .i64 most] 3)).alloc (.cells #[.slice A n c] 35)) w.heap.size 3 #[.int .i64 most] := (Blk.new w 3 #[.int .i64 most]).alloc _
  have bt0 : Blk ((w.alloc (.cells #[.int .i64 most] 3)).alloc (.cells #[.slice A n c] 35)) (w.heap.size + 1) 35 #[.slice A n c] := by simpa using Blk.new (w.alloc (.cells #[.int .i64 most] 3)) 35 #[.slice A n c]
  go_enter Try.func4, Try.ntmps4
  go_upto_region 1 with fail
  generalize (w.alloc (.cells #[.int .i64 most] 3)).alloc (.cells #[.slice A n c] 35) = w0 at *
  obtain ⟨x0, x1, xx⟩ := c3 bm0 bt0 bm0
  clear xx
  have hz0 := fz.size
  by_cases h1 : most < 0
  · go_wp2_with fail
    refine (known_any _).mono ?_
    rintro e wk ⟨rfl, fk⟩
    go_wp2_with fail
    go_ret
    exact ⟨rfl, fz.trans fk (by simp)⟩
  by_cases h2 : 64 < most
  · go_wp2_with fail
    refine (known_any _).mono ?_
    rintro e wk ⟨rfl, fk⟩
    go_wp2_with fail
    go_ret
    exact ⟨rfl, fz.trans fk (by simp)⟩
  by_cases h3 : 1000 < (n : Int)
  · go_wp2_with fail
    refine (known_any _).mono ?_
    rintro e wk ⟨rfl, fk⟩
    go_wp2_with fail
    go_ret
    exact ⟨rfl, fz.trans fk (by simp)⟩
  by_cases h4 : 60 < (n2 : Int)
  · go_wp2_with fail
    refine (known_any _).mono ?_
    rintro e wk ⟨rfl, fk⟩
    go_wp2_with fail
    go_ret
    exact ⟨rfl, fz.trans fk (by simp)⟩
  go_wp2_with fail
  refine (new_hp (fun b => b < w.heap.size) most w0 (by omega) (by omega) (fun b hb => by omega)).mono ?_
  rintro e w1 ⟨rfl, f1, m1, z1⟩
  have bm1 := bm0.fr f1 (by simp)
  have bt1 := bt0.fr f1 (by simp)
  obtain ⟨x0, x1, xx⟩ := c3 bm1 bt1 bm1
  clear xx
  have F1 := fz.trans f1 (by simp)
  have HF1 := Lib.hid F1
  have HM1 := Lib.hid m1
  have hl0 := bm1.lt
  have hl1 := bt1.lt
  have hlg : w0.heap.size < w1.heap.size := by omega
  have hgw : w.heap.size ≤ w0.heap.size := hz0
  clear bm0 bt0 f1 fz F1 m1 z1 hz0
  generalize w0.heap.size = g at *
  have BM1 := Lib.hid bm1
  have BT1 := Lib.hid bt1
  clear bm1 bt1
  go_upto_region 9 with fail
  have f12 : Fr [] w1 (((w1.alloc (.cells #[ptr g] 25)).alloc (.cells #[.int .i64 n] 3)).alloc (.cells #[.slice none 0 0] 35)) := (((Fr.refl _ _).alloc _).alloc _).alloc _
  have ch2 : Blk (((w1.alloc (.cells #[ptr g] 25)).alloc (.cells #[.int .i64 n] 3)).alloc (.cells #[.slice none 0 0] 35)) w1.heap.size 25 #[ptr g] := ((Blk.new w1 25 #[ptr g]).alloc _).alloc _
  have cn2 : Blk (((w1.alloc (.cells #[ptr g] 25)).alloc (.cells #[.int .i64 n] 3)).alloc (.cells #[.slice none 0 0] 35)) (w1.heap.size + 1) 3 #[.int .i64 n] := by simpa using (Blk.new (w1.alloc (.cells #[ptr g] 25)) 3 #[.int .i64 n]).alloc (.cells #[.slice none 0 0] 35)
  have co2 : Blk (((w1.alloc (.cells #[ptr g] 25)).alloc (.cells #[.int .i64 n] 3)).alloc (.cells #[.slice none 0 0] 35)) (w1.heap.size + 1 + 1) 35 #[.slice none 0 0] := by simpa using Blk.new ((w1.alloc (.cells #[ptr g] 25)).alloc (.cells #[.int .i64 n] 3)) 35 #[.slice none 0 0]
  have ts : TS w g w.heap.size (w.heap.size + 1) w1.heap.size (w1.heap.size + 1) (w1.heap.size + 1 + 1) (.slice A n c) txt most (fun _ => True) (((w1.alloc (.cells #[ptr g] 25)).alloc (.cells #[.int .i64 n] 3)).alloc (.cells #[.slice none 0 0] 35)) := by
    refine ⟨fun b => b < w.heap.size, .slice none 0 0, .slice none 0 0, newV most, [], ⟨HM1.out.fr f12, BM1.out.fr f12 (by simp), BT1.out.fr f12 (by simp), ch2, by rw [HN.out]; exact cn2, co2, World.ownsRow_nil _ 0 5 1, (HB.out.fr HF1.out (by simp)).fr f12 (by simp), HF1.out.trans f12 (by simp), fun b h => h, fun x hx => ?_, fun x hx => ?_, by omega⟩, new_inv (by omega) (by omega), txt_new txt most, rfl, trivial⟩
    · simp only [Nat.not_lt]
      rcases hx with rfl | rfl | rfl | rfl | rfl | hx
      · omega
      · omega
      · omega
      · omega
      · omega
      · simp [ob, Value.ownBlock] at hx
    · simp [ob, Value.ownBlock] at hx
      subst hx
      exact hgw
  have TS0 := Lib.hid ts
  have hn1000 : txt.length ≤ 1000 := by rw [HN.out]; omega
  have HN1 := Lib.hid hn1000
  clear f12 ch2 cn2 co2 ts x0 x1 hl0 hl1 hlg hgw HM1 HF1 BM1 BT1 hn1000
  generalize ((w1.alloc (.cells #[ptr g] 25)).alloc (.cells #[.int .i64 n] 3)).alloc (.cells #[.slice none 0 0] 35) = w2 at *
  generalize w1.heap.size + 1 + 1 = bo at *
  generalize w1.heap.size + 1 = bn at *
  generalize w1.heap.size = bh at *
  generalize hbt : w.heap.size + 1 = bt at *
  generalize hbm : w.heap.size = bm at TS0 ⊢
  clear hbt hbm
  go_wp2_with fail
  go_loopw [12] (fun v wr => ∃ k : Nat, k ≤ n2 ∧ v = .int .i64 k ∧ TS w g bm bt bh bn bo (.slice A n c) txt most (fun _ => True) wr) (fun v _ => n2 - (intOf v).toNat)
  case atStart => exact ⟨0, by omega, rfl, TS0.out⟩
  case round =>
    clear TS0
    obtain ⟨k, hk, rfl, S, kv, ov, hh, out, tr, hi, tx, hm, _⟩ := hrel
    have TR0 := Lib.hid tr
    have HI := Lib.hid hi
    have TX := Lib.hid tx
    have HM := Lib.hid hm
    clear tr hi tx hm
    by_cases hlt : k < n2
    · obtain ⟨b, o, rfl, hbB, p0, p1, r1, r2⟩ := HP2.out.fr TR0.out.fr (Nat.le_refl _) (by simp) k hlt
      have HT1 : Hid (∀ W, Fr [] wr W → Calls Try.prog 15 #[.int .i64 (f k).1, .int .i64 (f k).2, ptr bn, ptr bh, ptr bt, ptr bo, ptr bm] W (T1Post w g bm bt bh bn bo (.slice A n c) txt most hh (f k).1 (f k).2)) := Lib.hid (fun W fW => text1 (TR0.out.fr' fW) HI.out TX.out HM.out HN1.out _ _ r1 r2)
      have k64 : (k : Int) < 9223372036854775807 := by omega
      clear r1 r2
      go_upto_region 12 with fail
      go_region_held3 (fun w' => w'.cell? ⟨b, o + k * 2, none⟩ = some (.int .i64 (f k).1) ∧ w'.cell? ⟨b, o + k * 2 + 1, none⟩ = some (.int .i64 (f k).2))
        (first
          | (with_reducible exact q5)
          | go_keep)
        (first
          | (go_at_call 15; refine (HT1.out _ (Fr.refl [] wr).drew).mono ?_; rintro e w5 ⟨rfl, S5, kv5, ov5, h5, out5, t5, i5, x5, m5, _, _⟩; have q5 : w5.cell? ⟨b, o + k * 2, none⟩ = some (.int .i64 (f k).1) ∧ w5.cell? ⟨b, o + k * 2 + 1, none⟩ = some (.int .i64 (f k).2) := (by obtain ⟨b', o', e', _, c0', c1', _⟩ := HP2.out.fr t5.fr (Nat.le_refl _) (by simp) k hlt; injection e' with e'; injection e' with e1' e2'; subst e1' e2'; exact ⟨c0', c1'⟩)))
      go_wp2_with fail
      go_roundw
      case rel => exact ⟨k + 1, by omega, by go_num, S5, kv5, ov5, h5, out5, t5, i5, x5, m5, trivial⟩
      case measure => simp [intOf]; omega
    · obtain rfl : n2 = k := by omega
      have ts1 : TS w g bm bt bh bn bo (.slice A n c) txt most (fun p => min (txt.length : Int) ((0 : Nat) * 64) ≤ p) wr := ⟨S, kv, ov, hh, out, TR0.out, HI.out, TX.out, HM.out, by have := HI.out.n0; simp; omega⟩
      have TS1 := Lib.hid ts1
      clear ts1 TR0 HI TX HM
      go_wp2_with fail
      go_loopw [13] (fun v wr => ∃ j : Nat, j ≤ 16 ∧ v = .int .i64 (j * 64 : Nat) ∧ TS w g bm bt bh bn bo (.slice A n c) txt most (fun p => min (txt.length : Int) (j * 64) ≤ p) wr) (fun v _ => 2000 - (intOf v).toNat)
      case atStart => exact ⟨0, by omega, rfl, TS1.out⟩
      case round =>
        clear TS1
        obtain ⟨j, hj, rfl, S, kv, ov, hh, out, tr, hi, tx, hm, hpn⟩ := hrel
        have TR0 := Lib.hid tr
        have HI := Lib.hid hi
        have TX := Lib.hid tx
        have HM := Lib.hid hm
        have x0 := tr.cn.cell 0
        have x1 := tr.co.cell 0
        have x2 := tr.ct.cell 0
        have x3 := tr.ch.cell 0
        simp only [List.size_toArray, List.length_cons, List.length_nil, Nat.zero_add, Nat.lt_add_one, getElem?_pos, List.getElem_toArray, List.getElem_cons_zero] at x0 x1 x2 x3
        rw [HN.out] at x0
        have HPN := Lib.hid hpn
        have hj16 : ((j * 64 : Nat) : Int) ≤ 1024 := by omega
        have hn16 : (n : Int) ≤ 1000 := by have := HN1.out; rw [HN.out] at this; omega
        clear tr hi tx hm hpn
        generalize hat : j * 64 = at_ at *
        by_cases hlt : (at_ : Int) < (n : Int)
        · go_wp2_with fail
          refine (text1 TR0.out HI.out TX.out HM.out HN1.out at_ 64 (by omega) (by omega)).mono ?_
          rintro e w5 ⟨rfl, S5, kv5, ov5, h5, out5, t5, i5, x5, m5, le5, hi5⟩
          have T5 := Lib.hid t5
          have I5 := Lib.hid i5
          have X5 := Lib.hid x5
          have M5 := Lib.hid m5
          have hq : min (txt.length : Int) ((j + 1 : Nat) * 64) ≤ h5.next := by
            have h6 := HPN.out
            have h7 := HN.out
            have h8 := hi5 (by omega) (by omega) (by omega) (by omega)
            omega
          have HQ := Lib.hid hq
          clear t5 i5 x5 m5 hq le5 hi5
          go_wp2_with fail
          go_roundw
          case rel => exact ⟨j + 1, by omega, by first | go_num | (congr 1; omega), S5, kv5, ov5, h5, out5, T5.out, I5.out, X5.out, M5.out, HQ.out⟩
          case measure => simp [intOf]; omega
        · have hne : hh.next = txt.length := by
            have h6 := HPN.out
            have h7 := HN.out
            have h8 := TX.out.next
            have h9 := TX.out.le
            omega
          obtain ⟨hk0, rfl⟩ := txt_end TX.out hne
          have b1 : Byt (fun _ => True) wr ov out := Sl.of_own TR0.out.own (fun _ _ => trivial)
          have cv1 := b1.string (P := Try.prog) 35 5 Try.underlying35 Try.underlying5 9 Try.underlying9
          have cv2 := TR0.out.byt.string (P := Try.prog) 35 5 Try.underlying35 Try.underlying5 9 Try.underlying9
          have e0 : endV hh n = ({ hh with fin := some (n : Int) }, 0) := by
            have h7 := HN.out
            unfold endV
            rw [if_neg (by omega), TX.out.fin, hk0, hne, h7]
            simp [other]
          have h7 := HN.out
          have HEnd : Hid (Calls Try.prog 18 #[ptr g, .int .i64 (n : Int)] wr (EndPost S wr g kv { hh with fin := some (n : Int) } 0)) := Lib.hid (by
            have := end_any TR0.out.hp HI.out (n : Int)
            rw [e0] at this
            exact this)
          have HI2 : Hid (Inv { hh with fin := some (n : Int) }) := Lib.hid (by
            have := end_inv HI.out (n : Int)
            rw [e0] at this
            exact this)
          have hfin : isFin { hh with fin := some (n : Int) } = true := by simp [isFin, hne, h7]
          have hsum : sumV ({ hh with fin := some (n : Int) } : Hp).kept = 0 := by simp [hk0, sumV]
          have HFin := Lib.hid hfin
          have HSum := Lib.hid hsum
          generalize ({ hh with fin := some (n : Int) } : Hp) = h9 at *
          obtain ⟨oA, oc, rfl, _, _⟩ := own_form TR0.out.own
          rw [h7] at x1 cv1
          generalize strOfNums out = str at *
          have FW := Lib.hid TR0.out.fr
          have LO := Lib.hid TR0.out.lo
          have CH := Lib.hid TR0.out.ch
          have NG : Hid (bh ∉ [g]) := Lib.hid (fun hm => TR0.out.hp.ne TR0.out.ch (by decide) (by decide) (by simp at hm; simp [hm]))
          clear b1 e0 hfin hsum hk0 hne HPN HI HM TX HN1 TR0 h7
          go_wp2_with fail
          refine HEnd.out.mono ?_
          rintro e w5 ⟨S5, rfl, x5, m5, f5⟩
          have M5 := Lib.hid m5
          have y3 := (CH.out.fr f5 NG.out).cell 0
          simp only [List.size_toArray, List.length_cons, List.length_nil, Nat.zero_add, Nat.lt_add_one, getElem?_pos, List.getElem_toArray, List.getElem_cons_zero] at y3
          have F5 := Lib.hid (FW.out.trans f5 (fun x hx => .inr (LO.out x (by simp at hx; simp [hx]))))
          have CH5 := Lib.hid (CH.out.fr f5 NG.out)
          clear x0 x1 x2 x3 cv1 cv2 x5 m5 f5
          go_wp2_with fail
          refine (done_hp M5.out).mono ?_
          rw [HFin.out]
          rintro e w6 ⟨rfl, f6⟩
          have M6 := Lib.hid (M5.out.fr f6)
          have z3 := fr_cell f6 y3
          have F6 := Lib.hid (F5.out.trans f6 (by simp))
          clear y3 f6
          go_wp2_with fail
          refine (held_hp M6.out HI2.out).mono ?_
          rw [HSum.out]
          rintro e w7 ⟨rfl, f7⟩
          have F7 := Lib.hid (F6.out.trans f7 (by simp))
          clear f7
          go_wp2_with fail
          refine (known_any _).mono ?_
          rintro e w8 ⟨rfl, f8⟩
          go_wp2_with fail
          go_ret
          exact ⟨rfl, F7.out.trans f8 (by simp)⟩
end Go.Proofs.Ytdlmhadcaagokaa
