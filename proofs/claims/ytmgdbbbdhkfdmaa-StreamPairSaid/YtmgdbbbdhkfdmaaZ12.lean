import Derived.Test.YtmgdbbbdhkfdmaaZ10
import Derived.Test.YtmgdbbbdhkfdmaaZ11
import Derived.Deep.DeepCutAuto
set_option linter.unusedSimpArgs false
set_option linter.unusedVariables false
namespace Go.Proofs.Ytmgdbbbdhkfdmaa
set_option maxRecDepth 100000
open Go.RowKit Go.Deep

/-- The bounds of an end under which its calls are walked. -/
structure OkS (x : St) : Prop where
  hi : Inv x.heap
  hu : x.unread.length ≤ 1024
  hw : Win.Inv 1000000000 x.win
  hc : Rto.Inv x.clk
  hm : x.win.m ≤ x.all.length
  hl : x.all.length ≤ 1000000
  n0 : 0 ≤ x.now
  n1 : x.now ≤ 4611686018427387904
  s0 : 0 ≤ x.since
  s1 : x.since ≤ 4611686018427387904
structure OkP (p : Prt) : Prop where
  f0 : 0 ≤ p.flags
  f1 : p.flags ≤ 15
  d1 : p.d.length ≤ 100
  w0 : 0 ≤ p.win
  w1 : p.win < 65536
theorem ack_m (v : Win.Wn) (u r : Int) : (Win.ackV v u r).1.m = v.m := by
  unfold Win.ackV
  (repeat' split) <;> rfl
theorem acks_same (x : St) (p : Prt) : (acksV x p).heap = x.heap ∧ (acksV x p).unread = x.unread ∧ (acksV x p).ended = x.ended ∧ (acksV x p).win.m = x.win.m ∧ (acksV x p).fin = x.fin := by
  unfold acksV acks2V
  (repeat' split) <;> exact ⟨rfl, rfl, rfl, ack_m _ _ _, rfl⟩
theorem data_ok (x : St) (p : Prt) (hi : Inv x.heap) (hu : x.unread.length ≤ 1024) (hd : p.d.length ≤ 100) : Inv (dataV x p).heap ∧ (dataV x p).unread.length ≤ 100000 ∧ (dataV x p).win = x.win := by
  rw [dataV_eq]
  have h1 : Inv (data1V x p) := by unfold data1V; split; exact end_inv hi _; exact hi
  split
  · refine ⟨put_inv h1 _ _, ?_, rfl⟩
    have h2 := put_out (data1V x p) (placeV p.seq x.peer x.heap.next) p.d
    have h3 := sum_le _ h1
    simp only [List.length_append]
    omega
  · exact ⟨h1, by simp only []; omega, rfl⟩
theorem LPost.of {S S0 : Nat → Prop} {w w0 : World} {H H0 : Hd} {r : St × List Prt} {e : Ending} {w' : World} (e0 : Ext w S S0) (hl : Hd.like w H H0) (f0 : Fr H.own w w0) (h : LPost S0 w0 H0 r e w') : LPost S w H r e w' := by
  obtain ⟨S1, H1, v, L, he, hr, x1, l1, m1, p1, n1, f1⟩ := h
  have hz := f0.size
  exact ⟨S1, H1, v, L, he, hr, e0.trans hz x1, hl.trans hz l1, m1, p1, fun b hb => ⟨by have := (n1 b hb).1; omega, (n1 b hb).2⟩, f0.trans f1 (fun y hy => hl.own y hy)⟩
end Go.Proofs.Ytmgdbbbdhkfdmaa

namespace Go.Proofs.Ytmgdbbbdhkfdmaa
set_option maxRecDepth 100000
open Go.RowKit Go.Deep

theorem andNot_bits (f : Int) (h0 : 0 ≤ f) (h1 : f ≤ 15) (h2 : f ≠ 2) (h6 : f ≠ 6) : (bits BinOp.andNot IntKind.i64 f 4 != 2) = true := by
  have hf : f = 0 ∨ f = 1 ∨ f = 3 ∨ f = 4 ∨ f = 5 ∨ f = 7 ∨ f = 8 ∨ f = 9 ∨ f = 10 ∨ f = 11 ∨ f = 12 ∨ f = 13 ∨ f = 14 ∨ f = 15 := by omega
  rcases hf with rfl | rfl | rfl | rfl | rfl | rfl | rfl | rfl | rfl | rfl | rfl | rfl | rfl | rfl <;> decide
theorem endedV_no (x : St) (p : Prt) (h : x.broken = true ∨ ¬ (p.flags = 2 ∨ p.flags = 6) ∨ (has p.flags 4 = false ∧ p.d.length = 0)) : endedV x p = (x, []) := by unfold endedV; rw [if_pos h]
theorem endedV_yes (x : St) (p : Prt) (h : ¬ (x.broken = true ∨ ¬ (p.flags = 2 ∨ p.flags = 6) ∨ (has p.flags 4 = false ∧ p.d.length = 0))) : endedV x p = (shows x, [answerV x]) := by unfold endedV; rw [if_neg h]
set_option maxHeartbeats 4000000 in
theorem ended_si {S : Nat → Prop} {w : World} {H : Hd} {x : St} (m : SI S w H x) (ok : OkS x) (p : Prt) (okp : OkP p) (A : Option Addr) (c : Nat) :
    Calls Try.prog 25 #[ptr H.g, agP p (.slice A p.d.length c)] w (LPost S w H (endedV x p)) := by
  have vn := endedV_no x p
  have vy := endedV_yes x p
  have hab := andNot_bits p.flags okp.f0 okp.f1
  generalize endedV x p = y at *
  obtain ⟨fl, sq, ak, wi, d⟩ := p
  dsimp only at *
  have hgl := m.blk.lt
  have f0 : Fr [] w (w.alloc (.cells (arP ⟨fl, sq, ak, wi, d⟩ (.slice A d.length c)) 27)) := (Fr.refl [] w).alloc _
  have b0 : Blk (w.alloc (.cells (arP ⟨fl, sq, ak, wi, d⟩ (.slice A d.length c)) 27)) w.heap.size 27 (arP ⟨fl, sq, ak, wi, d⟩ (.slice A d.length c)) := Blk.new w _ _
  have hans := answer_si (m.fr f0) ok.hi (by have := ok.hu; omega) (by have := Win.Inv.bd ok.hw; omega) (by have := ok.hm; have := ok.hl; omega)
  have c1 := (scells (m.fr f0).blk).c1
  have M := Lib.hid m
  have VN := Lib.hid vn
  have VY := Lib.hid vy
  have HAns := Lib.hid hans
  have hab' := Lib.hid hab
  clear m ok okp vn vy hans hab
  rcases Bool.eq_false_or_eq_true x.broken with hb | hb
  · rw [hb] at c1
    go_enter Try.func25, Try.ntmps25
    go_upto_region 1 with fail
    generalize w.alloc (.cells (arP ⟨fl, sq, ak, wi, d⟩ (.slice A d.length c)) 27) = w0 at *
    go_wp2_with fail
    go_ret
    rw [VN.out (.inl hb)]
    exact lpost_nil (M.out.fr f0) (f0.mono (by simp))
  · rw [hb] at c1
    by_cases h26 : fl = 2 ∨ fl = 6
    · rcases h26 with rfl | rfl
      · have e1 : bits BinOp.andNot IntKind.i64 2 4 = 2 := by decide
        have e2 : bits BinOp.and IntKind.i64 2 4 = 0 := by decide
        rcases Nat.eq_zero_or_pos d.length with hd0 | hd0
        · have e3 : ((d.length : Int) == 0) = true := by simp [hd0]
          have e4 : decide ((d.length : Int) = 0) = true := by simp [hd0]
          have HD0 := Lib.hid hd0
          clear hd0
          go_enter Try.func25, Try.ntmps25
          go_upto_region 1 with fail
          generalize w.alloc (.cells (arP ⟨2, sq, ak, wi, d⟩ (.slice A d.length c)) 27) = w0 at *
          obtain ⟨y0, y1, y2, y3, y4⟩ := cells5 b0
          have F0 := Lib.hid f0
          clear f0 b0
          go_wp2_with fail
          go_ret
          rw [VN.out (.inr (.inr ⟨by decide, HD0.out⟩))]
          exact lpost_nil (M.out.fr F0.out) (F0.out.mono (by simp))
        · have hdz : (d.length : Int) ≠ 0 := by omega
          have e3 : ((d.length : Int) == 0) = false := by simpa using hdz
          have e4 : decide ((d.length : Int) = 0) = false := by simpa using hdz
          have hnn : ¬ (x.broken = true ∨ ¬ ((2 : Int) = 2 ∨ (2 : Int) = 6) ∨ (has 2 4 = false ∧ d.length = 0)) := by
            rintro (h | h | h)
            · rw [hb] at h; cases h
            · exact h (.inl rfl)
            · have := h.2; omega
          have HN := Lib.hid hnn
          clear hnn
          go_enter Try.func25, Try.ntmps25
          go_upto_region 1 with fail
          generalize w.alloc (.cells (arP ⟨2, sq, ak, wi, d⟩ (.slice A d.length c)) 27) = w0 at *
          obtain ⟨y0, y1, y2, y3, y4⟩ := cells5 b0
          have F0 := Lib.hid f0
          clear f0 b0
          go_wp2_with fail
          refine HAns.out.mono ?_
          rintro e w5 ⟨S5, A5, c5, rfl, x5, by5, m5, f5⟩
          have hp := lpost_one (Ext.refl w S) (Hd.like.rfl' w H) (F0.out.mono (by simp)) (⟨S5, A5, c5, rfl, x5, by5, m5, f5⟩ : PartPost S w0 H _ _ (.returned (agP (answerV x) (.slice A5 _ c5))) w5) rfl
          have HP := Lib.hid hp
          clear hp x5 by5 m5 f5
          go_wp2_with fail
          go_ret
          rw [VY.out HN.out]
          exact HP.out
      · have e1 : bits BinOp.andNot IntKind.i64 6 4 = 2 := by decide
        have e2 : bits BinOp.and IntKind.i64 6 4 = 4 := by decide
        have hnn : ¬ (x.broken = true ∨ ¬ ((6 : Int) = 2 ∨ (6 : Int) = 6) ∨ (has 6 4 = false ∧ d.length = 0)) := by
          rintro (h | h | h)
          · rw [hb] at h; cases h
          · exact h (.inr rfl)
          · exact absurd h.1 (by decide)
        have HN := Lib.hid hnn
        clear hnn
        go_enter Try.func25, Try.ntmps25
        go_upto_region 1 with fail
        generalize w.alloc (.cells (arP ⟨6, sq, ak, wi, d⟩ (.slice A d.length c)) 27) = w0 at *
        obtain ⟨y0, y1, y2, y3, y4⟩ := cells5 b0
        have F0 := Lib.hid f0
        clear f0 b0
        go_wp2_with fail
        refine HAns.out.mono ?_
        rintro e w5 ⟨S5, A5, c5, rfl, x5, by5, m5, f5⟩
        have hp := lpost_one (Ext.refl w S) (Hd.like.rfl' w H) (F0.out.mono (by simp)) (⟨S5, A5, c5, rfl, x5, by5, m5, f5⟩ : PartPost S w0 H _ _ (.returned (agP (answerV x) (.slice A5 _ c5))) w5) rfl
        have HP := Lib.hid hp
        clear hp x5 by5 m5 f5
        go_wp2_with fail
        go_ret
        rw [VY.out HN.out]
        exact HP.out
    · have e1 := hab'.out (fun h => h26 (.inl h)) (fun h => h26 (.inr h))
      go_enter Try.func25, Try.ntmps25
      go_upto_region 1 with fail
      generalize w.alloc (.cells (arP ⟨fl, sq, ak, wi, d⟩ (.slice A d.length c)) 27) = w0 at *
      obtain ⟨y0, y1, y2, y3, y4⟩ := cells5 b0
      have F0 := Lib.hid f0
      clear f0 b0
      go_wp2_with fail
      go_ret
      rw [VN.out (.inr (.inl h26))]
      exact lpost_nil (M.out.fr F0.out) (F0.out.mono (by simp))
end Go.Proofs.Ytmgdbbbdhkfdmaa

namespace Go.Proofs.Ytmgdbbbdhkfdmaa
set_option maxRecDepth 100000
open Go.RowKit Go.Deep

theorem openV_rst (x : St) (p : Prt) (h : has p.flags 8 = true) : openV x p = (if p.seq = awaitedV x then doneV x true else x, []) := by unfold openV; rw [if_pos h]
theorem openV_syn (x : St) (p : Prt) (h8 : has p.flags 8 = false) (h : has p.flags 1 = true) : openV x p = (shows x, [answerV x]) := by unfold openV; rw [if_neg (by simp [h8]), if_pos h]
theorem openV_no (x : St) (p : Prt) (h8 : has p.flags 8 = false) (h1 : has p.flags 1 = false) (h : has p.flags 2 = false) : openV x p = (x, []) := by unfold openV; rw [if_neg (by simp [h8]), if_neg (by simp [h1]), if_pos (by simp [h])]
def open2V (x : St) (p : Prt) : St := if (acksV x p).ended then acksV x p else dataV (acksV x p) p
theorem openV_ack (x : St) (p : Prt) (h8 : has p.flags 8 = false) (h1 : has p.flags 1 = false) (h : has p.flags 2 = true) : openV x p = if p.d.length = 0 ∧ has p.flags 4 = false then (open2V x p, []) else (shows (open2V x p), [answerV (open2V x p)]) := by
  unfold openV open2V
  rw [if_neg (by simp [h8]), if_neg (by simp [h1]), if_neg (by simp [h])]
set_option maxHeartbeats 8000000 in
theorem open_si {S : Nat → Prop} {w : World} {H : Hd} {x : St} (m : SI S w H x) (ok : OkS x) (p : Prt) (okp : OkP p) (dv : Value) (T : Nat → Prop) (hd : Byt T w dv p.d) (hT : ∀ b, T b → b ∉ H.own ∧ b < w.heap.size) :
    Calls Try.prog 24 #[ptr H.g, agP p dv] w (LPost S w H (openV x p)) := by
  have e8 := openV_rst x p
  have e1 := openV_syn x p
  have e0 := openV_no x p
  have ea := openV_ack x p
  have hacks := acks_same x p
  generalize openV x p = y at *
  obtain ⟨fl, sq, ak, wi, d⟩ := p
  dsimp only at *
  obtain ⟨A, c, rfl, _, _⟩ := hd.form
  have hgl := m.blk.lt
  have f0 : Fr [] w (w.alloc (.cells (arP ⟨fl, sq, ak, wi, d⟩ (.slice A d.length c)) 27)) := (Fr.refl [] w).alloc _
  have b0 : Blk (w.alloc (.cells (arP ⟨fl, sq, ak, wi, d⟩ (.slice A d.length c)) 27)) w.heap.size 27 (arP ⟨fl, sq, ak, wi, d⟩ (.slice A d.length c)) := Blk.new w _ _
  have M := Lib.hid m
  have OK := Lib.hid ok
  have OKP := Lib.hid okp
  have HD := Lib.hid hd
  have HT := Lib.hid hT
  have E8 := Lib.hid e8
  have E1 := Lib.hid e1
  have E0 := Lib.hid e0
  have EA := Lib.hid ea
  have HAS := Lib.hid hacks
  have HN8 : Hid (∀ W, W.cell? ⟨w.heap.size, 0, none⟩ = some (.int .i64 fl) → ∀ n, n = 1 ∨ n = 2 ∨ n = 4 ∨ n = 8 → Calls Try.prog 54 #[.int .i64 n, ptr w.heap.size] W fun e w' => e = .returned (.bool (has fl n)) ∧ W = w') := Lib.hid (fun W hc n hn => open1_any fl n _ W hc okp.f0 okp.f1 hn)
  clear m ok okp hd hT e8 e1 e0 ea hacks
  generalize h8 : has fl 8 = b8 at *
  generalize h1 : has fl 1 = b1 at *
  generalize h2 : has fl 2 = b2 at *
  generalize h4 : has fl 4 = b4 at *
  have H8 := Lib.hid h8
  have H1 := Lib.hid h1
  have H2 := Lib.hid h2
  have H4 := Lib.hid h4
  clear h8 h1 h2 h4
  go_enter Try.func24, Try.ntmps24
  go_upto_region 1 with fail
  generalize w.alloc (.cells (arP ⟨fl, sq, ak, wi, d⟩ (.slice A d.length c)) 27) = w0 at *
  obtain ⟨y0, y1, y2, y3, y4⟩ := cells5 b0
  have F0 := Lib.hid f0
  have B0 := Lib.hid b0
  clear f0 b0
  go_wp2_with fail
  refine (HN8.out w0 y0 8 (by simp)).mono ?_
  rw [H8.out]
  rintro e w1 ⟨rfl, rfl⟩
  cases b8
  · go_wp2_with fail
    refine (HN8.out w0 y0 1 (by simp)).mono ?_
    rw [H1.out]
    rintro e w1 ⟨rfl, rfl⟩
    cases b1
    · go_wp2_with fail
      refine (HN8.out w0 y0 2 (by simp)).mono ?_
      rw [H2.out]
      rintro e w1 ⟨rfl, rfl⟩
      cases b2
      · go_wp2_with fail
        go_ret
        rw [E0.out (by trivial) (by trivial) (by trivial)]
        exact lpost_nil (M.out.fr F0.out) (F0.out.mono (by simp))
      · go_wp2_with fail
        have hac := acks_si (M.out.fr F0.out) ⟨fl, sq, ak, wi, d⟩ A c 1000000000 (Int.le_refl _) OK.out.hw OK.out.hc OK.out.hm OK.out.hl OK.out.n0 OK.out.n1 OK.out.s0 OK.out.s1 OKP.out.w0 OKP.out.w1
        have hx2 : open2V x ⟨fl, sq, ak, wi, d⟩ = if (acksV x ⟨fl, sq, ak, wi, d⟩).ended then acksV x ⟨fl, sq, ak, wi, d⟩ else dataV (acksV x ⟨fl, sq, ak, wi, d⟩) ⟨fl, sq, ak, wi, d⟩ := rfl
        generalize acksV x ⟨fl, sq, ak, wi, d⟩ = x1 at *
        refine hac.mono ?_
        clear hac
        rintro e w2 ⟨H1', rfl, lk, m2, f2⟩
        have f2' : Fr H.own w0 w2 := f2.mono (fun y hy => by simp at hy; rcases hy with h | h | h <;> simp [Hd.own, h])
        have c12 : w2.cell? ⟨H.g, 12, none⟩ = some (.bool x1.ended) := by rw [← lk.g]; exact (scells m2.blk).c12
        have hown : ∀ y ∈ H.own, y < w.heap.size := M.out.lt
        have b2' := B0.out.fr f2' (fun hm => by have := hown _ hm; omega)
        obtain ⟨s1, s2, s3, s4, s5⟩ := HAS.out
        have fz0 : w.heap.size ≤ w0.heap.size := F0.out.size
        have lkw : Hd.like w H H1' := ⟨lk.g, lk.gw, lk.gc, lk.gh, fun b hb => (lk.own b hb).imp id (fun h => by omega)⟩
        have fw2 : Fr H.own w w2 := (F0.out.mono (by simp)).trans f2' (fun y hy => .inl hy)
        have hib : Inv x1.heap := by rw [s1]; exact OK.out.hi
        have hub : x1.unread.length ≤ 1024 := by rw [s2]; exact OK.out.hu
        have hwb := Win.Inv.bd OK.out.hw
        have hmb := OK.out.hm
        have hlb := OK.out.hl
        have hdat : Calls Try.prog 57 #[ptr H.g, agP ⟨fl, sq, ak, wi, d⟩ (.slice A d.length c)] w2 (DataPost S w2 H1' (dataV x1 ⟨fl, sq, ak, wi, d⟩)) := by
          have h := data_si m2 hib ⟨fl, sq, ak, wi, d⟩ (.slice A d.length c) T (HD.out.fr fw2 (fun y hy hs => (HT.out y hs).1 hy)) (fun b hb hm => by
            rcases lkw.own b hm with h | h
            · exact (HT.out b hb).1 h
            · have := (HT.out b hb).2; omega) OKP.out.d1 hub OKP.out.f0 OKP.out.f1
          rwa [lk.g] at h
        have hdo := data_ok x1 ⟨fl, sq, ak, wi, d⟩ hib hub OKP.out.d1
        have HDat := Lib.hid hdat
        obtain ⟨y0, y1, y2, y3, y4⟩ := cells5 b2'
        have HX20 := Lib.hid hx2
        have M2 := Lib.hid m2
        have LKW := Lib.hid lkw
        have FW2 := Lib.hid fw2
        have BB2 := Lib.hid b2'
        have HDO := Lib.hid hdo
        have BBX : Hid (w.heap.size ∉ H1'.own) := Lib.hid (fun hm => by
          have h1 := m2.lt _ hm
          rcases lk.own _ hm with h | h
          · have := hown _ h; omega
          · have := B0.out.lt; omega)
        clear f2 f2' lk m2 lkw fw2 b2' hdat hx2 hdo hwb hmb
        rcases Bool.eq_false_or_eq_true x1.ended with hen | hen
        · rw [hen] at c12
          have hx2 : open2V x ⟨fl, sq, ak, wi, d⟩ = x1 := by rw [HX20.out, if_pos hen]
          have HX2 := Lib.hid hx2
          clear hx2
          have hi2 := hib
          have hu2 : x1.unread.length ≤ 100000 := by omega
          have hm2 : 0 ≤ x1.win.m := by rw [s4]; have := Win.Inv.bd OK.out.hw; omega
          have hm2' : x1.win.m ≤ 4611686018427387000 := by rw [s4]; have := OK.out.hm; omega
          have b3 := BB2.out
          have lk3 := LKW.out
          have m3 := M2.out
          have f3 := FW2.out
          have e3 : Ext w S S := Ext.refl w S
          have B3 := Lib.hid b3
          obtain ⟨y0, y1, y2, y3, y4⟩ := cells5 b3
          have LK3 := Lib.hid lk3
          have EX3 := Lib.hid e3
          have M3 := Lib.hid m3
          have FF3 := Lib.hid f3
          have hans : Calls Try.prog 41 #[ptr H.g] w2 (PartPost S w2 H1' (shows x1) (answerV x1)) := by
            have h := answer_si m3 hi2 hu2 hm2 hm2'
            rwa [lk3.g] at h
          have HAns := Lib.hid hans
          clear hans b3 lk3 e3 m3 f3
          rcases Nat.eq_zero_or_pos d.length with hd0 | hd0
          · have hdq : ((d.length : Int) == 0) = true := by simp [hd0]
            have hdd : decide ((d.length : Int) = 0) = true := by simp [hd0]
            go_wp2_with fail
            refine (HN8.out w2 y0 4 (by simp)).mono ?_
            rw [H4.out]
            rintro e w4 ⟨rfl, rfl⟩
            cases b4
            · go_wp2_with fail
              go_ret
              rw [EA.out (by trivial) (by trivial) (by trivial), if_pos ⟨hd0, by trivial⟩, HX2.out]
              exact ⟨S, H1', _, [], rfl, rfl, EX3.out, LK3.out, M3.out, Pr.nil, by simp [ob, Value.ownBlock], FF3.out⟩
            · have hif : ¬ (d.length = 0 ∧ true = false) := by simp
              go_wp2_with fail
              refine HAns.out.mono ?_
              rintro e w5 ⟨S5, A5, c5, rfl, x5, by5, m5, f5⟩
              have hp := lpost_one EX3.out LK3.out FF3.out (⟨S5, A5, c5, rfl, x5, by5, m5, f5⟩ : PartPost S w2 H1' _ _ (.returned (agP (answerV x1) (.slice A5 _ c5))) w5) rfl
              have HP := Lib.hid hp
              clear hp x5 by5 m5 f5
              go_wp2_with fail
              go_ret
              rw [EA.out (by trivial) (by trivial) (by trivial), if_neg hif, HX2.out]
              exact HP.out
          · have hif : ¬ (d.length = 0 ∧ b4 = false) := fun h => by have := h.1; omega
            have hdz : (d.length : Int) ≠ 0 := by omega
            have hdq : ((d.length : Int) == 0) = false := by simpa using hdz
            have hdd : decide ((d.length : Int) = 0) = false := by simpa using hdz
            go_wp2_with fail
            refine HAns.out.mono ?_
            rintro e w5 ⟨S5, A5, c5, rfl, x5, by5, m5, f5⟩
            have hp := lpost_one EX3.out LK3.out FF3.out (⟨S5, A5, c5, rfl, x5, by5, m5, f5⟩ : PartPost S w2 H1' _ _ (.returned (agP (answerV x1) (.slice A5 _ c5))) w5) rfl
            have HP := Lib.hid hp
            clear hp x5 by5 m5 f5
            go_wp2_with fail
            go_ret
            rw [EA.out (by trivial) (by trivial) (by trivial), if_neg hif, HX2.out]
            exact HP.out
        · rw [hen] at c12
          go_wp2_with fail
          refine HDat.out.mono ?_
          rintro e w3 ⟨S3, H3, rfl, x3, lk', m3, f3'⟩
          have hz2 := FW2.out.size
          have lk3 := LKW.out.trans hz2 lk'
          have e3 := ext_up x3 hz2
          have f3 : Fr H.own w w3 := FW2.out.trans f3' (fun y hy => LKW.out.own y hy)
          have b3 := BB2.out.fr f3' (fun hm => by
            rcases LKW.out.own _ hm with h | h
            · have := hown _ h; omega
            · exact BBX.out hm)
          have hx2 : open2V x ⟨fl, sq, ak, wi, d⟩ = dataV x1 ⟨fl, sq, ak, wi, d⟩ := by rw [HX20.out, if_neg (by simp [hen])]
          have HX2 := Lib.hid hx2
          obtain ⟨hi2, hu2, hw2⟩ := HDO.out
          have hm2 : 0 ≤ (dataV x1 ⟨fl, sq, ak, wi, d⟩).win.m := by rw [hw2, s4]; have := Win.Inv.bd OK.out.hw; omega
          have hm2' : (dataV x1 ⟨fl, sq, ak, wi, d⟩).win.m ≤ 4611686018427387000 := by rw [hw2, s4]; have := OK.out.hm; omega
          generalize dataV x1 ⟨fl, sq, ak, wi, d⟩ = x2 at *
          clear hx2 lk' f3' x3 y0 y1 y2 y3 y4 c12
          have B3 := Lib.hid b3
          obtain ⟨y0, y1, y2, y3, y4⟩ := cells5 b3
          have LK3 := Lib.hid lk3
          have EX3 := Lib.hid e3
          have M3 := Lib.hid m3
          have FF3 := Lib.hid f3
          have hans : Calls Try.prog 41 #[ptr H.g] w3 (PartPost S3 w3 H3 (shows x2) (answerV x2)) := by
            have h := answer_si m3 hi2 hu2 hm2 hm2'
            rwa [lk3.g] at h
          have HAns := Lib.hid hans
          clear hans b3 lk3 e3 m3 f3
          rcases Nat.eq_zero_or_pos d.length with hd0 | hd0
          · have hdq : ((d.length : Int) == 0) = true := by simp [hd0]
            have hdd : decide ((d.length : Int) = 0) = true := by simp [hd0]
            go_wp2_with fail
            refine (HN8.out w3 y0 4 (by simp)).mono ?_
            rw [H4.out]
            rintro e w4 ⟨rfl, rfl⟩
            cases b4
            · go_wp2_with fail
              go_ret
              rw [EA.out (by trivial) (by trivial) (by trivial), if_pos ⟨hd0, by trivial⟩, HX2.out]
              exact ⟨S3, H3, _, [], rfl, rfl, EX3.out, LK3.out, M3.out, Pr.nil, by simp [ob, Value.ownBlock], FF3.out⟩
            · have hif : ¬ (d.length = 0 ∧ true = false) := by simp
              go_wp2_with fail
              refine HAns.out.mono ?_
              rintro e w5 ⟨S5, A5, c5, rfl, x5, by5, m5, f5⟩
              have hp := lpost_one EX3.out LK3.out FF3.out (⟨S5, A5, c5, rfl, x5, by5, m5, f5⟩ : PartPost S3 w3 H3 _ _ (.returned (agP (answerV x2) (.slice A5 _ c5))) w5) rfl
              have HP := Lib.hid hp
              clear hp x5 by5 m5 f5
              go_wp2_with fail
              go_ret
              rw [EA.out (by trivial) (by trivial) (by trivial), if_neg hif, HX2.out]
              exact HP.out
          · have hif : ¬ (d.length = 0 ∧ b4 = false) := fun h => by have := h.1; omega
            have hdz : (d.length : Int) ≠ 0 := by omega
            have hdq : ((d.length : Int) == 0) = false := by simpa using hdz
            have hdd : decide ((d.length : Int) = 0) = false := by simpa using hdz
            go_wp2_with fail
            refine HAns.out.mono ?_
            rintro e w5 ⟨S5, A5, c5, rfl, x5, by5, m5, f5⟩
            have hp := lpost_one EX3.out LK3.out FF3.out (⟨S5, A5, c5, rfl, x5, by5, m5, f5⟩ : PartPost S3 w3 H3 _ _ (.returned (agP (answerV x2) (.slice A5 _ c5))) w5) rfl
            have HP := Lib.hid hp
            clear hp x5 by5 m5 f5
            go_wp2_with fail
            go_ret
            rw [EA.out (by trivial) (by trivial) (by trivial), if_neg hif, HX2.out]
            exact HP.out
    · go_wp2_with fail
      refine (answer_si (M.out.fr F0.out) OK.out.hi (by have := OK.out.hu; omega) (by have := Win.Inv.bd OK.out.hw; omega) (by have := OK.out.hm; have := OK.out.hl; omega)).mono ?_
      rintro e w2 ⟨S2, A2, c2, rfl, x2, by2, m2, f2⟩
      have hp := lpost_one (Ext.refl w S) (Hd.like.rfl' w H) (F0.out.mono (by simp)) (⟨S2, A2, c2, rfl, x2, by2, m2, f2⟩ : PartPost S w0 H _ _ (.returned (agP (answerV x) (.slice A2 _ c2))) w2) rfl
      have HP := Lib.hid hp
      clear hp x2 by2 m2 f2
      go_wp2_with fail
      go_ret
      rw [E1.out (by trivial) (by trivial)]
      exact HP.out
  · have m0 := M.out.fr F0.out
    have g1 := Grew.cell y1
    have hA : ∀ q : Grew w0, Calls Try.prog 55 #[ptr H.g] q.W fun e w' => e = .returned (.int .u32 (awaitedV x)) ∧ ∃ q' : Grew w0, w' = q'.W := fun q => grew_call (awaited_si (m0.fr q.fr) OK.out.hi)
    have HA := Lib.hid hA
    have M0 := Lib.hid m0
    clear hA m0
    generalize haw : awaitedV x = aw at *
    by_cases hq : sq = aw
    · subst hq
      go_upto_region 3 with fail
      refine wp_region_grew (by kernel_rfl) (by kernel_rfl) ?_
      repeat (go_big_quiet_step ((go_at_call 55; exact HA.out _)))
      refine wpQuiet_nil ?_
      intro w2 f2
      have F2 := Lib.hid (F0.out.trans f2 (by simp))
      clear f2
      go_wp2_with fail
      refine (done_si (M.out.fr F2.out) true).mono ?_
      rintro e w3 ⟨rfl, m3, f3⟩
      have M3 := Lib.hid m3
      have F3 := Lib.hid ((F2.out.mono (by simp)).trans (f3.mono (O' := H.own) (by simp [Hd.own])) (fun y hy => .inl hy))
      clear m3 f3
      go_wp2_with fail
      go_ret
      rw [E8.out (by trivial), if_pos (by trivial)]
      exact lpost_nil M3.out F3.out
    · go_upto_region 3 with fail
      refine wp_region_grew (by kernel_rfl) (by kernel_rfl) ?_
      repeat (go_big_quiet_step ((go_at_call 55; exact HA.out _)))
      refine wpQuiet_nil ?_
      intro w2 f2
      have F2 := Lib.hid (F0.out.trans f2 (by simp))
      clear f2
      go_wp2_with fail
      go_ret
      rw [E8.out (by trivial), if_neg hq]
      exact lpost_nil (M.out.fr F2.out) (F2.out.mono (by simp))
end Go.Proofs.Ytmgdbbbdhkfdmaa
