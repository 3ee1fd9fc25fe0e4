import Derived.Test.YtmgdbbbdhkfdmaaZ12
import Derived.Deep.DeepCutAuto
set_option linter.unusedSimpArgs false
set_option linter.unusedVariables false
namespace Go.Proofs.Ytmgdbbbdhkfdmaa
set_option maxRecDepth 100000
open Go.RowKit Go.Deep

theorem callsV_syn (x : St) (p : Prt) (h : p.flags = 1) : callsV x p = listenV x p := by unfold callsV; rw [if_pos h]
theorem callsV_no (x : St) (p : Prt) (h1 : p.flags ≠ 1) (h : p.ack ≠ add32 x.isn 1 ∨ has p.flags 2 = false) : callsV x p = (x, []) := by unfold callsV; rw [if_neg h1, if_pos h]
theorem callsV_ack (x : St) (p : Prt) (h : p.ack = add32 x.isn 1) (h3 : p.flags = 3) : callsV x p = (shows (opensV { x with peer := p.seq } p.win), [answerV (opensV { x with peer := p.seq } p.win)]) := by
  unfold callsV
  rw [if_neg (by omega), if_neg (by rw [h3]; simp [h, has]), if_pos h3]
theorem callsV_rst (x : St) (p : Prt) (h : p.ack = add32 x.isn 1) (h3 : p.flags = 10) : callsV x p = (doneV x true, []) := by
  unfold callsV
  rw [if_neg (by omega), if_neg (by rw [h3]; simp [h, has]), if_neg (by omega), if_pos h3]
theorem callsV_else (x : St) (p : Prt) (h : p.ack = add32 x.isn 1) (h2 : has p.flags 2 = true) (h1 : p.flags ≠ 1) (h3 : p.flags ≠ 3) (h10 : p.flags ≠ 10) : callsV x p = (x, []) := by
  unfold callsV
  rw [if_neg h1, if_neg (by simp [h, h2]), if_neg h3, if_neg h10]
set_option maxHeartbeats 8000000 in
theorem calls_si {S : Nat → Prop} {w : World} {H : Hd} {x : St} (m : SI S w H x) (ok : OkS x) (p : Prt) (okp : OkP p) (A : Option Addr) (c : Nat) :
    Calls Try.prog 22 #[ptr H.g, agP p (.slice A p.d.length c)] w (LPost S w H (callsV x p)) := by
  have v1 := callsV_syn x p
  have vn := callsV_no x p
  have va := callsV_ack x p
  have vr := callsV_rst x p
  have ve := callsV_else x p
  have hbit := has_bits p.flags 2 okp.f0 okp.f1 (by simp)
  generalize callsV x p = y at *
  obtain ⟨fl, sq, ak, wi, d⟩ := p
  dsimp only at *
  have hgl := m.blk.lt
  have f0 : Fr [] w (w.alloc (.cells (arP ⟨fl, sq, ak, wi, d⟩ (.slice A d.length c)) 27)) := (Fr.refl [] w).alloc _
  have b0 : Blk (w.alloc (.cells (arP ⟨fl, sq, ak, wi, d⟩ (.slice A d.length c)) 27)) w.heap.size 27 (arP ⟨fl, sq, ak, wi, d⟩ (.slice A d.length c)) := Blk.new w _ _
  have M := Lib.hid m
  have OK := Lib.hid ok
  have OKP := Lib.hid okp
  have V1 := Lib.hid v1
  have VN := Lib.hid vn
  have VA := Lib.hid va
  have VR := Lib.hid vr
  have VE := Lib.hid ve
  have hr : IntKind.u32.wrap (x.isn + 1) = add32 x.isn 1 := by rw [wrap32]; rfl
  have hr' : (x.isn + 1) % 4294967296 = add32 x.isn 1 := rfl
  generalize hrr : add32 x.isn 1 = r at *
  generalize h2 : has fl 2 = b2 at *
  have HB2 := Lib.hid h2
  have HR := Lib.hid hrr
  clear m ok okp v1 vn va vr ve h2 hrr
  by_cases h1 : fl = 1
  · subst h1
    clear hbit
    go_enter Try.func22, Try.ntmps22
    go_upto_region 1 with fail
    generalize w.alloc (.cells (arP ⟨1, sq, ak, wi, d⟩ (.slice A d.length c)) 27) = w0 at *
    obtain ⟨y0, y1, y2, y3, y4⟩ := cells5 b0
    have F0 := Lib.hid f0
    clear f0 b0
    go_wp2_with fail
    refine (listen_si (M.out.fr F0.out) OK.out.hi (by have := OK.out.hu; omega) ⟨1, sq, ak, wi, d⟩ A c).mono ?_
    rintro e w2 ⟨S2, H2, v, L, rfl, hL, x2, l2, m2, p2, n2, f2⟩
    have hP : LPost S w H (listenV x ⟨1, sq, ak, wi, d⟩) (.returned v) w2 := LPost.of (Ext.refl w S) (Hd.like.rfl' w H) (F0.out.mono (by simp)) ⟨S2, H2, v, L, rfl, hL, x2, l2, m2, p2, n2, f2⟩
    have HP := Lib.hid hP
    clear hP hL x2 l2 m2 p2 n2 f2
    go_wp2_with fail
    go_ret
    rw [V1.out (by trivial)]
    exact HP.out
  · have h1q : (fl == 1) = false := by simpa using h1
    have h1d : decide (fl = 1) = false := by simpa using h1
    go_enter Try.func22, Try.ntmps22
    go_upto_region 1 with fail
    generalize w.alloc (.cells (arP ⟨fl, sq, ak, wi, d⟩ (.slice A d.length c)) 27) = w0 at *
    obtain ⟨y0, y1, y2, y3, y4⟩ := cells5 b0
    have F0 := Lib.hid f0
    have B0 := Lib.hid b0
    have m0 := M.out.fr f0
    have c13 := (scells m0.blk).c13
    have g0 := Grew.cell y0
    have g2 := Grew.cell y2
    have g13 := Grew.cell c13
    clear f0 b0 m0
    go_upto_region 3 with fail
    by_cases ha : ak = r
    · have HA := Lib.hid ha
      subst ha
      rcases Bool.eq_false_or_eq_true b2 with hb | hb
      · have hbq : (bits BinOp.and IntKind.i64 fl 2 == 0) = false := by rw [hb] at hbit; simpa using hbit
        have hbd : decide (bits BinOp.and IntKind.i64 fl 2 = 0) = false := by rw [hb] at hbit; simpa using hbit
        refine wp_region_grew (by kernel_rfl) (by kernel_rfl) ?_
        repeat (go_big_quiet_step (fail))
        refine wpQuiet_nil ?_
        intro w2 f2
        have F2 := Lib.hid (F0.out.trans f2 (by simp))
        have b2' := B0.out.fr f2 (by simp)
        obtain ⟨z0, z1, z2, z3, z4⟩ := cells5 b2'
        have m2 := M.out.fr F2.out
        have hl2 := m2.blk.lt
        have c2 := (scells m2.blk).c2
        have q2 := m2.blk.frozen 2
        have M2 := Lib.hid m2
        clear f2 b2' m2 y0 y1 y2 y3 y4 g0 g2 g13 c13
        by_cases h3 : fl = 3
        · subst h3
          have ng : H.g ≠ w.heap.size := by omega
          go_wp2_with fail
          have f3 : Fr [H.g] w2 (w2.setCell ⟨H.g, 2, none⟩ (.int .u32 sq)) := (Fr.refl [H.g] w2).setCell (p := ⟨H.g, 2, none⟩) (.inl (by simp)) _
          have m3 := M2.out.set (w' := w2.setCell ⟨H.g, 2, none⟩ (.int .u32 sq)) (x' := { x with peer := sq }) f3 (by simpa using M2.out.blk.set_ 2 (.int .u32 sq)) rfl rfl rfl rfl rfl
          generalize w2.setCell ⟨H.g, 2, none⟩ (.int .u32 sq) = w3 at *
          refine (opens_si m3 wi 1000000000 (Int.le_refl _) OK.out.hw OK.out.hc OKP.out.w0 OKP.out.w1).mono ?_
          rintro e w4 ⟨rfl, m4, f4⟩
          have M4 := Lib.hid m4
          have F4 : Hid (Fr H.own w w4) := Lib.hid (((F2.out.mono (by simp)).trans (f3.mono (O' := H.own) (by simp [Hd.own])) (fun y hy => .inl hy)).trans (f4.mono (O' := H.own) (by simp [Hd.own])) (fun y hy => .inl hy))
          clear m3 f3 m4 f4 z0 z1 z2 z3 z4 c2 q2
          go_wp2_with fail
          refine (answer_si M4.out OK.out.hi (by have := OK.out.hu; show x.unread.length ≤ 100000; omega) (by show 0 ≤ (Win.ackV x.win 0 wi).1.m; rw [ack_m]; have := Win.Inv.bd OK.out.hw; omega) (by show (Win.ackV x.win 0 wi).1.m ≤ _; rw [ack_m]; have := OK.out.hm; have := OK.out.hl; omega)).mono ?_
          rintro e w5 ⟨S5, A5, c5, rfl, x5, by5, m5, f5⟩
          have hp := lpost_one (Ext.refl w S) (Hd.like.rfl' w H) F4.out (⟨S5, A5, c5, rfl, x5, by5, m5, f5⟩ : PartPost S w4 H _ _ (.returned (agP (answerV (opensV { x with peer := sq } wi)) (.slice A5 _ c5))) w5) rfl
          have HP := Lib.hid hp
          clear hp x5 by5 m5 f5
          go_wp2_with fail
          go_ret
          rw [VA.out (by trivial) (by trivial)]
          exact HP.out
        · have h3q : (fl == 3) = false := by simpa using h3
          have h3d : decide (fl = 3) = false := by simpa using h3
          by_cases h10 : fl = 10
          · subst h10
            go_wp2_with fail
            refine (done_si M2.out true).mono ?_
            rintro e w3 ⟨rfl, m3, f3⟩
            have M3 := Lib.hid m3
            have F3 := Lib.hid ((F2.out.mono (by simp)).trans (f3.mono (O' := H.own) (by simp [Hd.own])) (fun y hy => .inl hy))
            clear m3 f3
            go_wp2_with fail
            go_ret
            rw [VR.out (by trivial) (by trivial)]
            exact lpost_nil M3.out F3.out
          · have h10q : (fl == 10) = false := by simpa using h10
            have h10d : decide (fl = 10) = false := by simpa using h10
            go_wp2_with fail
            go_ret
            rw [VE.out (by trivial) (by first | exact hb | trivial) h1 h3 h10]
            exact lpost_nil M2.out (F2.out.mono (by simp))
      · have hbq : (bits BinOp.and IntKind.i64 fl 2 == 0) = true := by rw [hb] at hbit; simpa using hbit
        have hbd : decide (bits BinOp.and IntKind.i64 fl 2 = 0) = true := by rw [hb] at hbit; simpa using hbit
        refine wp_region_grew (by kernel_rfl) (by kernel_rfl) ?_
        repeat (go_big_quiet_step (fail))
        refine wpQuiet_nil ?_
        intro w2 f2
        have F2 := Lib.hid (F0.out.trans f2 (by simp))
        clear f2 y0 y1 y2 y3 y4 g0 g2 g13 c13
        go_wp2_with fail
        go_ret
        rw [VN.out h1 (.inr (by first | exact hb | trivial))]
        exact lpost_nil (M.out.fr F2.out) (F2.out.mono (by simp))
    · have haq : (ak == r) = false := by simpa using ha
      have had : decide (ak = r) = false := by simpa using ha
      have han : (ak != r) = true := by simpa using ha
      refine wp_region_grew (by kernel_rfl) (by kernel_rfl) ?_
      repeat (go_big_quiet_step (fail))
      refine wpQuiet_nil ?_
      intro w2 f2
      have F2 := Lib.hid (F0.out.trans f2 (by simp))
      clear f2 y0 y1 y2 y3 y4 g0 g2 g13 c13
      go_wp2_with fail
      go_ret
      rw [VN.out h1 (.inl ha)]
      exact lpost_nil (M.out.fr F2.out) (F2.out.mono (by simp))
end Go.Proofs.Ytmgdbbbdhkfdmaa

namespace Go.Proofs.Ytmgdbbbdhkfdmaa
set_option maxRecDepth 100000
open Go.RowKit Go.Deep

theorem ack0_inv {B : Int} {v : Win.Wn} (h : Win.Inv B v) (r : Int) (hB : 65536 ≤ B) : Win.Inv B (Win.ackV v 0 r).1 := by
  have hb := Win.Inv.bd h
  unfold Win.ackV
  (repeat' split)
  · exact h
  · exact h
  · exact h
  · show 0 ≤ max v.a 0 ∧ max v.a 0 ≤ max v.s 0 ∧ max v.s 0 ≤ v.m ∧ v.m ≤ max v.l (0 + r) + 1 ∧ max v.l (0 + r) ≤ B
    omega
theorem opens_ok {x : St} (ok : OkS x) (r : Int) : OkS (opensV x r) :=
  ⟨ok.hi, ok.hu, ack0_inv ok.hw r (by omega), Rto.stop_inv ok.hc, by show (Win.ackV x.win 0 r).1.m ≤ _; rw [ack_m]; exact ok.hm, ok.hl, ok.n0, ok.n1, ok.s0, ok.s1⟩
theorem heardV_syn (x : St) (p : Prt) (h : p.flags = 1) : heardV x p = listenV x p := by unfold heardV; rw [if_pos h]
theorem heardV_ack (x : St) (p : Prt) (h1 : p.flags = 3) (h2 : p.seq = x.peer) (h3 : p.ack = add32 x.isn 1) : heardV x p = (shows (opensV x p.win), [answerV (opensV x p.win)]) := by unfold heardV; rw [if_neg (by omega), if_pos ⟨h1, h2, h3⟩]
theorem heardV_rst (x : St) (p : Prt) (h1 : p.flags ≠ 1) (hg : ¬ (p.flags = 3 ∧ p.seq = x.peer ∧ p.ack = add32 x.isn 1)) (h8 : has p.flags 8 = true) : heardV x p = openV x p := by unfold heardV; rw [if_neg h1, if_neg hg, if_pos h8]
theorem heardV_no (x : St) (p : Prt) (h1 : p.flags ≠ 1) (hg : ¬ (p.flags = 3 ∧ p.seq = x.peer ∧ p.ack = add32 x.isn 1)) (h8 : has p.flags 8 = false) (h : has p.flags 1 = true ∨ has p.flags 2 = false ∨ p.ack ≠ add32 x.isn 1) : heardV x p = (x, []) := by unfold heardV; rw [if_neg h1, if_neg hg, if_neg (by simp [h8]), if_pos h]
theorem heardV_open (x : St) (p : Prt) (h1 : p.flags ≠ 1) (hg : ¬ (p.flags = 3 ∧ p.seq = x.peer ∧ p.ack = add32 x.isn 1)) (h8 : has p.flags 8 = false) (ha : has p.flags 1 = false) (hb : has p.flags 2 = true) (hc : p.ack = add32 x.isn 1) : heardV x p = openV (opensV x p.win) p := by unfold heardV; rw [if_neg h1, if_neg hg, if_neg (by simp [h8]), if_neg (by simp [ha, hb, hc])]
set_option maxHeartbeats 8000000 in
theorem heard_si {S : Nat → Prop} {w : World} {H : Hd} {x : St} (m : SI S w H x) (ok : OkS x) (p : Prt) (okp : OkP p) (A : Option Addr) (c : Nat) (T : Nat → Prop) (hd : Byt T w (.slice A p.d.length c) p.d) (hT : ∀ b, T b → b ∉ H.own ∧ b < w.heap.size) :
    Calls Try.prog 23 #[ptr H.g, agP p (.slice A p.d.length c)] w (LPost S w H (heardV x p)) := by
  have v1 := heardV_syn x p
  have va := heardV_ack x p
  have vr := heardV_rst x p
  have vn := heardV_no x p
  have vo := heardV_open x p
  have hbit8 := has_bits p.flags 8 okp.f0 okp.f1 (by simp)
  have hbit1 := has_bits p.flags 1 okp.f0 okp.f1 (by simp)
  have hbit2 := has_bits p.flags 2 okp.f0 okp.f1 (by simp)
  generalize heardV x p = y at *
  obtain ⟨fl, sq, ak, wi, d⟩ := p
  dsimp only at *
  have hgl := m.blk.lt
  have f0 : Fr [] w (w.alloc (.cells (arP ⟨fl, sq, ak, wi, d⟩ (.slice A d.length c)) 27)) := (Fr.refl [] w).alloc _
  have b0 : Blk (w.alloc (.cells (arP ⟨fl, sq, ak, wi, d⟩ (.slice A d.length c)) 27)) w.heap.size 27 (arP ⟨fl, sq, ak, wi, d⟩ (.slice A d.length c)) := Blk.new w _ _
  have M := Lib.hid m
  have OK := Lib.hid ok
  have OKP := Lib.hid okp
  have HD := Lib.hid hd
  have HT := Lib.hid hT
  have V1 := Lib.hid v1
  have VA := Lib.hid va
  have VR := Lib.hid vr
  have VN := Lib.hid vn
  have VO := Lib.hid vo
  have hr : IntKind.u32.wrap (x.isn + 1) = add32 x.isn 1 := by rw [wrap32]; rfl
  have hr' : (x.isn + 1) % 4294967296 = add32 x.isn 1 := rfl
  generalize hrr : add32 x.isn 1 = r at *
  generalize hpe : x.peer = pe at *
  have HR := Lib.hid hrr
  have HPE := Lib.hid hpe
  clear m ok okp hd hT v1 va vr vn vo hrr hpe
  by_cases h1 : fl = 1
  · subst h1
    clear hbit8 hbit1 hbit2
    go_enter Try.func23, Try.ntmps23
    go_upto_region 1 with fail
    generalize w.alloc (.cells (arP ⟨1, sq, ak, wi, d⟩ (.slice A d.length c)) 27) = w0 at *
    obtain ⟨y0, y1, y2, y3, y4⟩ := cells5 b0
    have F0 := Lib.hid f0
    clear f0 b0
    go_wp2_with fail
    refine (listen_si (M.out.fr F0.out) OK.out.hi (by have := OK.out.hu; omega) ⟨1, sq, ak, wi, d⟩ A c).mono ?_
    rintro e w2 ⟨S2, H2, v, L, rfl, hL, x2, l2, m2, p2, n2, f2⟩
    have hP : LPost S w H (listenV x ⟨1, sq, ak, wi, d⟩) (.returned v) w2 := LPost.of (Ext.refl w S) (Hd.like.rfl' w H) (F0.out.mono (by simp)) ⟨S2, H2, v, L, rfl, hL, x2, l2, m2, p2, n2, f2⟩
    have HP := Lib.hid hP
    clear hP hL x2 l2 m2 p2 n2 f2
    go_wp2_with fail
    go_ret
    rw [V1.out (by trivial)]
    exact HP.out
  · have h1q : (fl == 1) = false := by simpa using h1
    have h1d : decide (fl = 1) = false := by simpa using h1
    go_enter Try.func23, Try.ntmps23
    go_upto_region 1 with fail
    generalize w.alloc (.cells (arP ⟨fl, sq, ak, wi, d⟩ (.slice A d.length c)) 27) = w0 at *
    obtain ⟨y0, y1, y2, y3, y4⟩ := cells5 b0
    have F0 := Lib.hid f0
    have B0 := Lib.hid b0
    have m0 := M.out.fr f0
    have c13 := (scells m0.blk).c13
    have c2 := (scells m0.blk).c2
    rw [HPE.out] at c2
    have g0 := Grew.cell y0
    have g1 := Grew.cell y1
    have g2 := Grew.cell y2
    have g13 := Grew.cell c13
    have gc2 := Grew.cell c2
    clear f0 b0 m0
    go_upto_region 3 with fail
    by_cases hG : fl = 3 ∧ sq = pe ∧ ak = r
    · obtain ⟨ha, hb, hc⟩ := hG
      subst ha hb hc
      clear hbit8 hbit1 hbit2
      refine wp_region_grew (by kernel_rfl) (by kernel_rfl) ?_
      repeat (go_big_quiet_step (fail))
      refine wpQuiet_nil ?_
      intro w2 f2
      have F2 := Lib.hid (F0.out.trans f2 (by simp))
      have b2' := B0.out.fr f2 (by simp)
      obtain ⟨z0, z1, z2, z3, z4⟩ := cells5 b2'
      have m2 := M.out.fr F2.out
      have hl2 := m2.blk.lt
      have M2 := Lib.hid m2
      have c16 := (scells m2.blk).c16
      clear f2 b2' m2 y0 y1 y2 y3 y4 g0 g1 g2 g13 gc2 c13 c2
      go_wp2_with fail
      refine (opens_si M2.out wi 1000000000 (Int.le_refl _) OK.out.hw OK.out.hc OKP.out.w0 OKP.out.w1).mono ?_
      rintro e w4 ⟨rfl, m4, f4⟩
      have M4 := Lib.hid m4
      have F4 : Hid (Fr H.own w w4) := Lib.hid ((F2.out.mono (by simp)).trans (f4.mono (O' := H.own) (by simp [Hd.own])) (fun y hy => .inl hy))
      clear m4 f4 z0 z1 z2 z3 z4
      go_wp2_with fail
      refine (answer_si M4.out OK.out.hi (by have := OK.out.hu; show x.unread.length ≤ 100000; omega) (by show 0 ≤ (Win.ackV x.win 0 wi).1.m; rw [ack_m]; have := Win.Inv.bd OK.out.hw; omega) (by show (Win.ackV x.win 0 wi).1.m ≤ _; rw [ack_m]; have := OK.out.hm; have := OK.out.hl; omega)).mono ?_
      rintro e w5 ⟨S5, A5, c5, rfl, x5, by5, m5, f5⟩
      have hp := lpost_one (Ext.refl w S) (Hd.like.rfl' w H) F4.out (⟨S5, A5, c5, rfl, x5, by5, m5, f5⟩ : PartPost S w4 H _ _ (.returned (agP (answerV (opensV x wi)) (.slice A5 _ c5))) w5) rfl
      have HP := Lib.hid hp
      clear hp x5 by5 m5 f5
      go_wp2_with fail
      go_ret
      rw [VA.out (by trivial) (by trivial) (by trivial)]
      exact HP.out
    · have HG := Lib.hid hG
      rcases (show fl ≠ 3 ∨ (fl = 3 ∧ sq ≠ pe) ∨ (fl = 3 ∧ sq = pe ∧ ak ≠ r) by
        by_cases h : fl = 3
        · by_cases h' : sq = pe
          · exact .inr (.inr ⟨h, h', fun h'' => hG ⟨h, h', h''⟩⟩)
          · exact .inr (.inl ⟨h, h'⟩)
        · exact .inl h) with hx | ⟨hx, hx2⟩ | ⟨hx, hx2, hx3⟩
      · have q1 : (fl == 3) = false := by simpa using hx
        have q2 : decide (fl = 3) = false := by simpa using hx
        refine wp_region_grew (by kernel_rfl) (by kernel_rfl) ?_
        repeat (go_big_quiet_step (fail))
        refine wpQuiet_nil ?_
        intro w2 f2
        have F2 := Lib.hid (F0.out.trans f2 (by simp))
        have b2' := B0.out.fr f2 (by simp)
        obtain ⟨z0, z1, z2, z3, z4⟩ := cells5 b2'
        have m2 := M.out.fr F2.out
        have hl2 := m2.blk.lt
        have M2 := Lib.hid m2
        have FR2 := Lib.hid f2
        clear f2 b2' m2 y0 y1 y2 y3 y4 g0 g1 g2 g13 gc2 c13 c2
        rcases Bool.eq_false_or_eq_true (has fl 8) with h8 | h8
        · have e8 : (bits BinOp.and IntKind.i64 fl 8 != 0) = true := by rw [h8] at hbit8; simpa using hbit8
          clear hbit8 hbit1 hbit2
          go_wp2_with fail
          refine (open_si M2.out OK.out ⟨fl, sq, ak, wi, d⟩ OKP.out (.slice A d.length c) T (HD.out.fr F2.out (by simp)) (fun b hb => ⟨(HT.out b hb).1, Nat.lt_of_lt_of_le (HT.out b hb).2 F2.out.size⟩)).mono ?_
          rintro e w3 ⟨S2, H2, v, L, rfl, hL, x2, l2, m3, p2, n2, f3⟩
          have hP : LPost S w H (openV x ⟨fl, sq, ak, wi, d⟩) (.returned v) w3 := LPost.of (Ext.refl w S) (Hd.like.rfl' w H) (F2.out.mono (by simp)) ⟨S2, H2, v, L, rfl, hL, x2, l2, m3, p2, n2, f3⟩
          have HP := Lib.hid hP
          clear hP hL x2 l2 m3 p2 n2 f3
          go_wp2_with fail
          go_ret
          rw [VR.out h1 HG.out h8]
          exact HP.out
        · have e8 : (bits BinOp.and IntKind.i64 fl 8 != 0) = false := by rw [h8] at hbit8; simpa using hbit8
          rcases Bool.eq_false_or_eq_true (has fl 1) with hb1 | hb1
          · have e1 : (bits BinOp.and IntKind.i64 fl 1 != 0) = true := by rw [hb1] at hbit1; simpa using hbit1
            have k13 := Grew.cell (scells M2.out.blk).c13
            have k0 := Grew.cell z0
            have k2 := Grew.cell z2
            go_upto_region 8 with fail
            refine wp_region_grew (by kernel_rfl) (by kernel_rfl) ?_
            repeat (go_big_quiet_step (fail))
            refine wpQuiet_nil ?_
            intro w3 f3
            have F3 := Lib.hid (F2.out.trans f3 (by simp))
            clear f3 k13 k0 k2
            go_wp2_with fail
            go_ret
            rw [VN.out (by first | exact h1 | decide) HG.out (by first | exact h8 | decide) (.inl hb1)]
            exact lpost_nil (M.out.fr F3.out) (F3.out.mono (by simp))
          · have e1 : (bits BinOp.and IntKind.i64 fl 1 != 0) = false := by rw [hb1] at hbit1; simpa using hbit1
            rcases Bool.eq_false_or_eq_true (has fl 2) with hb2 | hb2
            · have e2 : (bits BinOp.and IntKind.i64 fl 2 == 0) = false := by rw [hb2] at hbit2; simpa using hbit2
              have e2' : decide (bits BinOp.and IntKind.i64 fl 2 = 0) = false := by rw [hb2] at hbit2; simpa using hbit2
              by_cases ha : ak = r
              · subst ha
                have k13 := Grew.cell (scells M2.out.blk).c13
                have k0 := Grew.cell z0
                have k2 := Grew.cell z2
                go_upto_region 8 with fail
                refine wp_region_grew (by kernel_rfl) (by kernel_rfl) ?_
                repeat (go_big_quiet_step (fail))
                refine wpQuiet_nil ?_
                intro w3 f3
                have BB3 := Lib.hid ((B0.out.fr (Fr.trans (O' := []) (by first | exact FR2.out) f3 (by simp)) (by simp)))
                have F3 := Lib.hid (F2.out.trans f3 (by simp))
                clear f3 k13 k0 k2
                obtain ⟨t0, t1, t2, t3, t4⟩ := cells5 BB3.out
                have hl3 : H.g < (w3).heap.size := Nat.lt_of_lt_of_le hgl F3.out.size
                have ok2 := opens_ok OK.out wi
                go_wp2_with fail
                refine (opens_si (M.out.fr F3.out) wi 1000000000 (Int.le_refl _) OK.out.hw OK.out.hc OKP.out.w0 OKP.out.w1).mono ?_
                rintro e w4 ⟨rfl, m4, f4⟩
                have F4 : Hid (Fr H.own w w4) := Lib.hid ((F3.out.mono (by simp)).trans (f4.mono (O' := H.own) (by simp [Hd.own])) (fun y hy => .inl hy))
                have b4 := BB3.out.fr f4 (fun hm => by have := M.out.lt w.heap.size (by simp at hm; rcases hm with h | h | h <;> simp [Hd.own, h]); omega)
                obtain ⟨z0, z1, z2, z3, z4⟩ := cells5 b4
                have M4 := Lib.hid m4
                have OK2 := Lib.hid ok2
                clear m4 f4 b4 ok2
                go_wp2_with fail
                refine (open_si M4.out OK2.out ⟨fl, sq, ak, wi, d⟩ OKP.out (.slice A d.length c) T (HD.out.fr F4.out (fun y hy hs => (HT.out y hs).1 hy)) (fun b hb => ⟨(HT.out b hb).1, Nat.lt_of_lt_of_le (HT.out b hb).2 F4.out.size⟩)).mono ?_
                rintro e w5 ⟨S2, H2, v, L, rfl, hL, x2, l2, m5, p2, n2, f5⟩
                have hP : LPost S w H (openV (opensV x wi) ⟨fl, sq, ak, wi, d⟩) (.returned v) w5 := LPost.of (Ext.refl w S) (Hd.like.rfl' w H) F4.out ⟨S2, H2, v, L, rfl, hL, x2, l2, m5, p2, n2, f5⟩
                have HP := Lib.hid hP
                clear hP hL x2 l2 m5 p2 n2 f5
                go_wp2_with fail
                go_ret
                rw [VO.out h1 HG.out h8 hb1 hb2 (by trivial)]
                exact HP.out
              · have ea : (ak != r) = true := by simpa using ha
                have ea' : (ak == r) = false := by simpa using ha
                have k13 := Grew.cell (scells M2.out.blk).c13
                have k0 := Grew.cell z0
                have k2 := Grew.cell z2
                go_upto_region 8 with fail
                refine wp_region_grew (by kernel_rfl) (by kernel_rfl) ?_
                repeat (go_big_quiet_step (fail))
                refine wpQuiet_nil ?_
                intro w3 f3
                have F3 := Lib.hid (F2.out.trans f3 (by simp))
                clear f3 k13 k0 k2
                go_wp2_with fail
                go_ret
                rw [VN.out (by first | exact h1 | decide) HG.out (by first | exact h8 | decide) (.inr (.inr ha))]
                exact lpost_nil (M.out.fr F3.out) (F3.out.mono (by simp))
            · have e2 : (bits BinOp.and IntKind.i64 fl 2 == 0) = true := by rw [hb2] at hbit2; simpa using hbit2
              have e2' : decide (bits BinOp.and IntKind.i64 fl 2 = 0) = true := by rw [hb2] at hbit2; simpa using hbit2
              have k13 := Grew.cell (scells M2.out.blk).c13
              have k0 := Grew.cell z0
              have k2 := Grew.cell z2
              go_upto_region 8 with fail
              refine wp_region_grew (by kernel_rfl) (by kernel_rfl) ?_
              repeat (go_big_quiet_step (fail))
              refine wpQuiet_nil ?_
              intro w3 f3
              have F3 := Lib.hid (F2.out.trans f3 (by simp))
              clear f3 k13 k0 k2
              go_wp2_with fail
              go_ret
              rw [VN.out (by first | exact h1 | decide) HG.out (by first | exact h8 | decide) (.inr (.inl hb2))]
              exact lpost_nil (M.out.fr F3.out) (F3.out.mono (by simp))
      · subst hx
        have q1 : (sq == pe) = false := by simpa using hx2
        have q2 : decide (sq = pe) = false := by simpa using hx2
        refine wp_region_grew (by kernel_rfl) (by kernel_rfl) ?_
        repeat (go_big_quiet_step (fail))
        refine wpQuiet_nil ?_
        intro w2 f2
        have F2 := Lib.hid (F0.out.trans f2 (by simp))
        have b2' := B0.out.fr f2 (by simp)
        obtain ⟨z0, z1, z2, z3, z4⟩ := cells5 b2'
        have m2 := M.out.fr F2.out
        have hl2 := m2.blk.lt
        have M2 := Lib.hid m2
        have hb8 : bits BinOp.and IntKind.i64 3 8 = 0 := by decide
        have hb1 : bits BinOp.and IntKind.i64 3 1 = 1 := by decide
        have hb2 : bits BinOp.and IntKind.i64 3 2 = 2 := by decide
        clear hbit8 hbit1 hbit2 f2 b2' m2 y0 y1 y2 y3 y4 g0 g1 g2 g13 gc2 c13 c2
        have k13 := Grew.cell (scells M2.out.blk).c13
        have k0 := Grew.cell z0
        have k2 := Grew.cell z2
        go_upto_region 8 with fail
        refine wp_region_grew (by kernel_rfl) (by kernel_rfl) ?_
        repeat (go_big_quiet_step (fail))
        refine wpQuiet_nil ?_
        intro w3 f3
        have F3 := Lib.hid (F2.out.trans f3 (by simp))
        clear f3 k13 k0 k2
        go_wp2_with fail
        go_ret
        rw [VN.out (by first | exact h1 | decide) HG.out (by first | exact h8 | decide) (.inl (by decide))]
        exact lpost_nil (M.out.fr F3.out) (F3.out.mono (by simp))
      · subst hx
        have q1 : (ak == r) = false := by simpa using hx3
        have q2 : decide (ak = r) = false := by simpa using hx3
        have q3 : (sq == pe) = true := by simpa using hx2
        have q4 : decide (sq = pe) = true := by simpa using hx2
        refine wp_region_grew (by kernel_rfl) (by kernel_rfl) ?_
        repeat (go_big_quiet_step (fail))
        refine wpQuiet_nil ?_
        intro w2 f2
        have F2 := Lib.hid (F0.out.trans f2 (by simp))
        have b2' := B0.out.fr f2 (by simp)
        obtain ⟨z0, z1, z2, z3, z4⟩ := cells5 b2'
        have m2 := M.out.fr F2.out
        have hl2 := m2.blk.lt
        have M2 := Lib.hid m2
        have hb8 : bits BinOp.and IntKind.i64 3 8 = 0 := by decide
        have hb1 : bits BinOp.and IntKind.i64 3 1 = 1 := by decide
        have hb2 : bits BinOp.and IntKind.i64 3 2 = 2 := by decide
        clear hbit8 hbit1 hbit2 f2 b2' m2 y0 y1 y2 y3 y4 g0 g1 g2 g13 gc2 c13 c2
        have k13 := Grew.cell (scells M2.out.blk).c13
        have k0 := Grew.cell z0
        have k2 := Grew.cell z2
        go_upto_region 8 with fail
        refine wp_region_grew (by kernel_rfl) (by kernel_rfl) ?_
        repeat (go_big_quiet_step (fail))
        refine wpQuiet_nil ?_
        intro w3 f3
        have F3 := Lib.hid (F2.out.trans f3 (by simp))
        clear f3 k13 k0 k2
        go_wp2_with fail
        go_ret
        rw [VN.out (by first | exact h1 | decide) HG.out (by first | exact h8 | decide) (.inl (by decide))]
        exact lpost_nil (M.out.fr F3.out) (F3.out.mono (by simp))
end Go.Proofs.Ytmgdbbbdhkfdmaa
