import Derived.Test.YtmgdbbbdhkfdmaaZ12
import Derived.Test.YtmgdbbbdhkfdmaaZ14
import Derived.Deep.DeepCutAuto
import Derived.Deep.RegionHeldLaw
set_option linter.unusedSimpArgs false
set_option linter.unusedVariables false
/-
  What is sent: plain facts.
-/
namespace Go.Proofs.Ytmgdbbbdhkfdmaa
set_option maxRecDepth 100000
open Go.RowKit

theorem next_bd {x : St} (h : 0 < nextV x) : nextV x ≤ 64 ∧ nextV x ≤ x.all.length - x.win.s ∧ nextV x ≤ x.win.l - x.win.s := by
  unfold nextV Win.roomV at *
  omega
theorem next_le (x : St) : nextV x ≤ 64 := by unfold nextV; omega
theorem take_eq {v : Win.Wn} {n : Int} (h0 : 0 ≤ n) (h1 : n ≤ v.l - v.s) : Win.takeV v n = (⟨v.a, v.s + n, max v.m (v.s + n), v.l⟩, v.s, 0) := by
  unfold Win.takeV
  rw [if_neg (by omega), if_neg (by unfold Win.roomV; omega)]
/-- An end from which n bytes were taken. -/
def takesV (x : St) (n : Int) : St := { x with win := (Win.takeV x.win n).1 }
def timesV (x : St) (p : Int) : St := if x.timed = 0 then { x with timed := p, since := x.now } else x
theorem sendV_eq (x : St) : sendV x = (timesV (shows (takesV x (nextV x))) (x.win.s + nextV x), partV (takesV x (nextV x)) 2 x.win.s ((x.all.drop x.win.s.toNat).take (nextV x).toNat)) := rfl
theorem takes_ok {x : St} (ok : OkS x) (h : 0 < nextV x) : OkS (takesV x (nextV x)) ∧ (takesV x (nextV x)).win.s = x.win.s + nextV x ∧ (takesV x (nextV x)).win.a = x.win.a ∧ x.win.s + nextV x ≤ x.all.length := by
  obtain ⟨b1, b2, b3⟩ := next_bd h
  have hw := Win.Inv.bd ok.hw
  have hm := ok.hm
  unfold takesV
  rw [take_eq (by omega) b3]
  refine ⟨⟨ok.hi, ok.hu, ⟨hw.1, ?_, ?_, ?_, hw.2.2.2.2⟩, ok.hc, ?_, ok.hl, ok.n0, ok.n1, ok.s0, ok.s1⟩, rfl, rfl, by omega⟩
  all_goals (simp only []; omega)
theorem shows_ok {x : St} (ok : OkS x) : OkS (shows x) := ⟨ok.hi, ok.hu, ok.hw, ok.hc, ok.hm, ok.hl, ok.n0, ok.n1, ok.s0, ok.s1⟩
theorem times_ok {x : St} (ok : OkS x) (p : Int) : OkS (timesV x p) := by
  unfold timesV
  split
  · exact ⟨ok.hi, ok.hu, ok.hw, ok.hc, ok.hm, ok.hl, ok.n0, ok.n1, ok.n0, ok.n1⟩
  · exact ok
theorem times_same (x : St) (p : Int) : (timesV x p).win = x.win ∧ (timesV x p).all = x.all := by unfold timesV; split <;> exact ⟨rfl, rfl⟩
theorem send_ok {x : St} (ok : OkS x) (h : 0 < nextV x) : OkS (sendV x).1 ∧ (sendV x).1.win.s = x.win.s + nextV x ∧ (sendV x).1.all = x.all := by
  rw [sendV_eq]
  obtain ⟨k, e1, e2, e3⟩ := takes_ok ok h
  have t := times_same (shows (takesV x (nextV x))) (x.win.s + nextV x)
  exact ⟨times_ok (shows_ok k) _, by show (timesV _ _).win.s = _; rw [t.1]; exact e1, by show (timesV _ _).all = _; rw [t.2]; rfl⟩
theorem loop_stop (k : Nat) (x : St) (h : ¬ 0 < nextV x) : loopV k x = (x, []) := by
  cases k with
  | zero => rfl
  | succ k => unfold loopV; rw [if_neg h]
theorem loop_go (k : Nat) (x : St) (h : 0 < nextV x) : loopV (k + 1) x = ((loopV k (sendV x).1).1, (sendV x).2 :: (loopV k (sendV x).1).2) := by
  conv => lhs; unfold loopV
  rw [if_pos h]
theorem loop_ok : ∀ (k : Nat) (x : St), OkS x → OkS (loopV k x).1
  | 0, x, ok => ok
  | k + 1, x, ok => by
    by_cases h : 0 < nextV x
    · rw [loop_go k x h]; exact loop_ok k _ (send_ok ok h).1
    · rw [loop_stop _ x h]; exact ok
theorem loop_all : ∀ (k : Nat) (x : St), (loopV k x).1.all = x.all ∧ (loopV k x).1.at_ = x.at_ ∧ (loopV k x).1.heap = x.heap ∧ (loopV k x).1.clk = x.clk
  | 0, x => ⟨rfl, rfl, rfl, rfl⟩
  | k + 1, x => by
    by_cases h : 0 < nextV x
    · rw [loop_go k x h]
      obtain ⟨a, b, c, d⟩ := loop_all k (sendV x).1
      have e : (sendV x).1.all = x.all ∧ (sendV x).1.at_ = x.at_ ∧ (sendV x).1.heap = x.heap ∧ (sendV x).1.clk = x.clk := by
        rw [sendV_eq]; unfold timesV; dsimp only; split <;> exact ⟨rfl, rfl, rfl, rfl⟩
      exact ⟨a.trans e.1, b.trans e.2.1, c.trans e.2.2.1, d.trans e.2.2.2⟩
    · rw [loop_stop _ x h]; exact ⟨rfl, rfl, rfl, rfl⟩
/-- Behind the loop: is the end sent now? -/
def finsV (x : St) : Bool := x.closing && decide (x.win.s = x.all.length) && !x.fin
def closesV (x : St) : St × List Prt := if finsV x then ({ shows x with fin := true }, [partV x 6 x.all.length []]) else (x, [])
def lastV (x : St) : St := if x.ended && x.acked then doneV x false else x
theorem sendsV_open (x : St) (h : x.at_ = 4) : sendsV x = (restsV (lastV (closesV (loopV x.all.length x).1).1), (loopV x.all.length x).2 ++ (closesV (loopV x.all.length x).1).2) := by
  unfold sendsV
  rw [if_pos h]
  unfold closesV lastV finsV
  dsimp only
  split <;> rfl
theorem sendsV_else (x : St) (h : x.at_ ≠ 4) : sendsV x = (restsV x, []) := by unfold sendsV; rw [if_neg h]
theorem closes_ok {x : St} (ok : OkS x) : OkS (closesV x).1 := by
  unfold closesV
  split
  · exact ⟨ok.hi, ok.hu, ok.hw, ok.hc, ok.hm, ok.hl, ok.n0, ok.n1, ok.s0, ok.s1⟩
  · exact ok
theorem done_ok {x : St} (ok : OkS x) (b : Bool) : OkS (doneV x b) := ⟨ok.hi, ok.hu, ok.hw, ok.hc, ok.hm, ok.hl, ok.n0, ok.n1, ok.s0, ok.s1⟩
theorem last_ok {x : St} (ok : OkS x) : OkS (lastV x) := by
  unfold lastV
  split
  · exact done_ok ok _
  · exact ok
theorem rests_ok {x : St} (ok : OkS x) : OkS (restsV x) := by
  unfold restsV
  split
  · exact ⟨ok.hi, ok.hu, ok.hw, Rto.start_inv ok.hc _, ok.hm, ok.hl, ok.n0, ok.n1, ok.s0, ok.s1⟩
  split
  · exact ⟨ok.hi, ok.hu, ok.hw, Rto.stop_inv ok.hc, ok.hm, ok.hl, ok.n0, ok.n1, ok.s0, ok.s1⟩
  · exact ok
theorem sends_ok {x : St} (ok : OkS x) : OkS (sendsV x).1 := by
  by_cases h : x.at_ = 4
  · rw [sendsV_open x h]; exact rests_ok (last_ok (closes_ok (loop_ok _ x ok)))
  · rw [sendsV_else x h]; exact rests_ok ok
end Go.Proofs.Ytmgdbbbdhkfdmaa

/-
  What a call leaves that sends: the end and the parts, behind those that were told ahead.
-/
namespace Go.Proofs.Ytmgdbbbdhkfdmaa
set_option maxRecDepth 100000
open Go.RowKit Go.Deep

/-- A list of parts lies apart from the end. -/
theorem Pr.apart {S : Nat → Prop} {w : World} {H : Hd} {x : St} {v : Value} {L : List (Prt × Value)} (m : SI S w H x) (p : Pr S w v L) : ∀ b ∈ ob v, b ∉ H.own := by
  intro b hb hm
  have hb := mem_ob.1 hb
  obtain ⟨ev, L', n⟩ := m.hp
  simp only [Hd.own, List.mem_cons, List.mem_append] at hm
  rcases hm with rfl | rfl | rfl | rfl | h | h | h
  · exact own_ne p.own m.blk (by decide) hb
  · exact own_ne p.own m.win (by decide) hb
  · exact own_ne p.own m.clk (by decide) hb
  · exact own_ne p.own n.blk (by decide) hb
  · exact own_ne2 p.own n.kp.own (by decide) hb (mem_ob.1 h)
  · exact own_ne2 p.own m.buf (by decide) hb (mem_ob.1 h)
  · exact own_ne2 p.own m.unr (by decide) hb (mem_ob.1 h)
theorem Pr.lt {S : Nat → Prop} {w : World} {v : Value} {L : List (Prt × Value)} (p : Pr S w v L) : ∀ b ∈ ob v, b < w.heap.size := fun b hb => own_lt p.own (mem_ob.1 hb)
/-- What is sent of the buffer. -/
theorem SI.piece {S : Nat → Prop} {w : World} {H : Hd} {x : St} (m : SI S w H x) {k n : Nat} (h0 : 0 ≤ x.win.a) (hk : x.win.s = x.win.a + k) (h1 : 0 < n) (h2 : x.win.s + n ≤ x.all.length) :
    ∃ b c, H.bv = .slice (some ⟨b, 0, none⟩) (bufV x).length c ∧ k + n ≤ (bufV x).length ∧ (bufV x).length ≤ c ∧ c ≤ maxLen ∧ Byt (fun y => y ∈ ob H.bv) w (.slice (some ⟨b, k, none⟩) n (c - k)) ((x.all.drop x.win.s.toNat).take n) := by
  have hl : (bufV x).length = x.all.length - x.win.a.toNat := by unfold bufV; rw [List.length_drop]
  have hln : k + n ≤ (bufV x).length := by omega
  have hb : Byt (fun y => y ∈ ob H.bv) w H.bv (bufV x) := Sl.of_own m.buf (fun b hb => mem_ob.2 hb)
  rcases m.buf.2 with ⟨e, h⟩ | ⟨g, cap, cur, e, _, hg, h3, h4, _⟩
  · omega
  · refine ⟨g, cap, e, hln, h3, h4, ?_⟩
    rw [e] at hb ⊢
    have h5 := hb.cut (k := k) (by omega)
    rw [if_neg (by omega)] at h5
    have h6 := h5.take (k := n) (by rw [List.length_drop]; omega)
    simp only [Option.map_some] at h6
    rw [add_lit', Nat.zero_add] at h6
    have h7 : (bufV x).drop k = x.all.drop x.win.s.toNat := by unfold bufV; rw [List.drop_drop]; congr 1; omega
    rw [h7] at h6
    exact h6
def SPost (S : Nat → Prop) (w : World) (H : Hd) (v : Value) (L : List (Prt × Value)) (r : St × List Prt) (e : Ending) (w' : World) : Prop :=
  ∃ S' v' L', e = .returned v' ∧ L'.map (·.1) = L.map (·.1) ++ r.2 ∧ Ext w S S' ∧ SI S' w' H r.1 ∧ Pr S' w' v' L' ∧ (∀ b ∈ ob v', (b ∈ ob v ∨ w.heap.size ≤ b) ∧ ¬ S' b) ∧ Fr (ob v ++ H.own) w w'
def SendRel (S : Nat → Prop) (w : World) (H : Hd) (v : Value) (L : List (Prt × Value)) (R : St × List Prt) (N : Nat) (s1 : Value) (wr : World) : Prop :=
  ∃ S' L' y k, SI S' wr H y ∧ OkS y ∧ Pr S' wr s1 L' ∧ (∀ b ∈ ob s1, (b ∈ ob v ∨ w.heap.size ≤ b) ∧ ¬ S' b) ∧ Ext w S S' ∧ Fr (ob v ++ H.own) w wr ∧ y.all.length = N ∧ y.at_ = 4 ∧ (N : Int) - y.win.s ≤ (k : Nat) ∧ (L'.length : Int) + (N - y.win.s) ≤ 2000000 ∧
    (loopV k y).1 = R.1 ∧ L'.map (·.1) ++ (loopV k y).2 = L.map (·.1) ++ R.2
def sentAt (g : Nat) (N : Nat) (w : World) : Nat := match w.cell? ⟨g, 1, none⟩ with | some (.int _ s) => (N - s).toNat | _ => 0
theorem sentAt_eq {S : Nat → Prop} {w : World} {H : Hd} {x : St} (m : SI S w H x) (N : Nat) : sentAt H.gw N w = ((N : Int) - x.win.s).toNat := by
  unfold sentAt
  rw [Win.Win.c1 m.win]
/-- A part goes behind the list. -/
theorem app_part {S1 : Nat → Prop} {w1 w2 : World} {H : Hd} {x' : St} {v v' dv : Value} {L : List (Prt × Value)} {p : Prt} (m1 : SI S1 w1 H x') (p1 : Pr S1 w1 v L) (hv : ∀ b ∈ ob v, ¬ S1 b) (by1 : Byt S1 w1 dv p.d)
    (own : w2.ownsRow 0 27 5 v' (L.length + 1) (prs L ++ [.int .i64 p.flags, .int .u32 p.seq, .int .u32 p.ack, .int .u16 p.win, dv])) (f : Fr (ob v) w1 w2) (hn : ∀ b, v'.ownBlock = some b → v.ownBlock = some b ∨ (w1.heap.size ≤ b ∧ b < w2.heap.size)) :
    SI S1 w2 H x' ∧ Pr S1 w2 v' (L ++ [(p, dv)]) ∧ (∀ b ∈ ob v', (b ∈ ob v ∨ w1.heap.size ≤ b) ∧ ¬ S1 b) := by
  have hap := Pr.apart m1 p1
  have hm : ∀ y ∈ H.own, y ∉ ob v := fun y hy hm => hap y hm hy
  have hpub : ∀ b, S1 b → b < w1.heap.size := HP.pub' m1.hp
  have hmem : ∀ {y}, (y = H.g ∨ y = H.gw ∨ y = H.gc ∨ y = H.gh ∨ y ∈ ob H.kv ∨ y ∈ ob H.bv ∨ y ∈ ob H.uv) → y ∉ ob v := fun {y} hy => hm y (by
    simp only [Hd.own, List.mem_cons, List.mem_append]; rcases hy with h | h | h | h | h | h | h <;> simp [h])
  refine ⟨⟨m1.blk.fr f (hmem (by simp)), Blk.fr m1.win f (hmem (by simp)), Blk.fr m1.clk f (hmem (by simp)), m1.hp.ext' f (Ext.refl w1 S1) hv (fun y hy => hmem (by rcases List.mem_cons.1 hy with h | h <;> simp [h])) (fun b hb => Nat.lt_of_lt_of_le (hpub b hb) f.size),
    own_fr m1.buf f (fun b hb => hmem (by simp [mem_ob.2 hb])), own_fr m1.unr f (fun b hb => hmem (by simp [mem_ob.2 hb])), m1.nS, m1.bu⟩, p1.app own f hv by1, fun b hb => ?_⟩
  rcases hn b (mem_ob.1 hb) with h | h
  · exact ⟨.inl (mem_ob.2 h), hv b (mem_ob.2 h)⟩
  · exact ⟨.inr h.1, fun hs => by have := hpub b hs; omega⟩
theorem SI.sett {S : Nat → Prop} {w : World} {H : Hd} {x : St} (m : SI S w H x) (a b : Int) : SI S ((w.setCell ⟨H.g, 22, none⟩ (.int .i64 a)).setCell ⟨H.g, 23, none⟩ (.int .i64 b)) H { x with timed := a, since := b } :=
  m.set (((Fr.refl [H.g] w).setCell (p := ⟨H.g, 22, none⟩) (.inl (by simp)) _).setCell (p := ⟨H.g, 23, none⟩) (.inl (by simp)) _) (by simpa using (m.blk.set_ 22 (.int .i64 a)).set_ 23 (.int .i64 b)) rfl rfl rfl rfl rfl
theorem SI.setfin {S : Nat → Prop} {w : World} {H : Hd} {x : St} (m : SI S w H x) : SI S (w.setCell ⟨H.g, 19, none⟩ (.bool true)) H { x with fin := true } :=
  m.set ((Fr.refl [H.g] w).setCell (p := ⟨H.g, 19, none⟩) (.inl (by simp)) _) (by simpa using m.blk.set_ 19 (.bool true)) rfl rfl rfl rfl rfl
end Go.Proofs.Ytmgdbbbdhkfdmaa

/-
  What sends does.
-/
namespace Go.Proofs.Ytmgdbbbdhkfdmaa
set_option maxRecDepth 100000
open Go.RowKit Go.Deep

theorem alk {w : World} {b j : Nat} {v : Value} (h : w.cell? ⟨b, j, none⟩ = some v) (o : Obj) : (w.alloc o).cell? ⟨b, j, none⟩ = some v := fr_cell ((Fr.refl [] w).alloc o) h
theorem one5 (p : Prt) (A : Option Addr) (n c : Nat) : ∀ u ∈ ([.int .i64 p.flags, .int .u32 p.seq, .int .u32 p.ack, .int .u16 p.win, .slice A n c] : List Value), u.oneCell' = true := by
  intro u hu
  simp at hu
  rcases hu with rfl | rfl | rfl | rfl | rfl <;> rfl
/-- A part is laid into a row of its own, to be appended. -/
theorem lies_part {S1 S6 : Nat → Prop} {w5 w6 : World} {g : Nat} {p : Prt} {L1 : List (Prt × Value)} {v dv : Value} (pr : Pr S1 w5 v L1) (f : Fr [g] w5 w6) (hn : ∀ z ∈ ob v, z ≠ g) (by6 : Byt S6 w6 dv p.d) :
    (w6.alloc (.cells #[.int .i64 p.flags, .int .u32 p.seq, .int .u32 p.ack, .int .u16 p.win, dv] 27)).ownsRow 0 27 5 v L1.length (prs L1) ∧
    Sl (fun _ => True) (w6.alloc (.cells #[.int .i64 p.flags, .int .u32 p.seq, .int .u32 p.ack, .int .u16 p.win, dv] 27)) 5 (.slice (some ⟨w6.heap.size, 0, none⟩) 1 1) 1 [.int .i64 p.flags, .int .u32 p.seq, .int .u32 p.ack, .int .u16 p.win, dv] :=
  ⟨own_fr (own_fr pr.own f (fun b hb => by simpa using hn b (mem_ob.2 hb))) ((Fr.refl [] w6).alloc _) (by simp), Sl.of_own (pr_one by6).own (fun _ _ => trivial)⟩
/-- A round's end. -/
theorem send_round {S S1 S6 : Nat → Prop} {w wr w5 W7 w8 : World} {H : Hd} {v v1 v7 : Value} {L L1 : List (Prt × Value)} {R : St × List Prt} {N : Nat} {y : St} {k : Nat} {n : Int} {p : Prt} {dv : Value}
    (hs : y.all.length = N ∧ y.at_ = 4 ∧ (N : Int) - y.win.s ≤ (k : Nat) ∧ (L1.length : Int) + (N - y.win.s) ≤ 2000000 ∧ (loopV k y).1 = R.1 ∧ L1.map (·.1) ++ (loopV k y).2 = L.map (·.1) ++ R.2) (ok : OkS y) (hn : n = nextV y) (hpos : 0 < n)
    (hv1 : ∀ b ∈ ob v1, (b ∈ ob v ∨ w.heap.size ≤ b) ∧ ¬ S1 b) (x1 : Ext w S S1) (f1 : Fr (ob v ++ H.own) w wr) (f5 : Fr [H.gw] wr w5) (x6 : Ext w5.drew S1 S6) (f7 : Fr (ob v1 ++ H.own) w5 W7) (pr : Pr S6 W7 v7 (L1 ++ [(p, dv)]))
    (hn7 : ∀ b ∈ ob v7, (b ∈ ob v1 ∨ w5.heap.size ≤ b) ∧ ¬ S6 b) {x7 : St} (m7 : SI S6 W7 H x7) (f8 : Fr [H.g] W7 w8) (m8 : SI S6 w8 H (sendV y).1) (hp : (sendV y).2 = p) : SendRel S w H v L R N v7 w8 := by
  obtain ⟨h1, h2, h3, h4, h5, h6⟩ := hs
  rw [hn] at hpos
  obtain ⟨o1, o2, o3⟩ := send_ok ok hpos
  have hz1 := f1.size
  have hz5 := f5.size
  have hm := ok.hm
  have hw := Win.Inv.bd ok.hw
  obtain ⟨b1, b2, b3⟩ := next_bd hpos
  have hx : Ext w S S6 := x1.trans (by show w.heap.size ≤ w5.heap.size; omega) (show Ext w5 S1 S6 from x6)
  have hat : (sendV y).1.at_ = 4 := by rw [sendV_eq]; unfold timesV; dsimp only; split <;> exact h2
  obtain ⟨j, rfl⟩ : ∃ j, k = j + 1 := ⟨k - 1, by omega⟩
  rw [loop_go j y hpos] at h5 h6
  rw [hp] at h6
  refine ⟨S6, L1 ++ [(p, dv)], (sendV y).1, j, m8, o1, pr.fr f8 (fun z hz => by simp at hz; subst hz; exact m8.nS _ (.inl rfl)) (fun z hz => ?_) (fun _ h => h), fun b hb => ?_, hx, ?_, by rw [o3]; exact h1, hat, by rw [o2]; omega, by rw [o2]; simp; omega, h5, ?_⟩
  · simp
    rintro rfl
    exact Pr.apart m7 pr _ hz (by simp [Hd.own])
  · obtain ⟨q1, q2⟩ := hn7 b hb
    refine ⟨?_, q2⟩
    rcases q1 with q | q
    · exact (hv1 b q).1
    · exact .inr (by omega)
  · refine ((f1.trans (f5.mono (O' := ob v ++ H.own) (by simp [Hd.own])) (fun y hy => .inl hy)).trans f7 (fun z hz => ?_)).trans f8 (fun z hz => .inl (by simp at hz; subst hz; simp [Hd.own]))
    rcases List.mem_append.1 hz with hz | hz
    · rcases (hv1 z hz).1 with h | h
      · exact .inl (List.mem_append_left _ h)
      · exact .inr h
    · exact .inl (List.mem_append_right _ hz)
  · rw [List.map_append, List.append_assoc]
    exact h6
theorem Pr.own_fr' {S : Nat → Prop} {w w' : World} {H : Hd} {x : St} {v : Value} {L : List (Prt × Value)} {O : List Nat} (pr : Pr S w v L) (m : SI S w H x) (f : Fr O w w') (hO : ∀ y ∈ O, y ∈ H.own) : Pr S w' v L :=
  pr.fr f (fun y hy => m.off y (hO y hy)) (fun b hb hm => Pr.apart m pr b hb (hO b hm)) (fun _ h => h)
theorem tail_post {S S5 : Nat → Prop} {w w8 w9 : World} {H : Hd} {v v5 : Value} {L L5 : List (Prt × Value)} {R : St × List Prt} {y3 : St} (hL : L5.map (·.1) = L.map (·.1) ++ R.2) (hR : R.1 = restsV y3) (x5 : Ext w S S5) (m8 : SI S5 w8 H y3) (pr : Pr S5 w8 v5 L5)
    (hv5 : ∀ b ∈ ob v5, (b ∈ ob v ∨ w.heap.size ≤ b) ∧ ¬ S5 b) (F : Fr (ob v ++ H.own) w w8) (m9 : SI S5 w9 H (restsV y3)) (f9 : Fr [H.gc] w8 w9) : SPost S w H v L R (.returned v5) w9 :=
  ⟨S5, v5, L5, rfl, hL, x5, by rw [hR]; exact m9, pr.own_fr' m8 f9 (by simp [Hd.own]), hv5, F.trans f9 (fun y hy => .inl (by simp at hy; subst hy; simp [Hd.own]))⟩
set_option maxHeartbeats 8000000 in
theorem sends_si {S : Nat → Prop} {w : World} {H : Hd} {x : St} (m : SI S w H x) (ok : OkS x) {v : Value} {L : List (Prt × Value)} (pr : Pr S w v L) (hv : ∀ b ∈ ob v, ¬ S b) (hL : L.length ≤ 1000000) :
    Calls Try.prog 26 #[ptr H.g, v] w (SPost S w H v L (sendsV x)) := by
  obtain ⟨A, c, rfl, _, _⟩ := own_form pr.own
  by_cases h4 : x.at_ = 4
  · have hR := sendsV_open x h4
    generalize sendsV x = R at *
    have hlo := loop_ok x.all.length x ok
    have hla := loop_all x.all.length x
    have hrel : SendRel S w H (.slice A L.length c) L (loopV x.all.length x) x.all.length (.slice A L.length c) w :=
      ⟨S, L, x, x.all.length, m, ok, pr, fun b hb => ⟨.inl hb, hv b hb⟩, Ext.refl w S, Fr.refl _ w, rfl, h4, by have := Win.Inv.bd ok.hw; omega, by have := Win.Inv.bd ok.hw; have := ok.hl; omega, rfl, rfl⟩
    have c0 := (scells m.blk).c0
    rw [h4] at c0
    generalize loopV x.all.length x = Y at *
    generalize hN : x.all.length = N at *
    have HR := Lib.hid hR
    have HLO := Lib.hid hlo
    have HLA := Lib.hid hla
    have HRel := Lib.hid hrel
    have HLt := Lib.hid m.lt
    have HNl : Hid (N ≤ 1000000) := Lib.hid (by have := ok.hl; omega)
    clear m pr hv hR hlo hla hrel ok
    go_enter Try.func26, Try.ntmps26
    go_wp2_with fail
    go_loopw [1] (fun s1 wr => SendRel S w H (.slice A L.length c) L Y N s1 wr) (fun _ wr => sentAt H.gw N wr)
    case atStart => exact HRel.out
    case round =>
      obtain ⟨S1, L1, y, k, m1, ok1, pr1, hv1, x1, f1, hN1, ha1, hk1, hl1, hy1, hy2⟩ := hrel
      obtain ⟨A1, c1, rfl, _, _⟩ := own_form pr1.own
      have cs := scells m1.blk
      have c7 := cs.c7
      have c16 := cs.c16
      rw [hN1] at c7
      have hrm := fun W (fW : Fr [] wr W) => Win.room_fr H.gw y.win W 1000000000 (Int.le_refl _) ok1.hw (Blk.fr m1.win fW (by simp))
      have hnx : min 64 (min ((N : Int) - y.win.s) (Win.roomV y.win)) = nextV y := by unfold nextV; rw [hN1]
      have hwb := Win.Inv.bd ok1.hw
      have hsw : IntKind.i64.wrap ((N : Int) - y.win.s) = (N : Int) - y.win.s := IntWalk.i64_in _ (by have := HNl.out; have := ok1.hm; omega)
      have hsm := sentAt_eq m1 N
      have HS1 := Lib.hid (And.intro hN1 (And.intro ha1 (And.intro hk1 (And.intro hl1 (And.intro hy1 hy2)))))
      have M1 := Lib.hid m1
      have OK1 := Lib.hid ok1
      have PR1 := Lib.hid pr1
      have HV1 := Lib.hid hv1
      have X1 := Lib.hid x1
      have F1 := Lib.hid f1
      have HRM := Lib.hid hrm
      have HNX := Lib.hid hnx
      have HSM := Lib.hid hsm
      have HWB := Lib.hid hwb
      have HF1s := Lib.hid f1.size
      clear m1 ok1 pr1 hv1 x1 f1 hN1 ha1 hk1 hl1 hy1 hy2 cs hrm hnx hsm hwb
      go_wp2_with fail
      refine (Win.state_win H.gw y.win wr M1.out.win).mono ?_
      rintro e w2 ⟨rfl, f2⟩
      have d7 := fr_cell f2 c7
      have d16 := fr_cell f2 c16
      go_upto_region 4 with fail
      have f3 : Fr [] wr (w2.alloc (.cells #[.int .i64 y.win.a, .int .i64 y.win.s, .int .i64 y.win.m, .int .i64 y.win.l] 32)) := f2.alloc _
      have b3 := Blk.new w2 32 #[.int .i64 y.win.a, .int .i64 y.win.s, .int .i64 y.win.m, .int .i64 y.win.l]
      have HW3 := Lib.hid f2.size
      generalize w2.alloc (.cells #[.int .i64 y.win.a, .int .i64 y.win.s, .int .i64 y.win.m, .int .i64 y.win.l] 32) = w3 at *
      have e1 : w3.cell? ⟨w2.heap.size, 1, none⟩ = some (.int .i64 y.win.s) := by simpa using b3.cell 1
      have g1 := Grew.cell e1
      have g7 := Grew.cell (fr_cell f3 c7)
      have g16 := Grew.cell (fr_cell f3 c16)
      have hRG : ∀ p : Grew w3, Calls Try.prog 58 #[ptr H.gw] p.W fun e w' => e = .returned (.int .i64 (Win.roomV y.win)) ∧ ∃ q : Grew w3, w' = q.W := fun p => grew_call (HRM.out _ (f3.trans p.fr (by simp)))
      have HRG := Lib.hid hRG
      have F3 := Lib.hid f3
      have B3 := Lib.hid b3
      clear hRG f3 b3 e1 f2 d7 d16 c7 c16
      generalize Win.roomV y.win = rm at *
      refine wp_region_grew (by kernel_rfl) (by kernel_rfl) ?_
      repeat (go_big_quiet_step ((go_at_call 58; exact HRG.out _)))
      refine wpQuiet_nil ?_
      intro w4 f4
      have F4 := Lib.hid (F3.out.trans f4 (by simp))
      have B4 := Lib.hid (B3.out.fr f4 (by simp))
      clear f4 g1 g7 g16 HRG F3 B3
      have hbd := next_bd (x := y)
      generalize hnn : min 64 (min ((N : Int) - y.win.s) rm) = n at *
      rw [← HNX.out] at hbd
      clear hnn
      by_cases hpos : 0 < n
      · have hd0 : decide (n ≤ 0) = false := by simp; omega
        have m4 := M1.out.fr F4.out
        have cs := scells m4.blk
        have c16 := cs.c16
        obtain ⟨nb1, nb2, nb3⟩ := hbd hpos
        have htk := take_eq (v := y.win) (n := n) (by omega) nb3
        have hT := Win.take_win H.gw y.win n w4 1000000000 (Int.le_refl _) OK1.out.hw m4.win
        rw [htk] at hT
        have HT := Lib.hid hT
        have M4 := Lib.hid m4
        have HTK := Lib.hid htk
        clear hT m4 cs htk
        go_wp2_with fail
        refine HT.out.mono ?_
        rintro e w5 ⟨rfl, f5, W5⟩
        have m5 := M4.out.setw f5 W5 rfl
        have hy5 : ({ y with win := ⟨y.win.a, y.win.s + n, max y.win.m (y.win.s + n), y.win.l⟩ } : St) = takesV y n := by unfold takesV; rw [HTK.out]
        rw [hy5] at m5
        have hN1 := HS1.out.1
        have hwb := HWB.out
        obtain ⟨k', hk'⟩ : ∃ k' : Nat, y.win.s = y.win.a + k' := ⟨(y.win.s - y.win.a).toNat, by omega⟩
        obtain ⟨nn, rfl⟩ : ∃ nn : Nat, n = nn := ⟨n.toNat, by omega⟩
        obtain ⟨b, bc, hbv, q1, q2, q3, hby⟩ := M4.out.piece (k := k') (n := nn) hwb.1 hk' (by omega) (by rw [hN1]; rw [hN1] at nb2; omega)
        have b5 := B4.out.fr f5 (by have := HLt.out H.gw (by simp [Hd.own]); have := HW3.out; have := HF1s.out; simp; omega)
        have cs := scells m5.blk
        have c14 := cs.c14
        have c22 := cs.c22
        rw [hbv] at c14
        have e0 : w5.cell? ⟨w2.heap.size, 0, none⟩ = some (.int .i64 y.win.a) := by simpa using b5.cell 0
        unfold maxLen at q3
        have s1 : y.win.s - y.win.a = (k' : Int) := by omega
        have s2 : IntKind.i64.wrap (y.win.s - y.win.a) = (k' : Int) := by rw [s1]; exact IntWalk.i64_in _ (by omega)
        have s3 : IntKind.i64.wrap ((k' : Int) + nn) = (k' : Int) + nn := IntWalk.i64_in _ (by omega)
        have s3' : IntKind.i64.wrap (k' : Int) = (k' : Int) := IntWalk.i64_in _ (by omega)
        have s4 : (0 : Int) ≤ (k' : Int) := by omega
        have s5 : (k' : Int) ≤ (k' : Int) + nn := by omega
        have s6 : (k' : Int) + nn ≤ (bc : Int) := by omega
        have s7 : ((k' : Int) + nn).toNat = k' + nn := by omega
        have s8 : ¬ bc = k' := by omega
        have s9 : k' + nn - k' = nn := by omega
        have HK' := Lib.hid hk'
        have HBV := Lib.hid hbv
        clear hk'
        have HSL : Hid (Byt (fun y => y ∈ ob H.bv) w5 (.slice (some ⟨b, k', none⟩) nn (bc - k')) ((y.all.drop y.win.s.toNat).take nn)) := Lib.hid (hby.fr f5 (fun z hz hm => by simp at hz; subst hz; exact own_ne M4.out.buf M4.out.win (by decide) (mem_ob.1 hm)))
        have M5 := Lib.hid m5
        have F5 := Lib.hid f5
        have B5 := Lib.hid b5
        clear m5 f5 b5 cs hby W5 hwb hN1 c16
        have hnx := HNX.out
        have hse := sendV_eq y
        rw [← hnx] at hse
        have hnn : ((nn : Int)).toNat = nn := by omega
        rw [hnn] at hse
        have hpt : ∀ W, Fr [] w5 W → Calls Try.prog 33 #[ptr H.g, .int .i64 0, .int .i64 y.win.s, .slice (some ⟨b, k', none⟩) nn (bc - k')] W (PartPost S1 W H (shows (takesV y nn)) (partV (takesV y nn) 2 y.win.s ((y.all.drop y.win.s.toNat).take nn))) := fun W fW =>
          part_si (M5.out.fr fW) OK1.out.hi (by have := OK1.out.hu; show y.unread.length ≤ 100000; omega) 0 y.win.s (.inl rfl) (by have := HWB.out; omega) (by have := HWB.out; have := OK1.out.hm; have := OK1.out.hl; omega) _ _ _ (HSL.out.fr fW (by simp)) (fun z hz => by rintro rfl; exact M5.out.ne_b _ hz rfl) (by simp; omega)
        generalize partV (takesV y nn) 2 y.win.s ((y.all.drop y.win.s.toNat).take nn) = p at *
        have HSE := Lib.hid hse
        have HPt := Lib.hid hpt
        have K5 : Hid (∀ W, Fr [] w5 W → W.cell? ⟨H.g, 14, none⟩ = some (.slice (some ⟨b, 0, none⟩) (bufV y).length bc) ∧ W.cell? ⟨w2.heap.size, 0, none⟩ = some (.int .i64 y.win.a)) := Lib.hid (fun W fW => ⟨fr_cell fW c14, fr_cell fW e0⟩)
        have NG : Hid (w2.heap.size ≠ H.g) := Lib.hid (by have := HLt.out H.g (by simp [Hd.own]); have := HW3.out; have := HF1s.out; omega)
        clear hse hpt hnx hnn
        go_upto_region 7 with fail
        have hsA : (0 : Int) ≤ (bc : Int) := by omega
        obtain ⟨i0, hi0, hz0, hz1, hz2⟩ := info_parts info_part
        have HLM : Hid (L1.length + 1 ≤ maxLen) := Lib.hid (by unfold maxLen; have := HS1.out.2.2.2.1; have := HWB.out; have := OK1.out.hm; have := HS1.out.1; omega)
        have HLB : Hid ((L1.length + 1) * 48 ≤ 140737488355328) := Lib.hid (by have := HS1.out.2.2.2.1; have := HWB.out; have := OK1.out.hm; have := HS1.out.1; omega)
        have PR5 : Hid (Pr S1 w5 (.slice A1 L1.length c1) L1) := Lib.hid (PR1.out.fr (F4.out.mono (O' := [H.gw]) (by simp) |>.trans F5.out (fun y hy => .inl hy)) (fun z hz => by simp at hz; subst hz; exact M1.out.nS _ (.inr (.inl rfl))) (fun z hz => by simp; rintro rfl; exact own_ne PR1.out.own M1.out.win (by decide) (mem_ob.1 hz)) (fun _ h => h))
        have NAP : Hid (∀ z ∈ ob (.slice A1 L1.length c1), z ≠ H.g) := Lib.hid (fun z hz => by rintro rfl; exact own_ne PR1.out.own M1.out.blk (by decide) (mem_ob.1 hz))
        have NAW : Hid (∀ z ∈ ob (.slice A1 L1.length c1), z ≠ w2.heap.size) := Lib.hid (fun z hz => by have := Pr.lt PR1.out z hz; have := HW3.out; omega)
        have SEE7 : Hid (∀ (w6 W7 : World) (o : Obj), Fr [H.g] w5 w6 → w6.cell? ⟨H.g, 14, none⟩ = some (.slice (some ⟨b, 0, none⟩) (bufV y).length bc) → w6.cell? ⟨w2.heap.size, 0, none⟩ = some (.int .i64 y.win.a) → Fr (ob (.slice A1 L1.length c1)) (w6.alloc o) W7 →
            W7.cell? ⟨H.g, 14, none⟩ = some (.slice (some ⟨b, 0, none⟩) (bufV y).length bc) ∧ W7.cell? ⟨w2.heap.size, 0, none⟩ = some (.int .i64 y.win.a)) := Lib.hid (fun w6 W7 o f6 a b f7 => keep2 f7 (alk a o) (alk b o) (fun hm => NAP.out _ hm rfl) (fun hm => NAW.out _ hm rfl))
        clear c14 e0
        obtain ⟨c14, e0⟩ := K5.out _ (Fr.refl [] w5)
        go_region_held_law (fun w' => w'.cell? ⟨H.g, 14, none⟩ = some (.slice (some ⟨b, 0, none⟩) (bufV y).length bc) ∧ w'.cell? ⟨w2.heap.size, 0, none⟩ = some (.int .i64 y.win.a))
          (first
            | (with_reducible exact K5.out _ (Fr.refl [] w5).drew)
            | (with_reducible exact ⟨s0, s1⟩)
            | (with_reducible exact ⟨alk s0 _, alk s1 _⟩)
            | go_keep)
          (first
            | (go_at_call 33; refine (HPt.out _ (Fr.refl [] w5).drew).mono ?_; rintro e w6 ⟨S6, A6, c6, rfl, x6, by6, m6, f6⟩; have f6' : Fr [H.g] w5 w6 := (Fr.refl [H.g] w5).drew.trans f6 (fun y hy => .inl hy); have s0 : w6.cell? ⟨H.g, 14, none⟩ = some (.slice (some ⟨b, 0, none⟩) (bufV y).length bc) := (by rw [← HBV.out]; exact (scells m6.blk).c14); have s1 : w6.cell? ⟨w2.heap.size, 0, none⟩ = some (.int .i64 y.win.a) := (by simpa using (B5.out.fr f6' (by simpa using NG.out)).cell 0); have X6 := Lib.hid x6; have Y6 := Lib.hid by6; have M6 := Lib.hid m6; have F6 := Lib.hid f6'; have HW6 := Lib.hid (lies_part PR5.out f6' NAP.out by6); clear f6 f6' x6 by6 m6)
            | ((refine step_append_sl _ (by rfl) (.tmp 48) (.tmp 67) 40 (by rfl) 27 i0 (.agg #[.int .i64 0, .int .u32 0, .int .u32 0, .int .u16 0, .slice none 0 0]) 5 48 Try.underlying40 hi0 hz0 hz1 hz2 (by rfl) (by decide) (.slice A1 L1.length c1) L1.length (prs L1) (by rfl) HW6.out.1 (fun _ => True) (.slice (some ⟨w6.heap.size, 0, none⟩) 1 1) 1 [.int .i64 p.flags, .int .u32 p.seq, .int .u32 p.ack, .int .u16 p.win, .slice A6 p.d.length c6] (by rfl) HW6.out.2 (one5 _ _ _ _) HLM.out HLB.out (L1.length + 1) (by rfl) ?_); intro A7 c7 W7 h10 h11 h12; have H10 := Lib.hid h10; have H11 := Lib.hid h11; have H12 := Lib.hid h12; obtain ⟨s0, s1⟩ := SEE7.out _ _ _ F6.out s0 s1 h11; clear h10 h11 h12))
        have m6a := M6.out.fr ((Fr.refl [] w6).alloc (.cells #[.int .i64 p.flags, .int .u32 p.seq, .int .u32 p.ack, .int .u16 p.win, .slice A6 p.d.length c6] 27))
        have pr6 := PR5.out.fr (F6.out.alloc (.cells #[.int .i64 p.flags, .int .u32 p.seq, .int .u32 p.ack, .int .u16 p.win, .slice A6 p.d.length c6] 27)) (fun z hz => by simp at hz; subst hz; exact M5.out.nS _ (.inl rfl)) (fun z hz => by simpa using NAP.out z hz) X6.out.1
        have hv6 : ∀ z ∈ ob (.slice A1 L1.length c1), ¬ S6 z := fun z hz => X6.out.off (Pr.lt PR5.out z hz) (HV1.out z hz).2
        obtain ⟨m7, pr7, hn7⟩ := app_part m6a pr6 hv6 (Y6.out.fr ((Fr.refl [] w6).alloc _) (by simp)) H10.out H11.out H12.out
        have f7 : Fr (ob (.slice A1 L1.length c1) ++ H.own) w5 W7 := ((F6.out.alloc _).mono (by simp [Hd.own])).trans (H11.out.mono (O' := ob (.slice A1 L1.length c1) ++ H.own) (fun y hy => List.mem_append_left _ hy)) (fun y hy => .inl hy)
        have c22 := (scells m7.blk).c22
        have c21 := (scells m7.blk).c21
        have c23 := (scells m7.blk).c23
        have hlt7 := m7.blk.lt
        have z22 := m7.blk.frozen 22
        have z23 := m7.blk.frozen 23
        have hsn : IntKind.i64.wrap (y.win.s + nn) = y.win.s + nn := IntWalk.i64_in _ (by have := HWB.out; have := OK1.out.hm; have := OK1.out.hl; omega)
        have M7 := Lib.hid m7
        have PR7 := Lib.hid pr7
        have HN7 : Hid (∀ b ∈ ob (.slice A7 (L1.length + 1) c7), (b ∈ ob (.slice A1 L1.length c1) ∨ w5.heap.size ≤ b) ∧ ¬ S6 b) := Lib.hid (fun b hb => ⟨(hn7 b hb).1.imp id (fun h => by have := F6.out.size; simp at h; omega), (hn7 b hb).2⟩)
        have F7 := Lib.hid f7
        clear m6a pr6 hv6 m7 pr7 hn7 f7 s0 s1
        change W7.cell? ⟨H.g, 22, none⟩ = some (.int .i64 y.timed) at c22
        change W7.cell? ⟨H.g, 21, none⟩ = some (.int .i64 y.now) at c21
        change W7.cell? ⟨H.g, 23, none⟩ = some (.int .i64 y.since) at c23
        by_cases ht : y.timed = 0
        · rw [ht] at c22
          go_wp2_with fail
          have m8 := M7.out.sett (y.win.s + nn) y.now
          have f8 : Fr [H.g] W7 ((W7.setCell ⟨H.g, 22, none⟩ (.int .i64 (y.win.s + nn))).setCell ⟨H.g, 23, none⟩ (.int .i64 y.now)) := ((Fr.refl [H.g] W7).setCell (p := ⟨H.g, 22, none⟩) (.inl (by simp)) _).setCell (p := ⟨H.g, 23, none⟩) (.inl (by simp)) _
          have hvy : ({ shows (takesV y nn) with timed := y.win.s + nn, since := y.now } : St) = (sendV y).1 := by
            rw [HSE.out]
            show _ = timesV _ _
            unfold timesV
            rw [if_pos (show (shows (takesV y nn)).timed = 0 from ht)]
            rfl
          rw [hvy] at m8
          generalize (W7.setCell ⟨H.g, 22, none⟩ (.int .i64 (y.win.s + nn))).setCell ⟨H.g, 23, none⟩ (.int .i64 y.now) = w8 at *
          have hrl := send_round HS1.out OK1.out HNX.out hpos HV1.out X1.out F1.out (F4.out.mono (O' := [H.gw]) (by simp) |>.trans F5.out (fun y hy => .inl hy)) X6.out F7.out PR7.out HN7.out M7.out f8 m8 (by rw [HSE.out])
          have HRL := Lib.hid hrl
          have HMS : Hid (sentAt H.gw N w8 < sentAt H.gw N wr) := Lib.hid (by rw [HSM.out, sentAt_eq m8, (send_ok OK1.out (by rw [← HNX.out]; exact hpos)).2.1, ← HNX.out]; have := HS1.out.1; omega)
          clear m8 f8 hrl
          go_roundw
          case rel => exact HRL.out
          case measure => exact HMS.out
        · have htd : decide (y.timed = 0) = false := by simpa using ht
          have htq : (y.timed == 0) = false := by simpa using ht
          have hvy : shows (takesV y nn) = (sendV y).1 := by
            rw [HSE.out]
            show _ = timesV _ _
            unfold timesV
            rw [if_neg (show ¬ (shows (takesV y nn)).timed = 0 from ht)]
          have m8 := M7.out
          rw [hvy] at m8
          have hrl := send_round HS1.out OK1.out HNX.out hpos HV1.out X1.out F1.out (F4.out.mono (O' := [H.gw]) (by simp) |>.trans F5.out (fun y hy => .inl hy)) X6.out F7.out PR7.out HN7.out M7.out (Fr.refl [H.g] W7) m8 (by rw [HSE.out])
          have HRL := Lib.hid hrl
          have HMS : Hid (sentAt H.gw N W7 < sentAt H.gw N wr) := Lib.hid (by rw [HSM.out, sentAt_eq m8, (send_ok OK1.out (by rw [← HNX.out]; exact hpos)).2.1, ← HNX.out]; have := HS1.out.1; omega)
          clear m8 hrl hvy
          go_wp2_with fail
          go_roundw
          case rel => exact HRL.out
          case measure => exact HMS.out
      · have hd0 : decide (n ≤ 0) = true := by simp; omega
        have hst := loop_stop k y (by rw [← HNX.out]; exact hpos)
        obtain ⟨h1, h2, h3, h5, h6, h7⟩ := HS1.out
        rw [hst] at h6 h7
        simp only [List.append_nil] at h7
        have hRR := HR.out
        rw [← h6] at hRR
        have HRR := Lib.hid hRR
        have HLM7 := Lib.hid h7
        have hfv : finsV y = (y.closing && decide (y.win.s = (N : Int)) && !y.fin) := by unfold finsV; rw [h1]
        have hcv : closesV y = if finsV y then ({ shows y with fin := true }, [partV y 6 y.all.length []]) else (y, []) := rfl
        have hok2 := closes_ok OK1.out
        have m4 := M1.out.fr F4.out
        have cs := scells m4.blk
        have c7 := cs.c7
        have c11 := cs.c11
        have c16 := cs.c16
        have c19 := cs.c19
        rw [h1] at c7
        have c12 := cs.c12
        have c20 := cs.c20
        have z19 := m4.blk.frozen 19
        have pr4 := PR1.out.fr F4.out (by simp) (by simp) (fun _ h => h)
        have hHS : ∀ p : Grew w4, Calls Try.prog 34 #[ptr H.gw] p.W fun e w' => e = .returned (.agg #[.int .i64 y.win.a, .int .i64 y.win.s, .int .i64 y.win.m, .int .i64 y.win.l]) ∧ ∃ q : Grew w4, w' = q.W := fun p => grew_call (Win.state_win H.gw y.win _ (Blk.fr m4.win p.fr (by simp)))
        have HHS := Lib.hid hHS
        have y7 := Grew.cell c7
        have y11 := Grew.cell c11
        have y16 := Grew.cell c16
        have y19 := Grew.cell c19
        have M4 := Lib.hid m4
        have PR4 := Lib.hid pr4
        have HFV := Lib.hid hfv
        have HCV := Lib.hid hcv
        have OK2 := Lib.hid hok2
        have HH1 := Lib.hid h1
        have HN5 := Lib.hid h5
        have FW4 : Hid (Fr (ob (.slice A L.length c) ++ H.own) w w4) := Lib.hid (F1.out.trans F4.out (by simp))
        clear hst h1 h2 h3 h5 h6 h7 hRR hfv hcv hok2 cs hHS m4 pr4 HRM HSM HLA HLO B4 hbd
        go_wp2_with fail
        generalize hgf : finsV y = fv at *
        have HGF := Lib.hid hgf
        clear hgf
        go_cut [112] (fun s112 wx => s112 = .bool fv ∧ Fr [] w4 wx)
        case first =>
          generalize y.closing = cl at *
          generalize y.fin = fi at *
          rcases Bool.eq_false_or_eq_true cl with rfl | rfl
          · by_cases hsn : y.win.s = N
            · have hsd : decide (y.win.s = (N : Int)) = true := by simpa using hsn
              have hsq : (y.win.s == (N : Int)) = true := by simpa using hsn
              rcases Bool.eq_false_or_eq_true fi with rfl | rfl
              all_goals
                have hf := HFV.out
                rw [hsd] at hf
                simp only [Bool.not_true, Bool.not_false, Bool.and_true, Bool.true_and, Bool.and_false, Bool.false_and] at hf
                subst hf
                have HSN := Lib.hid hsn
                clear hsn
                refine wp_region_grew (by kernel_rfl) (by kernel_rfl) ?_
                repeat (go_big_quiet_step ((go_at_call 34; exact HHS.out _)))
                refine wpQuiet_nil ?_
                intro w5 f5
                go_wp2_with fail
                go_meet
                first | exact ⟨rfl, f5⟩ | exact f5
            · have hsd : decide (y.win.s = (N : Int)) = false := by simpa using hsn
              have hsq : (y.win.s == (N : Int)) = false := by simpa using hsn
              have hf := HFV.out
              rw [hsd] at hf
              simp only [Bool.not_true, Bool.not_false, Bool.and_true, Bool.true_and, Bool.and_false, Bool.false_and] at hf
              subst hf
              refine wp_region_grew (by kernel_rfl) (by kernel_rfl) ?_
              repeat (go_big_quiet_step ((go_at_call 34; exact HHS.out _)))
              refine wpQuiet_nil ?_
              intro w5 f5
              go_wp2_with fail
              go_meet
              first | exact ⟨rfl, f5⟩ | exact f5
          · have hf := HFV.out
            simp only [Bool.not_true, Bool.not_false, Bool.and_true, Bool.true_and, Bool.and_false, Bool.false_and] at hf
            subst hf
            refine wp_region_grew (by kernel_rfl) (by kernel_rfl) ?_
            repeat (go_big_quiet_step ((go_at_call 34; exact HHS.out _)))
            refine wpQuiet_nil ?_
            intro w5 f5
            go_wp2_with fail
            go_meet
            first | exact ⟨rfl, f5⟩ | exact f5
        case rest =>
          obtain ⟨rfl, fx⟩ := hcut
          have m5 := M4.out.fr fx
          have c7 := fr_cell fx c7
          have c12 := fr_cell fx c12
          have c20 := fr_cell fx c20
          have FX := Lib.hid fx
          have PR5 := Lib.hid (PR4.out.fr fx (by simp) (by simp) (fun _ h => h))
          clear c11 c16 c19 y7 y11 y16 y19 fx z19
          rcases Bool.eq_false_or_eq_true fv with rfl | rfl
          · have hpt : Calls Try.prog 33 #[ptr H.g, .int .i64 4, .int .i64 y.all.length, .slice none 0 0] wc (PartPost S1 wc H (shows y) (partV y 6 y.all.length [])) := part_si m5 OK1.out.hi (by have := OK1.out.hu; omega) 4 y.all.length (.inr (.inl rfl)) (by omega) (by have := OK1.out.hl; omega) _ [] (fun _ => False) Byt.nil (by simp) (by simp)
            have hcv := HCV.out
            rw [if_pos rfl] at hcv
            generalize partV y 6 y.all.length [] = p at *
            rw [HH1.out] at hpt
            have HPt := Lib.hid hpt
            have M5 := Lib.hid m5
            have HCV2 := Lib.hid hcv
            obtain ⟨i0, hi0, hz0, hz1, hz2⟩ := info_parts info_part
            have HLM : Hid (L1.length + 1 ≤ maxLen) := Lib.hid (by unfold maxLen; have := HN5.out; have := HWB.out; have := OK1.out.hm; have := HH1.out; omega)
            have HLB : Hid ((L1.length + 1) * 48 ≤ 140737488355328) := Lib.hid (by have := HN5.out; have := HWB.out; have := OK1.out.hm; have := HH1.out; omega)
            have NAP : Hid (∀ z ∈ ob (.slice A1 L1.length c1), z ≠ H.g) := Lib.hid (fun z hz => by rintro rfl; exact own_ne PR1.out.own M1.out.blk (by decide) (mem_ob.1 hz))
            clear hpt m5 hcv c12 c20
            go_wp2_with fail
            refine HPt.out.mono ?_
            rintro e w6 ⟨S6, A6, c6, rfl, x6, by6, m6, f6⟩
            have HW6 := Lib.hid (lies_part PR5.out f6 NAP.out by6)
            have X6 := Lib.hid x6
            have Y6 := Lib.hid by6
            have M6 := Lib.hid m6
            have F6 := Lib.hid f6
            clear f6 x6 by6 m6 c7
            go_upto_region 12 with (at_builtin; refine wpList_append_sl _ rfl (.tmp 113) (.tmp 121) 40 rfl 27 i0 (.agg #[.int .i64 0, .int .u32 0, .int .u32 0, .int .u16 0, .slice none 0 0]) 5 48 Try.underlying40 hi0 hz0 hz1 hz2 rfl (by decide) (.slice A1 L1.length c1) L1.length (prs L1) (by rfl) HW6.out.1 (fun _ => True) (.slice (some ⟨w6.heap.size, 0, none⟩) 1 1) 1 [.int .i64 p.flags, .int .u32 p.seq, .int .u32 p.ack, .int .u16 p.win, .slice A6 p.d.length c6] (by rfl) HW6.out.2 (one5 _ _ _ _) HLM.out HLB.out (L1.length + 1) rfl ?_; intro A7 c7 W7 h10 h11 h12; have H10 := Lib.hid h10; have H11 := Lib.hid h11; have H12 := Lib.hid h12; clear h10 h11 h12)
            have m6a := M6.out.fr ((Fr.refl [] w6).alloc (.cells #[.int .i64 p.flags, .int .u32 p.seq, .int .u32 p.ack, .int .u16 p.win, .slice A6 p.d.length c6] 27))
            have pr6 := PR5.out.fr (F6.out.alloc (.cells #[.int .i64 p.flags, .int .u32 p.seq, .int .u32 p.ack, .int .u16 p.win, .slice A6 p.d.length c6] 27)) (fun z hz => by simp at hz; subst hz; exact M5.out.nS _ (.inl rfl)) (fun z hz => by simpa using NAP.out z hz) X6.out.1
            have hv6 : ∀ z ∈ ob (.slice A1 L1.length c1), ¬ S6 z := fun z hz => X6.out.off (Pr.lt PR5.out z hz) (HV1.out z hz).2
            obtain ⟨m7, pr7, hn7⟩ := app_part m6a pr6 hv6 (Y6.out.fr ((Fr.refl [] w6).alloc _) (by simp)) H10.out H11.out H12.out
            have f7 : Fr (ob (.slice A1 L1.length c1) ++ H.own) wc W7 := ((F6.out.alloc _).mono (by simp [Hd.own])).trans (H11.out.mono (O' := ob (.slice A1 L1.length c1) ++ H.own) (fun y hy => List.mem_append_left _ hy)) (fun y hy => .inl hy)
            have c19 := (scells m7.blk).c19
            have c12 := (scells m7.blk).c12
            have c20 := (scells m7.blk).c20
            have hlt7 := m7.blk.lt
            have z19 := m7.blk.frozen 19
            have M7 := Lib.hid m7
            have PR7 := Lib.hid pr7
            have HN7 := Lib.hid hn7
            have F7 := Lib.hid f7
            clear m6a pr6 hv6 m7 pr7 hn7 f7
            go_upto_region 13 with fail
            have m8 := M7.out.setfin
            have f8 : Fr [H.g] W7 (W7.setCell ⟨H.g, 19, none⟩ (.bool true)) := (Fr.refl [H.g] W7).setCell (p := ⟨H.g, 19, none⟩) (.inl (by simp)) _
            generalize W7.setCell ⟨H.g, 19, none⟩ (.bool true) = w8 at *
            have hok2 := OK2.out
            rw [HCV2.out] at hok2
            have hR8 : R.1 = restsV (lastV (closesV y).1) := by rw [HRR.out]
            have hL8 : (L1 ++ [(p, Value.slice A6 p.d.length c6)]).map (·.1) = L.map (·.1) ++ R.2 := by rw [HRR.out]; dsimp only; rw [HCV2.out, List.map_append, HLM7.out, List.append_assoc]; rfl
            rw [HCV2.out] at hR8
            dsimp only at hR8 hok2
            have PR8 := Lib.hid (PR7.out.own_fr' M7.out f8 (by simp [Hd.own]))
            have hz4 := F4.out.size
            have hzx := FX.out.size
            have hzf := F1.out.size
            have HV8 : Hid (∀ b ∈ ob (.slice A7 (L1.length + 1) c7), (b ∈ ob (.slice A L.length c) ∨ w.heap.size ≤ b) ∧ ¬ S6 b) := Lib.hid (fun b hb => by
              obtain ⟨q1, q2⟩ := HN7.out b hb
              refine ⟨?_, q2⟩
              rcases q1 with q | q
              · exact (HV1.out b q).1
              · have := F6.out.size; simp at q; exact .inr (by omega))
            have X8 : Hid (Ext w S S6) := Lib.hid (X1.out.trans (by omega) X6.out)
            have F8 : Hid (Fr (ob (.slice A L.length c) ++ H.own) w w8) := Lib.hid (((FW4.out.trans FX.out (by simp)).trans F7.out (fun z hz => by
              rcases List.mem_append.1 hz with hz | hz
              · rcases (HV1.out z hz).1 with h | h
                · exact .inl (List.mem_append_left _ h)
                · exact .inr h
              · exact .inl (List.mem_append_right _ hz))).trans f8 (fun z hz => .inl (by simp at hz; subst hz; simp [Hd.own])))
            have c12 := (scells m8.blk).c12
            have c20 := (scells m8.blk).c20
            have M8 := Lib.hid m8
            have OK3 := Lib.hid hok2
            have HR8 := Lib.hid hR8
            have HL8 := Lib.hid hL8
            clear OK2 hok2 hR8 hL8 m8 f8 F7 HN7 PR7 M7 c19 z19 hlt7 HCV2 HCV HRR
            generalize hy2 : ({ shows y with fin := true } : St) = y2 at *
            have OK2 := OK3
            generalize hen : y2.ended = en at *
            generalize hac : y2.acked = ac at *
            rcases Bool.eq_false_or_eq_true en with rfl | rfl
            · rcases Bool.eq_false_or_eq_true ac with rfl | rfl
              · have hlv : lastV y2 = doneV y2 false := by unfold lastV; rw [hen, hac]; rfl
                go_wp2_with fail
                refine (done_si M8.out false).mono ?_
                rintro e w9 ⟨rfl, m9, f9⟩
                have M9 := Lib.hid m9
                have F9 := Lib.hid f9
                clear m9 f9
                go_wp2_with fail
                refine (rests_si M9.out OK2.out.hc _ _ _).mono ?_
                rintro e wa ⟨rfl, ma, fa⟩
                go_wp2_with fail
                go_ret
                exact tail_post HL8.out (by rw [HR8.out, hlv]) X8.out M9.out (PR8.out.own_fr' M8.out F9.out (by simp [Hd.own])) HV8.out (F8.out.trans F9.out (fun y hy => .inl (by simp at hy; subst hy; simp [Hd.own]))) ma fa
              · have hlv : lastV y2 = y2 := by unfold lastV; rw [hen, hac]; rfl
                go_wp2_with fail
                refine (rests_si M8.out OK2.out.hc _ _ _).mono ?_
                rintro e wa ⟨rfl, ma, fa⟩
                go_wp2_with fail
                go_ret
                exact tail_post HL8.out (by rw [HR8.out, hlv]) X8.out M8.out PR8.out HV8.out F8.out ma fa
            · have hlv : lastV y2 = y2 := by unfold lastV; rw [hen]; rfl
              go_wp2_with fail
              refine (rests_si M8.out OK2.out.hc _ _ _).mono ?_
              rintro e wa ⟨rfl, ma, fa⟩
              go_wp2_with fail
              go_ret
              exact tail_post HL8.out (by rw [HR8.out, hlv]) X8.out M8.out PR8.out HV8.out F8.out ma fa
          · have hcv := HCV.out
            rw [if_neg (by simp)] at hcv
            have hok2 := OK2.out
            rw [hcv] at hok2
            have hR8 : R.1 = restsV (lastV (closesV y).1) := by rw [HRR.out]
            have hL8 : L1.map (·.1) = L.map (·.1) ++ R.2 := by rw [HRR.out]; dsimp only; rw [hcv, HLM7.out, List.append_nil]
            rw [hcv] at hR8
            dsimp only at hR8 hok2
            have M8 := Lib.hid m5
            have PR8 := PR5
            have HV8 := HV1
            have X8 := X1
            have F8 := Lib.hid (FW4.out.trans FX.out (by simp))
            have OK3 := Lib.hid hok2
            have HR8 := Lib.hid hR8
            have HL8 := Lib.hid hL8
            clear OK2 hok2 hR8 hL8 m5 hcv HCV HRR
            generalize hy2 : y = y2 at *
            have OK2 := OK3
            generalize hen : y2.ended = en at *
            generalize hac : y2.acked = ac at *
            rcases Bool.eq_false_or_eq_true en with rfl | rfl
            · rcases Bool.eq_false_or_eq_true ac with rfl | rfl
              · have hlv : lastV y2 = doneV y2 false := by unfold lastV; rw [hen, hac]; rfl
                go_wp2_with fail
                refine (done_si M8.out false).mono ?_
                rintro e w9 ⟨rfl, m9, f9⟩
                have M9 := Lib.hid m9
                have F9 := Lib.hid f9
                clear m9 f9
                go_wp2_with fail
                refine (rests_si M9.out OK2.out.hc _ _ _).mono ?_
                rintro e wa ⟨rfl, ma, fa⟩
                go_wp2_with fail
                go_ret
                exact tail_post HL8.out (by rw [HR8.out, hlv]) X8.out M9.out (PR8.out.own_fr' M8.out F9.out (by simp [Hd.own])) HV8.out (F8.out.trans F9.out (fun y hy => .inl (by simp at hy; subst hy; simp [Hd.own]))) ma fa
              · have hlv : lastV y2 = y2 := by unfold lastV; rw [hen, hac]; rfl
                go_wp2_with fail
                refine (rests_si M8.out OK2.out.hc _ _ _).mono ?_
                rintro e wa ⟨rfl, ma, fa⟩
                go_wp2_with fail
                go_ret
                exact tail_post HL8.out (by rw [HR8.out, hlv]) X8.out M8.out PR8.out HV8.out F8.out ma fa
            · have hlv : lastV y2 = y2 := by unfold lastV; rw [hen]; rfl
              go_wp2_with fail
              refine (rests_si M8.out OK2.out.hc _ _ _).mono ?_
              rintro e wa ⟨rfl, ma, fa⟩
              go_wp2_with fail
              go_ret
              exact tail_post HL8.out (by rw [HR8.out, hlv]) X8.out M8.out PR8.out HV8.out F8.out ma fa
  · have hR := sendsV_else x h4
    rw [hR]
    have c0 := (scells m.blk).c0
    have hd : decide (x.at_ = 4) = false := by simpa using h4
    have hq : (x.at_ == 4) = false := by simpa using h4
    have hn : (x.at_ != 4) = true := by simpa using h4
    have M := Lib.hid m
    have OK := Lib.hid ok
    have PR := Lib.hid pr
    have HV := Lib.hid hv
    clear m ok pr hv hR
    go_enter Try.func26, Try.ntmps26
    go_wp2_with fail
    refine (rests_si M.out OK.out.hc _ _ _).mono ?_
    rintro e wa ⟨rfl, ma, fa⟩
    go_wp2_with fail
    go_ret
    exact tail_post (y3 := x) (by simp) rfl (Ext.refl w S) M.out PR.out (fun b hb => ⟨.inl hb, HV.out b hb⟩) (Fr.refl _ w) ma fa
end Go.Proofs.Ytmgdbbbdhkfdmaa

/-
  What holds of an end whatever comes: its bounds, at each step.
-/
namespace Go.Proofs.Ytmgdbbbdhkfdmaa
set_option maxRecDepth 100000
open Go.RowKit

theorem bst_is (is : Pc → Bool) (lt : Pc → Pc → Bool) (l : List Pc) : ∀ k, 0 ≤ bestV is lt l k → is (l.getD (bestV is lt l k).toNat default) = true
  | 0 => by simp [bestV]
  | k + 1 => by
    rw [best_succ]
    by_cases h : (is (l.getD k default) && (decide (bestV is lt l k < 0) || lt (l.getD k default) (l.getD (bestV is lt l k).toNat default))) = true
    · rw [if_pos h]
      intro _
      rw [Bool.and_eq_true] at h
      simpa using h.1
    · rw [if_neg h]
      exact bst_is is lt l k
theorem ready_early {next : Int} {l : List Pc} (h : 0 ≤ readyV next l) : (l.getD (readyV next l).toNat default).at_ ≤ next := by
  have : early next (l.getD (readyV next l).toNat default) = true := bst_is (early next) ahead l l.length h
  exact of_decide_eq_true this
theorem take_kb {p : Pc} {next B : Int} (h1 : next ≤ B) (hp : p.at_ + p.d.length ≤ B) (ha : p.at_ ≤ next) : next ≤ (takeV next p).2 ∧ (takeV next p).2 ≤ B ∧ ((takeV next p).1.length : Int) = (takeV next p).2 - next := by
  unfold takeV Pc.beh
  by_cases hb : p.at_ + p.d.length ≤ next
  · rw [if_pos hb]
    exact ⟨Int.le_refl _, h1, by simp⟩
  · rw [if_neg hb]
    refine ⟨by simp only []; omega, hp, ?_⟩
    simp only [List.length_drop]
    omega
/-- Pieces that end by B: so does what is told of them. -/
theorem drain_kb (B : Int) : ∀ (n : Nat) (next : Int) (l : List Pc), next ≤ B → (∀ p ∈ l, p.at_ + p.d.length ≤ B) →
    next ≤ (drainV n next l).1 ∧ (drainV n next l).1 ≤ B ∧ ((drainV n next l).2.2.length : Int) = (drainV n next l).1 - next
  | 0, next, l, h1, _ => ⟨Int.le_refl _, h1, by simp [drainV]⟩
  | n + 1, next, l, h1, hs => by
    unfold drainV
    by_cases hr : readyV next l < 0
    · rw [if_pos hr]
      exact ⟨Int.le_refl _, h1, by simp⟩
    · rw [if_neg hr]
      have hb := ready_bd next l
      have hlt : (readyV next l).toNat < l.length := by omega
      have hp := hs _ (getD_mem hlt)
      obtain ⟨t1, t2, t3⟩ := take_kb h1 hp (ready_early (by omega))
      generalize hpp : l.getD (readyV next l).toNat default = p at *
      obtain ⟨d1, d2, d3⟩ := drain_kb B n (takeV next p).2 (l.eraseIdx (readyV next l).toNat) t2 (fun q hq => hs q (List.mem_of_mem_eraseIdx hq))
      refine ⟨by simp only []; omega, d2, ?_⟩
      simp only [List.length_append]
      omega
theorem put_kb {h : Hp} {B a : Int} {d : List Int} (h1 : h.next ≤ B) (hk : ∀ p ∈ h.kept, p.at_ + p.d.length ≤ B) (ha : a + d.length ≤ B) :
    h.next ≤ (putV h a d).1.next ∧ (putV h a d).1.next ≤ B ∧ ((putV h a d).2.1.length : Int) = (putV h a d).1.next - h.next ∧ ∀ p ∈ (putV h a d).1.kept, p.at_ + p.d.length ≤ B := by
  have h0 : h.next ≤ h.next ∧ h.next ≤ B ∧ ((([] : List Int).length : Nat) : Int) = h.next - h.next ∧ ∀ p ∈ h.kept, p.at_ + p.d.length ≤ B := ⟨Int.le_refl _, h1, by simp, hk⟩
  unfold putV
  split
  · exact h0
  split
  · exact h0
  split
  · exact h0
  rename_i g1 g2 g3
  split
  · rename_i g4
    obtain ⟨d1, d2, d3⟩ := drain_kb B h.kept.length (a + d.length) h.kept ha hk
    refine ⟨by simp only []; omega, d2, ?_, fun p hp => hk p (drain_mem _ _ _ _ hp)⟩
    simp only [List.length_append, List.length_drop]
    omega
  split
  · exact h0
  split
  · exact h0
  · refine ⟨Int.le_refl _, h1, by simp, fun p hp => ?_⟩
    rcases List.mem_append.1 hp with hp | hp
    · exact hk p hp
    · rw [List.mem_singleton] at hp
      subst hp
      exact ha
theorem endV_same (h : Hp) (a : Int) : (endV h a).1.next = h.next ∧ (endV h a).1.kept = h.kept := by
  unfold endV
  (repeat' split) <;> exact ⟨rfl, rfl⟩

/-- The bounds of an end. -/
structure Ok (x : St) : Prop where
  s : OkS x
  at0 : 1 ≤ x.at_
  at5 : x.at_ ≤ 5
  un : (x.unread.length : Int) ≤ x.heap.next
  kb : ∀ p ∈ x.heap.kept, p.at_ + p.d.length ≤ x.heap.next - x.unread.length + 1024
  nb : x.now ≤ 1000000
theorem ack_inv {v : Win.Wn} (h : Win.Inv 1000000000 v) (hm : v.m ≤ 1000000) (u r : Int) : Win.Inv 1000000000 (Win.ackV v u r).1 := by
  have hb := Win.Inv.bd h
  unfold Win.ackV
  split
  · exact h
  split
  · exact h
  split
  · exact h
  · refine ⟨?_, ?_, ?_, ?_, ?_⟩ <;> simp only [] <;> omega
theorem okS_win {x : St} (ok : OkS x) {v : Win.Wn} (h : Win.Inv 1000000000 v) (hm : v.m ≤ x.all.length) : OkS { x with win := v } := ⟨ok.hi, ok.hu, h, ok.hc, hm, ok.hl, ok.n0, ok.n1, ok.s0, ok.s1⟩
theorem data1_same (x : St) (p : Prt) : (data1V x p).next = x.heap.next ∧ (data1V x p).kept = x.heap.kept := by
  unfold data1V
  split
  · exact endV_same _ _
  · exact ⟨rfl, rfl⟩
section
variable {x : St} (ok : Ok x)
include ok
theorem Ok.shows : Ok (shows x) := ⟨shows_ok ok.s, ok.at0, ok.at5, ok.un, ok.kb, ok.nb⟩
theorem Ok.done (b : Bool) : Ok (doneV x b) := ⟨done_ok ok.s b, by show (1 : Int) ≤ 5; decide, by show (5 : Int) ≤ 5; decide, ok.un, ok.kb, ok.nb⟩
theorem Ok.peer (q a : Int) (h0 : 1 ≤ a) (h5 : a ≤ 5) : Ok { x with peer := q, at_ := a } := ⟨⟨ok.s.hi, ok.s.hu, ok.s.hw, ok.s.hc, ok.s.hm, ok.s.hl, ok.s.n0, ok.s.n1, ok.s.s0, ok.s.s1⟩, h0, h5, ok.un, ok.kb, ok.nb⟩
theorem Ok.peer' (q : Int) : Ok { x with peer := q } := ⟨⟨ok.s.hi, ok.s.hu, ok.s.hw, ok.s.hc, ok.s.hm, ok.s.hl, ok.s.n0, ok.s.n1, ok.s.s0, ok.s.s1⟩, ok.at0, ok.at5, ok.un, ok.kb, ok.nb⟩
theorem Ok.opens (r : Int) : Ok (opensV x r) :=
  ⟨⟨ok.s.hi, ok.s.hu, ack_inv ok.s.hw (by have := ok.s.hm; have := ok.s.hl; omega) 0 r, Rto.stop_inv ok.s.hc, by show (Win.ackV x.win 0 r).1.m ≤ _; rw [ack_m]; exact ok.s.hm, ok.s.hl, ok.s.n0, ok.s.n1, ok.s.s0, ok.s.s1⟩, by show (1 : Int) ≤ 4; decide, by show (4 : Int) ≤ 5; decide, ok.un, ok.kb, ok.nb⟩
theorem Ok.acks (p : Prt) : Ok (acksV x p) := by
  have hw := ack_inv ok.s.hw (by have := ok.s.hm; have := ok.s.hl; omega) (uptoV x p) p.win
  have hm : (Win.ackV x.win (uptoV x p) p.win).1.m ≤ x.all.length := by rw [ack_m]; exact ok.s.hm
  unfold acksV
  generalize (Win.ackV x.win (uptoV x p) p.win).1 = v at *
  generalize (Win.ackV x.win (uptoV x p) p.win).2.1 = more
  unfold acks2V
  split
  · exact ⟨okS_win ok.s hw hm, ok.at0, ok.at5, ok.un, ok.kb, ok.nb⟩
  split
  · exact ⟨⟨ok.s.hi, ok.s.hu, hw, Rto.stop_inv (Rto.sample_inv ok.s.hc _), hm, ok.s.hl, ok.s.n0, ok.s.n1, ok.s.s0, ok.s.s1⟩, ok.at0, ok.at5, ok.un, ok.kb, ok.nb⟩
  · exact ⟨⟨ok.s.hi, ok.s.hu, hw, Rto.stop_inv ok.s.hc, hm, ok.s.hl, ok.s.n0, ok.s.n1, ok.s.s0, ok.s.s1⟩, ok.at0, ok.at5, ok.un, ok.kb, ok.nb⟩
theorem Ok.data (p : Prt) (hd : p.d.length ≤ 100) : Ok (dataV x p) := by
  have hi := ok.s.hi
  have h1 : Inv (data1V x p) := by unfold data1V; split; exact end_inv hi _; exact hi
  obtain ⟨e1, e2⟩ := data1_same x p
  have hu := ok.s.hu
  rw [dataV_eq]
  split
  · rename_i g
    obtain ⟨g1, g2⟩ := g
    have hk := put_kb (h := data1V x p) (B := x.heap.next - x.unread.length + 1024) (a := placeV p.seq x.peer x.heap.next) (d := p.d) (by omega) (by rw [e2]; exact ok.kb) (by omega)
    have hi2 := put_inv h1 (placeV p.seq x.peer x.heap.next) p.d
    have hun := ok.un
    generalize putV (data1V x p) (placeV p.seq x.peer x.heap.next) p.d = t at *
    obtain ⟨k1, k2, k3, k4⟩ := hk
    rw [e1] at k1 k3
    refine ⟨⟨hi2, ?_, ok.s.hw, ok.s.hc, ok.s.hm, ok.s.hl, ok.s.n0, ok.s.n1, ok.s.s0, ok.s.s1⟩, ok.at0, ok.at5, ?_, ?_, ok.nb⟩
    · simp only [List.length_append]; omega
    · simp only [List.length_append]; omega
    · intro q hq
      have := k4 q hq
      simp only [List.length_append]
      omega
  · refine ⟨⟨h1, hu, ok.s.hw, ok.s.hc, ok.s.hm, ok.s.hl, ok.s.n0, ok.s.n1, ok.s.s0, ok.s.s1⟩, ok.at0, ok.at5, by show _ ≤ (data1V x p).next; rw [e1]; exact ok.un, ?_, ok.nb⟩
    show ∀ q ∈ (data1V x p).kept, _ ≤ (data1V x p).next - _ + _
    rw [e1, e2]
    exact ok.kb
theorem Ok.open_ (p : Prt) (hd : p.d.length ≤ 100) : Ok (openV x p).1 := by
  unfold openV
  split
  · split
    · exact ok.done true
    · exact ok
  split
  · exact ok.shows
  split
  · exact ok
  dsimp only
  have h1 := ok.acks p
  split
  · split
    · exact h1
    · exact h1.data p hd
  · split
    · exact h1.shows
    · exact (h1.data p hd).shows
theorem Ok.listen (p : Prt) : Ok (listenV x p).1 := by
  unfold listenV
  split
  · exact (ok.peer p.seq 3 (by decide) (by decide)).shows
  · exact ok
theorem Ok.calls (p : Prt) : Ok (callsV x p).1 := by
  unfold callsV
  split
  · exact ok.listen p
  split
  · exact ok
  split
  · exact ((ok.peer' p.seq).opens p.win).shows
  split
  · exact ok.done true
  · exact ok
theorem Ok.heard (p : Prt) (hd : p.d.length ≤ 100) : Ok (heardV x p).1 := by
  unfold heardV
  split
  · exact ok.listen p
  split
  · exact (ok.opens p.win).shows
  split
  · exact ok.open_ p hd
  split
  · exact ok
  · exact (ok.opens p.win).open_ p hd
theorem Ok.ended (p : Prt) : Ok (endedV x p).1 := by
  unfold endedV
  split
  · exact ok
  · exact ok.shows
theorem Ok.comes (p : Prt) (hd : p.d.length ≤ 100) : Ok (comesV x p).1 := by
  unfold comesV
  split
  · exact ok.listen p
  split
  · exact ok.calls p
  split
  · exact ok.heard p hd
  split
  · exact ok.open_ p hd
  · exact ok.ended p
theorem Ok.rests : Ok (restsV x) := by
  have h := rests_ok ok.s
  unfold restsV at h ⊢
  split
  · rw [if_pos (by assumption)] at h
    exact ⟨h, ok.at0, ok.at5, ok.un, ok.kb, ok.nb⟩
  rw [if_neg (by assumption)] at h
  split
  · rw [if_pos (by assumption)] at h
    exact ⟨h, ok.at0, ok.at5, ok.un, ok.kb, ok.nb⟩
  · exact ok
theorem Ok.send (h : 0 < nextV x) : Ok (sendV x).1 := by
  have hs := (send_ok ok.s h).1
  have e : (sendV x).1.at_ = x.at_ ∧ (sendV x).1.heap = x.heap ∧ (sendV x).1.unread = x.unread ∧ (sendV x).1.now = x.now := by
    rw [sendV_eq]; unfold timesV; dsimp only; split <;> exact ⟨rfl, rfl, rfl, rfl⟩
  exact ⟨hs, by rw [e.1]; exact ok.at0, by rw [e.1]; exact ok.at5, by rw [e.2.1, e.2.2.1]; exact ok.un, by rw [e.2.1, e.2.2.1]; exact ok.kb, by rw [e.2.2.2]; exact ok.nb⟩
end
theorem Ok.loop : ∀ (k : Nat) (x : St), Ok x → Ok (loopV k x).1
  | 0, x, ok => ok
  | k + 1, x, ok => by
    by_cases h : 0 < nextV x
    · rw [loop_go k x h]; exact Ok.loop k _ (ok.send h)
    · rw [loop_stop _ x h]; exact ok
section
variable {x : St} (ok : Ok x)
include ok
theorem Ok.closes : Ok (closesV x).1 := by
  have h := closes_ok ok.s
  unfold closesV at h ⊢
  split
  · rw [if_pos (by assumption)] at h
    exact ⟨h, ok.at0, ok.at5, ok.un, ok.kb, ok.nb⟩
  · exact ok
theorem Ok.last : Ok (lastV x) := by
  unfold lastV
  split
  · exact ok.done _
  · exact ok
theorem Ok.sends : Ok (sendsV x).1 := by
  by_cases h : x.at_ = 4
  · rw [sendsV_open x h]; exact (Ok.loop _ x ok).closes.last.rests
  · rw [sendsV_else x h]; exact ok.rests
theorem Ok.come (p : Prt) : Ok (comeV x p).1 := by
  unfold comeV
  split
  · exact ok
  · exact (ok.comes p (by omega)).sends
theorem Ok.write (b : List Int) (hl : x.all.length + b.length ≤ 1000000) : Ok (writeV x b).1 := by
  unfold writeV
  split
  · exact ok
  split
  · exact ok
  · refine Ok.sends ⟨⟨ok.s.hi, ok.s.hu, ok.s.hw, ok.s.hc, ?_, ?_, ok.s.n0, ok.s.n1, ok.s.s0, ok.s.s1⟩, ok.at0, ok.at5, ok.un, ok.kb, ok.nb⟩
    · have := ok.s.hm; simp only [List.length_append]; omega
    · simp only [List.length_append]; omega
theorem Ok.close : Ok (closeV x).1 := by
  unfold closeV
  split
  · exact ok
  · exact Ok.sends ⟨⟨ok.s.hi, ok.s.hu, ok.s.hw, ok.s.hc, ok.s.hm, ok.s.hl, ok.s.n0, ok.s.n1, ok.s.s0, ok.s.s1⟩, ok.at0, ok.at5, ok.un, ok.kb, ok.nb⟩
theorem Ok.reset : Ok (resetV x).1 := by
  unfold resetV
  split
  · exact ok
  split
  · exact (ok.shows.done true).rests
  · exact (ok.done true).rests
theorem Ok.read : Ok (readV x).1 := by
  have h0 : Ok { x with unread := [] } := ⟨⟨ok.s.hi, by simp, ok.s.hw, ok.s.hc, ok.s.hm, ok.s.hl, ok.s.n0, ok.s.n1, ok.s.s0, ok.s.s1⟩, ok.at0, ok.at5, by have := ok.un; simp; omega, fun p hp => by have := ok.kb p hp; have := ok.un; simp; omega, ok.nb⟩
  unfold readV
  dsimp only
  split
  · exact h0.shows
  · exact h0
end
/-- The clock runs just where something is waited for. -/
def Rest (x : St) : Prop := x.clk.rn = waitsV x
theorem stop_rn (c : Rto.Ck) : (Rto.stopV c).rn = false := rfl
theorem start_rn {c : Rto.Ck} {n : Int} (h0 : 0 ≤ n) (h1 : n ≤ 2147483647) (hr : c.rn = false) : (Rto.startV c n).1.rn = true := by
  unfold Rto.startV
  have : Rto.mayV c n = true := by unfold Rto.mayV; simp [h0, h1, hr]
  rw [if_pos this]
theorem rests_rest {x : St} (ok : Ok x) : Rest (restsV x) := by
  unfold Rest restsV
  by_cases hw : waitsV x = true
  · by_cases hr : x.clk.rn = true
    · rw [hw, hr]
      simp only [Bool.not_true, Bool.and_false, Bool.false_and, Bool.false_eq_true, if_false, reduceIte]
      exact hr.trans hw.symm
    · have hr : x.clk.rn = false := by simpa using hr
      rw [hw, hr]
      simp only [Bool.not_false, Bool.and_true, reduceIte]
      exact (start_rn ok.s.n0 (by have := ok.nb; omega) hr).trans hw.symm
  · have hw : waitsV x = false := by simpa using hw
    by_cases hr : x.clk.rn = true
    · rw [hw, hr]
      simp only [Bool.not_true, Bool.not_false, Bool.and_true, Bool.and_false, Bool.false_eq_true, if_false, reduceIte]
      exact (stop_rn _).trans hw.symm
    · have hr : x.clk.rn = false := by simpa using hr
      rw [hw, hr]
      simp only [Bool.and_false, Bool.false_and, Bool.false_eq_true, if_false, reduceIte]
      exact hr.trans hw.symm
theorem sends_rest {x : St} (ok : Ok x) : Rest (sendsV x).1 := by
  by_cases h : x.at_ = 4
  · rw [sendsV_open x h]; exact rests_rest (Ok.loop _ x ok).closes.last
  · rw [sendsV_else x h]; exact rests_rest ok
theorem come_rest {x : St} (ok : Ok x) (r : Rest x) (p : Prt) : Rest (comeV x p).1 := by
  unfold comeV
  split
  · exact r
  · exact sends_rest (ok.comes p (by omega))
theorem write_rest {x : St} (ok : Ok x) (r : Rest x) (b : List Int) (hl : x.all.length + b.length ≤ 1000000) : Rest (writeV x b).1 := by
  unfold writeV
  split
  · exact r
  split
  · exact r
  · refine sends_rest ⟨⟨ok.s.hi, ok.s.hu, ok.s.hw, ok.s.hc, ?_, ?_, ok.s.n0, ok.s.n1, ok.s.s0, ok.s.s1⟩, ok.at0, ok.at5, ok.un, ok.kb, ok.nb⟩
    · have := ok.s.hm; simp only [List.length_append]; omega
    · simp only [List.length_append]; omega
theorem close_rest {x : St} (ok : Ok x) (r : Rest x) : Rest (closeV x).1 := by
  unfold closeV
  split
  · exact r
  · exact sends_rest ⟨⟨ok.s.hi, ok.s.hu, ok.s.hw, ok.s.hc, ok.s.hm, ok.s.hl, ok.s.n0, ok.s.n1, ok.s.s0, ok.s.s1⟩, ok.at0, ok.at5, ok.un, ok.kb, ok.nb⟩
theorem reset_rest {x : St} (ok : Ok x) (r : Rest x) : Rest (resetV x).1 := by
  unfold resetV
  split
  · exact r
  split
  · exact rests_rest (ok.shows.done true)
  · exact rests_rest (ok.done true)
theorem read_rest {x : St} (r : Rest x) : Rest (readV x).1 := by
  unfold readV
  dsimp only
  split
  · exact r
  · exact r
/-- Where something is sent again and no byte waits, nor the end, there is one to be probed. -/
theorem again_probe {x : St} (ok : Ok x) (hw : waitsV x = true) (h4 : x.at_ = 4) (hn : ¬ 0 < min 64 (x.win.m - x.win.a)) (hf : x.fin = false) : Win.zeroV x.win = true ∧ x.win.a < x.all.length := by
  unfold waitsV at hw
  have e : decide (x.win.a < x.win.m) = false := by simp; omega
  rw [h4, hf, e] at hw
  simpa using hw
theorem Ok.again {x : St} (ok : Ok x) (hw : waitsV x = true) : Ok (againV x).1 := by
  unfold againV
  split
  · exact ok.shows
  rename_i h4
  split
  · exact ok.shows
  rename_i hn
  split
  · exact ok.shows
  rename_i hf
  obtain ⟨z1, z2⟩ := again_probe ok hw (by omega) hn (by simpa using hf)
  have hb := Win.Inv.bd ok.s.hw
  have hz : x.win.l = x.win.a ∧ x.win.m = x.win.a := by unfold Win.zeroV at z1; simpa using z1
  have hv : (Win.probeV x.win).1 = ⟨x.win.a, x.win.s, max x.win.m (x.win.a + 1), x.win.l⟩ := by unfold Win.probeV; rw [if_pos z1]
  refine Ok.shows ⟨okS_win ok.s ?_ ?_, ok.at0, ok.at5, ok.un, ok.kb, ok.nb⟩
  · rw [hv]; refine ⟨?_, ?_, ?_, ?_, ?_⟩ <;> simp only [] <;> omega
  · rw [hv]; simp only []; omega
theorem due_rn {c : Rto.Ck} {n : Int} (h : Rto.dueV c n = true) : c.rn = true := by
  unfold Rto.dueV at h
  simp at h
  exact h.2.1
theorem Ok.tick {x : St} (ok : Ok x) (r : Rest x) (hn : x.now + 1 ≤ 1000000) : Ok (tickV x).1 ∧ Rest (tickV x).1 := by
  have h0 : Ok { x with now := x.now + 1 } := ⟨⟨ok.s.hi, ok.s.hu, ok.s.hw, ok.s.hc, ok.s.hm, ok.s.hl, by have := ok.s.n0; simp only []; omega, by simp only []; omega, ok.s.s0, ok.s.s1⟩, ok.at0, ok.at5, ok.un, ok.kb, hn⟩
  unfold tickV
  dsimp only
  split
  · rename_i hd
    have hw : waitsV x = true := r.symm.trans (due_rn hd)
    have h1 : Ok { x with now := x.now + 1, clk := (Rto.lateV x.clk (x.now + 1)).1 } := ⟨⟨ok.s.hi, ok.s.hu, ok.s.hw, Rto.late_inv ok.s.hc _, ok.s.hm, ok.s.hl, by have := ok.s.n0; simp only []; omega, by simp only []; omega, ok.s.s0, ok.s.s1⟩, ok.at0, ok.at5, ok.un, ok.kb, hn⟩
    split
    · have h2 : Ok (againV { x with now := x.now + 1, clk := (Rto.lateV x.clk (x.now + 1)).1, timed := 0 }).1 := Ok.again ⟨⟨h1.s.hi, h1.s.hu, h1.s.hw, h1.s.hc, h1.s.hm, h1.s.hl, h1.s.n0, h1.s.n1, h1.s.s0, h1.s.s1⟩, h1.at0, h1.at5, h1.un, h1.kb, h1.nb⟩ hw
      exact ⟨h2.rests, rests_rest h2⟩
    · exact ⟨(h1.done true).rests, rests_rest (h1.done true)⟩
  · exact ⟨h0, r⟩
theorem Ok.new (isn : Int) (a : Int) (h0 : 1 ≤ a) (h5 : a ≤ 5) : Ok (newS isn a) :=
  ⟨⟨new_inv (by omega) (by omega), by simp [newS], (by show Win.Inv 1000000000 ⟨0, 0, 0, 0⟩; exact ⟨by decide, by decide, by decide, by decide, by decide⟩), Rto.new_inv (by omega) (by omega) (by omega) (by omega) (by omega) (by omega), by simp [newS], by simp [newS], by simp [newS], by simp [newS], by simp [newS], by simp [newS]⟩, h0, h5, by simp [newS, newV], by simp [newS, newV], by simp [newS]⟩
theorem new_ok (isn : Int) (b : Bool) : Ok (newSV isn b).1 ∧ Rest (newSV isn b).1 := by
  unfold newSV
  cases b
  · exact ⟨Ok.new isn 1 (by decide) (by decide), rfl⟩
  · have h := (Ok.new isn 2 (by decide) (by decide)).shows
    exact ⟨h.rests, rests_rest h⟩
end Go.Proofs.Ytmgdbbbdhkfdmaa
