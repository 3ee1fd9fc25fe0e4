import Derived.Test.YtmgdbbbdhkfdmaaZ9
import Derived.Test.YtmgdbbbdhkfdmaaZ7
import Derived.Test.YtmgdbbbdhkfdmaaZ8
import Derived.Deep.DeepCutAuto
set_option linter.unusedSimpArgs false
set_option linter.unusedVariables false
namespace Go.Proofs.Ytmgdbbbdhkfdmaa
set_option maxRecDepth 100000
open Go.RowKit Go.Deep

theorem has_bits (f n : Int) (h0 : 0 ≤ f) (h1 : f ≤ 15) (hn : n = 1 ∨ n = 2 ∨ n = 4 ∨ n = 8) : decide (bits BinOp.and IntKind.i64 f n = 0) = !has f n := by
  have hf : f = 0 ∨ f = 1 ∨ f = 2 ∨ f = 3 ∨ f = 4 ∨ f = 5 ∨ f = 6 ∨ f = 7 ∨ f = 8 ∨ f = 9 ∨ f = 10 ∨ f = 11 ∨ f = 12 ∨ f = 13 ∨ f = 14 ∨ f = 15 := by omega
  rcases hn with rfl | rfl | rfl | rfl <;> rcases hf with rfl | rfl | rfl | rfl | rfl | rfl | rfl | rfl | rfl | rfl | rfl | rfl | rfl | rfl | rfl | rfl <;> decide
theorem open1_any (f n : Int) (b : Nat) (w : World) (c : w.cell? ⟨b, 0, none⟩ = some (.int .i64 f)) (h0 : 0 ≤ f) (h1 : f ≤ 15) (hn : n = 1 ∨ n = 2 ∨ n = 4 ∨ n = 8) : Calls Try.prog 54 #[.int .i64 n, ptr b] w fun e w' => e = .returned (.bool (has f n)) ∧ w = w' := by
  have hb := has_bits f n h0 h1 hn
  have hr : has f n = !decide (bits BinOp.and IntKind.i64 f n = 0) := by rw [hb]; simp
  rw [hr]
  clear hr hb
  go_enter Try.func54, Try.ntmps54
  go_wp2_with fail
  go_ret
  first | exact ⟨rfl, rfl⟩ | exact ⟨by simp, rfl⟩
section
variable {S S' : Nat → Prop} {w w' : World} {H : Hd} {x : St}
/-- The heap was turned. -/
theorem SI.seth (m : SI S w H x) {h' : Hp} {kv' : Value} (e : Ext w S S') (n : HP S' w' H.gh kv' h') (f : Fr (H.gh :: ob H.kv) w w') (n5 : ∀ b, kv'.ownBlock = some b → H.kv.ownBlock = some b ∨ w.heap.size ≤ b) :
    SI S' w' ⟨H.g, H.gw, H.gc, H.gh, H.bv, H.uv, kv'⟩ { x with heap := h' } ∧ Hd.like w H ⟨H.g, H.gw, H.gc, H.gh, H.bv, H.uv, kv'⟩ := by
  have ng : H.g ∉ H.gh :: ob H.kv := fun hm => m.ne_h _ hm rfl
  have hb : ∀ {b : Nat} {t : TypeId} {cs : Array Value}, Blk w b t cs → t ≠ 115 → 120 ≠ t → b ∉ H.gh :: ob H.kv := fun B h1 h2 hm => by
    obtain ⟨ev, L, n⟩ := m.hp
    rcases List.mem_cons.1 hm with h | h
    · exact blk_ne B n.blk h1 h
    · exact own_ne n.kp.own B h2 (mem_ob.1 h)
  have ho : ∀ {v : Value} {k : Nat} {xs : List Value}, w.ownsRow 0 5 1 v k xs → ∀ b, v.ownBlock = some b → b ∉ H.gh :: ob H.kv := fun o b hb hm => by
    obtain ⟨ev, L, n⟩ := m.hp
    rcases List.mem_cons.1 hm with rfl | h
    · exact own_ne o n.blk (by decide) hb
    · exact own_ne2 o n.kp.own (by decide) hb (mem_ob.1 h)
  refine ⟨⟨m.blk.fr f ng, Blk.fr m.win f (hb m.win (by decide) (by decide)), Blk.fr m.clk f (hb m.clk (by decide) (by decide)), n, own_fr m.buf f (ho m.buf), own_fr m.unr f (ho m.unr), fun y hy hs => ?_, m.bu⟩, ⟨rfl, rfl, rfl, rfl, fun b hb => ?_⟩⟩
  · rcases e.2 y hs with h | h
    · exact m.nS y hy h
    · have : y < w.heap.size := m.lt y (by
        simp only [Hd.own, List.mem_cons, List.mem_append]
        rcases hy with h | h | h | h | h <;> simp [h])
      omega
  · simp only [Hd.own, List.mem_cons, List.mem_append] at hb ⊢
    rcases hb with h | h | h | h | h | h | h
    · exact .inl (.inl h)
    · exact .inl (.inr (.inl h))
    · exact .inl (.inr (.inr (.inl h)))
    · exact .inl (.inr (.inr (.inr (.inl h))))
    · rcases n5 b (mem_ob.1 h) with h1 | h1
      · exact .inl (.inr (.inr (.inr (.inr (.inl (mem_ob.2 h1))))))
      · exact .inr h1
    · exact .inl (.inr (.inr (.inr (.inr (.inr (.inl h))))))
    · exact .inl (.inr (.inr (.inr (.inr (.inr (.inr h))))))
/-- Bytes were appended to those that are unread. -/
theorem SI.setu (m : SI S w H x) {b : List Int} {uv' : Value} (own : w'.ownsRow 0 5 1 uv' (x.unread ++ b).length (byts (x.unread ++ b))) (f : Fr (ob H.uv) w w') (n : ∀ y, uv'.ownBlock = some y → H.uv.ownBlock = some y ∨ (w.heap.size ≤ y ∧ y < w'.heap.size)) :
    SI S (w'.setCell ⟨H.g, 15, none⟩ uv') ⟨H.g, H.gw, H.gc, H.gh, H.bv, uv', H.kv⟩ { x with unread := x.unread ++ b } ∧ Hd.like w H ⟨H.g, H.gw, H.gc, H.gh, H.bv, uv', H.kv⟩ ∧ Fr H.own w (w'.setCell ⟨H.g, 15, none⟩ uv') := by
  have hO : ∀ y ∈ ob H.uv, ¬ S y := fun y hy => m.nS y (.inr (.inr (.inr (.inr hy))))
  have ng : H.g ∉ ob H.uv := fun hm => m.ne_u _ hm rfl
  have hb : ∀ {b : Nat} {t : TypeId} {cs : Array Value}, Blk w b t cs → 5 ≠ t → b ∉ ob H.uv := fun B h1 hm => own_ne m.unr B h1 (mem_ob.1 hm)
  have hk : ∀ y ∈ H.gh :: ob H.kv, y ∉ ob H.uv := fun y hy hm => by
    obtain ⟨ev, L, n⟩ := m.hp
    rcases List.mem_cons.1 hy with rfl | h
    · exact own_ne m.unr n.blk (by decide) (mem_ob.1 hm)
    · exact own_ne2 m.unr n.kp.own (by decide) (mem_ob.1 hm) (mem_ob.1 h)
  have hp1 := m.hp.ext' f (Ext.refl w S) hO hk (fun b hb => Nat.lt_of_lt_of_le (HP.pub' m.hp b hb) f.size)
  have B1 := m.blk.fr f ng
  have f3 : Fr [H.g] w' (w'.setCell ⟨H.g, 15, none⟩ uv') := (Fr.refl [H.g] w').setCell (p := ⟨H.g, 15, none⟩) (.inl (by simp)) _
  have hO3 : ∀ y ∈ [H.g], ¬ S y := fun y hy => by simp at hy; subst hy; exact m.nS _ (.inl rfl)
  have hbu : own_fr m.buf f (fun b hb hm => m.bu b (mem_ob.2 hb) hm) = own_fr m.buf f (fun b hb hm => m.bu b (mem_ob.2 hb) hm) := rfl
  refine ⟨⟨by simpa using B1.set_ 15 uv', Blk.fr (Blk.fr m.win f (hb m.win (by decide))) f3 (by simpa using m.ne_w), Blk.fr (Blk.fr m.clk f (hb m.clk (by decide))) f3 (by simpa using m.ne_c), hp1.ext' f3 (Ext.refl w' S) hO3 (fun y hy => by simpa using m.ne_h y hy) (fun b hb => Nat.lt_of_lt_of_le (HP.pub' hp1 b hb) f3.size),
    own_fr (own_fr m.buf f (fun b hb hm => m.bu b (mem_ob.2 hb) hm)) f3 (fun b hb => by simpa using m.ne_b b (mem_ob.2 hb)), own_fr own f3 (fun b hb => by simp; rintro rfl; exact own_ne own B1 (by decide) hb), fun y hy => ?_, fun y hy hu => ?_⟩, ⟨rfl, rfl, rfl, rfl, fun b hb => ?_⟩, ?_⟩
  · rcases hy with h | h | h | h | h
    · exact m.nS y (.inl h)
    · exact m.nS y (.inr (.inl h))
    · exact m.nS y (.inr (.inr (.inl h)))
    · exact m.nS y (.inr (.inr (.inr (.inl h))))
    · rcases n y (mem_ob.1 h) with h1 | h1
      · exact hO y (mem_ob.2 h1)
      · intro hs; have := HP.pub' m.hp y hs; omega
  · rcases n y (mem_ob.1 hu) with h1 | h1
    · exact m.bu y hy (mem_ob.2 h1)
    · have := own_lt m.buf (mem_ob.1 hy); omega
  · simp only [Hd.own, List.mem_cons, List.mem_append] at hb ⊢
    rcases hb with h | h | h | h | h | h | h
    · exact .inl (.inl h)
    · exact .inl (.inr (.inl h))
    · exact .inl (.inr (.inr (.inl h)))
    · exact .inl (.inr (.inr (.inr (.inl h))))
    · exact .inl (.inr (.inr (.inr (.inr (.inl h)))))
    · exact .inl (.inr (.inr (.inr (.inr (.inr (.inl h))))))
    · rcases n b (mem_ob.1 h) with h1 | h1
      · exact .inl (.inr (.inr (.inr (.inr (.inr (.inr (mem_ob.2 h1)))))))
      · exact .inr h1.1
  · exact (f.mono (fun y hy => by simp only [Hd.own, List.mem_cons, List.mem_append]; exact .inr (.inr (.inr (.inr (.inr (.inr hy))))))).trans (f3.mono (O' := H.own) (by simp [Hd.own])) (fun y hy => .inl hy)
end
end Go.Proofs.Ytmgdbbbdhkfdmaa

namespace Go.Proofs.Ytmgdbbbdhkfdmaa
set_option maxRecDepth 100000
open Go.RowKit Go.Deep

theorem Hd.like.trans {w w1 : World} {H H1 H2 : Hd} (h : Hd.like w H H1) (hz : w.heap.size ≤ w1.heap.size) (k : Hd.like w1 H1 H2) : Hd.like w H H2 :=
  ⟨k.g.trans h.g, k.gw.trans h.gw, k.gc.trans h.gc, k.gh.trans h.gh, fun b hb => by
    rcases k.own b hb with h1 | h1
    · exact h.own b h1
    · exact .inr (by omega)⟩
theorem like_fr {w w1 w2 : World} {H H1 : Hd} {O : List Nat} (h : Hd.like w H H1) (f : Fr O w w1) (k : Fr H1.own w1 w2) (hO : ∀ y ∈ O, y ∈ H.own) : Fr H.own w w2 :=
  (f.mono hO).trans k (fun y hy => h.own y hy)
theorem place_bd (a b near : Int) (h0 : 0 ≤ near) : 0 ≤ placeV a b near ∧ placeV a b near ≤ 4611686018427387904 := by
  unfold placeV Sne.nearV
  have h1 : 0 ≤ (a - b - 1) % 4294967296 := by omega
  have h2 : (a - b - 1) % 4294967296 < 4294967296 := by omega
  generalize (a - b - 1) % 4294967296 = s at *
  simp only []
  (repeat' split) <;> simp <;> omega
def DataPost (S : Nat → Prop) (w : World) (H : Hd) (y : St) (e : Ending) (w' : World) : Prop :=
  ∃ S' H', e = .returned (.tuple #[]) ∧ Ext w S S' ∧ Hd.like w H H' ∧ SI S' w' H' y ∧ Fr H.own w w'
/-- The heap behind a part's end; what is taken then. -/
def data1V (x : St) (p : Prt) : Hp := if has p.flags 4 then (endV x.heap (placeV p.seq x.peer x.heap.next + p.d.length)).1 else x.heap
theorem isFin_eq (h : Hp) : dataV.isFinV h = isFin h := rfl
theorem dataV_eq (x : St) (p : Prt) : dataV x p =
    (if 0 < p.d.length ∧ placeV p.seq x.peer x.heap.next + p.d.length - (data1V x p).next ≤ 1024 - x.unread.length then
      { x with heap := (putV (data1V x p) (placeV p.seq x.peer x.heap.next) p.d).1, unread := x.unread ++ (putV (data1V x p) (placeV p.seq x.peer x.heap.next) p.d).2.1, ended := isFin (putV (data1V x p) (placeV p.seq x.peer x.heap.next) p.d).1 }
    else { x with heap := data1V x p, ended := isFin (data1V x p) }) := by
  unfold dataV data1V
  simp only [isFin_eq]
  split <;> split <;> simp_all
theorem SI.setended {S : Nat → Prop} {w : World} {H : Hd} {x : St} (m : SI S w H x) (b : Bool) : SI S (w.setCell ⟨H.g, 12, none⟩ (.bool b)) H { x with ended := b } :=
  m.set ((Fr.refl [H.g] w).setCell (p := ⟨H.g, 12, none⟩) (.inl (by simp)) _) (by simpa using m.blk.set_ 12 (.bool b)) rfl rfl rfl rfl rfl
end Go.Proofs.Ytmgdbbbdhkfdmaa

namespace Go.Proofs.Ytmgdbbbdhkfdmaa
set_option maxRecDepth 100000

theorem sum_erase : ∀ (l : List Pc) (i : Nat), i < l.length → sumV (l.eraseIdx i) + ((l.getD i default).d.length : Int) = sumV l
  | [], i, h => by simp at h
  | p :: l, 0, h => by simp [sumV]; omega
  | p :: l, i + 1, h => by
    have := sum_erase l i (by simpa using h)
    simp only [List.eraseIdx_cons_succ, sumV, List.getD_cons_succ]
    omega
theorem sum_nn : ∀ l : List Pc, 0 ≤ sumV l
  | [] => by simp [sumV]
  | p :: l => by have := sum_nn l; simp only [sumV]; omega
theorem take_len_out (next : Int) (p : Pc) : (takeV next p).1.length ≤ p.d.length := by
  unfold takeV
  split
  · simp
  · simp
theorem drain_out : ∀ (n : Nat) (next : Int) (l : List Pc), ((drainV n next l).2.2.length : Int) ≤ sumV l
  | 0, next, l => by simpa [drainV] using sum_nn l
  | n + 1, next, l => by
    unfold drainV
    by_cases hr : readyV next l < 0
    · rw [if_pos hr]
      simpa using sum_nn l
    · rw [if_neg hr]
      have hb := ready_bd next l
      have hlt : (readyV next l).toNat < l.length := by omega
      have h1 := sum_erase l _ hlt
      have h2 := take_len_out next (l.getD (readyV next l).toNat default)
      have h3 := drain_out n (takeV next (l.getD (readyV next l).toNat default)).2 (l.eraseIdx (readyV next l).toNat)
      simp only [List.length_append]
      omega
theorem put_out (h : Hp) (a : Int) (d : List Int) : ((putV h a d).2.1.length : Int) ≤ d.length + sumV h.kept := by
  have hs := sum_nn h.kept
  have hd := drain_out h.kept.length (a + d.length) h.kept
  unfold putV
  (repeat' split) <;> simp <;> omega
end Go.Proofs.Ytmgdbbbdhkfdmaa

namespace Go.Proofs.Ytmgdbbbdhkfdmaa
set_option maxRecDepth 100000
open Go.RowKit Go.Deep

def EndRel (S : Nat → Prop) (w w2 : World) (H : Hd) (x : St) (h1 : Hp) (wx : World) : Prop := ∃ S1, Ext w2 S S1 ∧ SI S1 wx H { x with heap := h1 } ∧ Fr [H.gh] w2 wx
set_option maxHeartbeats 8000000 in
theorem data_si {S : Nat → Prop} {w : World} {H : Hd} {x : St} (m : SI S w H x) (hi : Inv x.heap) (p : Prt) (dv : Value) (T : Nat → Prop) (hd : Byt T w dv p.d) (hT : ∀ b, T b → b ∉ H.own) (hl : p.d.length ≤ 100) (hu : x.unread.length ≤ 1024) (hf0 : 0 ≤ p.flags) (hf1 : p.flags ≤ 15) :
    Calls Try.prog 57 #[ptr H.g, agP p dv] w (DataPost S w H (dataV x p)) := by
  have hy := dataV_eq x p
  generalize dataV x p = y at *
  have hi1 : Inv (data1V x p) := by unfold data1V; split; exact end_inv hi _; exact hi
  have hd1 : data1V x p = if has p.flags 4 then (endV x.heap (placeV p.seq x.peer x.heap.next + p.d.length)).1 else x.heap := rfl
  obtain ⟨fl, sq, ak, wi, d⟩ := p
  dsimp only at *
  obtain ⟨A, c, rfl, _, _⟩ := hd.form
  have hn0 := hi.n0
  have hn1 := hi.n1
  have hpb := place_bd sq x.peer x.heap.next hn0
  have hgl := m.blk.lt
  have f0 : Fr [] w (w.alloc (.cells (arP ⟨fl, sq, ak, wi, d⟩ (.slice A d.length c)) 27)) := (Fr.refl [] w).alloc _
  have b0 : Blk (w.alloc (.cells (arP ⟨fl, sq, ak, wi, d⟩ (.slice A d.length c)) 27)) w.heap.size 27 (arP ⟨fl, sq, ak, wi, d⟩ (.slice A d.length c)) := Blk.new w _ _
  have M := Lib.hid m
  have HD := Lib.hid hd
  have HT := Lib.hid hT
  have HI := Lib.hid hi
  have HI1 := Lib.hid hi1
  have HD1 := Lib.hid hd1
  have hpl0 := fun W => place_any sq x.peer x.heap.next W (by omega) (by omega)
  have HPl0 := Lib.hid hpl0
  have hbit := has_bits fl 4 hf0 hf1 (by simp)
  clear m hd hT hi hi1 hd1 hpl0
  generalize data1V x ⟨fl, sq, ak, wi, d⟩ = h1 at *
  generalize placeV sq x.peer x.heap.next = at_ at *
  have HY := Lib.hid hy
  clear hy
  have hat : IntKind.i64.wrap (at_ + (d.length : Int)) = at_ + (d.length : Int) := IntWalk.i64_in _ (by omega)
  go_enter Try.func57, Try.ntmps57
  go_upto_region 1 with fail
  generalize w.alloc (.cells (arP ⟨fl, sq, ak, wi, d⟩ (.slice A d.length c)) 27) = w0 at *
  have m0 := M.out.fr f0
  have cs := scells m0.blk
  obtain ⟨y0, y1, y2, y3, y4⟩ := cells5 b0
  have g0 := Grew.cell y1
  have g1 := Grew.cell cs.c2
  have g2 := Grew.cell cs.c18
  have hN : ∀ q : Grew w0, Calls Try.prog 42 #[ptr H.gh] q.W fun e w' => e = .returned (.int .i64 x.heap.next) ∧ ∃ q' : Grew w0, w' = q'.W := fun q => grew_same (next_hp (m0.hp.ext' q.fr (Ext.refl w0 S) (by simp) (by simp) (fun b hb => Nat.lt_of_lt_of_le (HP.pub' m0.hp b hb) q.fr.size)))
  have hP : ∀ q : Grew w0, Calls Try.prog 75 #[.int .u32 sq, .int .u32 x.peer, .int .i64 x.heap.next] q.W fun e w' => e = .returned (.int .i64 at_) ∧ ∃ q' : Grew w0, w' = q'.W := fun q => grew_call (HPl0.out q.W)
  have HN := Lib.hid hN
  have HPl := Lib.hid hP
  have F0 := Lib.hid f0
  have B0 := Lib.hid b0
  clear hN hP m0 cs y0 y1 y2 y3 y4 f0 b0
  refine wp_region_grew (by kernel_rfl) (by kernel_rfl) ?_
  repeat (go_big_quiet_step (first | (go_at_call 42; exact HN.out _) | (go_at_call 75; exact HPl.out _)))
  refine wpQuiet_nil ?_
  intro w2 f2
  have F2 := Lib.hid (F0.out.trans f2 (by simp))
  have B2 := Lib.hid (B0.out.fr f2 (by simp))
  have m2 := M.out.fr F2.out
  have cs := scells m2.blk
  have c18 := cs.c18
  obtain ⟨y0, y1, y2, y3, y4⟩ := cells5 B2.out
  have M2 := Lib.hid m2
  have hgh2 : ∀ y ∈ H.gh :: ob H.kv, y ≠ H.g := m2.ne_h
  have NG := Lib.hid hgh2
  clear f2 g0 g1 g2 HN HPl F0 B0 m2 cs hgh2
  rcases Bool.eq_false_or_eq_true (has fl 4) with hf | hf
  · rw [hf] at hbit
    have hbq : (bits BinOp.and IntKind.i64 fl 4 != 0) = true := by simpa using hbit
    have hh1 : h1 = (endV x.heap (at_ + d.length)).1 := by rw [HD1.out, hf]; rfl
    have HH1 := Lib.hid hh1
    clear hbit hh1
    go_wp2_with fail
    refine (end_any M2.out.hp HI.out (at_ + d.length)).mono ?_
    rintro e w3 ⟨S1, rfl, e3, m3, f3⟩
    rw [← HH1.out] at m3
    have E3 := Lib.hid e3
    have F3 := Lib.hid f3
    have M3 := Lib.hid (M2.out.seth e3 m3 (f3.mono (by simp)) (fun b hb => .inl hb)).1
    clear e3 m3 f3 c18 hbq
    have c15 : w3.cell? ⟨H.g, 15, none⟩ = some H.uv := (scells M3.out.blk).c15
    have c18' : w3.cell? ⟨H.g, 18, none⟩ = some (ptr H.gh) := (scells M3.out.blk).c18
    obtain ⟨uA, uc, huv, _, _⟩ := own_form M3.out.unr
    have UN := Lib.hid M3.out.unr
    rw [huv] at c15
    have HUV := Lib.hid huv
    have g15 := Grew.cell c15
    have g18 := Grew.cell c18'
    have hN : ∀ q : Grew w3, Calls Try.prog 42 #[ptr H.gh] q.W fun e w' => e = .returned (.int .i64 h1.next) ∧ ∃ q' : Grew w3, w' = q'.W := fun q => grew_same (next_hp (M3.out.hp.ext' q.fr (Ext.refl w3 S1) (by simp) (by simp) (fun b hb => Nat.lt_of_lt_of_le (HP.pub' M3.out.hp b hb) q.fr.size)))
    have HN := Lib.hid hN
    have hb0 := HI1.out.n0
    have hb1 := HI1.out.n1
    have hs1 : IntKind.i64.wrap (at_ + (d.length : Int) - h1.next) = at_ + (d.length : Int) - h1.next := IntWalk.i64_in _ (by omega)
    have hs2 : IntKind.i64.wrap (1024 - (x.unread.length : Int)) = 1024 - (x.unread.length : Int) := IntWalk.i64_in _ (by omega)
    have W3F : Hid (Fr H.own w w3) := Lib.hid ((F2.out.mono (by simp)).trans (F3.out.mono (O' := H.own) (by simp [Hd.own])) (fun y hy => .inl hy))
    clear hN huv y0 y1 y2 y3 y4
    have B3 := Lib.hid (B2.out.fr F3.out (by simp; have := M.out.lt H.gh (by simp [Hd.own]); omega))
    by_cases hc : 0 < d.length ∧ at_ + d.length - h1.next ≤ 1024 - x.unread.length
    · have hY := HY.out
      rw [if_pos hc] at hY
      have HYY := Lib.hid hY
      clear hY
      obtain ⟨hc1, hc2⟩ := hc
      have hq1 : (0 : Int) < (d.length : Int) := by omega
      go_upto_region 5 with fail
      refine wp_region_grew (by kernel_rfl) (by kernel_rfl) ?_
      repeat (go_big_quiet_step ((go_at_call 42; exact HN.out _)))
      refine wpQuiet_nil ?_
      intro w4 f4
      have m4 := M3.out.fr f4
      have F4 := Lib.hid f4
      have hby : Byt T w4 (.slice A d.length c) d := (HD.out.fr W3F.out (fun y hy hs => HT.out y hs hy)).fr f4 (by simp)
      have hput : ∀ W, Fr [] w4 W → Calls Try.prog 78 #[ptr H.gh, .int .i64 at_, .slice A d.length c] W (PutPost S1 W H.gh H.kv (putV h1 at_ d).1 (putV h1 at_ d).2.1 (putV h1 at_ d).2.2) := fun W fW => put_any (m4.fr fW).hp HI1.out at_ _ d T (hby.fr fW (by simp)) (by omega)
      have hpo := put_out h1 at_ d
      have hsm := sum_le h1 HI1.out
      have hYY := HYY.out
      have M4 := Lib.hid m4
      have e18 : w4.cell? ⟨H.g, 18, none⟩ = some (ptr H.gh) := fr_cell f4 c18'
      have e4 : w4.cell? ⟨w.heap.size, 4, none⟩ = some (.slice A d.length c) := by have := (B3.out.fr f4 (by simp)); exact (cells5 this).2.2.2.2
      have SEE : Hid (∀ W, Fr [] w4 W → W.cell? ⟨H.g, 18, none⟩ = some (ptr H.gh) ∧ W.cell? ⟨w.heap.size, 4, none⟩ = some (.slice A d.length c)) := Lib.hid (fun W fW => ⟨fr_cell fW e18, fr_cell fW e4⟩)
      have NR : Hid (w.heap.size ∉ H.gh :: ob H.kv) := Lib.hid (fun hm => by have := M.out.lt w.heap.size (by rcases List.mem_cons.1 hm with h | h <;> simp [Hd.own, h]); omega)
      have NGG : Hid (H.g ∉ H.gh :: ob H.kv) := Lib.hid (fun hm => NG.out _ hm rfl)
      generalize putV h1 at_ d = Q at *
      have HPut := Lib.hid hput
      have HYQ := Lib.hid hYY
      clear hput hby m4 f4 hYY g15 g18 c15 hc1 hc2 HYY
      go_upto_region 6 with fail
      go_region_held3 (fun w' => w'.cell? ⟨H.g, 18, none⟩ = some (ptr H.gh) ∧ w'.cell? ⟨w.heap.size, 4, none⟩ = some (.slice A d.length c))
        (first
          | (with_reducible exact ⟨s0, s1⟩)
          | (with_reducible exact SEE.out _ (Fr.refl [] w4).drew)
          | go_keep)
        (first
          | (go_at_call 78; refine (HPut.out _ (Fr.refl [] w4).drew).mono ?_; rintro e w5 ⟨S5, kv5, A5, c5, rfl, x5, by5, m5, f5, n5⟩; have f5' : Fr (H.gh :: ob H.kv) w4 w5 := (Fr.refl (H.gh :: ob H.kv) w4).drew.trans f5 (fun y hy => .inl hy); have s0 : w5.cell? ⟨H.g, 18, none⟩ = some (ptr H.gh) := (f5'.cell (p := ⟨H.g, 18, none⟩) (World.block_lt_of_cell? w4 _ e18) NGG.out).trans e18; have s1 : w5.cell? ⟨w.heap.size, 4, none⟩ = some (.slice A d.length c) := (f5'.cell (p := ⟨w.heap.size, 4, none⟩) (World.block_lt_of_cell? w4 _ e4) NR.out).trans e4; have X5 : Hid (Ext w4 S1 S5) := Lib.hid x5; have BY5 := Lib.hid by5; have SH := Lib.hid (M4.out.seth (h' := Q.1) x5 m5 f5' n5); have F5 := Lib.hid f5'; clear x5 by5 m5 f5 n5 f5'))
      obtain ⟨m5, lk5⟩ := SH.out
      generalize Q.1 = q1 at *
      generalize Q.2.1 = o5 at *
      generalize Q.2.2 = er at *
      have d15 : w5.cell? ⟨H.g, 15, none⟩ = some (.slice uA x.unread.length uc) := by rw [← HUV.out]; exact (scells m5.blk).c15
      have z15 : w5.frozen? ⟨H.g, 15, none⟩ = false := m5.blk.frozen 15
      have UN5 : Hid (w5.ownsRow 0 5 1 (.slice uA x.unread.length uc) x.unread.length (byts x.unread)) := Lib.hid (by rw [← HUV.out]; exact m5.unr)
      have M5 := Lib.hid m5
      have LK5 := Lib.hid lk5
      have HLM : Hid (x.unread.length + o5.length ≤ maxLen) := Lib.hid (by unfold maxLen; omega)
      have HLB : Hid ((x.unread.length + o5.length) * 1 ≤ 140737488355328) := Lib.hid (by omega)
      have NU : Hid (H.g ∉ ob H.uv) := Lib.hid (fun hm => m5.ne_u _ hm rfl)
      have hgl5 := m5.blk.lt
      clear m5 lk5 SH hpo hsm e18 e4
      obtain ⟨i0, hi0, hz0, hz1, hz2⟩ := info_parts info_u8
      go_upto_region 8 with (at_builtin; refine wpList_append_sl _ rfl (.tmp 71) (.tmp 72) 25 rfl 5 i0 (.int .u8 0) 1 1 Try.underlying25 hi0 hz0 hz1 hz2 rfl (by decide) (.slice uA x.unread.length uc) x.unread.length (byts x.unread) (by rfl) UN5.out S5 (.slice A5 o5.length c5) o5.length (byts o5) (by rfl) BY5.out (byts_one _) HLM.out HLB.out (x.unread.length + o5.length) rfl ?_; intro A7 c7 W7 h10 h11 h12; have H10 := Lib.hid h10; have h11' : Fr (ob H.uv) w5 W7 := (by rw [HUV.out]; exact h11); have H11 := Lib.hid h11'; have H12 := Lib.hid h12; have co7 := M5.out.blk.fr h11' NU.out; have y0 : W7.cell? ⟨H.g, 15, none⟩ = some (.slice uA x.unread.length uc) := (by rw [← HUV.out]; exact (scells co7).c15); have y1 := co7.frozen 15; have y2 := co7.lt; have y3 := (scells co7).c18; clear h10 h11 h11' h12 co7)
      have su := M5.out.setu (b := o5) (uv' := .slice A7 (x.unread.length + o5.length) c7) (by have := H10.out; rw [byts_app] at this; rw [List.length_append]; exact this) H11.out (fun y hy => by rw [HUV.out]; exact H12.out y hy)
      clear d15 z15 y0 y1 y2 y3 H10 H11 H12 UN5
      obtain ⟨m8, lk8, f8⟩ := su
      generalize W7.setCell ⟨H.g, 15, none⟩ (.slice A7 (x.unread.length + o5.length) c7) = w8 at *
      have M8 := Lib.hid m8
      have LK8 := Lib.hid lk8
      have F8 := Lib.hid f8
      have b18 : w8.cell? ⟨H.g, 18, none⟩ = some (ptr H.gh) := (scells m8.blk).c18
      clear m8 lk8 f8 hi0 hz0 hz1 hz2 s0 s1
      go_wp2_with fail
      refine (done_hp M8.out.hp).mono ?_
      rintro e w9 ⟨rfl, f9⟩
      have m9 := M8.out.fr f9
      have z12 : w9.frozen? ⟨H.g, 12, none⟩ = false := m9.blk.frozen 12
      have d12 : w9.cell? ⟨H.g, 12, none⟩ = some (.bool x.ended) := (scells m9.blk).c12
      have hl9 := m9.blk.lt
      have M9 := Lib.hid m9
      have F9 := Lib.hid f9
      clear m9 f9 b18
      go_wp2_with fail
      have m10 := M9.out.setended (isFin q1)
      go_end0
      rw [HYQ.out]
      have hz4 := F4.out.size
      have hz5 := F5.out.size
      have hzw := W3F.out.size
      refine ⟨S5, _, rfl, ext_up (E3.out.trans F3.out.size (ext_up X5.out hz4)) F2.out.size, Hd.like.trans (w1 := w4) (Hd.like.rfl' w H) (by omega) (Hd.like.trans LK5.out hz5 LK8.out), m10, ?_⟩
      have G1 : Fr H.own w w5 := (W3F.out.trans (F4.out.mono (by simp)) (fun y hy => .inl hy)).trans (F5.out.mono (O' := H.own) (fun y hy => by rcases List.mem_cons.1 hy with h | h <;> simp [Hd.own, h])) (fun y hy => .inl hy)
      have G2 : Fr H.own w w8 := G1.trans F8.out (fun y hy => by
        rcases LK5.out.own y hy with h | h
        · exact .inl h
        · exact .inr (by omega))
      exact (G2.trans (F9.out.mono (by simp)) (fun y hy => .inl hy)).trans ((Fr.refl [H.g] w9).setCell (p := ⟨H.g, 12, none⟩) (.inl (by simp)) (.bool (isFin q1))) (fun y hy => .inl (by simp at hy; simp [Hd.own, hy]))
    · have hY := HY.out
      rw [if_neg hc] at hY
      have HYY := Lib.hid hY
      clear hY
      have hdone : ∀ W, Fr [] w3 W → Calls Try.prog 79 #[ptr H.gh] W fun e w' => e = .returned (.bool (isFin h1)) ∧ Fr [] W w' := fun W fW => done_hp (M3.out.fr fW).hp
      have HDn := Lib.hid hdone
      clear hdone
      by_cases hq : 0 < (d.length : Int)
      · have hq2 : ¬ (at_ + (d.length : Int) - h1.next ≤ 1024 - (x.unread.length : Int)) := fun h => hc ⟨by omega, h⟩
        have hq' : 0 < d.length := by omega
        clear hc hq
        go_upto_region 5 with fail
        refine wp_region_grew (by kernel_rfl) (by kernel_rfl) ?_
        repeat (go_big_quiet_step ((go_at_call 42; exact HN.out _)))
        refine wpQuiet_nil ?_
        intro w4 f4
        have M4 := Lib.hid (M3.out.fr f4)
        have e18 : w4.cell? ⟨H.g, 18, none⟩ = some (ptr H.gh) := fr_cell f4 c18'
        have F4 := Lib.hid f4
        clear f4 g15 g18 c15
        go_wp2_with fail
        refine (HDn.out _ F4.out).mono ?_
        rintro e w5 ⟨rfl, f5⟩
        have M5 := Lib.hid (M4.out.fr f5)
        have z12 : w5.frozen? ⟨H.g, 12, none⟩ = false := M5.out.blk.frozen 12
        have d12 : w5.cell? ⟨H.g, 12, none⟩ = some (.bool x.ended) := (scells M5.out.blk).c12
        have F5 := Lib.hid (F4.out.trans f5 (by simp))
        have hl5 := M5.out.blk.lt
        clear f5 e18
        go_wp2_with fail
        have m6 := M5.out.setended (isFin h1)
        go_end0
        rw [HYY.out]
        exact ⟨S1, H, rfl, ext_up E3.out F2.out.size, Hd.like.rfl' w H, m6, (W3F.out.trans (F5.out.mono (by simp)) (fun y hy => .inl hy)).trans ((Fr.refl [H.g] w5).setCell (p := ⟨H.g, 12, none⟩) (.inl (by simp)) (.bool (isFin h1))) (fun y hy => .inl (by simp at hy; simp [Hd.own, hy]))⟩
      · have hq' : ¬ 0 < d.length := by omega
        clear hc hq
        go_upto_region 5 with fail
        refine wp_region_grew (by kernel_rfl) (by kernel_rfl) ?_
        repeat (go_big_quiet_step ((go_at_call 42; exact HN.out _)))
        refine wpQuiet_nil ?_
        intro w4 f4
        have M4 := Lib.hid (M3.out.fr f4)
        have e18 : w4.cell? ⟨H.g, 18, none⟩ = some (ptr H.gh) := fr_cell f4 c18'
        have F4 := Lib.hid f4
        clear f4 g15 g18 c15
        go_wp2_with fail
        refine (HDn.out _ F4.out).mono ?_
        rintro e w5 ⟨rfl, f5⟩
        have M5 := Lib.hid (M4.out.fr f5)
        have z12 : w5.frozen? ⟨H.g, 12, none⟩ = false := M5.out.blk.frozen 12
        have d12 : w5.cell? ⟨H.g, 12, none⟩ = some (.bool x.ended) := (scells M5.out.blk).c12
        have F5 := Lib.hid (F4.out.trans f5 (by simp))
        have hl5 := M5.out.blk.lt
        clear f5 e18
        go_wp2_with fail
        have m6 := M5.out.setended (isFin h1)
        go_end0
        rw [HYY.out]
        exact ⟨S1, H, rfl, ext_up E3.out F2.out.size, Hd.like.rfl' w H, m6, (W3F.out.trans (F5.out.mono (by simp)) (fun y hy => .inl hy)).trans ((Fr.refl [H.g] w5).setCell (p := ⟨H.g, 12, none⟩) (.inl (by simp)) (.bool (isFin h1))) (fun y hy => .inl (by simp at hy; simp [Hd.own, hy]))⟩
  · rw [hf] at hbit
    have hbq : (bits BinOp.and IntKind.i64 fl 4 != 0) = false := by simpa using hbit
    have hh1 : h1 = x.heap := by rw [HD1.out, hf]; rfl
    subst hh1
    clear hbit
    go_upto_region 5 with fail
    have E3 : Hid (Ext w2 S S) := Lib.hid (Ext.refl w2 S)
    have F3 : Hid (Fr [H.gh] w2 w2) := Lib.hid (Fr.refl _ _)
    have M3 : Hid (SI S w2 H { x with heap := x.heap }) := M2
    have c15 : w2.cell? ⟨H.g, 15, none⟩ = some H.uv := (scells M3.out.blk).c15
    have c18' : w2.cell? ⟨H.g, 18, none⟩ = some (ptr H.gh) := (scells M3.out.blk).c18
    obtain ⟨uA, uc, huv, _, _⟩ := own_form M3.out.unr
    have UN := Lib.hid M3.out.unr
    rw [huv] at c15
    have HUV := Lib.hid huv
    have g15 := Grew.cell c15
    have g18 := Grew.cell c18'
    have hN : ∀ q : Grew w2, Calls Try.prog 42 #[ptr H.gh] q.W fun e w' => e = .returned (.int .i64 x.heap.next) ∧ ∃ q' : Grew w2, w' = q'.W := fun q => grew_same (next_hp (M3.out.hp.ext' q.fr (Ext.refl w2 S) (by simp) (by simp) (fun b hb => Nat.lt_of_lt_of_le (HP.pub' M3.out.hp b hb) q.fr.size)))
    have HN := Lib.hid hN
    have hb0 := HI1.out.n0
    have hb1 := HI1.out.n1
    have hs1 : IntKind.i64.wrap (at_ + (d.length : Int) - x.heap.next) = at_ + (d.length : Int) - x.heap.next := IntWalk.i64_in _ (by omega)
    have hs2 : IntKind.i64.wrap (1024 - (x.unread.length : Int)) = 1024 - (x.unread.length : Int) := IntWalk.i64_in _ (by omega)
    have W3F : Hid (Fr H.own w w2) := Lib.hid ((F2.out.mono (by simp)).trans (F3.out.mono (O' := H.own) (by simp [Hd.own])) (fun y hy => .inl hy))
    clear hN huv y0 y1 y2 y3 y4
    have B3 := Lib.hid (B2.out.fr F3.out (by simp; have := M.out.lt H.gh (by simp [Hd.own]); omega))
    by_cases hc : 0 < d.length ∧ at_ + d.length - x.heap.next ≤ 1024 - x.unread.length
    · have hY := HY.out
      rw [if_pos hc] at hY
      have HYY := Lib.hid hY
      clear hY
      obtain ⟨hc1, hc2⟩ := hc
      have hq1 : (0 : Int) < (d.length : Int) := by omega
      refine wp_region_grew (by kernel_rfl) (by kernel_rfl) ?_
      repeat (go_big_quiet_step ((go_at_call 42; exact HN.out _)))
      refine wpQuiet_nil ?_
      intro w4 f4
      have m4 := M3.out.fr f4
      have F4 := Lib.hid f4
      have hby : Byt T w4 (.slice A d.length c) d := (HD.out.fr W3F.out (fun y hy hs => HT.out y hs hy)).fr f4 (by simp)
      have hput : ∀ W, Fr [] w4 W → Calls Try.prog 78 #[ptr H.gh, .int .i64 at_, .slice A d.length c] W (PutPost S W H.gh H.kv (putV x.heap at_ d).1 (putV x.heap at_ d).2.1 (putV x.heap at_ d).2.2) := fun W fW => put_any (m4.fr fW).hp HI1.out at_ _ d T (hby.fr fW (by simp)) (by omega)
      have hpo := put_out x.heap at_ d
      have hsm := sum_le x.heap HI1.out
      have hYY := HYY.out
      have M4 := Lib.hid m4
      have e18 : w4.cell? ⟨H.g, 18, none⟩ = some (ptr H.gh) := fr_cell f4 c18'
      have e4 : w4.cell? ⟨w.heap.size, 4, none⟩ = some (.slice A d.length c) := by have := (B3.out.fr f4 (by simp)); exact (cells5 this).2.2.2.2
      have SEE : Hid (∀ W, Fr [] w4 W → W.cell? ⟨H.g, 18, none⟩ = some (ptr H.gh) ∧ W.cell? ⟨w.heap.size, 4, none⟩ = some (.slice A d.length c)) := Lib.hid (fun W fW => ⟨fr_cell fW e18, fr_cell fW e4⟩)
      have NR : Hid (w.heap.size ∉ H.gh :: ob H.kv) := Lib.hid (fun hm => by have := M.out.lt w.heap.size (by rcases List.mem_cons.1 hm with h | h <;> simp [Hd.own, h]); omega)
      have NGG : Hid (H.g ∉ H.gh :: ob H.kv) := Lib.hid (fun hm => NG.out _ hm rfl)
      generalize putV x.heap at_ d = Q at *
      have HPut := Lib.hid hput
      have HYQ := Lib.hid hYY
      clear hput hby m4 f4 hYY g15 g18 c15 hc1 hc2 HYY
      go_upto_region 6 with fail
      go_region_held3 (fun w' => w'.cell? ⟨H.g, 18, none⟩ = some (ptr H.gh) ∧ w'.cell? ⟨w.heap.size, 4, none⟩ = some (.slice A d.length c))
        (first
          | (with_reducible exact ⟨s0, s1⟩)
          | (with_reducible exact SEE.out _ (Fr.refl [] w4).drew)
          | go_keep)
        (first
          | (go_at_call 78; refine (HPut.out _ (Fr.refl [] w4).drew).mono ?_; rintro e w5 ⟨S5, kv5, A5, c5, rfl, x5, by5, m5, f5, n5⟩; have f5' : Fr (H.gh :: ob H.kv) w4 w5 := (Fr.refl (H.gh :: ob H.kv) w4).drew.trans f5 (fun y hy => .inl hy); have s0 : w5.cell? ⟨H.g, 18, none⟩ = some (ptr H.gh) := (f5'.cell (p := ⟨H.g, 18, none⟩) (World.block_lt_of_cell? w4 _ e18) NGG.out).trans e18; have s1 : w5.cell? ⟨w.heap.size, 4, none⟩ = some (.slice A d.length c) := (f5'.cell (p := ⟨w.heap.size, 4, none⟩) (World.block_lt_of_cell? w4 _ e4) NR.out).trans e4; have X5 : Hid (Ext w4 S S5) := Lib.hid x5; have BY5 := Lib.hid by5; have SH := Lib.hid (M4.out.seth (h' := Q.1) x5 m5 f5' n5); have F5 := Lib.hid f5'; clear x5 by5 m5 f5 n5 f5'))
      obtain ⟨m5, lk5⟩ := SH.out
      generalize Q.1 = q1 at *
      generalize Q.2.1 = o5 at *
      generalize Q.2.2 = er at *
      have d15 : w5.cell? ⟨H.g, 15, none⟩ = some (.slice uA x.unread.length uc) := by rw [← HUV.out]; exact (scells m5.blk).c15
      have z15 : w5.frozen? ⟨H.g, 15, none⟩ = false := m5.blk.frozen 15
      have UN5 : Hid (w5.ownsRow 0 5 1 (.slice uA x.unread.length uc) x.unread.length (byts x.unread)) := Lib.hid (by rw [← HUV.out]; exact m5.unr)
      have M5 := Lib.hid m5
      have LK5 := Lib.hid lk5
      have HLM : Hid (x.unread.length + o5.length ≤ maxLen) := Lib.hid (by unfold maxLen; omega)
      have HLB : Hid ((x.unread.length + o5.length) * 1 ≤ 140737488355328) := Lib.hid (by omega)
      have NU : Hid (H.g ∉ ob H.uv) := Lib.hid (fun hm => m5.ne_u _ hm rfl)
      have hgl5 := m5.blk.lt
      clear m5 lk5 SH hpo hsm e18 e4
      obtain ⟨i0, hi0, hz0, hz1, hz2⟩ := info_parts info_u8
      go_upto_region 8 with (at_builtin; refine wpList_append_sl _ rfl (.tmp 71) (.tmp 72) 25 rfl 5 i0 (.int .u8 0) 1 1 Try.underlying25 hi0 hz0 hz1 hz2 rfl (by decide) (.slice uA x.unread.length uc) x.unread.length (byts x.unread) (by rfl) UN5.out S5 (.slice A5 o5.length c5) o5.length (byts o5) (by rfl) BY5.out (byts_one _) HLM.out HLB.out (x.unread.length + o5.length) rfl ?_; intro A7 c7 W7 h10 h11 h12; have H10 := Lib.hid h10; have h11' : Fr (ob H.uv) w5 W7 := (by rw [HUV.out]; exact h11); have H11 := Lib.hid h11'; have H12 := Lib.hid h12; have co7 := M5.out.blk.fr h11' NU.out; have y0 : W7.cell? ⟨H.g, 15, none⟩ = some (.slice uA x.unread.length uc) := (by rw [← HUV.out]; exact (scells co7).c15); have y1 := co7.frozen 15; have y2 := co7.lt; have y3 := (scells co7).c18; clear h10 h11 h11' h12 co7)
      have su := M5.out.setu (b := o5) (uv' := .slice A7 (x.unread.length + o5.length) c7) (by have := H10.out; rw [byts_app] at this; rw [List.length_append]; exact this) H11.out (fun y hy => by rw [HUV.out]; exact H12.out y hy)
      clear d15 z15 y0 y1 y2 y3 H10 H11 H12 UN5
      obtain ⟨m8, lk8, f8⟩ := su
      generalize W7.setCell ⟨H.g, 15, none⟩ (.slice A7 (x.unread.length + o5.length) c7) = w8 at *
      have M8 := Lib.hid m8
      have LK8 := Lib.hid lk8
      have F8 := Lib.hid f8
      have b18 : w8.cell? ⟨H.g, 18, none⟩ = some (ptr H.gh) := (scells m8.blk).c18
      clear m8 lk8 f8 hi0 hz0 hz1 hz2 s0 s1
      go_wp2_with fail
      refine (done_hp M8.out.hp).mono ?_
      rintro e w9 ⟨rfl, f9⟩
      have m9 := M8.out.fr f9
      have z12 : w9.frozen? ⟨H.g, 12, none⟩ = false := m9.blk.frozen 12
      have d12 : w9.cell? ⟨H.g, 12, none⟩ = some (.bool x.ended) := (scells m9.blk).c12
      have hl9 := m9.blk.lt
      have M9 := Lib.hid m9
      have F9 := Lib.hid f9
      clear m9 f9 b18
      go_wp2_with fail
      have m10 := M9.out.setended (isFin q1)
      go_end0
      rw [HYQ.out]
      have hz4 := F4.out.size
      have hz5 := F5.out.size
      have hzw := W3F.out.size
      refine ⟨S5, _, rfl, ext_up (ext_up X5.out hz4) F2.out.size, Hd.like.trans (w1 := w4) (Hd.like.rfl' w H) (by omega) (Hd.like.trans LK5.out hz5 LK8.out), m10, ?_⟩
      have G1 : Fr H.own w w5 := (W3F.out.trans (F4.out.mono (by simp)) (fun y hy => .inl hy)).trans (F5.out.mono (O' := H.own) (fun y hy => by rcases List.mem_cons.1 hy with h | h <;> simp [Hd.own, h])) (fun y hy => .inl hy)
      have G2 : Fr H.own w w8 := G1.trans F8.out (fun y hy => by
        rcases LK5.out.own y hy with h | h
        · exact .inl h
        · exact .inr (by omega))
      exact (G2.trans (F9.out.mono (by simp)) (fun y hy => .inl hy)).trans ((Fr.refl [H.g] w9).setCell (p := ⟨H.g, 12, none⟩) (.inl (by simp)) (.bool (isFin q1))) (fun y hy => .inl (by simp at hy; simp [Hd.own, hy]))
    · have hY := HY.out
      rw [if_neg hc] at hY
      have HYY := Lib.hid hY
      clear hY
      have hdone : ∀ W, Fr [] w2 W → Calls Try.prog 79 #[ptr H.gh] W fun e w' => e = .returned (.bool (isFin x.heap)) ∧ Fr [] W w' := fun W fW => done_hp (M3.out.fr fW).hp
      have HDn := Lib.hid hdone
      clear hdone
      by_cases hq : 0 < (d.length : Int)
      · have hq2 : ¬ (at_ + (d.length : Int) - x.heap.next ≤ 1024 - (x.unread.length : Int)) := fun h => hc ⟨by omega, h⟩
        have hq' : 0 < d.length := by omega
        clear hc hq
        refine wp_region_grew (by kernel_rfl) (by kernel_rfl) ?_
        repeat (go_big_quiet_step ((go_at_call 42; exact HN.out _)))
        refine wpQuiet_nil ?_
        intro w4 f4
        have M4 := Lib.hid (M3.out.fr f4)
        have e18 : w4.cell? ⟨H.g, 18, none⟩ = some (ptr H.gh) := fr_cell f4 c18'
        have F4 := Lib.hid f4
        clear f4 g15 g18 c15
        go_wp2_with fail
        refine (HDn.out _ F4.out).mono ?_
        rintro e w5 ⟨rfl, f5⟩
        have M5 := Lib.hid (M4.out.fr f5)
        have z12 : w5.frozen? ⟨H.g, 12, none⟩ = false := M5.out.blk.frozen 12
        have d12 : w5.cell? ⟨H.g, 12, none⟩ = some (.bool x.ended) := (scells M5.out.blk).c12
        have F5 := Lib.hid (F4.out.trans f5 (by simp))
        have hl5 := M5.out.blk.lt
        clear f5 e18
        go_wp2_with fail
        have m6 := M5.out.setended (isFin x.heap)
        go_end0
        rw [HYY.out]
        exact ⟨S, H, rfl, ext_up E3.out F2.out.size, Hd.like.rfl' w H, m6, (W3F.out.trans (F5.out.mono (by simp)) (fun y hy => .inl hy)).trans ((Fr.refl [H.g] w5).setCell (p := ⟨H.g, 12, none⟩) (.inl (by simp)) (.bool (isFin x.heap))) (fun y hy => .inl (by simp at hy; simp [Hd.own, hy]))⟩
      · have hq' : ¬ 0 < d.length := by omega
        clear hc hq
        refine wp_region_grew (by kernel_rfl) (by kernel_rfl) ?_
        repeat (go_big_quiet_step ((go_at_call 42; exact HN.out _)))
        refine wpQuiet_nil ?_
        intro w4 f4
        have M4 := Lib.hid (M3.out.fr f4)
        have e18 : w4.cell? ⟨H.g, 18, none⟩ = some (ptr H.gh) := fr_cell f4 c18'
        have F4 := Lib.hid f4
        clear f4 g15 g18 c15
        go_wp2_with fail
        refine (HDn.out _ F4.out).mono ?_
        rintro e w5 ⟨rfl, f5⟩
        have M5 := Lib.hid (M4.out.fr f5)
        have z12 : w5.frozen? ⟨H.g, 12, none⟩ = false := M5.out.blk.frozen 12
        have d12 : w5.cell? ⟨H.g, 12, none⟩ = some (.bool x.ended) := (scells M5.out.blk).c12
        have F5 := Lib.hid (F4.out.trans f5 (by simp))
        have hl5 := M5.out.blk.lt
        clear f5 e18
        go_wp2_with fail
        have m6 := M5.out.setended (isFin x.heap)
        go_end0
        rw [HYY.out]
        exact ⟨S, H, rfl, ext_up E3.out F2.out.size, Hd.like.rfl' w H, m6, (W3F.out.trans (F5.out.mono (by simp)) (fun y hy => .inl hy)).trans ((Fr.refl [H.g] w5).setCell (p := ⟨H.g, 12, none⟩) (.inl (by simp)) (.bool (isFin x.heap))) (fun y hy => .inl (by simp at hy; simp [Hd.own, hy]))⟩
end Go.Proofs.Ytmgdbbbdhkfdmaa
