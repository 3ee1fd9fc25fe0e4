import Derived.Test.YtmgdbbbdhkfdmaaZ20
import Derived.Deep.DeepCutAuto
import Derived.Deep.RegionLaw
import Derived.Test.YtmgdbbbdhkfdmaaZ19
set_option linter.unusedSimpArgs false
set_option linter.unusedVariables false
/-
  What two ends, and what is on its way, are in memory.
-/
namespace Go.Proofs.Ytmgdbbbdhkfdmaa
set_option maxRecDepth 100000
open Go.RowKit Go.Deep

/-- The cells of a row of parts, each with the one to whom it goes. -/
def snts : List (Int × Prt × Value) → List Value
  | [] => []
  | x :: L => .int .i64 x.1 :: .int .i64 x.2.1.flags :: .int .u32 x.2.1.seq :: .int .u32 x.2.1.ack :: .int .u16 x.2.1.win :: x.2.2 :: snts L
theorem snts_len : ∀ L, (snts L).length = L.length * 6
  | [] => rfl
  | x :: L => by simp only [snts, List.length_cons, snts_len L]; omega
theorem snts_app : ∀ L M, snts L ++ snts M = snts (L ++ M)
  | [], _ => rfl
  | x :: L, M => by simp only [snts, List.cons_append, snts_app L M]
theorem snts_take : ∀ (L : List (Int × Prt × Value)) k, (snts L).take (k * 6) = snts (L.take k)
  | [], k => by simp [snts]
  | x :: L, 0 => by simp [snts]
  | x :: L, k + 1 => by
    rw [show (k + 1) * 6 = k * 6 + 1 + 1 + 1 + 1 + 1 + 1 by omega]
    simp only [snts, List.take_succ_cons, snts_take L k]
theorem snts_drop : ∀ (L : List (Int × Prt × Value)) k, (snts L).drop (k * 6) = snts (L.drop k)
  | [], k => by simp [snts]
  | x :: L, 0 => by simp [snts]
  | x :: L, k + 1 => by
    rw [show (k + 1) * 6 = k * 6 + 1 + 1 + 1 + 1 + 1 + 1 by omega]
    simp only [snts, List.drop_succ_cons, snts_drop L k]
theorem snts_at : ∀ (L : List (Int × Prt × Value)) (i : Nat) (x : Int × Prt × Value), L[i]? = some x → (snts L)[i * 6]? = some (.int .i64 x.1) ∧ (snts L)[i * 6 + 1]? = some (.int .i64 x.2.1.flags) ∧ (snts L)[i * 6 + 2]? = some (.int .u32 x.2.1.seq) ∧ (snts L)[i * 6 + 3]? = some (.int .u32 x.2.1.ack) ∧
    (snts L)[i * 6 + 4]? = some (.int .u16 x.2.1.win) ∧ (snts L)[i * 6 + 5]? = some x.2.2
  | [], i, x, h => by simp at h
  | y :: L, 0, x, h => by
    simp at h
    subst h
    exact ⟨rfl, rfl, rfl, rfl, rfl, rfl⟩
  | y :: L, i + 1, x, h => by
    simp at h
    obtain ⟨h0, h1, h2, h3, h4, h5⟩ := snts_at L i x h
    have e : ∀ j, (snts (y :: L))[(i + 1) * 6 + j]? = (snts L)[i * 6 + j]? := fun j => by rw [show (i + 1) * 6 + j = (i * 6 + j) + 6 by omega]; rfl
    exact ⟨(e 0).trans h0, (e 1).trans h1, (e 2).trans h2, (e 3).trans h3, (e 4).trans h4, (e 5).trans h5⟩
/-- What is on its way. -/
structure Bag (S : Nat → Prop) (w : World) (v : Value) (L : List (Int × Prt × Value)) : Prop where
  sl : Sl S w 6 v L.length (snts L)
  byt : ∀ x ∈ L, Byt S w x.2.2 x.2.1.d
section
variable {S S' : Nat → Prop} {w w' : World} {v : Value} {L : List (Int × Prt × Value)} {O : List Nat}
theorem Bag.fr (h : Bag S w v L) (f : Fr O w w') (hO : ∀ y ∈ O, ¬ S y) : Bag S w' v L := ⟨h.sl.fr f hO, fun x hx => (h.byt x hx).fr f hO⟩
theorem Bag.mono (h : Bag S w v L) (hS : ∀ b, S b → S' b) : Bag S' w v L := ⟨h.sl.mono hS, fun x hx => (h.byt x hx).mono hS⟩
theorem Bag.one (h : Bag S w v L) : ∀ u ∈ snts L, u.oneCell' = true := by
  have hb := h.byt
  clear h
  induction L with
  | nil => simp [snts]
  | cons x L ih =>
    intro u hu
    simp only [snts, List.mem_cons] at hu
    rcases hu with rfl | rfl | rfl | rfl | rfl | rfl | hu
    · rfl
    · rfl
    · rfl
    · rfl
    · rfl
    · exact (hb x (by simp)).one
    · exact ih (fun y hy => hb y (List.mem_cons_of_mem _ hy)) u hu
theorem Bag.nil : Bag S w (.slice none 0 0) [] := ⟨Sl.nil, by simp⟩
/-- A bag that was laid anew becomes public. -/
theorem Bag.new {k : Nat} (own : w'.ownsRow 0 96 6 v k (snts L)) (hk : k = L.length) (hb : ∀ x ∈ L, Byt S w' x.2.2 x.2.1.d) : Bag (fun b => S b ∨ v.ownBlock = some b) w' v L := by
  subst hk
  exact ⟨Sl.of_own own (fun b h => .inr h), fun x hx => (hb x hx).mono (fun b h => .inl h)⟩
end
/-- Two ends, what is on its way, what was written, what was read: numbers and lists. -/
structure Pm where
  e0 : St
  e1 : St
  bag : List (Int × Prt)
  s0 : List Int
  s1 : List Int
  r0 : List Int
  r1 : List Int
abbrev arM (Ha Hb : Hd) (bv s0 s1 r0 r1 : Value) : Array Value := #[ptr Ha.g, ptr Hb.g, bv, s0, s1, r0, r1]
/-- The same in memory. -/
structure PV (S : Nat → Prop) (w : World) (Ha Hb : Hd) (P : Pm) (bv s0 s1 r0 r1 : Value) (L : List (Int × Prt × Value)) : Prop where
  duo : Duo S w Ha Hb P.e0 P.e1
  bag : Bag S w bv L
  bagL : L.map (fun x => (x.1, x.2.1)) = P.bag
  s0 : Byt S w s0 P.s0
  s1 : Byt S w s1 P.s1
  r0 : Byt S w r0 P.r0
  r1 : Byt S w r1 P.r1
section
variable {S S' : Nat → Prop} {w w' : World} {Ha Hb : Hd} {P : Pm} {bv s0 s1 r0 r1 : Value} {L : List (Int × Prt × Value)}
theorem Duo.ext {xa xb : St} (d : Duo S w Ha Hb xa xb) (f : Fr [] w w') (e : Ext w S S') (hp : ∀ b, S' b → b < w'.heap.size) : Duo S' w' Ha Hb xa xb := ⟨d.a.ext f e hp, d.b.ext f e hp, d.ap⟩
theorem PV.ext (m : PV S w Ha Hb P bv s0 s1 r0 r1 L) (f : Fr [] w w') (e : Ext w S S') (hp : ∀ b, S' b → b < w'.heap.size) : PV S' w' Ha Hb P bv s0 s1 r0 r1 L :=
  ⟨m.duo.ext f e hp, (m.bag.fr f (by simp)).mono e.1, m.bagL, (m.s0.fr f (by simp)).mono e.1, (m.s1.fr f (by simp)).mono e.1, (m.r0.fr f (by simp)).mono e.1, (m.r1.fr f (by simp)).mono e.1⟩
theorem PV.fr (m : PV S w Ha Hb P bv s0 s1 r0 r1 L) (f : Fr [] w w') : PV S w' Ha Hb P bv s0 s1 r0 r1 L := m.ext f (Ext.refl w S) (fun b hb => Nat.lt_of_lt_of_le (m.duo.pub b hb) f.size)
end
/-- Parts that are put into the bag. -/
def putB (t : Int) : List (Int × Prt) → List Prt → List (Int × Prt)
  | bag, [] => bag
  | bag, p :: l => if bag.length < 400 then putB t (bag ++ [(t, p)]) l else bag
theorem putB_mem (t : Int) : ∀ (l : List Prt) (bag : List (Int × Prt)) (x : Int × Prt), x ∈ putB t bag l → x ∈ bag ∨ (x.1 = t ∧ x.2 ∈ l)
  | [], bag, x, h => .inl h
  | p :: l, bag, x, h => by
    unfold putB at h
    split at h
    · rcases putB_mem t l _ x h with h | ⟨h1, h2⟩
      · rcases List.mem_append.1 h with h | h
        · exact .inl h
        · rw [List.mem_singleton] at h
          subst h
          exact .inr ⟨rfl, by simp⟩
      · exact .inr ⟨h1, List.mem_cons_of_mem _ h2⟩
    · exact .inl h
theorem putB_full (t : Int) (bag : List (Int × Prt)) (l : List Prt) (h : ¬ bag.length < 400) : putB t bag l = bag := by
  cases l with
  | nil => rfl
  | cons p l => unfold putB; rw [if_neg h]
theorem putB_go (t : Int) (bag : List (Int × Prt)) (p : Prt) (l : List Prt) (h : bag.length < 400) : putB t bag (p :: l) = putB t (bag ++ [(t, p)]) l := by
  conv => lhs; unfold putB
  rw [if_pos h]
theorem info_sent : (Try.prog.info? 96).map (fun i => (i.zero, i.size, i.bytes)) = some (some (.agg #[.int .i64 0, .int .i64 0, .int .u32 0, .int .u32 0, .int .u16 0, .slice none 0 0]), 6, 56) := by kernel_rfl
end Go.Proofs.Ytmgdbbbdhkfdmaa

/-
  What put does.
-/
namespace Go.Proofs.Ytmgdbbbdhkfdmaa
set_option maxRecDepth 100000
open Go.RowKit Go.Deep

def BagPost (S : Nat → Prop) (w : World) (Ha Hb : Hd) (P : Pm) (s0 s1 r0 r1 : Value) (bag : List (Int × Prt)) (e : Ending) (w' : World) : Prop :=
  ∃ S' bv' L', e = .returned (.agg (arM Ha Hb bv' s0 s1 r0 r1)) ∧ Ext w S S' ∧ PV S' w' Ha Hb { P with bag := bag } bv' s0 s1 r0 r1 L' ∧ Fr [] w w'
/-- A round's beginning: the bag is in the box. -/
def BagRel (S : Nat → Prop) (w w1 : World) (Ha Hb : Hd) (P : Pm) (s0 s1 r0 r1 : Value) (bag : List (Int × Prt)) (t : Int) (lp : List Prt) (s7 : Value) (wr : World) : Prop :=
  ∃ (k : Nat) (S' : Nat → Prop) (bv : Value) (L : List (Int × Prt × Value)), s7 = .int .i64 k ∧ k ≤ lp.length ∧ Ext w1 S S' ∧ (∀ b, S' b → b < wr.heap.size) ∧ ¬ S' w.heap.size ∧ Blk wr w.heap.size 61 (arM Ha Hb bv s0 s1 r0 r1) ∧ Bag S' wr bv L ∧ Fr [w.heap.size] w1 wr ∧ L.length ≤ 400 + bag.length ∧
    putB t (L.map (fun x => (x.1, x.2.1))) (lp.drop k) = putB t bag lp
abbrev pmZ : Array Value := #[.pointer none, .pointer none, .slice none 0 0, .slice none 0 0, .slice none 0 0, .slice none 0 0, .slice none 0 0]
theorem fresh_nil {w w' : World} {v : Value} (h : ∀ b, v.ownBlock = some b → (Value.slice none 0 0).ownBlock = some b ∨ (w.heap.size ≤ b ∧ b < w'.heap.size)) : ∀ b, v.ownBlock = some b → w.heap.size ≤ b := fun b hb => by
  rcases h b hb with h | h
  · simp [Value.ownBlock] at h
  · exact h.1
theorem fresh_two {n : Nat} {w w' : World} {v v' : Value} (hz : n ≤ w.heap.size) (h8 : ∀ b, v.ownBlock = some b → n ≤ b) (h : ∀ b, v'.ownBlock = some b → v.ownBlock = some b ∨ (w.heap.size ≤ b ∧ b < w'.heap.size)) : ∀ b, v'.ownBlock = some b → n ≤ b := fun b hb => by
  rcases h b hb with h | h
  · exact h8 b h
  · omega
abbrev arP6 (t : Int) (p : Prt) (dv : Value) : Array Value := #[.int .i64 t, .int .i64 p.flags, .int .u32 p.seq, .int .u32 p.ack, .int .u16 p.win, dv]
theorem one6 (t : Int) (p : Prt) (A : Option Addr) (n c : Nat) : ∀ u ∈ ([.int .i64 t, .int .i64 p.flags, .int .u32 p.seq, .int .u32 p.ack, .int .u16 p.win, .slice A n c] : List Value), u.oneCell' = true := by
  intro u hu
  simp at hu
  rcases hu with rfl | rfl | rfl | rfl | rfl | rfl <;> rfl
theorem sl_six (w : World) (t : Int) (p : Prt) (dv : Value) : Sl (fun _ => True) (w.alloc (.cells (arP6 t p dv) 96)) 6 (.slice (some ⟨w.heap.size, 0, none⟩) 1 1) 1 [.int .i64 t, .int .i64 p.flags, .int .u32 p.seq, .int .u32 p.ack, .int .u16 p.win, dv] :=
  Sl.of_own (World.ownsRow_lit (base := 0) (e := 96) (size := 6) w (arP6 t p dv) 1 (Nat.zero_le _) (by unfold maxLen; omega) rfl) (fun _ _ => trivial)
theorem cells7 {w : World} {b : Nat} {t : TypeId} {v0 v1 v2 v3 v4 v5 v6 : Value} (h : Blk w b t #[v0, v1, v2, v3, v4, v5, v6]) : w.cell? ⟨b, 0, none⟩ = some v0 ∧ w.cell? ⟨b, 1, none⟩ = some v1 ∧ w.cell? ⟨b, 2, none⟩ = some v2 ∧ w.cell? ⟨b, 3, none⟩ = some v3 ∧ w.cell? ⟨b, 4, none⟩ = some v4 ∧ w.cell? ⟨b, 5, none⟩ = some v5 ∧ w.cell? ⟨b, 6, none⟩ = some v6 :=
  ⟨h.cell 0, h.cell 1, h.cell 2, h.cell 3, h.cell 4, h.cell 5, h.cell 6⟩
/-- A round's end. -/
theorem bag_round {S S' : Nat → Prop} {w w1 wr W9 : World} {Ha Hb : Hd} {P : Pm} {bv1 s0 s1 r0 r1 : Value} {bag : List (Int × Prt)} {t : Int} {lp : List Prt} {k : Nat} {L1 : List (Int × Prt × Value)} {p : Prt} {A A9 : Option Addr} {c C9 : Nat} (hz : w.heap.size < w1.heap.size)
    (x1 : Ext w1 S S') (pub : ∀ b, S' b → b < wr.heap.size) (ns : ¬ S' w.heap.size) (B1 : Blk wr w.heap.size 61 (arM Ha Hb bv1 s0 s1 r0 r1)) (bg : Bag S' wr bv1 L1) (f1 : Fr [w.heap.size] w1 wr) (hpb : putB t (L1.map (fun x => (x.1, x.2.1))) (lp.drop k) = putB t bag lp) (hp : lp[k]? = some p)
    (h400 : L1.length < 400) (hby : Byt S wr (.slice A p.d.length c) p.d) (own : W9.ownsRow 0 96 6 (.slice A9 (L1.length + 1) C9) (L1.length + 1) (([] ++ snts L1) ++ [.int .i64 t, .int .i64 p.flags, .int .u32 p.seq, .int .u32 p.ack, .int .u16 p.win, .slice A p.d.length c])) (f9 : Fr [] wr W9)
    (n9 : ∀ b, (Value.slice A9 (L1.length + 1) C9).ownBlock = some b → wr.heap.size ≤ b) :
    BagRel S w w1 Ha Hb P s0 s1 r0 r1 bag t lp (.int .i64 (k + 1 : Nat)) (W9.setCell ⟨w.heap.size, 2, none⟩ (.slice A9 (L1.length + 1) C9)) := by
  have hk : k < lp.length := (List.getElem?_eq_some_iff.1 hp).1
  have hz1 := f1.size
  have hz9 := f9.size
  have f2 : Fr [w.heap.size] W9 (W9.setCell ⟨w.heap.size, 2, none⟩ (.slice A9 (L1.length + 1) C9)) := (Fr.refl [w.heap.size] W9).setCell (p := ⟨w.heap.size, 2, none⟩) (.inl (by simp)) _
  have B9 := B1.fr f9 (by simp)
  have own2 := own_fr own f2 (fun b hb => by simp; rintro rfl; exact own_ne own B9 (by decide) hb)
  have hO : ∀ y ∈ [w.heap.size], ¬ S' y := fun y hy => by simp at hy; subst hy; exact ns
  have hL : snts L1 ++ [.int .i64 t, .int .i64 p.flags, .int .u32 p.seq, .int .u32 p.ack, .int .u16 p.win, .slice A p.d.length c] = snts (L1 ++ [(t, p, .slice A p.d.length c)]) := by rw [← snts_app]; rfl
  rw [List.nil_append, hL] at own2
  refine ⟨k + 1, fun b => S' b ∨ (Value.slice A9 (L1.length + 1) C9).ownBlock = some b, _, L1 ++ [(t, p, .slice A p.d.length c)], rfl, hk, ⟨fun b h => .inl (x1.1 b h), fun b h => ?_⟩, fun b h => ?_, fun h => ?_, B9.set_ 2 _, Bag.new own2 (by simp) (fun x hx => ?_), (f1.trans f9 (by simp)).trans f2 (fun y hy => .inl hy), by simp; omega, ?_⟩
  · rcases h with h | h
    · exact x1.2 b h
    · exact .inr (by have := n9 b h; omega)
  · rcases h with h | h
    · have := pub b h; have := f2.size; omega
    · exact own_lt own2 h
  · rcases h with h | h
    · exact ns h
    · have := n9 _ h; omega
  · rcases List.mem_append.1 hx with hx | hx
    · exact ((bg.byt x hx).fr f9 (by simp)).fr f2 hO
    · rw [List.mem_singleton] at hx
      subst hx
      exact (((hby.mono x1.1).fr f9 (by simp)).fr f2 hO)
  · rw [List.drop_eq_getElem_cons hk] at hpb
    have hpe : lp[k] = p := by have := List.getElem?_eq_getElem hk; rw [this] at hp; injection hp
    rw [hpe, putB_go _ _ _ _ (by rw [List.length_map]; exact h400)] at hpb
    rw [List.map_append]
    exact hpb
/-- The end. -/
theorem bag_end {S S' : Nat → Prop} {w w1 wr w3 : World} {Ha Hb : Hd} {P : Pm} {bv bv1 s0 s1 r0 r1 : Value} {bag : List (Int × Prt)} {L L1 : List (Int × Prt × Value)} (m : PV S w Ha Hb P bv s0 s1 r0 r1 L) (f0 : Fr [] w w1) (x1 : Ext w1 S S') (pub : ∀ b, S' b → b < wr.heap.size) (bg : Bag S' wr bv1 L1) (fw : Fr [] w wr)
    (hb : L1.map (fun x => (x.1, x.2.1)) = bag) (f3 : Fr [w.heap.size + 1] wr w3) (ns : ¬ S' (w.heap.size + 1)) : BagPost S w Ha Hb P s0 s1 r0 r1 bag (.returned (.agg (arM Ha Hb bv1 s0 s1 r0 r1))) w3 := by
  have f3w : Fr [] w w3 := fw.trans f3 (fun y hy => .inr (by simp at hy; omega))
  have x : Ext w S S' := ext_up x1 f0.size
  have m1 := m.ext f3w x (fun b hb => Nat.lt_of_lt_of_le (pub b hb) f3.size)
  exact ⟨S', bv1, L1, rfl, x, ⟨m1.duo, bg.fr f3 (fun y hy => by simp at hy; subst hy; exact ns), hb, m1.s0, m1.s1, m1.r0, m1.r1⟩, f3w⟩
set_option maxHeartbeats 8000000 in
theorem lput_any {S : Nat → Prop} {w : World} {Ha Hb : Hd} {P : Pm} {bv s0 s1 r0 r1 : Value} {L : List (Int × Prt × Value)} (m : PV S w Ha Hb P bv s0 s1 r0 r1 L) (from_ : Int) (hf : from_ = 0 ∨ from_ = 1) (v : Value) (Lp : List (Prt × Value)) (pr : Pr S w v Lp) (hlp : Lp.length ≤ 2000000) (hbg : L.length ≤ 1000) :
    Calls Try.prog 52 #[.agg (arM Ha Hb bv s0 s1 r0 r1), .int .i64 from_, v] w (BagPost S w Ha Hb P s0 s1 r0 r1 (putB (1 - from_) P.bag (Lp.map (·.1)))) := by
  obtain ⟨bA, bc, rfl, _, _⟩ := m.bag.sl.form
  have HC7 : Hid (∀ bA n bc, (arM Ha Hb (.slice bA n bc) s0 s1 r0 r1).all (·.oneCell') = true) := Lib.hid (fun bA n bc => by
    have h0 := m.s0.one
    have h1 := m.s1.one
    have h2 := m.r0.one
    have h3 := m.r1.one
    simp [arM, Value.oneCell'] at *
    exact ⟨h0, h1, h2, h3⟩)
  obtain ⟨vA, vc, rfl, _, _⟩ := own_form pr.own
  have f0 : Fr [] w (w.alloc (.cells (arM Ha Hb (.slice bA L.length bc) s0 s1 r0 r1) 61)) := (Fr.refl [] w).alloc _
  have b0 : Blk (w.alloc (.cells (arM Ha Hb (.slice bA L.length bc) s0 s1 r0 r1) 61)) w.heap.size 61 (arM Ha Hb (.slice bA L.length bc) s0 s1 r0 r1) := Blk.new w _ _
  have M := Lib.hid m
  have PRv := Lib.hid pr
  clear m pr
  go_enter Try.func52, Try.ntmps52
  go_upto_region 1 with fail
  have f1 : Fr [] w ((w.alloc (.cells (arM Ha Hb (.slice bA L.length bc) s0 s1 r0 r1) 61)).alloc (.cells pmZ 61)) := f0.alloc _
  have b1 := b0.alloc (.cells pmZ 61)
  have bz : Blk ((w.alloc (.cells (arM Ha Hb (.slice bA L.length bc) s0 s1 r0 r1) 61)).alloc (.cells pmZ 61)) (w.heap.size + 1) 61 pmZ := by
    have h := Blk.new (w.alloc (.cells (arM Ha Hb (.slice bA L.length bc) s0 s1 r0 r1) 61)) 61 pmZ
    simpa using h
  have hz1 : w.heap.size < ((w.alloc (.cells (arM Ha Hb (.slice bA L.length bc) s0 s1 r0 r1) 61)).alloc (.cells pmZ 61)).heap.size := b1.lt
  generalize (w.alloc (.cells (arM Ha Hb (.slice bA L.length bc) s0 s1 r0 r1) 61)).alloc (.cells pmZ 61) = w1 at *
  have F1 := Lib.hid f1
  have BZ := Lib.hid bz
  have HZ1 := Lib.hid hz1
  have hrel : BagRel S w w1 Ha Hb P s0 s1 r0 r1 P.bag (1 - from_) (Lp.map (·.1)) (.int .i64 (0 : Nat)) w1 :=
    ⟨0, S, _, L, rfl, Nat.zero_le _, Ext.refl w1 S, fun b hb => Nat.lt_of_lt_of_le (M.out.duo.pub b hb) f1.size, fun hs => by have := M.out.duo.pub _ hs; omega, b1, M.out.bag.fr f1 (by simp), Fr.refl _ w1, by rw [← M.out.bagL, List.length_map]; omega, by rw [M.out.bagL]; rfl⟩
  have HRel := Lib.hid hrel
  have HBL : Hid (P.bag.length = L.length) := Lib.hid (by rw [← M.out.bagL, List.length_map])
  clear f0 b0 f1 b1 bz hz1 hrel
  have hpl : (Lp.map (·.1)).length = Lp.length := List.length_map _
  generalize hlp' : Lp.map (·.1) = lp at *
  have HLP := Lib.hid hlp'
  have HPL := Lib.hid hpl
  clear hlp' hpl
  go_wp2_with fail
  go_loopw [7] (fun s7 wr => BagRel S w w1 Ha Hb P s0 s1 r0 r1 P.bag (1 - from_) lp s7 wr) (fun s7 _ => Lp.length - (intOf s7).toNat)
  case atStart => exact HRel.out
  case round =>
    obtain ⟨k, S', bv1, L1, rfl, hk, x1, pub1, ns1, B1, bag1, f1, hl1, hpb⟩ := hrel
    obtain ⟨bA1, bc1, rfl, _, _⟩ := bag1.sl.form
    have hk' : k ≤ Lp.length := by rw [← HPL.out]; exact hk
    have c2 : wr.cell? ⟨w.heap.size, 2, none⟩ = some (.slice bA1 L1.length bc1) := by simpa using B1.cell 2
    have hL1 : L1.length ≤ 3000 := by have := HBL.out; omega
    have F1w := Lib.hid (F1.out.trans f1 (fun y hy => .inr (by simp at hy; omega)))
    have X1 := Lib.hid x1
    have PUB := Lib.hid pub1
    have NS := Lib.hid ns1
    have B1' := Lib.hid B1
    have BG := Lib.hid bag1
    have FF1 := Lib.hid f1
    have HL1' := Lib.hid hl1
    have HPB := Lib.hid hpb
    clear x1 pub1 ns1 B1 bag1 f1 hl1 hpb hk
    by_cases hkl : k < Lp.length
    · have dk : decide ((k : Int) < (Lp.length : Int)) = true := by simpa using hkl
      by_cases h400 : L1.length < 400
      · have d4 : decide ((L1.length : Int) < 400) = true := by simp; omega
        obtain ⟨p, hp⟩ : ∃ p, lp[k]? = some p := ⟨_, List.getElem?_eq_getElem (by rw [HPL.out]; exact hkl)⟩
        have hpr := PRv.out.fr F1w.out (by simp) (by simp) (fun _ h => h)
        obtain ⟨lb, lk, A, c, hv, hi1, hi2, hi3, hat⟩ := hpr.at_ (i := k) (p := p) (by rw [HLP.out]; exact hp)
        injection hv with hv1 _ hv2
        subst hv1 hv2
        obtain ⟨q0, q1, q2, q3, q4, hby⟩ := hat
        have HBY := Lib.hid hby
        have HP := Lib.hid hp
        have SEE : Hid (∀ W, Fr [] wr W → W.cell? ⟨w.heap.size, 2, none⟩ = some (.slice bA1 L1.length bc1) ∧ W.cell? ⟨lb, k * 5, none⟩ = some (.int .i64 p.flags) ∧ W.cell? ⟨lb, k * 5 + 1, none⟩ = some (.int .u32 p.seq) ∧ W.cell? ⟨lb, k * 5 + 2, none⟩ = some (.int .u32 p.ack) ∧ W.cell? ⟨lb, k * 5 + 3, none⟩ = some (.int .u16 p.win) ∧ W.cell? ⟨lb, k * 5 + 4, none⟩ = some (.slice A p.d.length c)) := Lib.hid (fun W f => ⟨fr_cell f c2, fr_cell f q0, fr_cell f q1, fr_cell f q2, fr_cell f q3, fr_cell f q4⟩)
        have HSL : Hid (∀ W, Fr [] wr W → Sl S' W 6 (.slice bA1 L1.length bc1) L1.length (snts L1)) := Lib.hid (fun W f => BG.out.sl.fr f (by simp))
        have BX : Hid (∀ W, Fr [] wr W → Blk W w.heap.size 61 (arM Ha Hb (.slice bA1 L1.length bc1) s0 s1 r0 r1)) := Lib.hid (fun W f => B1'.out.fr f (by simp))
        obtain ⟨i0, hi0, hz0, hz1, hz2⟩ := info_parts info_sent
        have HOne := Lib.hid BG.out.one
        have HLm1 : Hid (0 + L1.length ≤ maxLen) := Lib.hid (by unfold maxLen; omega)
        have HLb1 : Hid ((0 + L1.length) * 56 ≤ 140737488355328) := Lib.hid (by omega)
        have HLm2 : Hid (L1.length + 1 ≤ maxLen) := Lib.hid (by unfold maxLen; omega)
        have HLb2 : Hid ((L1.length + 1) * 56 ≤ 140737488355328) := Lib.hid (by omega)
        have HN1 : Hid (0 + L1.length = L1.length) := Lib.hid (by omega)
        have hfw : IntKind.i64.wrap (1 - from_) = 1 - from_ := IntWalk.i64_in _ (by omega)
        clear hpr hby hp
        go_upto_region 4 with fail
        obtain ⟨a2, a3, a4, a5, a6, a7⟩ := SEE.out _ ((Fr.refl [] wr).alloc (.cells (arP6 (1 - from_) p (.slice A p.d.length c)) 96)).drew
        go_region_law
          (first
            | ((refine step_append_sl _ (by rfl) (.const (.slice none 0 0)) (.tmp 21) 58 (by rfl) 96 i0 (.agg #[.int .i64 0, .int .i64 0, .int .u32 0, .int .u32 0, .int .u16 0, .slice none 0 0]) 6 56 Try.underlying58 hi0 hz0 hz1 hz2 (by rfl) (by decide) (.slice none 0 0) 0 [] (by rfl) (World.ownsRow_nil _ 0 96 6) S' (.slice bA1 L1.length bc1) L1.length (snts L1) (by rfl) (HSL.out _ (Fr.refl [] wr).drew) HOne.out HLm1.out HLb1.out L1.length HN1.out ?_); intro KA8 KC8 W8 h10 h11 h12; have F8 : Hid (Fr [] wr W8) := Lib.hid (Fr.trans (O' := ob (.slice none 0 0)) (Fr.refl [] wr).drew h11 (by simp [ob, Value.ownBlock])); have N8 : Hid (∀ b, (Value.slice KA8 L1.length KC8).ownBlock = some b → wr.heap.size ≤ b) := Lib.hid (fun b hb => Nat.le_trans (Fr.refl [] wr).drew.size (fresh_nil h12 b hb)); obtain ⟨b2, b3, b4, b5, b6, b7⟩ := SEE.out _ F8.out; have H10 := Lib.hid h10; have H11 := Lib.hid h11; clear h10 h11 h12)
            | ((refine step_append_sl _ (by rfl) (.const (.slice none 0 0)) (.tmp 21) 58 (by rfl) 96 i0 (.agg #[.int .i64 0, .int .i64 0, .int .u32 0, .int .u32 0, .int .u16 0, .slice none 0 0]) 6 56 Try.underlying58 hi0 hz0 hz1 hz2 (by rfl) (by decide) (.slice none 0 0) 0 [] (by rfl) (World.ownsRow_nil _ 0 96 6) S' (.slice bA1 L1.length bc1) L1.length (snts L1) (by rfl) (HSL.out _ ((Fr.refl [] wr).alloc (.cells (arP6 (1 - from_) p (.slice A p.d.length c)) 96)).drew) HOne.out HLm1.out HLb1.out L1.length HN1.out ?_); intro KA8 KC8 W8 h10 h11 h12; have F8 : Hid (Fr [] wr W8) := Lib.hid (Fr.trans (O' := ob (.slice none 0 0)) ((Fr.refl [] wr).alloc (.cells (arP6 (1 - from_) p (.slice A p.d.length c)) 96)).drew h11 (by simp [ob, Value.ownBlock])); have N8 : Hid (∀ b, (Value.slice KA8 L1.length KC8).ownBlock = some b → wr.heap.size ≤ b) := Lib.hid (fun b hb => Nat.le_trans ((Fr.refl [] wr).alloc (.cells (arP6 (1 - from_) p (.slice A p.d.length c)) 96)).drew.size (fresh_nil h12 b hb)); obtain ⟨b2, b3, b4, b5, b6, b7⟩ := SEE.out _ F8.out; have H10 := Lib.hid h10; have H11 := Lib.hid h11; clear h10 h11 h12)
            | ((refine step_append_sl _ (by rfl) (.tmp 22) (.tmp 30) 58 (by rfl) 96 i0 (.agg #[.int .i64 0, .int .i64 0, .int .u32 0, .int .u32 0, .int .u16 0, .slice none 0 0]) 6 56 Try.underlying58 hi0 hz0 hz1 hz2 (by rfl) (by decide) (.slice KA8 L1.length KC8) L1.length ([] ++ snts L1) (by rfl) (own_fr H10.out ((Fr.refl [] W8).alloc _) (by simp)) (fun _ => True) (.slice (some ⟨W8.heap.size, 0, none⟩) 1 1) 1 [.int .i64 (1 - from_), .int .i64 p.flags, .int .u32 p.seq, .int .u32 p.ack, .int .u16 p.win, .slice A p.d.length c] (by rfl) (sl_six W8 (1 - from_) p (.slice A p.d.length c)) (one6 _ _ _ _ _) HLm2.out HLb2.out (L1.length + 1) (by rfl) ?_); intro KA9 KC9 W9 h13 h14 h15; have F9 : Hid (Fr [] wr W9) := Lib.hid ((F8.out.alloc _).trans h14 (fun y hy => .inr (N8.out y (mem_ob.1 hy)))); have N9 : Hid (∀ b, (Value.slice KA9 (L1.length + 1) KC9).ownBlock = some b → wr.heap.size ≤ b) := Lib.hid (fresh_two (F8.out.alloc _).size N8.out h15); have H13 := Lib.hid h13; obtain ⟨e2, e3, e4, e5, e6, e7⟩ := SEE.out _ F9.out; have z9 := (BX.out _ F9.out).frozen 2; have l9 := (BX.out _ F9.out).lt; clear h13 h14 h15)
            | ((refine step_append_sl _ (by rfl) (.tmp 22) (.tmp 30) 58 (by rfl) 96 i0 (.agg #[.int .i64 0, .int .i64 0, .int .u32 0, .int .u32 0, .int .u16 0, .slice none 0 0]) 6 56 Try.underlying58 hi0 hz0 hz1 hz2 (by rfl) (by decide) (.slice KA8 L1.length KC8) L1.length ([] ++ snts L1) (by rfl) H10.out (fun _ => True) (.slice (some ⟨wr.heap.size, 0, none⟩) 1 1) 1 [.int .i64 (1 - from_), .int .i64 p.flags, .int .u32 p.seq, .int .u32 p.ack, .int .u16 p.win, .slice A p.d.length c] (by rfl) (((sl_six wr (1 - from_) p (.slice A p.d.length c)).fr (Fr.refl [] _).drew (by simp)).fr H11.out (by simp [ob, Value.ownBlock])) (one6 _ _ _ _ _) HLm2.out HLb2.out (L1.length + 1) (by rfl) ?_); intro KA9 KC9 W9 h13 h14 h15; have F9 : Hid (Fr [] wr W9) := Lib.hid (F8.out.trans h14 (fun y hy => .inr (N8.out y (mem_ob.1 hy)))); have N9 : Hid (∀ b, (Value.slice KA9 (L1.length + 1) KC9).ownBlock = some b → wr.heap.size ≤ b) := Lib.hid (fresh_two F8.out.size N8.out h15); have H13 := Lib.hid h13; obtain ⟨e2, e3, e4, e5, e6, e7⟩ := SEE.out _ F9.out; have z9 := (BX.out _ F9.out).frozen 2; have l9 := (BX.out _ F9.out).lt; clear h13 h14 h15))
        all_goals
          have hrl := bag_round (bag := P.bag) (P := P) (Ha := Ha) (Hb := Hb) HZ1.out X1.out PUB.out NS.out B1'.out BG.out FF1.out HPB.out HP.out h400 HBY.out H13.out F9.out N9.out
          have HRL := Lib.hid hrl
          clear hrl
          go_wp2_with fail
          go_roundw
          case rel => exact HRL.out
          case measure => simp [intOf]; omega
      · have d4 : decide ((L1.length : Int) < 400) = false := by simp; omega
        have hbag : L1.map (fun x => (x.1, x.2.1)) = putB (1 - from_) P.bag lp := by rw [← HPB.out, putB_full _ _ _ (by rw [List.length_map]; exact h400)]
        have NSZ : Hid (¬ S' (w.heap.size + 1)) := Lib.hid (fun hs => by
          rcases X1.out.2 _ hs with h | h
          · have := M.out.duo.pub _ h; omega
          · have := BZ.out.lt; omega)
        have BR := Lib.hid (BZ.out.fr FF1.out (by simp))
        have HBag := Lib.hid hbag
        obtain ⟨t0, t1, t2, t3, t4, t5, t6⟩ := cells7 B1'.out
        clear hbag c2
        go_wp2_with ((with_reducible refine gate_store 61 (.tmp 6) ?_); refine wpList_store_blk rfl 61 (.tmp 6) (.tmp 33) rfl (w.heap.size + 1) 61 pmZ (arM Ha Hb (.slice bA1 L1.length bc1) s0 s1 r0 r1) rfl rfl BR.out rfl (by kernel_rfl) (HC7.out _ _ _) ?_; intro w3 B3 F3)
        obtain ⟨u0, u1, u2, u3, u4, u5, u6⟩ := cells7 B3
        refine bodyPost_ret (v := .agg (arM Ha Hb (.slice bA1 L1.length bc1) s0 s1 r0 r1)) (by simp [results, Try.results52, go_sem, u0, u1, u2, u3, u4, u5, u6]) rfl ?_
        rw [HLP.out]
        exact bag_end M.out F1.out X1.out PUB.out BG.out F1w.out HBag.out F3 NSZ.out
    · have dk : decide ((k : Int) < (Lp.length : Int)) = false := by simpa using hkl
      have hbag : L1.map (fun x => (x.1, x.2.1)) = putB (1 - from_) P.bag lp := by rw [← HPB.out, List.drop_eq_nil_of_le (by rw [HPL.out]; omega)]; rfl
      have NSZ : Hid (¬ S' (w.heap.size + 1)) := Lib.hid (fun hs => by
        rcases X1.out.2 _ hs with h | h
        · have := M.out.duo.pub _ h; omega
        · have := BZ.out.lt; omega)
      have BR := Lib.hid (BZ.out.fr FF1.out (by simp))
      have HBag := Lib.hid hbag
      obtain ⟨t0, t1, t2, t3, t4, t5, t6⟩ := cells7 B1'.out
      clear hbag c2
      go_wp2_with ((with_reducible refine gate_store 61 (.tmp 6) ?_); refine wpList_store_blk rfl 61 (.tmp 6) (.tmp 33) rfl (w.heap.size + 1) 61 pmZ (arM Ha Hb (.slice bA1 L1.length bc1) s0 s1 r0 r1) rfl rfl BR.out rfl (by kernel_rfl) (HC7.out _ _ _) ?_; intro w3 B3 F3)
      obtain ⟨u0, u1, u2, u3, u4, u5, u6⟩ := cells7 B3
      refine bodyPost_ret (v := .agg (arM Ha Hb (.slice bA1 L1.length bc1) s0 s1 r0 r1)) (by simp [results, Try.results52, go_sem, u0, u1, u2, u3, u4, u5, u6]) rfl ?_
      rw [HLP.out]
      exact bag_end M.out F1.out X1.out PUB.out BG.out F1w.out HBag.out F3 NSZ.out
end Go.Proofs.Ytmgdbbbdhkfdmaa

/-
  What a turn does: what is common to its kinds.
-/
namespace Go.Proofs.Ytmgdbbbdhkfdmaa
set_option maxRecDepth 100000
open Go.RowKit Go.Deep

def TurnPost (S : Nat → Prop) (w : World) (Ha Hb : Hd) (P' : Pm) (e : Ending) (w' : World) : Prop :=
  ∃ S' Ha' Hb' bv s0 s1 r0 r1 L, e = .returned (.agg (arM Ha' Hb' bv s0 s1 r0 r1)) ∧ Ext w S S' ∧ PV S' w' Ha' Hb' P' bv s0 s1 r0 r1 L ∧ Hd.like w Ha Ha' ∧ Hd.like w Hb Hb' ∧ Fr (Ha.own ++ Hb.own) w w'
section
variable {S S' : Nat → Prop} {w w' : World} {Ha Hb : Hd} {P : Pm} {bv s0 s1 r0 r1 : Value} {L : List (Int × Prt × Value)}
theorem PV.turn {O : List Nat} {Ha' Hb' : Hd} {ya yb : St} (m : PV S w Ha Hb P bv s0 s1 r0 r1 L) (f : Fr O w w') (hO : ∀ y ∈ O, ¬ S y) (e : Ext w S S') (d : Duo S' w' Ha' Hb' ya yb) : PV S' w' Ha' Hb' { P with e0 := ya, e1 := yb } bv s0 s1 r0 r1 L :=
  ⟨d, (m.bag.fr f hO).mono e.1, m.bagL, (m.s0.fr f hO).mono e.1, (m.s1.fr f hO).mono e.1, (m.r0.fr f hO).mono e.1, (m.r1.fr f hO).mono e.1⟩
/-- The first one was called. -/
theorem PV.call0 {v : Value} {r : St × List Prt} (m : PV S w Ha Hb P bv s0 s1 r0 r1 L) (h : LPost S w Ha r (.returned v) w') :
    ∃ S' Ha' Lp, Lp.map (·.1) = r.2 ∧ Ext w S S' ∧ Hd.like w Ha Ha' ∧ PV S' w' Ha' Hb { P with e0 := r.1 } bv s0 s1 r0 r1 L ∧ Pr S' w' v Lp ∧ Fr Ha.own w w' ∧ (∀ b ∈ ob v, w.heap.size ≤ b) := by
  obtain ⟨S', Ha', Lp, hL, x, lk, d, p, n, f⟩ := m.duo.call h
  exact ⟨S', Ha', Lp, hL, x, lk, m.turn f (fun y hy => m.duo.a.off y hy) x d, p, f, fun b hb => (n b hb).1⟩
/-- The second one was called. -/
theorem PV.call1 {v : Value} {r : St × List Prt} (m : PV S w Ha Hb P bv s0 s1 r0 r1 L) (h : LPost S w Hb r (.returned v) w') :
    ∃ S' Hb' Lp, Lp.map (·.1) = r.2 ∧ Ext w S S' ∧ Hd.like w Hb Hb' ∧ PV S' w' Ha Hb' { P with e1 := r.1 } bv s0 s1 r0 r1 L ∧ Pr S' w' v Lp ∧ Fr Hb.own w w' ∧ (∀ b ∈ ob v, w.heap.size ≤ b) := by
  obtain ⟨S', Hb', Lp, hL, x, lk, d, p, n, f⟩ := m.duo.symm.call h
  exact ⟨S', Hb', Lp, hL, x, lk, m.turn f (fun y hy => m.duo.b.off y hy) x d.symm, p, f, fun b hb => (n b hb).1⟩
theorem PV.c7 (m : PV S w Ha Hb P bv s0 s1 r0 r1 L) : (arM Ha Hb bv s0 s1 r0 r1).all (·.oneCell') = true := by
  have h0 := m.s0.one
  have h1 := m.s1.one
  have h2 := m.r0.one
  have h3 := m.r1.one
  obtain ⟨A, c, rfl, _⟩ := m.bag.sl.form
  simp [arM, Value.oneCell'] at *
  exact ⟨h0, h1, h2, h3⟩
/-- A block of the law's own was written. -/
theorem PV.box {b : Nat} (m : PV S w Ha Hb P bv s0 s1 r0 r1 L) (f : Fr [b] w w') (hS : ¬ S b) (ha : b ∉ Ha.own) (hb : b ∉ Hb.own) : PV S w' Ha Hb P bv s0 s1 r0 r1 L := by
  have hO : ∀ y ∈ [b], ¬ S y := fun y hy => by simp at hy; subst hy; exact hS
  have hp : ∀ y, S y → y < w'.heap.size := fun y hy => Nat.lt_of_lt_of_le (m.duo.pub y hy) f.size
  exact ⟨⟨m.duo.a.keep f (fun y hy => by simp at hy; subst hy; exact ha) hO (Ext.refl w S) hp, m.duo.b.keep f (fun y hy => by simp at hy; subst hy; exact hb) hO (Ext.refl w S) hp, m.duo.ap⟩, m.bag.fr f hO, m.bagL, m.s0.fr f hO, m.s1.fr f hO, m.r0.fr f hO, m.r1.fr f hO⟩
end
/-- The box in which a turn holds the pair. -/
structure Box (S0 : Nat → Prop) (w0 : World) (Ha0 Hb0 : Hd) (S : Nat → Prop) (w : World) (Ha Hb : Hd) (P : Pm) (bv s0 s1 r0 r1 : Value) (L : List (Int × Prt × Value)) : Prop where
  m : PV S w Ha Hb P bv s0 s1 r0 r1 L
  x : Ext w0 S0 S
  la : Hd.like w0 Ha0 Ha
  lb : Hd.like w0 Hb0 Hb
  b : Blk w w0.heap.size 61 (arM Ha Hb bv s0 s1 r0 r1)
  z : Blk w (w0.heap.size + 2) 61 pmZ
  f : Fr (Ha0.own ++ Hb0.own) w0 w
  s : w0.heap.size + 2 < w.heap.size
  p0 : ∀ b, S0 b → b < w0.heap.size
  a0 : ∀ y ∈ Ha0.own, y < w0.heap.size
  b0 : ∀ y ∈ Hb0.own, y < w0.heap.size
  n : ∀ j, j < 3 → ¬ S (w0.heap.size + j) ∧ w0.heap.size + j ∉ Ha.own ∧ w0.heap.size + j ∉ Hb.own
section
variable {S0 S S' : Nat → Prop} {w0 w w' : World} {Ha0 Hb0 Ha Hb : Hd} {P P' : Pm} {bv s0 s1 r0 r1 bv' s0' s1' r0' r1' : Value} {L L' : List (Int × Prt × Value)}
/-- An end was called. -/
theorem Box.call0 {v : Value} {r : St × List Prt} (B : Box S0 w0 Ha0 Hb0 S w Ha Hb P bv s0 s1 r0 r1 L) (h : LPost S w Ha r (.returned v) w') :
    ∃ S' Ha' Lp, Lp.map (·.1) = r.2 ∧ Ha'.g = Ha.g ∧ Pr S' w' v Lp ∧ Box S0 w0 Ha0 Hb0 S' w' Ha' Hb { P with e0 := r.1 } bv s0 s1 r0 r1 L ∧ (∀ b ∈ ob v, w.heap.size ≤ b) ∧ Fr Ha.own w w' := by
  obtain ⟨S', Ha', Lp, hL, x, lk, m, p, f, nv⟩ := B.m.call0 h
  have hs := B.s
  have fz : Fr (Ha0.own ++ Hb0.own) w0 w' := B.f.trans f (fun y hy => by
    rcases B.la.own y hy with q | q
    · exact .inl (List.mem_append_left _ q)
    · exact .inr q)
  refine ⟨S', Ha', Lp, hL, lk.g, p, ⟨m, B.x.trans B.f.size x, Hd.like.trans B.la B.f.size lk, B.lb, ?_, B.z.fr f (B.n 2 (by omega)).2.1, fz, Nat.lt_of_lt_of_le hs f.size, B.p0, B.a0, B.b0, fun j hj => ?_⟩, nv, f⟩
  · have := B.b.fr f (by simpa using (B.n 0 (by omega)).2.1)
    unfold arM at this ⊢
    rw [lk.g]
    exact this
  · obtain ⟨q1, q2, q3⟩ := B.n j hj
    refine ⟨fun hs' => ?_, fun hm => ?_, q3⟩
    · rcases x.2 _ hs' with h | h
      · exact q1 h
      · omega
    · rcases lk.own _ hm with h | h
      · exact q2 h
      · omega
theorem Box.call1 {v : Value} {r : St × List Prt} (B : Box S0 w0 Ha0 Hb0 S w Ha Hb P bv s0 s1 r0 r1 L) (h : LPost S w Hb r (.returned v) w') :
    ∃ S' Hb' Lp, Lp.map (·.1) = r.2 ∧ Hb'.g = Hb.g ∧ Pr S' w' v Lp ∧ Box S0 w0 Ha0 Hb0 S' w' Ha Hb' { P with e1 := r.1 } bv s0 s1 r0 r1 L ∧ (∀ b ∈ ob v, w.heap.size ≤ b) ∧ Fr Hb.own w w' := by
  obtain ⟨S', Hb', Lp, hL, x, lk, m, p, f, nv⟩ := B.m.call1 h
  have hs := B.s
  have fz : Fr (Ha0.own ++ Hb0.own) w0 w' := B.f.trans f (fun y hy => by
    rcases B.lb.own y hy with q | q
    · exact .inl (List.mem_append_right _ q)
    · exact .inr q)
  refine ⟨S', Hb', Lp, hL, lk.g, p, ⟨m, B.x.trans B.f.size x, B.la, Hd.like.trans B.lb B.f.size lk, ?_, B.z.fr f (B.n 2 (by omega)).2.2, fz, Nat.lt_of_lt_of_le hs f.size, B.p0, B.a0, B.b0, fun j hj => ?_⟩, nv, f⟩
  · have := B.b.fr f (by simpa using (B.n 0 (by omega)).2.2)
    unfold arM at this ⊢
    rw [lk.g]
    exact this
  · obtain ⟨q1, q2, q3⟩ := B.n j hj
    refine ⟨fun hs' => ?_, q2, fun hm => ?_⟩
    · rcases x.2 _ hs' with h | h
      · exact q1 h
      · omega
    · rcases lk.own _ hm with h | h
      · exact q3 h
      · omega
/-- The box is written: another bag. -/
theorem Box.put {w2 : World} (B : Box S0 w0 Ha0 Hb0 S w Ha Hb P bv s0 s1 r0 r1 L) (f : Fr [] w w') (x : Ext w S S') (m : PV S' w' Ha Hb P' bv' s0' s1' r0' r1' L') (bw : Blk w2 w0.heap.size 61 (arM Ha Hb bv' s0' s1' r0' r1')) (f2 : Fr [w0.heap.size] w' w2) :
    Box S0 w0 Ha0 Hb0 S' w2 Ha Hb P' bv' s0' s1' r0' r1' L' := by
  have hs := B.s
  have hz := f.size
  have hn : ∀ j, j < 3 → ¬ S' (w0.heap.size + j) := fun j hj hs' => by
    rcases x.2 _ hs' with h | h
    · exact (B.n j hj).1 h
    · omega
  exact ⟨m.box f2 (by simpa using hn 0 (by omega)) (by simpa using (B.n 0 (by omega)).2.1) (by simpa using (B.n 0 (by omega)).2.2), B.x.trans B.f.size x, B.la, B.lb, bw, (B.z.fr f (by simp)).fr f2 (by simp), (B.f.trans f (by simp)).trans f2 (fun y hy => .inr (by simp at hy; omega)), by have := f2.size; omega, B.p0, B.a0, B.b0, fun j hj => ⟨hn j hj, (B.n j hj).2⟩⟩
theorem Box.fr (B : Box S0 w0 Ha0 Hb0 S w Ha Hb P bv s0 s1 r0 r1 L) (f : Fr [] w w') : Box S0 w0 Ha0 Hb0 S w' Ha Hb P bv s0 s1 r0 r1 L :=
  ⟨B.m.fr f, B.x, B.la, B.lb, B.b.fr f (by simp), B.z.fr f (by simp), B.f.trans f (by simp), Nat.lt_of_lt_of_le B.s f.size, B.p0, B.a0, B.b0, B.n⟩
theorem Box.post {w3 : World} (B : Box S0 w0 Ha0 Hb0 S w Ha Hb P bv s0 s1 r0 r1 L) (f : Fr [w0.heap.size + 2] w w3) : TurnPost S0 w0 Ha0 Hb0 P (.returned (.agg (arM Ha Hb bv s0 s1 r0 r1))) w3 := by
  obtain ⟨q1, q2, q3⟩ := B.n 2 (by omega)
  exact ⟨S, Ha, Hb, _, _, _, _, _, L, rfl, B.x, B.m.box f q1 q2 q3, B.la, B.lb, B.f.trans f (fun y hy => .inr (by simp at hy; omega))⟩
end
section
variable {S0 S : Nat → Prop} {w0 w w8 : World} {Ha0 Hb0 Ha Hb : Hd} {P : Pm} {bv s0 s1 r0 r1 : Value} {L : List (Int × Prt × Value)}
/-- A text that was laid anew. -/
theorem new_txt {A : Option Addr} {c : Nat} {txt : List Int} (m : PV S w Ha Hb P bv s0 s1 r0 r1 L) (own : w8.ownsRow 0 5 1 (.slice A txt.length c) txt.length (byts txt)) (f : Fr [] w w8) (n : ∀ b, (Value.slice A txt.length c).ownBlock = some b → w.heap.size ≤ b) :
    ∃ S', Ext w S S' ∧ Byt S' w8 (.slice A txt.length c) txt ∧ PV S' w8 Ha Hb P bv s0 s1 r0 r1 L := by
  have e : Ext w S (fun b => S b ∨ (Value.slice A txt.length c).ownBlock = some b) := ⟨fun b h => .inl h, fun b h => h.imp id (n b)⟩
  refine ⟨_, e, Sl.of_own own (fun b h => .inr h), m.ext f e (fun b hb => ?_)⟩
  rcases hb with h | h
  · exact Nat.lt_of_lt_of_le (m.duo.pub b h) f.size
  · exact own_lt own h
theorem Box.said0 {A : Option Addr} {c : Nat} {txt : List Int} (B : Box S0 w0 Ha0 Hb0 S w Ha Hb P bv s0 s1 r0 r1 L) (own : w8.ownsRow 0 5 1 (.slice A txt.length c) txt.length (byts txt)) (f : Fr [] w w8) (n : ∀ b, (Value.slice A txt.length c).ownBlock = some b → w.heap.size ≤ b) :
    ∃ S', Ext w S S' ∧ Box S0 w0 Ha0 Hb0 S' (w8.setCell ⟨w0.heap.size, 3, none⟩ (.slice A txt.length c)) Ha Hb { P with s0 := txt } bv (.slice A txt.length c) s1 r0 r1 L := by
  obtain ⟨S', e, by8, m8⟩ := new_txt B.m own f n
  exact ⟨S', e, B.put f e ⟨m8.duo, m8.bag, m8.bagL, by8, m8.s1, m8.r0, m8.r1⟩ ((B.b.fr f (by simp)).set_ 3 _) ((Fr.refl _ w8).setCell (p := ⟨w0.heap.size, 3, none⟩) (.inl (by simp)) _)⟩
theorem Box.said1 {A : Option Addr} {c : Nat} {txt : List Int} (B : Box S0 w0 Ha0 Hb0 S w Ha Hb P bv s0 s1 r0 r1 L) (own : w8.ownsRow 0 5 1 (.slice A txt.length c) txt.length (byts txt)) (f : Fr [] w w8) (n : ∀ b, (Value.slice A txt.length c).ownBlock = some b → w.heap.size ≤ b) :
    ∃ S', Ext w S S' ∧ Box S0 w0 Ha0 Hb0 S' (w8.setCell ⟨w0.heap.size, 4, none⟩ (.slice A txt.length c)) Ha Hb { P with s1 := txt } bv s0 (.slice A txt.length c) r0 r1 L := by
  obtain ⟨S', e, by8, m8⟩ := new_txt B.m own f n
  exact ⟨S', e, B.put f e ⟨m8.duo, m8.bag, m8.bagL, m8.s0, by8, m8.r0, m8.r1⟩ ((B.b.fr f (by simp)).set_ 4 _) ((Fr.refl _ w8).setCell (p := ⟨w0.heap.size, 4, none⟩) (.inl (by simp)) _)⟩
theorem Box.read0 {A : Option Addr} {c : Nat} {txt : List Int} (B : Box S0 w0 Ha0 Hb0 S w Ha Hb P bv s0 s1 r0 r1 L) (own : w8.ownsRow 0 5 1 (.slice A txt.length c) txt.length (byts txt)) (f : Fr [] w w8) (n : ∀ b, (Value.slice A txt.length c).ownBlock = some b → w.heap.size ≤ b) :
    ∃ S', Ext w S S' ∧ Box S0 w0 Ha0 Hb0 S' (w8.setCell ⟨w0.heap.size, 5, none⟩ (.slice A txt.length c)) Ha Hb { P with r0 := txt } bv s0 s1 (.slice A txt.length c) r1 L := by
  obtain ⟨S', e, by8, m8⟩ := new_txt B.m own f n
  exact ⟨S', e, B.put f e ⟨m8.duo, m8.bag, m8.bagL, m8.s0, m8.s1, by8, m8.r1⟩ ((B.b.fr f (by simp)).set_ 5 _) ((Fr.refl _ w8).setCell (p := ⟨w0.heap.size, 5, none⟩) (.inl (by simp)) _)⟩
theorem Box.read1 {A : Option Addr} {c : Nat} {txt : List Int} (B : Box S0 w0 Ha0 Hb0 S w Ha Hb P bv s0 s1 r0 r1 L) (own : w8.ownsRow 0 5 1 (.slice A txt.length c) txt.length (byts txt)) (f : Fr [] w w8) (n : ∀ b, (Value.slice A txt.length c).ownBlock = some b → w.heap.size ≤ b) :
    ∃ S', Ext w S S' ∧ Box S0 w0 Ha0 Hb0 S' (w8.setCell ⟨w0.heap.size, 6, none⟩ (.slice A txt.length c)) Ha Hb { P with r1 := txt } bv s0 s1 r0 (.slice A txt.length c) L := by
  obtain ⟨S', e, by8, m8⟩ := new_txt B.m own f n
  exact ⟨S', e, B.put f e ⟨m8.duo, m8.bag, m8.bagL, m8.s0, m8.s1, m8.r0, by8⟩ ((B.b.fr f (by simp)).set_ 6 _) ((Fr.refl _ w8).setCell (p := ⟨w0.heap.size, 6, none⟩) (.inl (by simp)) _)⟩
end
theorem cells4t {w : World} {b : Nat} {t : TypeId} {v0 v1 v2 v3 : Value} (h : Blk w b t #[v0, v1, v2, v3]) : w.cell? ⟨b, 0, none⟩ = some v0 ∧ w.cell? ⟨b, 1, none⟩ = some v1 ∧ w.cell? ⟨b, 2, none⟩ = some v2 ∧ w.cell? ⟨b, 3, none⟩ = some v3 := ⟨h.cell 0, h.cell 1, h.cell 2, h.cell 3⟩
/-- At first. -/
theorem box_start {S : Nat → Prop} {w w3 : World} {Ha Hb : Hd} {P : Pm} {bv s0 s1 r0 r1 : Value} {L : List (Int × Prt × Value)} (m : PV S w Ha Hb P bv s0 s1 r0 r1 L) (f : Fr [] w w3) (hz : w.heap.size + 2 < w3.heap.size) (b : Blk w3 w.heap.size 61 (arM Ha Hb bv s0 s1 r0 r1)) (z : Blk w3 (w.heap.size + 2) 61 pmZ) : Box S w Ha Hb S w3 Ha Hb P bv s0 s1 r0 r1 L :=
  ⟨m.fr f, Ext.refl w S, Hd.like.rfl' w Ha, Hd.like.rfl' w Hb, b, z, f.mono (by simp), hz, fun b hb => m.duo.pub b hb, m.duo.a.lt, m.duo.b.lt, fun j _ => ⟨fun hs => by have := m.duo.pub _ hs; omega, fun hm => by have := m.duo.a.lt _ hm; omega, fun hm => by have := m.duo.b.lt _ hm; omega⟩⟩
end Go.Proofs.Ytmgdbbbdhkfdmaa
