import Derived.Test.YtmgdbbbdhkfdmaaZ4
import Derived.Deep.DeepCutAuto
import Derived.Deep.RegionLaw
set_option linter.unusedSimpArgs false
set_option linter.unusedVariables false
namespace Go.Proofs.Ytmgdbbbdhkfdmaa
set_option maxRecDepth 100000
open Go.RowKit

/-- What Put answers. -/
def PutPost (S : Nat → Prop) (w : World) (g : Nat) (kv : Value) (h' : Hp) (out : List Int) (err : Int) (e : Ending) (w' : World) : Prop :=
  ∃ S' kv' A c, e = .returned (.tuple #[.slice A out.length c, .int .i64 err]) ∧ Ext w S S' ∧ Byt S' w' (.slice A out.length c) out ∧ HP S' w' g kv' h' ∧ Fr (g :: ob kv) w w' ∧ (∀ b, kv'.ownBlock = some b → kv.ownBlock = some b ∨ w.heap.size ≤ b)
theorem put_same {S : Nat → Prop} {w w' : World} {g : Nat} {kv : Value} {h : Hp} (m : HP S w g kv h) (f : Fr [] w w') (err : Int) : PutPost S w g kv h [] err (.returned (.tuple #[.slice none 0 0, .int .i64 err])) w' := by
  obtain ⟨ev, L, m⟩ := m
  exact ⟨S, kv, none, 0, rfl, Ext.refl _ _, Byt.nil, ⟨ev, L, m.fr f (by simp) (by simp) (by simp)⟩, f.mono (by simp), fun b hb => .inl hb⟩
/-- Behind an append to the row of the pieces: what still stands. -/
theorem app_facts {S : Nat → Prop} {W : World} {g hb ob' : Nat} {kv ev ov : Value} {h : Hp} {L : List (Pc × Value)} {dA : Option Addr} {n dc : Nat} {d : List Int} (m : HPx S W g kv ev h L) (bh : Blk W hb 37 #[ptr g]) (bo : Blk W ob' 25 #[ov]) (dd : W.ownsRow 0 5 1 (.slice dA n dc) n (byts d)) :
    ∀ W' W2, Fr [] W W' → Fr (ob kv) W' W2 → W2.cell? ⟨g, 2, none⟩ = some kv ∧ W2.frozen? ⟨g, 2, none⟩ = false ∧ W2.cell? ⟨hb, 0, none⟩ = some (ptr g) ∧ g < W2.heap.size ∧
      (Blk W2 g 115 #[.int .i64 h.most, .int .i64 h.next, kv, ev, .bool true] ∧ Blk W2 ob' 25 #[ov] ∧ W2.ownsRow 0 5 1 (.slice dA n dc) n (byts d) ∧ Fr (ob kv) W W2 ∧ ob' ≠ g) := by
  intro W' W2 f f2
  have F : Fr (ob kv) W W2 := (f.mono (by simp)).trans f2 (fun x hx => .inl hx)
  have n1 : g ∉ ob kv := fun hm => own_ne m.kp.own m.blk (by decide) (mem_ob.1 hm)
  have n2 : hb ∉ ob kv := fun hm => own_ne m.kp.own bh (by decide) (mem_ob.1 hm)
  have n3 : ob' ∉ ob kv := fun hm => own_ne m.kp.own bo (by decide) (mem_ob.1 hm)
  have B := m.blk.fr F n1
  refine ⟨by simpa using B.cell 2, B.frozen 2, (bh.fr F n2).cell 0, B.lt, B, bo.fr F n3, own_fr dd F (fun b hb' hm => own_ne2 m.kp.own dd (by decide) (mem_ob.1 hm) hb'), F, blk_ne bo m.blk (by decide)⟩
/-- A piece was kept. -/
theorem app_post {S : Nat → Prop} {w W : World} {g : Nat} {kv kv' ev : Value} {h : Hp} {L : List (Pc × Value)} {a : Int} {d : List Int} {A : Option Addr} {c : Nat} (m : HPx S w g kv ev h L)
    (hk : W.ownsRow 0 120 2 kv' (L.length + 1) (pcs L ++ [.int .i64 a, .slice A d.length c])) (hd : W.ownsRow 0 5 1 (.slice A d.length c) d.length (byts d)) (hb : Blk W g 115 #[.int .i64 h.most, .int .i64 h.next, kv', ev, .bool true])
    (F : Fr (g :: ob kv) w W) (fd : ∀ b, (Value.slice A d.length c).ownBlock = some b → w.heap.size ≤ b) (fk : ∀ b, kv'.ownBlock = some b → kv.ownBlock = some b ∨ w.heap.size ≤ b) :
    PutPost S w g kv { h with kept := h.kept ++ [⟨a, d⟩] } [] 0 (.returned (.tuple #[.slice none 0 0, .int .i64 0])) W := by
  have hO : ∀ x ∈ g :: ob kv, ¬ S x := by
    intro x hx
    rcases List.mem_cons.1 hx with rfl | hx
    · exact m.offg
    · exact m.offk x (mem_ob.1 hx)
  have hdat : Byt (fun b => S b ∨ (Value.slice A d.length c).ownBlock = some b) W (.slice A d.length c) d := Sl.of_own hd (fun b h => .inr h)
  refine ⟨fun b => S b ∨ (Value.slice A d.length c).ownBlock = some b, kv', none, 0, rfl, ⟨fun b h => .inl h, fun b h => h.imp id (fd b)⟩, Byt.nil, ⟨ev, L ++ [(⟨a, d⟩, .slice A d.length c)], hb, ⟨?_, ?_⟩, ?_, ?_, ?_, ?_, ?_⟩, F, fk⟩
  · rw [List.length_append, ← pcs_app]
    exact hk
  · intro x hx
    rcases List.mem_append.1 hx with hx | hx
    · exact ((m.kp.byt x hx).fr F hO).mono fun b h => .inl h
    · rw [List.mem_singleton] at hx
      subst hx
      exact hdat
  · simp [m.kept]
  · rcases m.fin with h1 | ⟨fa, fb, h1, h2, h3, h4⟩
    · exact .inl h1
    · exact .inr ⟨fa, fb, h1, h2, .inl h3, (F.cell (p := ⟨fb, 0, none⟩) (m.pub fb h3) (fun hm => hO fb hm h3)).trans h4⟩
  · intro b hb'
    rcases hb' with h1 | h1
    · exact Nat.lt_of_lt_of_le (m.pub b h1) F.size
    · exact own_lt hd h1
  · rintro (h1 | h1)
    · exact m.offg h1
    · exact own_ne hd hb (by decide) h1
  · intro b hb' hs
    rcases hs with h1 | h1
    · rcases fk b hb' with h2 | h2
      · exact m.offk b h2 h1
      · have := m.pub b h1
        omega
    · exact own_ne2 hk hd (by decide) hb' h1
/-- A cut behind a statement that is the last of its block; the frame behind it is told by the walk. -/
theorem cut_fr {P : Program} {c : Code} {Q : Exit → Act → World → Prop} {a : Act} {w : World} (F : Option Addr → Nat → Act) (R : Option Addr → Nat → World → Prop)
    (h1 : ∀ K : Act → World → Prop, (∀ A n wx, R A n wx → K (F A n) wx) → c.wp P (Exit.then K Q) a w) (h2 : ∀ A n wx, R A n wx → Q .normal (F A n) wx) : c.wp P Q a w :=
  wp_mono (h1 (fun a' w' => Q .normal a' w') h2) fun e a' w' h => by cases e <;> exact h
/-- The world behind an append to the row of the pieces that was stored. -/
def AppRel (W : World) (g : Nat) (ev : Value) (KA : Option Addr) (KC n : Nat) (h : Hp) (xs : List Value) (ob' : Nat) (dA : Option Addr) (dc : Nat) (d : List Int) (KA' : Option Addr) (KC' : Nat) (wx : World) : Prop :=
  ∃ W8, wx = W8.setCell ⟨g, 2, none⟩ (.slice KA' (n + 1) KC') ∧ W8.ownsRow 0 120 2 (.slice KA' (n + 1) KC') (n + 1) xs ∧ Blk W8 g 115 #[.int .i64 h.most, .int .i64 h.next, .slice KA n KC, ev, .bool true] ∧
    Blk W8 ob' 25 #[.slice none 0 0] ∧ W8.ownsRow 0 5 1 (.slice dA d.length dc) d.length (byts d) ∧ Fr (ob (.slice KA n KC)) W W8 ∧ ∀ b, (Value.slice KA' (n + 1) KC').ownBlock = some b → (Value.slice KA n KC).ownBlock = some b ∨ (W.heap.size ≤ b ∧ b < W8.heap.size)

set_option maxRecDepth 100000 in
set_option maxHeartbeats 2000000 in
theorem put_arg0 {S : Nat → Prop} {w : World} {g : Nat} {kv : Value} {h : Hp} (m : HP S w g kv h) (a : Int) (dv : Value) (d : List Int) (T : Nat → Prop) (hd : Byt T w dv d) (hl : d.length ≤ 1000000) (h0 : a < 0) :
    Calls Try.prog 78 #[ptr g, .int .i64 a, dv] w (PutPost S w g kv h [] 2) := by
  have M := Lib.hid m
  obtain ⟨ev, L, m⟩ := m
  obtain ⟨A, c, rfl, hn, hcm⟩ := hd.form
  have c4 := m.cells.2.2.2.2
  have hg := m.blk.lt
  have hcl : ∀ W, Fr [] w W → Calls Try.prog 44 #[.slice A d.length c] W _ := fun W f => cloneB_any W (hd.fr f (by simp)) hl
  have Hcl := Lib.hid hcl
  have f0 : Fr [] w ((w.alloc (.cells #[ptr g] 37)).alloc (.cells #[.slice none 0 0] 25)) := ((Fr.refl _ _).alloc _).alloc _
  have bo := Blk.new (w.alloc (.cells #[ptr g] 37)) 25 #[.slice none 0 0]
  have bh := (Blk.new w 37 #[ptr g]).alloc (.cells #[.slice none 0 0] 25)
  have BO := Lib.hid bo
  have BH := Lib.hid bh
  have M0 := Lib.hid m
  clear hcl m hd bo bh
  go_enter Try.func78, Try.ntmps78
  go_wp2_with fail
  refine wp_scope_fwd 0 rfl ?_
  go_wp2_with fail
  refine (Hcl.out _ f0).mono ?_
  rintro e w1 ⟨A1, c1, rfl, own1, f1, fb1⟩
  have F1 : Fr [] w w1 := f0.trans f1 (by simp)
  have b4 := fr_cell F1 c4
  have bh1 := BH.out.fr f1 (by simp)
  have bo1 : Blk w1 (w.heap.size + 1) 25 #[.slice none 0 0] := by simpa using BO.out.fr f1 (by simp)
  have bh0 : w1.cell? ⟨w.heap.size, 0, none⟩ = some (ptr g) := bh1.cell 0
  have bo0 : w1.cell? ⟨w.heap.size + 1, 0, none⟩ = some (.slice none 0 0) := by simpa using bo1.cell 0
  have bof : w1.frozen? ⟨w.heap.size + 1, 0, none⟩ = false := by simpa using bo1.frozen 0
  have sz1 : w.heap.size + 1 < w1.heap.size := by have := f1.size; simp at this; omega
  have sz2 : w.heap.size < w1.heap.size := by omega
  have hg1 : g < w1.heap.size := by omega
  have HF1 := Lib.hid F1
  have HO1 := Lib.hid own1
  have HB1 := Lib.hid fb1
  have Bh1 := Lib.hid bh1
  have Bo1 := Lib.hid bo1
  clear f0 f1 F1 own1 fb1 c4 bh1 bo1
  go_wp2_with (go_at_call 70; refine (none_hp ?_).mono ?_; (first | exact b4 | exact cell_al b4 _ | assumption); rintro e w' ⟨rfl, rfl⟩)
  apply wp_goto
  refine fwd_goto _ _ ?_
  go_wp2
  rw [Exit.noGoto_ret]
  have hF : Fr [] w ((w1.setCell ⟨w.heap.size + 1, 0, none⟩ (.slice none 0 0)).alloc (bxp a (.slice A1 d.length c1))) := (HF1.out.setCell (p := ⟨w.heap.size + 1, 0, none⟩) (.inr (by simp)) (.slice none 0 0)).alloc (bxp a (.slice A1 d.length c1))
  have hB := (Bo1.out.set_ 0 (.slice none 0 0)).alloc (bxp a (.slice A1 d.length c1))
  have hres : World.cell? ((w1.setCell ⟨w.heap.size + 1, 0, none⟩ (.slice none 0 0)).alloc (bxp a (.slice A1 d.length c1))) ⟨w.heap.size + 1, 0, none⟩ = some (.slice none 0 0) := (hB.cell 0).trans (by simp)
  clear hB
  generalize (w1.setCell ⟨w.heap.size + 1, 0, none⟩ (.slice none 0 0)).alloc (bxp a (.slice A1 d.length c1)) = Wf at *
  refine bodyPost_ret (v := .tuple #[.slice none 0 0, .int .i64 2]) (by simp [results, Try.results78, go_sem, hres]) rfl ?_
  exact put_same M.out hF _

set_option maxRecDepth 100000 in
set_option maxHeartbeats 2000000 in
theorem put_arg1 {S : Nat → Prop} {w : World} {g : Nat} {kv : Value} {h : Hp} (m : HP S w g kv h) (a : Int) (dv : Value) (d : List Int) (T : Nat → Prop) (hd : Byt T w dv d) (hl : d.length ≤ 1000000) (h0 : 4611686018427387904 < a) :
    Calls Try.prog 78 #[ptr g, .int .i64 a, dv] w (PutPost S w g kv h [] 2) := by
  have M := Lib.hid m
  obtain ⟨ev, L, m⟩ := m
  obtain ⟨A, c, rfl, hn, hcm⟩ := hd.form
  have c4 := m.cells.2.2.2.2
  have hg := m.blk.lt
  have hcl : ∀ W, Fr [] w W → Calls Try.prog 44 #[.slice A d.length c] W _ := fun W f => cloneB_any W (hd.fr f (by simp)) hl
  have Hcl := Lib.hid hcl
  have f0 : Fr [] w ((w.alloc (.cells #[ptr g] 37)).alloc (.cells #[.slice none 0 0] 25)) := ((Fr.refl _ _).alloc _).alloc _
  have bo := Blk.new (w.alloc (.cells #[ptr g] 37)) 25 #[.slice none 0 0]
  have bh := (Blk.new w 37 #[ptr g]).alloc (.cells #[.slice none 0 0] 25)
  have BO := Lib.hid bo
  have BH := Lib.hid bh
  have M0 := Lib.hid m
  clear hcl m hd bo bh
  go_enter Try.func78, Try.ntmps78
  go_wp2_with fail
  refine wp_scope_fwd 0 rfl ?_
  go_wp2_with fail
  refine (Hcl.out _ f0).mono ?_
  rintro e w1 ⟨A1, c1, rfl, own1, f1, fb1⟩
  have F1 : Fr [] w w1 := f0.trans f1 (by simp)
  have b4 := fr_cell F1 c4
  have bh1 := BH.out.fr f1 (by simp)
  have bo1 : Blk w1 (w.heap.size + 1) 25 #[.slice none 0 0] := by simpa using BO.out.fr f1 (by simp)
  have bh0 : w1.cell? ⟨w.heap.size, 0, none⟩ = some (ptr g) := bh1.cell 0
  have bo0 : w1.cell? ⟨w.heap.size + 1, 0, none⟩ = some (.slice none 0 0) := by simpa using bo1.cell 0
  have bof : w1.frozen? ⟨w.heap.size + 1, 0, none⟩ = false := by simpa using bo1.frozen 0
  have sz1 : w.heap.size + 1 < w1.heap.size := by have := f1.size; simp at this; omega
  have sz2 : w.heap.size < w1.heap.size := by omega
  have hg1 : g < w1.heap.size := by omega
  have HF1 := Lib.hid F1
  have HO1 := Lib.hid own1
  have HB1 := Lib.hid fb1
  have Bh1 := Lib.hid bh1
  have Bo1 := Lib.hid bo1
  clear f0 f1 F1 own1 fb1 c4 bh1 bo1
  go_wp2_with (go_at_call 70; refine (none_hp ?_).mono ?_; (first | exact b4 | exact cell_al b4 _ | assumption); rintro e w' ⟨rfl, rfl⟩)
  apply wp_goto
  refine fwd_goto _ _ ?_
  go_wp2
  rw [Exit.noGoto_ret]
  have hF : Fr [] w ((w1.setCell ⟨w.heap.size + 1, 0, none⟩ (.slice none 0 0)).alloc (bxp a (.slice A1 d.length c1))) := (HF1.out.setCell (p := ⟨w.heap.size + 1, 0, none⟩) (.inr (by simp)) (.slice none 0 0)).alloc (bxp a (.slice A1 d.length c1))
  have hB := (Bo1.out.set_ 0 (.slice none 0 0)).alloc (bxp a (.slice A1 d.length c1))
  have hres : World.cell? ((w1.setCell ⟨w.heap.size + 1, 0, none⟩ (.slice none 0 0)).alloc (bxp a (.slice A1 d.length c1))) ⟨w.heap.size + 1, 0, none⟩ = some (.slice none 0 0) := (hB.cell 0).trans (by simp)
  clear hB
  generalize (w1.setCell ⟨w.heap.size + 1, 0, none⟩ (.slice none 0 0)).alloc (bxp a (.slice A1 d.length c1)) = Wf at *
  refine bodyPost_ret (v := .tuple #[.slice none 0 0, .int .i64 2]) (by simp [results, Try.results78, go_sem, hres]) rfl ?_
  exact put_same M.out hF _

set_option maxRecDepth 100000 in
set_option maxHeartbeats 2000000 in
theorem put_arg2 {S : Nat → Prop} {w : World} {g : Nat} {kv : Value} {h : Hp} (m : HP S w g kv h) (a : Int) (dv : Value) (d : List Int) (T : Nat → Prop) (hd : Byt T w dv d) (hl : d.length ≤ 1000000) (h0 : 0 ≤ a) (h1 : a ≤ 4611686018427387904) (h2 : d.length < 1) :
    Calls Try.prog 78 #[ptr g, .int .i64 a, dv] w (PutPost S w g kv h [] 2) := by
  have M := Lib.hid m
  obtain ⟨ev, L, m⟩ := m
  obtain ⟨A, c, rfl, hn, hcm⟩ := hd.form
  have c4 := m.cells.2.2.2.2
  have hg := m.blk.lt
  have hcl : ∀ W, Fr [] w W → Calls Try.prog 44 #[.slice A d.length c] W _ := fun W f => cloneB_any W (hd.fr f (by simp)) hl
  have Hcl := Lib.hid hcl
  have f0 : Fr [] w ((w.alloc (.cells #[ptr g] 37)).alloc (.cells #[.slice none 0 0] 25)) := ((Fr.refl _ _).alloc _).alloc _
  have bo := Blk.new (w.alloc (.cells #[ptr g] 37)) 25 #[.slice none 0 0]
  have bh := (Blk.new w 37 #[ptr g]).alloc (.cells #[.slice none 0 0] 25)
  have BO := Lib.hid bo
  have BH := Lib.hid bh
  have M0 := Lib.hid m
  clear hcl m hd bo bh
  go_enter Try.func78, Try.ntmps78
  go_wp2_with fail
  refine wp_scope_fwd 0 rfl ?_
  go_wp2_with fail
  refine (Hcl.out _ f0).mono ?_
  rintro e w1 ⟨A1, c1, rfl, own1, f1, fb1⟩
  have F1 : Fr [] w w1 := f0.trans f1 (by simp)
  have b4 := fr_cell F1 c4
  have bh1 := BH.out.fr f1 (by simp)
  have bo1 : Blk w1 (w.heap.size + 1) 25 #[.slice none 0 0] := by simpa using BO.out.fr f1 (by simp)
  have bh0 : w1.cell? ⟨w.heap.size, 0, none⟩ = some (ptr g) := bh1.cell 0
  have bo0 : w1.cell? ⟨w.heap.size + 1, 0, none⟩ = some (.slice none 0 0) := by simpa using bo1.cell 0
  have bof : w1.frozen? ⟨w.heap.size + 1, 0, none⟩ = false := by simpa using bo1.frozen 0
  have sz1 : w.heap.size + 1 < w1.heap.size := by have := f1.size; simp at this; omega
  have sz2 : w.heap.size < w1.heap.size := by omega
  have hg1 : g < w1.heap.size := by omega
  have HF1 := Lib.hid F1
  have HO1 := Lib.hid own1
  have HB1 := Lib.hid fb1
  have Bh1 := Lib.hid bh1
  have Bo1 := Lib.hid bo1
  clear f0 f1 F1 own1 fb1 c4 bh1 bo1
  go_wp2_with (go_at_call 70; refine (none_hp ?_).mono ?_; (first | exact b4 | exact cell_al b4 _ | assumption); rintro e w' ⟨rfl, rfl⟩)
  apply wp_goto
  refine fwd_goto _ _ ?_
  go_wp2
  rw [Exit.noGoto_ret]
  have hF : Fr [] w ((w1.setCell ⟨w.heap.size + 1, 0, none⟩ (.slice none 0 0)).alloc (bxp a (.slice A1 d.length c1))) := (HF1.out.setCell (p := ⟨w.heap.size + 1, 0, none⟩) (.inr (by simp)) (.slice none 0 0)).alloc (bxp a (.slice A1 d.length c1))
  have hB := (Bo1.out.set_ 0 (.slice none 0 0)).alloc (bxp a (.slice A1 d.length c1))
  have hres : World.cell? ((w1.setCell ⟨w.heap.size + 1, 0, none⟩ (.slice none 0 0)).alloc (bxp a (.slice A1 d.length c1))) ⟨w.heap.size + 1, 0, none⟩ = some (.slice none 0 0) := (hB.cell 0).trans (by simp)
  clear hB
  generalize (w1.setCell ⟨w.heap.size + 1, 0, none⟩ (.slice none 0 0)).alloc (bxp a (.slice A1 d.length c1)) = Wf at *
  refine bodyPost_ret (v := .tuple #[.slice none 0 0, .int .i64 2]) (by simp [results, Try.results78, go_sem, hres]) rfl ?_
  exact put_same M.out hF _

set_option maxRecDepth 100000 in
set_option maxHeartbeats 2000000 in
theorem put_arg3 {S : Nat → Prop} {w : World} {g : Nat} {kv : Value} {h : Hp} (m : HP S w g kv h) (a : Int) (dv : Value) (d : List Int) (T : Nat → Prop) (hd : Byt T w dv d) (hl : d.length ≤ 1000000) (h0 : 0 ≤ a) (h1 : a ≤ 4611686018427387904) (h2 : 1 ≤ d.length) (h3 : 64 < d.length) :
    Calls Try.prog 78 #[ptr g, .int .i64 a, dv] w (PutPost S w g kv h [] 2) := by
  have M := Lib.hid m
  obtain ⟨ev, L, m⟩ := m
  obtain ⟨A, c, rfl, hn, hcm⟩ := hd.form
  have c4 := m.cells.2.2.2.2
  have hg := m.blk.lt
  have hcl : ∀ W, Fr [] w W → Calls Try.prog 44 #[.slice A d.length c] W _ := fun W f => cloneB_any W (hd.fr f (by simp)) hl
  have Hcl := Lib.hid hcl
  have f0 : Fr [] w ((w.alloc (.cells #[ptr g] 37)).alloc (.cells #[.slice none 0 0] 25)) := ((Fr.refl _ _).alloc _).alloc _
  have bo := Blk.new (w.alloc (.cells #[ptr g] 37)) 25 #[.slice none 0 0]
  have bh := (Blk.new w 37 #[ptr g]).alloc (.cells #[.slice none 0 0] 25)
  have BO := Lib.hid bo
  have BH := Lib.hid bh
  have M0 := Lib.hid m
  clear hcl m hd bo bh
  go_enter Try.func78, Try.ntmps78
  go_wp2_with fail
  refine wp_scope_fwd 0 rfl ?_
  go_wp2_with fail
  refine (Hcl.out _ f0).mono ?_
  rintro e w1 ⟨A1, c1, rfl, own1, f1, fb1⟩
  have F1 : Fr [] w w1 := f0.trans f1 (by simp)
  have b4 := fr_cell F1 c4
  have bh1 := BH.out.fr f1 (by simp)
  have bo1 : Blk w1 (w.heap.size + 1) 25 #[.slice none 0 0] := by simpa using BO.out.fr f1 (by simp)
  have bh0 : w1.cell? ⟨w.heap.size, 0, none⟩ = some (ptr g) := bh1.cell 0
  have bo0 : w1.cell? ⟨w.heap.size + 1, 0, none⟩ = some (.slice none 0 0) := by simpa using bo1.cell 0
  have bof : w1.frozen? ⟨w.heap.size + 1, 0, none⟩ = false := by simpa using bo1.frozen 0
  have sz1 : w.heap.size + 1 < w1.heap.size := by have := f1.size; simp at this; omega
  have sz2 : w.heap.size < w1.heap.size := by omega
  have hg1 : g < w1.heap.size := by omega
  have HF1 := Lib.hid F1
  have HO1 := Lib.hid own1
  have HB1 := Lib.hid fb1
  have Bh1 := Lib.hid bh1
  have Bo1 := Lib.hid bo1
  clear f0 f1 F1 own1 fb1 c4 bh1 bo1
  go_wp2_with (go_at_call 70; refine (none_hp ?_).mono ?_; (first | exact b4 | exact cell_al b4 _ | assumption); rintro e w' ⟨rfl, rfl⟩)
  apply wp_goto
  refine fwd_goto _ _ ?_
  go_wp2
  rw [Exit.noGoto_ret]
  have hF : Fr [] w ((w1.setCell ⟨w.heap.size + 1, 0, none⟩ (.slice none 0 0)).alloc (bxp a (.slice A1 d.length c1))) := (HF1.out.setCell (p := ⟨w.heap.size + 1, 0, none⟩) (.inr (by simp)) (.slice none 0 0)).alloc (bxp a (.slice A1 d.length c1))
  have hB := (Bo1.out.set_ 0 (.slice none 0 0)).alloc (bxp a (.slice A1 d.length c1))
  have hres : World.cell? ((w1.setCell ⟨w.heap.size + 1, 0, none⟩ (.slice none 0 0)).alloc (bxp a (.slice A1 d.length c1))) ⟨w.heap.size + 1, 0, none⟩ = some (.slice none 0 0) := (hB.cell 0).trans (by simp)
  clear hB
  generalize (w1.setCell ⟨w.heap.size + 1, 0, none⟩ (.slice none 0 0)).alloc (bxp a (.slice A1 d.length c1)) = Wf at *
  refine bodyPost_ret (v := .tuple #[.slice none 0 0, .int .i64 2]) (by simp [results, Try.results78, go_sem, hres]) rfl ?_
  exact put_same M.out hF _
end Go.Proofs.Ytmgdbbbdhkfdmaa

namespace Go.Proofs.Ytmgdbbbdhkfdmaa
set_option maxRecDepth 100000
open Go.RowKit Go.Deep Go.Shelf

set_option maxRecDepth 100000 in
set_option maxHeartbeats 2000000 in
theorem put_past {S : Nat → Prop} {w : World} {g : Nat} {kv : Value} {h : Hp} (m : HP S w g kv h) (a : Int) (dv : Value) (d : List Int) (T : Nat → Prop) (hd : Byt T w dv d) (hl : d.length ≤ 1000000) (h0 : 0 ≤ a) (h1 : a ≤ 4611686018427387904) (h2 : 1 ≤ d.length) (h3 : d.length ≤ 64) (h4 : past h.fin (a + d.length) = true) :
    Calls Try.prog 78 #[ptr g, .int .i64 a, dv] w (PutPost S w g kv h [] 250) := by
  have M := Lib.hid m
  obtain ⟨ev, L, m⟩ := m
  obtain ⟨A, c, rfl, hn, hcm⟩ := hd.form
  have c4 := m.cells.2.2.2.2
  have hg := m.blk.lt
  have hcl : ∀ W, Fr [] w W → Calls Try.prog 44 #[.slice A d.length c] W _ := fun W f => cloneB_any W (hd.fr f (by simp)) hl
  have Hcl := Lib.hid hcl
  have f0 : Fr [] w ((w.alloc (.cells #[ptr g] 37)).alloc (.cells #[.slice none 0 0] 25)) := ((Fr.refl _ _).alloc _).alloc _
  have bo := Blk.new (w.alloc (.cells #[ptr g] 37)) 25 #[.slice none 0 0]
  have bh := (Blk.new w 37 #[ptr g]).alloc (.cells #[.slice none 0 0] 25)
  have BO := Lib.hid bo
  have BH := Lib.hid bh
  have M0 := Lib.hid m
  clear hcl m hd bo bh
  have HP := Lib.hid h4
  clear h4
  go_enter Try.func78, Try.ntmps78
  go_wp2_with fail
  refine wp_scope_fwd 0 rfl ?_
  go_wp2_with fail
  refine (Hcl.out _ f0).mono ?_
  rintro e w1 ⟨A1, c1, rfl, own1, f1, fb1⟩
  have F1 : Fr [] w w1 := f0.trans f1 (by simp)
  have b4 := fr_cell F1 c4
  have bh1 := BH.out.fr f1 (by simp)
  have bo1 : Blk w1 (w.heap.size + 1) 25 #[.slice none 0 0] := by simpa using BO.out.fr f1 (by simp)
  have bh0 : w1.cell? ⟨w.heap.size, 0, none⟩ = some (ptr g) := bh1.cell 0
  have bo0 : w1.cell? ⟨w.heap.size + 1, 0, none⟩ = some (.slice none 0 0) := by simpa using bo1.cell 0
  have bof : w1.frozen? ⟨w.heap.size + 1, 0, none⟩ = false := by simpa using bo1.frozen 0
  have sz1 : w.heap.size + 1 < w1.heap.size := by have := f1.size; simp at this; omega
  have sz2 : w.heap.size < w1.heap.size := by omega
  have hg1 : g < w1.heap.size := by omega
  have HF1 := Lib.hid F1
  have HO1 := Lib.hid own1
  have HB1 := Lib.hid fb1
  have Bh1 := Lib.hid bh1
  have Bo1 := Lib.hid bo1
  clear f0 f1 F1 own1 fb1 c4 bh1 bo1
  go_upto_region 7 with (go_at_call 70; refine (none_hp ?_).mono ?_; (first | exact b4 | exact cell_al b4 _ | assumption); rintro e w' ⟨rfl, rfl⟩)
  have fp : Fr [] w1 (w1.alloc (bxp a (.slice A1 d.length c1))) := (Fr.refl _ _).alloc _
  have pb := Blk.new w1 120 #[.int .i64 a, .slice A1 d.length c1]
  have szp : w1.heap.size < (w1.alloc (bxp a (.slice A1 d.length c1))).heap.size := by simp
  generalize w1.alloc (bxp a (.slice A1 d.length c1)) = W1 at *
  have FP := Lib.hid fp
  have PB := Lib.hid pb
  clear fp pb bh0 bo0 bof b4 hn
  go_cut [47] (fun s47 wx => s47 = .bool (past h.fin (a + d.length)) ∧ Fr [] W1 wx)
  case first =>
    have qh := fr_cell FP.out (show w1.cell? ⟨w.heap.size, 0, none⟩ = some (ptr g) from Bh1.out.cell 0)
    have q3 := fr_cell (HF1.out.trans FP.out (by simp)) M0.out.cells.2.2.2.1
    have p0 := PB.out.cell 0
    have p1 := PB.out.cell 1
    have x0 := Grew.cell qh
    have x1 := Grew.cell q3
    have x2 := Grew.cell p0
    have x3 := Grew.cell p1
    have hbeh : ∀ p : Grew W1, Calls Try.prog 86 #[agp a (.slice A1 d.length c1)] p.W fun e w'' => e = .returned (.int .i64 (a + d.length)) ∧ ∃ q : Grew W1, w'' = q.W := fun p => grew_call (behind_fr a A1 d.length c1 _ h0 (by omega) (by omega))
    have HBH := Lib.hid hbeh
    have hfin := M0.out.fin
    clear qh q3 p0 p1 hbeh
    rcases hfin with ⟨e1, rfl⟩ | ⟨fa, fb, e1, rfl, e3, e4⟩
    · have e5 : past h.fin (a + d.length) = false := by unfold past; rw [e1]
      have E5 := Lib.hid e5
      clear e1 e5
      refine wp_region_grew (by kernel_rfl) (by kernel_rfl) ?_
      repeat (go_big_quiet_step ((go_at_call 86; exact HBH.out _)))
      refine wpQuiet_nil ?_
      intro W2 f2
      go_wp2_with fail
      go_meet
      exact ⟨by rw [E5.out], f2⟩
    · have e5 : past h.fin (a + d.length) = decide (fa < a + d.length) := by unfold past; rw [e1]
      have E5 := Lib.hid e5
      have x4 := Grew.cell (fr_cell (HF1.out.trans FP.out (by simp)) e4)
      clear e1 e5 e4
      refine wp_region_grew (by kernel_rfl) (by kernel_rfl) ?_
      repeat (go_big_quiet_step ((go_at_call 86; exact HBH.out _)))
      refine wpQuiet_nil ?_
      intro W2 f2
      go_wp2_with fail
      go_meet
      exact ⟨by rw [E5.out], f2⟩
  case rest =>
    obtain ⟨rfl, f2⟩ := hcut
    generalize wc = W2 at *
    have F2 := Lib.hid ((HF1.out.trans FP.out (by simp)).trans f2 (by simp))
    have Bh2 := Lib.hid (Bh1.out.fr (FP.out.trans f2 (by simp)) (by simp))
    have Bo2 := Lib.hid (Bo1.out.fr (FP.out.trans f2 (by simp)) (by simp))
    have Pb2 := Lib.hid (PB.out.fr f2 (by simp))
    have M2 := Lib.hid (M0.out.fr F2.out (by simp) (by simp) (by simp))
    have D2 := Lib.hid (own_fr HO1.out (FP.out.trans f2 (by simp)) (by simp))
    clear f2
    have xbh : W2.cell? ⟨w.heap.size, 0, none⟩ = some (ptr g) := Bh2.out.cell 0
    have xbo : W2.cell? ⟨w.heap.size + 1, 0, none⟩ = some (.slice none 0 0) := Bo2.out.cell 0
    have xbof := Bo2.out.frozen 0
    have xp0 : W2.cell? ⟨w1.heap.size, 0, none⟩ = some (.int .i64 a) := Pb2.out.cell 0
    have xp1 : W2.cell? ⟨w1.heap.size, 1, none⟩ = some (.slice A1 d.length c1) := Pb2.out.cell 1
    obtain ⟨xc0, xc1, xc2, xc3, xc4⟩ := M2.out.cells
    have xsp := Pb2.out.lt
    have xsh := Bh2.out.lt
    have xso := Bo2.out.lt
    have xsg := M2.out.blk.lt
    rw [HP.out]
    go_wp2_with fail
    apply wp_goto
    refine fwd_goto _ _ ?_
    go_wp2
    rw [Exit.noGoto_ret]
    have hF : Fr [] w (W2.setCell ⟨w.heap.size + 1, 0, none⟩ (.slice none 0 0)) := F2.out.setCell (p := ⟨w.heap.size + 1, 0, none⟩) (.inr (by simp)) (.slice none 0 0)
    have hB := Bo2.out.set_ 0 (.slice none 0 0)
    have hres : World.cell? (W2.setCell ⟨w.heap.size + 1, 0, none⟩ (.slice none 0 0)) ⟨w.heap.size + 1, 0, none⟩ = some (.slice none 0 0) := (hB.cell 0).trans (by simp)
    clear hB
    generalize W2.setCell ⟨w.heap.size + 1, 0, none⟩ (.slice none 0 0) = Wf at *
    refine bodyPost_ret (v := .tuple #[.slice none 0 0, .int .i64 250]) (by simp [results, Try.results78, go_sem, hres]) rfl ?_
    exact put_same M.out hF _
end Go.Proofs.Ytmgdbbbdhkfdmaa

namespace Go.Proofs.Ytmgdbbbdhkfdmaa
set_option maxRecDepth 100000
open Go.RowKit Go.Deep Go.Shelf

set_option maxRecDepth 100000 in
set_option maxHeartbeats 2000000 in
theorem put_low {S : Nat → Prop} {w : World} {g : Nat} {kv : Value} {h : Hp} (m : HP S w g kv h) (a : Int) (dv : Value) (d : List Int) (T : Nat → Prop) (hd : Byt T w dv d) (hl : d.length ≤ 1000000) (h0 : 0 ≤ a) (h1 : a ≤ 4611686018427387904) (h2 : 1 ≤ d.length) (h3 : d.length ≤ 64) (h4 : past h.fin (a + d.length) = false) (h5 : a + d.length ≤ h.next) :
    Calls Try.prog 78 #[ptr g, .int .i64 a, dv] w (PutPost S w g kv h [] 0) := by
  have M := Lib.hid m
  obtain ⟨ev, L, m⟩ := m
  obtain ⟨A, c, rfl, hn, hcm⟩ := hd.form
  have c4 := m.cells.2.2.2.2
  have hg := m.blk.lt
  have hcl : ∀ W, Fr [] w W → Calls Try.prog 44 #[.slice A d.length c] W _ := fun W f => cloneB_any W (hd.fr f (by simp)) hl
  have Hcl := Lib.hid hcl
  have f0 : Fr [] w ((w.alloc (.cells #[ptr g] 37)).alloc (.cells #[.slice none 0 0] 25)) := ((Fr.refl _ _).alloc _).alloc _
  have bo := Blk.new (w.alloc (.cells #[ptr g] 37)) 25 #[.slice none 0 0]
  have bh := (Blk.new w 37 #[ptr g]).alloc (.cells #[.slice none 0 0] 25)
  have BO := Lib.hid bo
  have BH := Lib.hid bh
  have M0 := Lib.hid m
  clear hcl m hd bo bh
  have HP := Lib.hid h4
  have h6 : a < h.next := by omega
  clear h4
  go_enter Try.func78, Try.ntmps78
  go_wp2_with fail
  refine wp_scope_fwd 0 rfl ?_
  go_wp2_with fail
  refine (Hcl.out _ f0).mono ?_
  rintro e w1 ⟨A1, c1, rfl, own1, f1, fb1⟩
  have F1 : Fr [] w w1 := f0.trans f1 (by simp)
  have b4 := fr_cell F1 c4
  have bh1 := BH.out.fr f1 (by simp)
  have bo1 : Blk w1 (w.heap.size + 1) 25 #[.slice none 0 0] := by simpa using BO.out.fr f1 (by simp)
  have bh0 : w1.cell? ⟨w.heap.size, 0, none⟩ = some (ptr g) := bh1.cell 0
  have bo0 : w1.cell? ⟨w.heap.size + 1, 0, none⟩ = some (.slice none 0 0) := by simpa using bo1.cell 0
  have bof : w1.frozen? ⟨w.heap.size + 1, 0, none⟩ = false := by simpa using bo1.frozen 0
  have sz1 : w.heap.size + 1 < w1.heap.size := by have := f1.size; simp at this; omega
  have sz2 : w.heap.size < w1.heap.size := by omega
  have hg1 : g < w1.heap.size := by omega
  have HF1 := Lib.hid F1
  have HO1 := Lib.hid own1
  have HB1 := Lib.hid fb1
  have Bh1 := Lib.hid bh1
  have Bo1 := Lib.hid bo1
  clear f0 f1 F1 own1 fb1 c4 bh1 bo1
  go_upto_region 7 with (go_at_call 70; refine (none_hp ?_).mono ?_; (first | exact b4 | exact cell_al b4 _ | assumption); rintro e w' ⟨rfl, rfl⟩)
  have fp : Fr [] w1 (w1.alloc (bxp a (.slice A1 d.length c1))) := (Fr.refl _ _).alloc _
  have pb := Blk.new w1 120 #[.int .i64 a, .slice A1 d.length c1]
  have szp : w1.heap.size < (w1.alloc (bxp a (.slice A1 d.length c1))).heap.size := by simp
  generalize w1.alloc (bxp a (.slice A1 d.length c1)) = W1 at *
  have FP := Lib.hid fp
  have PB := Lib.hid pb
  clear fp pb bh0 bo0 bof b4 hn
  go_cut [47] (fun s47 wx => s47 = .bool (past h.fin (a + d.length)) ∧ Fr [] W1 wx)
  case first =>
    have qh := fr_cell FP.out (show w1.cell? ⟨w.heap.size, 0, none⟩ = some (ptr g) from Bh1.out.cell 0)
    have q3 := fr_cell (HF1.out.trans FP.out (by simp)) M0.out.cells.2.2.2.1
    have p0 := PB.out.cell 0
    have p1 := PB.out.cell 1
    have x0 := Grew.cell qh
    have x1 := Grew.cell q3
    have x2 := Grew.cell p0
    have x3 := Grew.cell p1
    have hbeh : ∀ p : Grew W1, Calls Try.prog 86 #[agp a (.slice A1 d.length c1)] p.W fun e w'' => e = .returned (.int .i64 (a + d.length)) ∧ ∃ q : Grew W1, w'' = q.W := fun p => grew_call (behind_fr a A1 d.length c1 _ h0 (by omega) (by omega))
    have HBH := Lib.hid hbeh
    have hfin := M0.out.fin
    clear qh q3 p0 p1 hbeh
    rcases hfin with ⟨e1, rfl⟩ | ⟨fa, fb, e1, rfl, e3, e4⟩
    · have e5 : past h.fin (a + d.length) = false := by unfold past; rw [e1]
      have E5 := Lib.hid e5
      clear e1 e5
      refine wp_region_grew (by kernel_rfl) (by kernel_rfl) ?_
      repeat (go_big_quiet_step ((go_at_call 86; exact HBH.out _)))
      refine wpQuiet_nil ?_
      intro W2 f2
      go_wp2_with fail
      go_meet
      exact ⟨by rw [E5.out], f2⟩
    · have e5 : past h.fin (a + d.length) = decide (fa < a + d.length) := by unfold past; rw [e1]
      have E5 := Lib.hid e5
      have x4 := Grew.cell (fr_cell (HF1.out.trans FP.out (by simp)) e4)
      clear e1 e5 e4
      refine wp_region_grew (by kernel_rfl) (by kernel_rfl) ?_
      repeat (go_big_quiet_step ((go_at_call 86; exact HBH.out _)))
      refine wpQuiet_nil ?_
      intro W2 f2
      go_wp2_with fail
      go_meet
      exact ⟨by rw [E5.out], f2⟩
  case rest =>
    obtain ⟨rfl, f2⟩ := hcut
    generalize wc = W2 at *
    have F2 := Lib.hid ((HF1.out.trans FP.out (by simp)).trans f2 (by simp))
    have Bh2 := Lib.hid (Bh1.out.fr (FP.out.trans f2 (by simp)) (by simp))
    have Bo2 := Lib.hid (Bo1.out.fr (FP.out.trans f2 (by simp)) (by simp))
    have Pb2 := Lib.hid (PB.out.fr f2 (by simp))
    have M2 := Lib.hid (M0.out.fr F2.out (by simp) (by simp) (by simp))
    have D2 := Lib.hid (own_fr HO1.out (FP.out.trans f2 (by simp)) (by simp))
    clear f2
    have xbh : W2.cell? ⟨w.heap.size, 0, none⟩ = some (ptr g) := Bh2.out.cell 0
    have xbo : W2.cell? ⟨w.heap.size + 1, 0, none⟩ = some (.slice none 0 0) := Bo2.out.cell 0
    have xbof := Bo2.out.frozen 0
    have xp0 : W2.cell? ⟨w1.heap.size, 0, none⟩ = some (.int .i64 a) := Pb2.out.cell 0
    have xp1 : W2.cell? ⟨w1.heap.size, 1, none⟩ = some (.slice A1 d.length c1) := Pb2.out.cell 1
    obtain ⟨xc0, xc1, xc2, xc3, xc4⟩ := M2.out.cells
    have xsp := Pb2.out.lt
    have xsh := Bh2.out.lt
    have xso := Bo2.out.lt
    have xsg := M2.out.blk.lt
    rw [HP.out]
    go_upto_region 8 with fail
    have y0 := Grew.cell xbh
    have y1 := Grew.cell xc1
    have y2 := Grew.cell xp0
    have y3 := Grew.cell xp1
    have y4 := Grew.cell xc0
    have y5 := Grew.cell xc2
    have hbeh : ∀ p : Grew W2, Calls Try.prog 86 #[agp a (.slice A1 d.length c1)] p.W fun e w'' => e = .returned (.int .i64 (a + d.length)) ∧ ∃ q : Grew W2, w'' = q.W := fun p => grew_call (behind_fr a A1 d.length c1 _ h0 (by omega) (by omega))
    have HBH := Lib.hid hbeh
    clear hbeh
    refine wp_region_grew (by kernel_rfl) (by kernel_rfl) ?_
    repeat (go_big_quiet_step ((go_at_call 86; exact HBH.out _)))
    refine wpQuiet_nil ?_
    intro W3 f3
    have F3 := Lib.hid (F2.out.trans f3 (by simp))
    have Bh3 := Lib.hid (Bh2.out.fr f3 (by simp))
    have Bo3 := Lib.hid (Bo2.out.fr f3 (by simp))
    have Pb3 := Lib.hid (Pb2.out.fr f3 (by simp))
    have M3 := Lib.hid (M2.out.fr f3 (by simp) (by simp) (by simp))
    have D3 := Lib.hid (own_fr D2.out f3 (by simp))
    clear y0 y1 y2 y3 y4 y5 xbh xbo xbof xp0 xp1 xc0 xc1 xc2 xc3 xc4 xsp xsh xso xsg f3
    have xbh : W3.cell? ⟨w.heap.size, 0, none⟩ = some (ptr g) := Bh3.out.cell 0
    have xbo : W3.cell? ⟨w.heap.size + 1, 0, none⟩ = some (.slice none 0 0) := Bo3.out.cell 0
    have xbof := Bo3.out.frozen 0
    have xp0 : W3.cell? ⟨w1.heap.size, 0, none⟩ = some (.int .i64 a) := Pb3.out.cell 0
    have xp1 : W3.cell? ⟨w1.heap.size, 1, none⟩ = some (.slice A1 d.length c1) := Pb3.out.cell 1
    obtain ⟨xc0, xc1, xc2, xc3, xc4⟩ := M3.out.cells
    have xsp := Pb3.out.lt
    have xsh := Bh3.out.lt
    have xso := Bo3.out.lt
    have xsg := M3.out.blk.lt
    go_wp2_with fail
    have y0 := Grew.cell xbh
    have y1 := Grew.cell xc1
    have y2 := Grew.cell xp0
    have y3 := Grew.cell xp1
    have y4 := Grew.cell xc0
    have y5 := Grew.cell xc2
    refine wp_region_grew (by kernel_rfl) (by kernel_rfl) ?_
    repeat (go_big_quiet_step (fail))
    refine wpQuiet_nil ?_
    intro W4 f4
    have F4 := Lib.hid (F3.out.trans f4 (by simp))
    have Bh4 := Lib.hid (Bh3.out.fr f4 (by simp))
    have Bo4 := Lib.hid (Bo3.out.fr f4 (by simp))
    have Pb4 := Lib.hid (Pb3.out.fr f4 (by simp))
    have M4 := Lib.hid (M3.out.fr f4 (by simp) (by simp) (by simp))
    have D4 := Lib.hid (own_fr D3.out f4 (by simp))
    clear y0 y1 y2 y3 y4 y5 xbh xbo xbof xp0 xp1 xc0 xc1 xc2 xc3 xc4 xsp xsh xso xsg f4
    have xbh : W4.cell? ⟨w.heap.size, 0, none⟩ = some (ptr g) := Bh4.out.cell 0
    have xbo : W4.cell? ⟨w.heap.size + 1, 0, none⟩ = some (.slice none 0 0) := Bo4.out.cell 0
    have xbof := Bo4.out.frozen 0
    have xp0 : W4.cell? ⟨w1.heap.size, 0, none⟩ = some (.int .i64 a) := Pb4.out.cell 0
    have xp1 : W4.cell? ⟨w1.heap.size, 1, none⟩ = some (.slice A1 d.length c1) := Pb4.out.cell 1
    obtain ⟨xc0, xc1, xc2, xc3, xc4⟩ := M4.out.cells
    have xsp := Pb4.out.lt
    have xsh := Bh4.out.lt
    have xso := Bo4.out.lt
    have xsg := M4.out.blk.lt
    go_wp2_with fail
    have hF : Fr [] w (W4.setCell ⟨w.heap.size + 1, 0, none⟩ (.slice none 0 0)) := F4.out.setCell (p := ⟨w.heap.size + 1, 0, none⟩) (.inr (by simp)) (.slice none 0 0)
    have hB := Bo4.out.set_ 0 (.slice none 0 0)
    have hres : World.cell? (W4.setCell ⟨w.heap.size + 1, 0, none⟩ (.slice none 0 0)) ⟨w.heap.size + 1, 0, none⟩ = some (.slice none 0 0) := (hB.cell 0).trans (by simp)
    clear hB
    generalize W4.setCell ⟨w.heap.size + 1, 0, none⟩ (.slice none 0 0) = Wf at *
    refine bodyPost_ret (v := .tuple #[.slice none 0 0, .int .i64 0]) (by simp [results, Try.results78, go_sem, hres]) rfl ?_
    exact put_same M.out hF _
end Go.Proofs.Ytmgdbbbdhkfdmaa
