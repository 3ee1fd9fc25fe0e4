import Derived.Test.YtdlmhadcaagokaaEb
import Derived.Deep.DeepCutAuto
namespace Go.Proofs.Ytdlmhadcaagokaa
open Go.RowKit Go.Deep Go.Shelf

structure Play (w : World) (g b7 : Nat) (most : Int) (S : Nat → Prop) (kvi kvr : Value) (h : Hp) (wr : World) : Prop where
  pub : ∀ b, b < w.heap.size → S b
  two : Two S wr g kvi kvr h
  fr : Fr [] w wr
  blk : Blk wr b7 31 (arH h kvr)
  most : h.most = most
  off : ¬ S b7
  gn : w.heap.size ≤ g
  bn : w.heap.size ≤ b7
  kn : ∀ b, kvi.ownBlock = some b → w.heap.size ≤ b
  ne : b7 ∉ g :: ob kvi
/-- The same behind a call: the reference's heap stands at b7 as it was, at q as it is now. -/
structure PlayM (w : World) (g b7 q : Nat) (most : Int) (S : Nat → Prop) (kvi kvr kvr0 : Value) (h0 h : Hp) (wr : World) : Prop where
  pub : ∀ b, b < w.heap.size → S b
  two : Two S wr g kvi kvr h
  fr : Fr [] w wr
  blk7 : Blk wr b7 31 (arH h0 kvr0)
  blk9 : Blk wr q 31 (arH h kvr)
  most : h.most = most
  off : ¬ S b7
  gn : w.heap.size ≤ g
  bn : w.heap.size ≤ b7
  kn : ∀ b, kvi.ownBlock = some b → w.heap.size ≤ b
  ne : b7 ∉ g :: ob kvi
theorem Two.fr {S : Nat → Prop} {w w' : World} {g : Nat} {kvi kvr : Value} {h : Hp} (t : Two S w g kvi kvr h) (f : Fr [] w w') : Two S w' g kvi kvr h := by
  obtain ⟨hi, m, L, r⟩ := t
  exact ⟨hi, m.fr f, L, r.ext f (by simp) (fun _ h => h) (m.fr f).pub⟩
theorem Two.frO {S : Nat → Prop} {w w' : World} {g q : Nat} {kvi kvr : Value} {h : Hp} {O : List Nat} (t : Two S w g kvi kvr h) (f : Fr O w w') (hO : ∀ x ∈ O, x = q) (hq : ¬ S q) (hn : q ∉ g :: ob kvi) : Two S w' g kvi kvr h := by
  obtain ⟨hi, ⟨ev, L', m⟩, L, r⟩ := t
  have h0 : ∀ x ∈ O, ¬ S x := fun x hx => by rw [hO x hx]; exact hq
  have hp : ∀ b, S b → b < w'.heap.size := fun b hb => Nat.lt_of_lt_of_le (m.pub b hb) f.size
  exact ⟨hi, ⟨ev, L', m.fr f h0 (fun hm => hn (by rw [← hO _ hm]; simp)) (fun b hb hm => hn (by rw [← hO _ hm]; exact List.mem_cons_of_mem _ (mem_ob.2 hb)))⟩, L, r.ext f h0 (fun _ h => h) hp⟩
theorem Two.form {S : Nat → Prop} {w : World} {g : Nat} {kvi kvr : Value} {h : Hp} (t : Two S w g kvi kvr h) : ∃ A n c, kvr = .slice A n c := by
  obtain ⟨_, _, L, r⟩ := t
  obtain ⟨A', c', h', _⟩ := r.kp.form
  exact ⟨_, _, _, h'⟩
theorem set4 {w : World} {b : Nat} {t : TypeId} {v0 v1 v2 v3 : Value} (B : Blk w b t #[v0, v1, v2, v3]) (u0 u1 u2 u3 : Value) : Blk ((((w.setCell ⟨b, 0, none⟩ u0).setCell ⟨b, 1, none⟩ u1).setCell ⟨b, 2, none⟩ u2).setCell ⟨b, 3, none⟩ u3) b t #[u0, u1, u2, u3] := by
  simpa using (((B.set_ 0 u0).set_ 1 u1).set_ 2 u2).set_ 3 u3
theorem fr4 {O : List Nat} {a w : World} {b : Nat} (h : Fr O a w) (hp : b ∈ O ∨ a.heap.size ≤ b) (u0 u1 u2 u3 : Value) : Fr O a ((((w.setCell ⟨b, 0, none⟩ u0).setCell ⟨b, 1, none⟩ u1).setCell ⟨b, 2, none⟩ u2).setCell ⟨b, 3, none⟩ u3) :=
  (((h.setCell hp _).setCell hp _).setCell hp _).setCell hp _
theorem free4 {w : World} {b : Nat} {t : TypeId} {cs : Array Value} (h : Blk w b t cs) : w.frozen? ⟨b, 0, none⟩ = false ∧ w.frozen? ⟨b, 1, none⟩ = false ∧ w.frozen? ⟨b, 2, none⟩ = false ∧ w.frozen? ⟨b, 3, none⟩ = false := ⟨h.frozen 0, h.frozen 1, h.frozen 2, h.frozen 3⟩
theorem does_most (h : Hp) (a : PAct) : (doesV h a).most = h.most := by
  unfold doesV
  split
  · exact put_most _ _ _
  split
  · exact end_most _ _
  · rfl
theorem Play.mid {w W0 wr w5 w6 : World} {g b7 q : Nat} {most : Int} {S S5 : Nat → Prop} {kvi kvr kv5 kr5 : Value} {h y : Hp} {O : List Nat} (pl : Play w g b7 most S kvi kvr h wr) (f0 : Fr [] wr W0) (x5 : Ext W0 S S5) (t5 : Two S5 w5 g kv5 kr5 y) (f5 : Fr (g :: ob kvi) W0 w5)
    (n5 : ∀ b, kv5.ownBlock = some b → kvi.ownBlock = some b ∨ W0.heap.size ≤ b) (hm : y.most = h.most) (f6 : Fr O w5 w6) (hO : ∀ x ∈ O, x = q ∧ wr.heap.size ≤ q ∧ q < W0.heap.size) (hq : Blk w6 q 31 (arH y kr5)) : PlayM w g b7 q most S5 kv5 kr5 kvr h y w6 := by
  have hlt := pl.blk.lt
  have h7 : ¬ S5 b7 := fun hs => by
    rcases x5.2 _ hs with h1 | h1
    · exact pl.off h1
    · have := f0.size; omega
  have hT := pl.two.off.2
  have hne : ∀ x, kv5.ownBlock = some x → x ≠ b7 := by
    rintro x hx rfl
    rcases n5 _ hx with h1 | h1
    · exact pl.ne (List.mem_cons_of_mem _ (mem_ob.2 h1))
    · have := f0.size; omega
  have hg : b7 ≠ g := fun e => pl.ne (by rw [e]; simp)
  have hqq : ∀ x ∈ O, ¬ S5 x := fun x hx hs => by
    obtain ⟨rfl, h1, h2⟩ := hO x hx
    rcases x5.2 _ hs with h3 | h3
    · obtain ⟨_, m, _⟩ := pl.two
      have := m.pub _ h3
      omega
    · omega
  have hqn : ∀ x ∈ O, x ∉ g :: ob kv5 := fun x hx hs => by
    obtain ⟨rfl, h1, h2⟩ := hO x hx
    rcases List.mem_cons.1 hs with rfl | hs
    · have := hT x (by simp); omega
    · rcases n5 _ (mem_ob.1 hs) with h3 | h3
      · have := hT x (List.mem_cons_of_mem _ (mem_ob.2 h3)); omega
      · omega
  have hfs : ∀ x ∈ g :: ob kvi, w.heap.size ≤ x := fun x hx => by
    rcases List.mem_cons.1 hx with rfl | hx
    · exact pl.gn
    · exact pl.kn x (mem_ob.1 hx)
  have B5 : Blk w5 b7 31 (arH h kvr) := (pl.blk.fr f0 (by simp)).fr f5 pl.ne
  refine ⟨fun b hb => x5.1 b (pl.pub b hb), ?_, ((pl.fr.trans f0 (by simp)).trans f5 (fun x hx => .inr (hfs x hx))).trans f6 (fun x hx => .inr (by obtain ⟨rfl, h1, h2⟩ := hO x hx; have := pl.fr.size; omega)), B5.fr f6 (fun hm => by obtain ⟨e, h1, h2⟩ := hO _ hm; omega), hq, hm.trans pl.most, h7, pl.gn, pl.bn, fun b hb => ?_, fun hm => ?_⟩
  · by_cases h0 : O = []
    · subst h0
      exact t5.fr f6
    · obtain ⟨x, hx⟩ := List.exists_mem_of_ne_nil O h0
      obtain ⟨rfl, _, _⟩ := hO x hx
      exact t5.frO f6 (fun z hz => (hO z hz).1) (hqq _ hx) (hqn _ hx)
  · rcases n5 _ hb with h1 | h1
    · exact pl.kn _ h1
    · have := f0.size; have := pl.fr.size; omega
  · rcases List.mem_cons.1 hm with h1 | h1
    · exact hg h1
    · exact hne _ (mem_ob.1 h1) rfl
theorem PlayM.fr' {w wr w' : World} {g b7 q : Nat} {most : Int} {S : Nat → Prop} {kvi kvr kvr0 : Value} {h0 h : Hp} (pl : PlayM w g b7 q most S kvi kvr kvr0 h0 h wr) (f : Fr [] wr w') : PlayM w g b7 q most S kvi kvr kvr0 h0 h w' :=
  ⟨pl.pub, pl.two.fr f, pl.fr.trans f (by simp), pl.blk7.fr f (by simp), pl.blk9.fr f (by simp), pl.most, pl.off, pl.gn, pl.bn, pl.kn, pl.ne⟩
theorem PlayM.fin {w wr w' : World} {g b7 q : Nat} {most : Int} {S : Nat → Prop} {kvi kvr kvr0 : Value} {h0 h : Hp} (pl : PlayM w g b7 q most S kvi kvr kvr0 h0 h wr) (B : Blk w' b7 31 (arH h kvr)) (f : Fr [b7] wr w') : Play w g b7 most S kvi kvr h w' :=
  ⟨pl.pub, pl.two.frO f (by simp) pl.off pl.ne, pl.fr.trans f (by intro x hx; simp at hx; subst hx; exact .inr pl.bn), B, pl.most, pl.off, pl.gn, pl.bn, pl.kn, pl.ne⟩
theorem k8 {w : World} {b : Nat} {v0 v1 v2 v3 u0 u1 u2 u3 : Value} {p q r s : Addr} (C : w.cell? ⟨b, 0, none⟩ = some v0 ∧ w.cell? ⟨b, 1, none⟩ = some v1 ∧ w.cell? ⟨b, 2, none⟩ = some v2 ∧ w.cell? ⟨b, 3, none⟩ = some v3) (a0 : w.cell? p = some u0) (a1 : w.cell? q = some u1) (a2 : w.cell? r = some u2) (a3 : w.cell? s = some u3) :
    w.cell? ⟨b, 0, none⟩ = some v0 ∧ w.cell? ⟨b, 1, none⟩ = some v1 ∧ w.cell? ⟨b, 2, none⟩ = some v2 ∧ w.cell? ⟨b, 3, none⟩ = some v3 ∧ w.cell? p = some u0 ∧ w.cell? q = some u1 ∧ w.cell? r = some u2 ∧ w.cell? s = some u3 := ⟨C.1, C.2.1, C.2.2.1, C.2.2.2, a0, a1, a2, a3⟩
theorem al1 {w : World} {b j : Nat} {v : Value} (h : w.cell? ⟨b, j, none⟩ = some v) (o : Obj) : (w.alloc o).cell? ⟨b, j, none⟩ = some v := by
  rw [World.cell?_alloc_lt w o _ (World.block_lt_of_cell? w _ h)]; exact h
theorem al1d {w : World} {b j : Nat} {v : Value} (h : w.cell? ⟨b, j, none⟩ = some v) (o : Obj) : (w.alloc o).drew.cell? ⟨b, j, none⟩ = some v := al1 h o
theorem dr1 {w : World} {b j : Nat} {v : Value} (h : w.cell? ⟨b, j, none⟩ = some v) : w.drew.cell? ⟨b, j, none⟩ = some v := h
theorem fr3 {O : List Nat} {w w' : World} {b j : Nat} {v : Value} (F : Fr O w w') (h : w.cell? ⟨b, j, none⟩ = some v) (h2 : b ∉ O) : w'.cell? ⟨b, j, none⟩ = some v :=
  (F.cell (p := ⟨b, j, none⟩) (World.block_lt_of_cell? w _ h) h2).trans h
def PlayRel (w : World) (g b7 : Nat) (most : Int) (n : Nat) (s8 : Value) (wr : World) : Prop := ∃ (k : Nat) (S : Nat → Prop) (kvi kvr : Value) (h : Hp), k ≤ n ∧ s8 = .int .i64 k ∧ Play w g b7 most S kvi kvr h wr
set_option maxRecDepth 100000 in
set_option maxHeartbeats 4000000 in
theorem play_any (most : Int) (A : Option Addr) (n c : Nat) (f : Nat → PAct) (w : World) (h : Acts w w.heap.size A n f) (hn : n ≤ maxLen) : Calls Try.prog 3 #[.int .i64 most, .slice A n c] w fun e w' => e = .returned (.bool true) ∧ Fr [] w w' := by
  have H := Lib.hid h
  clear h
  go_enter Try.func3, Try.ntmps3
  go_wp2_with fail
  refine (few_any w w.heap.size A n c f H.out hn).mono ?_
  rintro e w0 ⟨b, rfl, rfl, hb⟩
  cases b
  · go_wp2_with (go_at_call 9; refine (known_any _).mono ?_; rintro e w1 ⟨rfl, f1⟩)
    go_ret
    exact ⟨rfl, f1⟩
  · obtain ⟨h60, h100⟩ := hb rfl
    have H100 := Lib.hid h100
    clear hb h100
    by_cases hm : most < 0 ∨ 64 < most
    · rcases hm with hm | hm
      all_goals
        go_wp2_with fail
        refine (new_no most w (by omega)).mono ?_
        rintro e w1 ⟨rfl, rfl⟩
        go_wp2_with (go_at_call 9; refine (known_any _).mono ?_; rintro e w1 ⟨rfl, f1⟩)
        go_ret
        exact ⟨rfl, f1⟩
    · have hm0 : 0 ≤ most := by omega
      have hm1 : most ≤ 64 := by omega
      clear hm
      go_wp2_with fail
      refine (new_hp (fun b => b < w.heap.size) most w hm0 hm1 (fun b h => h)).mono ?_
      rintro e w1 ⟨rfl, f1, m1, hz⟩
      have F1 := Lib.hid f1
      have M1 := Lib.hid m1
      have HZ := Lib.hid hz
      clear f1 m1 hz
      go_wp2_with fail
      refine (rnew most w1).mono ?_
      rintro e w2 ⟨rfl, f2⟩
      have F2 := Lib.hid f2
      have hlt2 : w.heap.size < w2.heap.size := by have := f2.size; have := HZ.out; omega
      clear f2
      go_wp2_with ((with_reducible refine gate_store 31 (.tmp 7) ?_); refine wpList_store_blk rfl 31 (.tmp 7) (.tmp 36) rfl w2.heap.size 31 (arR 0 0 (.slice none 0 0) 0) (arR most 0 (.slice none 0 0) (-1)) rfl rfl (Blk.new w2 31 _) rfl (by kernel_rfl) (by simp [Value.oneCell']) ?_; intro w3 B3 F3)
      have f13 : Fr [] w1 w3 := (F2.out.alloc _).trans F3 (by intro x hx; simp at hx; subst hx; exact .inr F2.out.size)
      have fw : Fr [] w w3 := F1.out.trans f13 (by simp)
      have tw : Two (fun b => b < w.heap.size) w3 w.heap.size (.slice none 0 0) (.slice none 0 0) (newV most) := ⟨new_inv hm0 hm1, M1.out.fr f13, [], ⟨⟨World.ownsRow_nil _ 0 65 2, by simp⟩, rfl, by simp [Value.ownBlock], fun b hb => by have := fw.size; omega⟩⟩
      have pl : Play w w.heap.size w2.heap.size most (fun b => b < w.heap.size) (.slice none 0 0) (.slice none 0 0) (newV most) w3 := ⟨fun b h => h, tw, fw, B3, rfl, by simp; omega, Nat.le_refl _, by omega, by simp [Value.ownBlock], by simp [ob, Value.ownBlock]; omega⟩
      have PL := Lib.hid pl
      clear f13 fw tw pl B3 F3 F2 M1
      generalize w2.heap.size = b7 at *
      generalize hg : w.heap.size = g at PL ⊢
      go_loopw [8] (fun s8 wr => PlayRel w g b7 most n s8 wr) (fun s8 _ => n - (intOf s8).toNat)
      case atStart => exact ⟨0, _, _, _, _, by omega, rfl, PL.out⟩
      case round =>
        clear PL
        obtain ⟨k, S, kvi, kvr, hh, hk, rfl, pl⟩ := hrel
        have PL := Lib.hid pl
        unfold maxLen at hn
        by_cases hlt : k < n
        · obtain ⟨b, o, rfl, hbB, a0, a1, a2, a3, aby⟩ := H.out.fr pl.fr (Nat.le_refl _) (by simp) k hlt
          have Aby := Lib.hid aby
          obtain ⟨dA, dc, hdv, hdn, hdc⟩ := aby.form
          obtain ⟨x0, x1, x2, x3⟩ := cells4 pl.blk
          have hlb := pl.blk.lt
          have hgz := pl.two.off.2 g (by simp)
          obtain ⟨KA, KN, KC, rfl⟩ : ∃ KA KN KC, kvr = .slice KA KN KC := by
            obtain ⟨_, _, L, r⟩ := pl.two
            obtain ⟨A', c', h', _⟩ := r.kp.form
            exact ⟨_, _, _, h'⟩
          have HDo : Hid (∀ W, Fr [] wr W → Calls Try.prog 12 #[ptr g, agH hh (.slice KA KN KC), .agg (arA (f k).kind (f k).at_ (f k).dv (f k).near)] W (DoesPost S W g kvi (doesV hh (f k)))) := Lib.hid (fun W fW => does_any (pl.two.fr fW) (f k) (fun b => b < w.heap.size) (Aby.out.fr fW (by simp)) (fun b hb hm => pl.two.off.1 b hm (pl.pub b hb)) (H100.out k hlt))
          rw [hdv] at a2 HDo
          have k64 : (k : Int) < 9223372036854775807 := by omega
          have Hdv := Lib.hid hdv
          have HQ : Hid (wr.heap.size ∉ g :: ob kvi) := Lib.hid (fun hm => by have := pl.two.off.2 _ hm; omega)
          have hbg : b ∉ g :: ob kvi := fun hm => by
            rcases List.mem_cons.1 hm with rfl | hm
            · have := pl.gn; omega
            · have := pl.kn _ (mem_ob.1 hm); omega
          have HB := Lib.hid hbg
          have B7 := Lib.hid pl.blk
          have NE := Lib.hid pl.ne
          have n1 : b7 ≠ wr.heap.size := by omega
          have n2 : b ≠ wr.heap.size := by have := pl.fr.size; omega
          clear aby pl hdv hbg
          go_upto_region 10 with fail
          go_cut [9, 10] (fun s9 s10 wx => ∃ (q : Nat) (S5 : Nat → Prop) (kv5 kr5 : Value), s9 = ptr q ∧ s10 = .bool true ∧ PlayM w g b7 q most S5 kv5 kr5 (.slice KA KN KC) hh (doesV hh (f k)) wx)
          case first =>
            have hym := does_most hh (f k)
            generalize doesV hh (f k) = y at *
            have HYM := Lib.hid hym
            clear hym
            go_region_held3 (fun w' => w'.cell? ⟨b7, 0, none⟩ = some (.int .i64 hh.most) ∧ w'.cell? ⟨b7, 1, none⟩ = some (.int .i64 hh.next) ∧ w'.cell? ⟨b7, 2, none⟩ = some (.slice KA KN KC) ∧ w'.cell? ⟨b7, 3, none⟩ = some (.int .i64 (finI hh.fin)) ∧ w'.cell? ⟨b, o + k * 4, none⟩ = some (.int .i64 (f k).kind) ∧ w'.cell? ⟨b, o + k * 4 + 1, none⟩ = some (.int .i64 (f k).at_) ∧ w'.cell? ⟨b, o + k * 4 + 2, none⟩ = some (.slice dA (f k).d.length dc) ∧ w'.cell? ⟨b, o + k * 4 + 3, none⟩ = some (.bool (f k).near))
              (first
                | (with_reducible exact k8 (cells4 B6) v0 v1 v2 v3)
                | (with_reducible exact k8 (cells4 B5) t0 t1 t2 t3)
                | (with_reducible exact k8 (cells4 (B5.alloc _)) (al1 t0 _) (al1 t1 _) (al1 t2 _) (al1 t3 _))
                | (with_reducible exact k8 (cells4 (B7.out.alloc _)) (al1 a0 _) (al1 a1 _) (al1 a2 _) (al1 a3 _))
                | (with_reducible exact k8 (cells4 ((B7.out.alloc _).drew)) (al1d a0 _) (al1d a1 _) (al1d a2 _) (al1d a3 _))
                | (with_reducible exact k8 (cells4 (B7.out.drew.alloc _)) (al1 (dr1 a0) _) (al1 (dr1 a1) _) (al1 (dr1 a2) _) (al1 (dr1 a3) _))
                | go_keep)
              (first
                | (go_at_call 12; refine (HDo.out _ (Fr.refl [] wr).drew).mono ?_; rintro e w5 ⟨S5, kv5, kr5, rfl, x5, t5, f5, n5⟩; obtain ⟨A5, m5, c5, rfl⟩ := t5.form; have F5 : Fr (g :: ob kvi) wr w5 := Fr.trans ((Fr.refl (g :: ob kvi) wr).drew) f5 (fun x hx => .inl hx); have B5 := B7.out.fr F5 NE.out; have t0 := fr3 F5 a0 HB.out; have t1 := fr3 F5 a1 HB.out; have t2 := fr3 F5 a2 HB.out; have t3 := fr3 F5 a3 HB.out)
                | (go_at_call 12; refine (HDo.out _ ((Fr.refl [] wr).drew.alloc _)).mono ?_; rintro e w5 ⟨S5, kv5, kr5, rfl, x5, t5, f5, n5⟩; obtain ⟨A5, m5, c5, rfl⟩ := t5.form; have F5 : Fr (g :: ob kvi) wr w5 := Fr.trans ((Fr.refl (g :: ob kvi) wr).drew.alloc _) f5 (fun x hx => .inl hx); have B5 := B7.out.fr F5 NE.out; have t0 := fr3 F5 a0 HB.out; have t1 := fr3 F5 a1 HB.out; have t2 := fr3 F5 a2 HB.out; have t3 := fr3 F5 a3 HB.out; have bo3 : Blk w5 wr.heap.size 31 (arR 0 0 (.slice none 0 0) 0) := Blk.fr (w := wr.drew.alloc _) (Blk.new wr.drew _ _) f5 HQ.out; obtain ⟨y0, y1, y2, y3⟩ := cells4 bo3; obtain ⟨z0, z1, z2, z3⟩ := free4 bo3; have G6 := fr4 (b := wr.heap.size) (Fr.refl [wr.heap.size] w5) (Or.inl (by simp)) (.int .i64 y.most) (.int .i64 y.next) (.slice A5 m5 c5) (.int .i64 (finI y.fin)); have B6 := B5.fr G6 (by simp; omega); have v0 := fr3 G6 t0 (by simp; omega); have v1 := fr3 G6 t1 (by simp; omega); have v2 := fr3 G6 t2 (by simp; omega); have v3 := fr3 G6 t3 (by simp; omega)))
            · go_wp2_with fail
              go_meet
              exact ⟨w5.heap.size, S5, kv5, _, rfl, rfl, PL.out.mid (Fr.refl [] wr).drew x5 t5 f5 n5 HYM.out ((Fr.refl [] w5).alloc _) (by simp) (Blk.new w5 _ _)⟩
            · go_wp2_with fail
              go_meet
              exact ⟨wr.heap.size, S5, kv5, _, rfl, rfl, PL.out.mid ((Fr.refl [] wr).drew.alloc _) x5 t5 f5 n5 HYM.out (fr4 (b := wr.heap.size) (Fr.refl [wr.heap.size] w5) (Or.inl (by simp)) _ _ _ _) (by simp) (set4 bo3 _ _ _ _)⟩
          case rest => 
            obtain ⟨q, S5, kv5, kr5, rfl, rfl, pm⟩ := hcut
            obtain ⟨A5, m5, c5, rfl⟩ := pm.two.form
            have hy := pm.two.1
            have PM := Lib.hid pm
            clear HDo HQ HB B7 NE n1 n2 x0 x1 x2 x3 a0 a1 a2 a3 Aby Hdv PL hgz hlb
            generalize doesV hh (f k) = y at *
            obtain ⟨x0, x1, x2, x3⟩ := cells4 pm.blk9
            have hls : (y.kept.length : Int) ≤ most := by have := hy.len; have := pm.most; omega
            clear pm hy
            go_wp2_with fail
            refine (lsame PM.out.two).mono ?_
            rintro e w6 ⟨rfl, f6⟩
            have PM6 := Lib.hid (PM.out.fr' f6)
            clear f6
            go_wp2_with fail
            refine (pieces_hp PM6.out.two.2.1 PM6.out.two.1).mono ?_
            rintro e w7 ⟨pA, pc, rfl, own7, f7⟩
            have PM7 := Lib.hid (PM6.out.fr' f7)
            obtain ⟨z0, z1, z2, z3⟩ := cells4 PM7.out.blk9
            clear own7 f7
            have hdk : decide (most < (y.kept.length : Int)) = false := by simp; omega
            generalize y.kept.length = kl at *
            clear hls
            go_wp2_with ((with_reducible refine gate_store 31 (.tmp 7) ?_); refine wpList_store_blk rfl 31 (.tmp 7) (.tmp 68) rfl b7 31 (arH hh (.slice KA KN KC)) (arH y (.slice A5 m5 c5)) rfl rfl PM7.out.blk7 rfl (by kernel_rfl) (by simp [Value.oneCell']) ?_; intro w8 B8 F8)
            go_roundw
            case rel => exact ⟨k + 1, S5, kv5, _, y, by omega, by go_num, PM7.out.fin B8 F8⟩
            case measure => simp [intOf]; omega
        · obtain rfl : n = k := by omega
          clear pl
          go_wp2_with (go_at_call 9; refine (known_any _).mono ?_; rintro e w5 ⟨rfl, f5⟩)
          go_ret
          exact ⟨rfl, PL.out.fr.trans f5 (by simp)⟩
end Go.Proofs.Ytdlmhadcaagokaa
