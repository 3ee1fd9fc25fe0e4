import Derived.Test.YtdlmhadcaagokaaFa
import Derived.Deep.DeepCutAuto
namespace Go.Proofs.Ytdlmhadcaagokaa
open Go.RowKit Go.Deep Go.Shelf

def runV (F : Nat → PAct) : Nat → Hp → Hp
  | 0, h => h
  | k + 1, h => doesV (runV F k h) (F k)
theorem run_most (F : Nat → PAct) (h : Hp) : ∀ k, (runV F k h).most = h.most
  | 0 => rfl
  | k + 1 => (does_most _ _).trans (run_most F h k)
theorem HP.extO {S S' : Nat → Prop} {w w' : World} {g : Nat} {k : Value} {h : Hp} {O : List Nat} (m : HP S w g k h) (f : Fr O w w') (x : Ext w S S') (hO : ∀ x ∈ O, ¬ S x) (hg : ∀ x ∈ g :: ob k, x ∉ O) (hp : ∀ b, S' b → b < w'.heap.size) : HP S' w' g k h := by
  obtain ⟨ev, L, m⟩ := m
  exact ⟨ev, L, m.ext f x hO (hg g (by simp)) (fun b hb => hg b (List.mem_cons_of_mem _ (mem_ob.2 hb))) hp⟩
theorem Ext.up {w w' : World} {S S' : Nat → Prop} (h : Ext w' S S') (hz : w.heap.size ≤ w'.heap.size) : Ext w S S' := ⟨h.1, fun b hb => (h.2 b hb).imp id (fun h => by omega)⟩
theorem Play.step {w W0 wr w5 w6 : World} {g b7 : Nat} {most : Int} {S S5 : Nat → Prop} {kvi kvr kv5 kr5 : Value} {h y : Hp} (pl : Play w g b7 most S kvi kvr h wr) (f0 : Fr [] wr W0) (x5 : Ext W0 S S5) (t5 : Two S5 w5 g kv5 kr5 y) (f5 : Fr (g :: ob kvi) W0 w5)
    (n5 : ∀ b, kv5.ownBlock = some b → kvi.ownBlock = some b ∨ W0.heap.size ≤ b) (hm : y.most = h.most) (f6 : Fr [b7] w5 w6) (B : Blk w6 b7 31 (arH y kr5)) : Play w g b7 most S5 kv5 kr5 y w6 := by
  have hlt := pl.blk.lt
  have hz := f0.size
  have hz' := pl.fr.size
  have h7 : ¬ S5 b7 := fun hs => by
    rcases x5.2 _ hs with h1 | h1
    · exact pl.off h1
    · omega
  have hne : b7 ∉ g :: ob kv5 := fun hm => by
    rcases List.mem_cons.1 hm with h1 | h1
    · exact pl.ne (by rw [h1]; simp)
    · rcases n5 _ (mem_ob.1 h1) with h2 | h2
      · exact pl.ne (List.mem_cons_of_mem _ (mem_ob.2 h2))
      · omega
  have hfs : ∀ x ∈ g :: ob kvi, w.heap.size ≤ x := fun x hx => by
    rcases List.mem_cons.1 hx with rfl | hx
    · exact pl.gn
    · exact pl.kn x (mem_ob.1 hx)
  exact ⟨fun b hb => x5.1 b (pl.pub b hb), t5.frO f6 (by simp) h7 hne, ((pl.fr.trans f0 (by simp)).trans f5 (fun x hx => .inr (hfs x hx))).trans f6 (fun x hx => .inr (by simp at hx; subst hx; exact pl.bn)), B, hm.trans pl.most, h7, pl.gn, pl.bn, fun b hb => (n5 b hb).elim (pl.kn b) (fun h => by omega), hne⟩
theorem Play.fr' {w wr w' : World} {g b7 : Nat} {most : Int} {S : Nat → Prop} {kvi kvr : Value} {h : Hp} (pl : Play w g b7 most S kvi kvr h wr) (f : Fr [] wr w') : Play w g b7 most S kvi kvr h w' :=
  ⟨pl.pub, pl.two.fr f, pl.fr.trans f (by simp), pl.blk.fr f (by simp), pl.most, pl.off, pl.gn, pl.bn, pl.kn, pl.ne⟩
/-- One heap is at work (c and b), two others and a reference's heap (g1, g2, b9) stand. -/
structure CP (w : World) (c b : Nat) (most : Int) (S : Nat → Prop) (kvc kvr : Value) (h : Hp) (g1 : Nat) (k1 : Value) (h1 : Hp) (g2 : Nat) (k2 : Value) (h2 : Hp) (b9 : Nat) (kv0 : Value) (h0 : Hp) (wr : World) : Prop where
  pl : Play w c b most S kvc kvr h wr
  m1 : HP S wr g1 k1 h1
  m2 : HP S wr g2 k2 h2
  r0 : ∃ L, RPx S wr kv0 h0 L
  blk9 : Blk wr b9 31 (arH h0 kv0)
  o9 : ¬ S b9
  ap : ∀ x, (x ∈ g1 :: ob k1 ∨ x ∈ g2 :: ob k2 ∨ x = b9) → x ∉ c :: ob kvc ∧ x ≠ b ∧ x < wr.heap.size
section
variable {w W0 wr w5 w6 : World} {c b : Nat} {most : Int} {S S5 : Nat → Prop} {kvc kvr kv5 kr5 : Value} {h y : Hp} {g1 : Nat} {k1 : Value} {h1 : Hp} {g2 : Nat} {k2 : Value} {h2 : Hp} {b9 : Nat} {kv0 : Value} {h0 : Hp}
theorem CP.step (cp : CP w c b most S kvc kvr h g1 k1 h1 g2 k2 h2 b9 kv0 h0 wr) (f0 : Fr [] wr W0) (x5 : Ext W0 S S5) (t5 : Two S5 w5 c kv5 kr5 y) (f5 : Fr (c :: ob kvc) W0 w5)
    (n5 : ∀ b, kv5.ownBlock = some b → kvc.ownBlock = some b ∨ W0.heap.size ≤ b) (hm : y.most = h.most) (f6 : Fr [b] w5 w6) (B : Blk w6 b 31 (arH y kr5)) : CP w c b most S5 kv5 kr5 y g1 k1 h1 g2 k2 h2 b9 kv0 h0 w6 := by
  have pl' := cp.pl.step f0 x5 t5 f5 n5 hm f6 B
  have hz := f0.size
  have x5' := Ext.up x5 hz
  have F : Fr ((c :: ob kvc) ++ [b]) wr w6 := ((f0.mono (by simp)).trans (f5.mono (O' := (c :: ob kvc) ++ [b]) (fun x hx => List.mem_append_left _ hx)) (fun x hx => .inl hx)).trans f6 (fun x hx => .inl (List.mem_append_right _ hx))
  have hO : ∀ x ∈ (c :: ob kvc) ++ [b], ¬ S x := fun x hx => by
    rcases List.mem_append.1 hx with hx | hx
    · exact cp.pl.two.off.1 x hx
    · simp at hx; subst hx; exact cp.pl.off
  have hn : ∀ x, (x ∈ g1 :: ob k1 ∨ x ∈ g2 :: ob k2 ∨ x = b9) → x ∉ (c :: ob kvc) ++ [b] := fun x hx hm => by
    obtain ⟨p1, p2, p3⟩ := cp.ap x hx
    rcases List.mem_append.1 hm with hm | hm
    · exact p1 hm
    · simp at hm; exact p2 hm
  have hp : ∀ b, S5 b → b < w6.heap.size := fun b hb => by obtain ⟨_, m, _⟩ := pl'.two; exact m.pub b hb
  obtain ⟨L0, r0⟩ := cp.r0
  refine ⟨pl', cp.m1.extO F x5' hO (fun x hx => hn x (.inl hx)) hp, cp.m2.extO F x5' hO (fun x hx => hn x (.inr (.inl hx))) hp, ⟨L0, r0.ext F hO x5'.1 hp⟩, cp.blk9.fr F (hn b9 (.inr (.inr rfl))), fun hs => ?_, fun x hx => ?_⟩
  · rcases x5'.2 _ hs with h1 | h1
    · exact cp.o9 h1
    · have := cp.blk9.lt; omega
  · obtain ⟨p1, p2, p3⟩ := cp.ap x hx
    refine ⟨fun hm => ?_, p2, Nat.lt_of_lt_of_le p3 F.size⟩
    rcases List.mem_cons.1 hm with h3 | h3
    · exact p1 (by rw [h3]; simp)
    · rcases n5 _ (mem_ob.1 h3) with h4 | h4
      · exact p1 (List.mem_cons_of_mem _ (mem_ob.2 h4))
      · omega
theorem CP.fr' (cp : CP w c b most S kvc kvr h g1 k1 h1 g2 k2 h2 b9 kv0 h0 wr) (f : Fr [] wr w6) : CP w c b most S kvc kvr h g1 k1 h1 g2 k2 h2 b9 kv0 h0 w6 := by
  obtain ⟨L0, r0⟩ := cp.r0
  exact ⟨cp.pl.fr' f, cp.m1.fr f, cp.m2.fr f, ⟨L0, r0.ext f (by simp) (fun _ h => h) (cp.m1.fr f).pub⟩, cp.blk9.fr f (by simp), cp.o9, fun x hx => ⟨(cp.ap x hx).1, (cp.ap x hx).2.1, Nat.lt_of_lt_of_le (cp.ap x hx).2.2 f.size⟩⟩
/-- The other one goes on, this one stands. -/
theorem CP.swap (cp : CP w c b most S kvc kvr h g1 k1 h1 g2 k2 h2 b9 kv0 h0 wr) (hi : Inv h1) (hm : h1.most = most) (hz : h0 = h1) (n1 : ∀ x ∈ g1 :: ob k1, w.heap.size ≤ x) (n9 : w.heap.size ≤ b9) (e9 : b9 ∉ g1 :: ob k1) : CP w g1 b9 most S k1 kv0 h1 c kvc h c kvc h b kvr h wr := by
  subst hz
  obtain ⟨L0, r0⟩ := cp.r0
  obtain ⟨_, m, L, r⟩ := cp.pl.two
  have hT := cp.pl.two.off.2
  refine ⟨⟨cp.pl.pub, ⟨hi, cp.m1, L0, r0⟩, cp.pl.fr, cp.blk9, hm, cp.o9, n1 g1 (by simp), n9, fun b hb => n1 b (List.mem_cons_of_mem _ (mem_ob.2 hb)), e9⟩, m, m, ⟨L, r⟩, cp.pl.blk, cp.pl.off, fun x hx => ?_⟩
  have : x ∈ c :: ob kvc ∨ x = b := by
    rcases hx with h | h | h
    · exact .inl h
    · exact .inl h
    · exact .inr h
  rcases this with hx | rfl
  · exact ⟨fun hm => (cp.ap x (.inl hm)).1 hx, fun e => (cp.ap x (.inr (.inr e))).1 hx, hT x hx⟩
  · exact ⟨fun hm => (cp.ap x (.inl hm)).2.1 rfl, fun e => (cp.ap x (.inr (.inr e))).2.1 rfl, cp.pl.blk.lt⟩
end
def Rel1 (w : World) (g b : Nat) (most : Int) (F : Nat → PAct) (n : Nat) (v : Value) (wr : World) : Prop := ∃ (k : Nat) (S : Nat → Prop) (kvi kvr : Value), k ≤ n ∧ v = .int .i64 k ∧ Play w g b most S kvi kvr (runV F k (newV most)) wr
def Rel2 (w : World) (c b : Nat) (most : Int) (F : Nat → PAct) (n : Nat) (H0 : Hp) (g1 : Nat) (k1 : Value) (h1 : Hp) (g2 : Nat) (k2 : Value) (h2 : Hp) (b9 : Nat) (kv0 : Value) (h0 : Hp) (v : Value) (wr : World) : Prop := ∃ (k : Nat) (S : Nat → Prop) (kvi kvr : Value), k ≤ n ∧ v = .int .i64 k ∧ CP w c b most S kvi kvr (runV F k H0) g1 k1 h1 g2 k2 h2 b9 kv0 h0 wr
set_option maxRecDepth 100000 in
set_option maxHeartbeats 8000000 in
theorem copies_any (most : Int) (A1 : Option Addr) (n1 c1 : Nat) (F1 : Nat → PAct) (A2 : Option Addr) (n2 c2 : Nat) (F2 : Nat → PAct) (w : World) (h1 : Acts w w.heap.size A1 n1 F1) (hn1 : n1 ≤ maxLen) (h2 : Acts w w.heap.size A2 n2 F2) (hn2 : n2 ≤ maxLen) : Calls Try.prog 6 #[.int .i64 most, .slice A1 n1 c1, .slice A2 n2 c2] w fun e w' => e = .returned (.bool true) ∧ Fr [] w w' := by
  have H1 := Lib.hid h1
  have H2 := Lib.hid h2
  clear h1 h2
  go_enter Try.func6, Try.ntmps6
  go_wp2_with fail
  refine (few_any w w.heap.size A1 n1 c1 F1 H1.out hn1).mono ?_
  rintro e w0 ⟨b1, rfl, rfl, hb1⟩
  cases b1
  · clear hb1
    go_wp2_with fail
    refine (known_any _).mono ?_
    rintro e wk ⟨rfl, fk⟩
    go_wp2_with fail
    go_ret
    exact ⟨rfl, fk⟩
  obtain ⟨hc1, hd1⟩ := hb1 rfl
  clear hb1
  have HD1 := Lib.hid hd1
  clear hd1
  go_wp2_with fail
  refine (few_any w w.heap.size A2 n2 c2 F2 H2.out hn2).mono ?_
  rintro e w0 ⟨b2, rfl, rfl, hb2⟩
  cases b2
  · clear hb2
    go_wp2_with fail
    refine (known_any _).mono ?_
    rintro e wk ⟨rfl, fk⟩
    go_wp2_with fail
    go_ret
    exact ⟨rfl, fk⟩
  obtain ⟨hc2, hd2⟩ := hb2 rfl
  clear hb2
  have HD2 := Lib.hid hd2
  clear hd2
  by_cases hs : 60 < (n1 : Int) + n2
  · have hs1 : -9223372036854775808 ≤ (n1 : Int) + n2 := by omega
    have hs2 : (n1 : Int) + n2 ≤ 9223372036854775807 := by omega
    go_wp2_with fail
    refine (known_any _).mono ?_
    rintro e wk ⟨rfl, fk⟩
    go_wp2_with fail
    go_ret
    exact ⟨rfl, fk⟩
  have hs1 : -9223372036854775808 ≤ (n1 : Int) + n2 := by omega
  have hs2 : (n1 : Int) + n2 ≤ 9223372036854775807 := by omega
  by_cases hm : most < 0 ∨ 64 < most
  · go_wp2_with fail
    refine (new_no most w hm).mono ?_
    rintro e w1 ⟨rfl, rfl⟩
    go_wp2_with fail
    refine (known_any _).mono ?_
    rintro e wk ⟨rfl, fk⟩
    go_wp2_with fail
    go_ret
    exact ⟨rfl, fk⟩
  have hm0 : 0 ≤ most := by omega
  have hm1 : most ≤ 64 := by omega
  clear hm
  go_wp2_with fail
  refine (new_hp (fun b => b < w.heap.size) most w hm0 hm1 (fun b h => h)).mono ?_
  rintro e w1 ⟨rfl, f1, m1, hz⟩
  have FF1 := Lib.hid f1
  have M1 := Lib.hid m1
  have HZ := Lib.hid hz
  clear f1 m1 hz
  go_wp2_with fail
  refine (rnew most w1).mono ?_
  rintro e w2 ⟨rfl, f2⟩
  have FF2 := Lib.hid f2
  have hlt2 : w.heap.size < w2.heap.size := by have := f2.size; have := HZ.out; omega
  clear f2
  go_wp2_with ((with_reducible refine gate_store 31 (.tmp 9) ?_); refine wpList_store_blk rfl 31 (.tmp 9) (.tmp 42) rfl w2.heap.size 31 (arR 0 0 (.slice none 0 0) 0) (arR most 0 (.slice none 0 0) (-1)) rfl rfl (Blk.new w2 31 _) rfl (by kernel_rfl) (by simp [Value.oneCell']) ?_; intro w3 B3 F3)
  have f13 : Fr [] w1 w3 := (FF2.out.alloc _).trans F3 (by intro x hx; simp at hx; subst hx; exact .inr FF2.out.size)
  have fw : Fr [] w w3 := FF1.out.trans f13 (by simp)
  have tw : Two (fun b => b < w.heap.size) w3 w.heap.size (.slice none 0 0) (.slice none 0 0) (newV most) := ⟨new_inv hm0 hm1, M1.out.fr f13, [], ⟨⟨World.ownsRow_nil _ 0 65 2, by simp⟩, rfl, by simp [Value.ownBlock], fun b hb => by have := fw.size; omega⟩⟩
  have pl : Play w w.heap.size w2.heap.size most (fun b => b < w.heap.size) (.slice none 0 0) (.slice none 0 0) (newV most) w3 := ⟨fun b h => h, tw, fw, B3, rfl, by simp; omega, Nat.le_refl _, by omega, by simp [Value.ownBlock], by simp [ob, Value.ownBlock]; omega⟩
  have PL := Lib.hid pl
  clear f13 fw tw pl B3 F3 FF2 M1 HZ FF1
  generalize w2.heap.size = b7 at *
  generalize hg : w.heap.size = g at PL ⊢
  go_loopw [10] (fun v wr => Rel1 w g b7 most F1 n1 v wr) (fun v _ => n1 - (intOf v).toNat)
  case atStart => exact ⟨0, _, _, _, by omega, rfl, PL.out⟩
  case round =>
    clear PL
    obtain ⟨k, S, kvi, kvr, hk, rfl, pl⟩ := hrel
    have PL := Lib.hid pl
    by_cases hlt : k < n1
    · obtain ⟨b, o, rfl, hbB, a0, a1, a2, a3, aby⟩ := H1.out.fr PL.out.fr (Nat.le_refl _) (by simp) k hlt
      have Aby := Lib.hid aby
      obtain ⟨dA, dc, hdv, hdn, hdc⟩ := aby.form
      have hbg : b ∉ g :: ob kvi := fun hm => by
        rcases List.mem_cons.1 hm with rfl | hm
        · have := PL.out.gn; omega
        · have := PL.out.kn _ (mem_ob.1 hm); omega
      have HB := Lib.hid hbg
      have NE := Lib.hid PL.out.ne
      have B7 := Lib.hid PL.out.blk
      have hlb := PL.out.blk.lt
      have hgz := PL.out.two.off.2 g (by simp)
      obtain ⟨KA, KN, KC, rfl⟩ := PL.out.two.form
      have HDo : Hid (∀ W, Fr [] wr W → Calls Try.prog 12 #[ptr g, agH (runV F1 k (newV most)) (.slice KA KN KC), .agg (arA (F1 k).kind (F1 k).at_ (F1 k).dv (F1 k).near)] W (DoesPost S W g kvi (doesV (runV F1 k (newV most)) (F1 k)))) := Lib.hid (fun W fW => does_any (PL.out.two.fr fW) (F1 k) (fun b => b < w.heap.size) (Aby.out.fr fW (by simp)) (fun b hb hm => PL.out.two.off.1 b hm (PL.out.pub b hb)) (HD1.out k hlt))
      rw [hdv] at a2 HDo
      have k64 : (k : Int) < 9223372036854775807 := by omega
      have hym := does_most (runV F1 k (newV most)) (F1 k)
      have hyr : doesV (runV F1 k (newV most)) (F1 k) = runV F1 (k + 1) (newV most) := rfl
      generalize doesV (runV F1 k (newV most)) (F1 k) = y at *
      generalize runV F1 k (newV most) = hh at *
      obtain ⟨x0, x1, x2, x3⟩ := cells4 B7.out
      have HYM := Lib.hid hym
      have HYR := Lib.hid hyr
      clear aby hdv hbg pl hym hyr
      go_upto_region 10 with fail
      go_region_with (go_at_call 12; refine (HDo.out _ (Fr.refl [] wr).drew).mono ?_; rintro e w5 ⟨S5, kv5, kr5, rfl, x5, t5, f5, n5⟩; obtain ⟨A5, m5, c5, rfl⟩ := t5.form; have B5 := B7.out.fr ((Fr.refl (g :: ob kvi) wr).drew.trans f5 (fun x hx => .inl hx)) NE.out; obtain ⟨y0, y1, y2, y3⟩ := cells4 B5; obtain ⟨z0, z1, z2, z3⟩ := free4 B5)
      all_goals
        go_wp2_with fail
        go_roundw
        case rel =>
          refine ⟨k + 1, S5, kv5, .slice A5 m5 c5, by omega, by go_num, ?_⟩
          rw [← HYR.out]
          exact PL.out.step (Fr.refl [] wr).drew x5 t5 f5 n5 HYM.out (fr4 (b := b7) (Fr.refl [b7] w5) (Or.inl (by simp)) _ _ _ _) (set4 B5 _ _ _ _)
        case measure => simp [intOf]; omega
    · obtain rfl : n1 = k := by omega
      clear pl hlt hk
      have hm1' : (runV F1 n1 (newV most)).most = most := run_most F1 (newV most) n1
      generalize runV F1 n1 (newV most) = h1 at *
      have hi1 := Lib.hid PL.out.two.1
      have HM1 := Lib.hid hm1'
      have HW0 : Hid (w.heap.size ≤ wr.heap.size) := Lib.hid PL.out.fr.size
      clear hm1'
      go_wp2_with fail
      refine (copy_hp PL.out.two.2.1 hi1.out).mono ?_
      rintro e w1 ⟨kvc, rfl, mc, fc, ec, zc⟩
      have P1 := Lib.hid (PL.out.fr' fc)
      have MC := Lib.hid mc
      have EC := Lib.hid ec
      have hz1 := PL.out.two.off.2
      have hb1 := PL.out.blk.lt
      have HZ1 := Lib.hid hz1
      clear mc fc ec PL hz1
      go_wp2_with fail
      refine (copy_hp P1.out.two.2.1 hi1.out).mono ?_
      rintro e w2 ⟨kvd, rfl, md, fd, ed, zd⟩
      have P2 := Lib.hid (P1.out.fr' fd)
      have MC2 := Lib.hid (MC.out.fr fd)
      have MD := Lib.hid md
      have ED := Lib.hid ed
      obtain ⟨KA, KN, KC, rfl⟩ := P2.out.two.form
      have fsz := fd.size
      have hkc : Hid (∀ b, kvc.ownBlock = some b → b < w1.heap.size) := Lib.hid (fun b hb => by obtain ⟨ev, L, m⟩ := MC.out; exact own_lt m.kp.own hb)
      have hkd : Hid (∀ b, kvd.ownBlock = some b → b < w2.heap.size) := Lib.hid (fun b hb => by obtain ⟨ev, L, m⟩ := md; exact own_lt m.kp.own hb)
      clear md fd ed P1 MC
      obtain ⟨x0, x1, x2, x3⟩ := cells4 P2.out.blk
      go_wp2_with ((with_reducible refine gate_store 31 (.tmp 13) ?_); refine wpList_store_blk rfl 31 (.tmp 13) (.tmp 63) rfl w2.heap.size 31 (arR 0 0 (.slice none 0 0) 0) (arH h1 (.slice KA KN KC)) rfl rfl (Blk.new w2 31 _) rfl (by kernel_rfl) (by simp [Value.oneCell']) ?_; intro w3 B3 F3)
      have f23 : Fr [] w2 w3 := ((Fr.refl [] w2).alloc _).trans F3 (by intro x hx; simp at hx; subst hx; exact .inr (Nat.le_refl _))
      have p3 := P2.out.fr' f23
      have m3 := MC2.out.fr f23
      have d3 := MD.out.fr f23
      have hws := p3.fr.size
      have hwr := P2.out.fr.size
      have cp : CP w wr.heap.size w2.heap.size most S kvc (.slice KA KN KC) h1 g kvi h1 w1.heap.size kvd h1 b7 (.slice KA KN KC) h1 w3 := by
        obtain ⟨L0, r0⟩ := p3.two.2.2
        have hSp := MC2.out.pub
        have hw0 : w.heap.size ≤ wr.heap.size := HW0.out
        refine ⟨⟨p3.pub, ⟨hi1.out, m3, L0, r0⟩, p3.fr, B3, HM1.out, fun hs => ?_, by omega, by omega, fun b hb => by have := EC.out b hb; omega, fun hm => ?_⟩, p3.two.2.1, d3, ⟨L0, r0⟩, p3.blk, p3.off, fun x hx => ?_⟩
        · have := hSp _ hs; omega
        · rcases List.mem_cons.1 hm with h | h
          · omega
          · have := hkc.out _ (mem_ob.1 h); omega
        · rcases hx with hx | hx | rfl
          · have h3 := HZ1.out x hx
            refine ⟨fun hm => ?_, by omega, by have := f23.size; omega⟩
            rcases List.mem_cons.1 hm with h | h
            · omega
            · have := EC.out _ (mem_ob.1 h); omega
          · have h3 : w1.heap.size ≤ x ∧ x < w2.heap.size := by
              rcases List.mem_cons.1 hx with rfl | hx
              · omega
              · have := ED.out _ (mem_ob.1 hx); have := hkd.out _ (mem_ob.1 hx); omega
            refine ⟨fun hm => ?_, by omega, by have := f23.size; omega⟩
            rcases List.mem_cons.1 hm with h | h
            · omega
            · have := hkc.out _ (mem_ob.1 h); omega
          · refine ⟨fun hm => ?_, by omega, by have := f23.size; omega⟩
            rcases List.mem_cons.1 hm with h | h
            · omega
            · have := EC.out _ (mem_ob.1 h); omega
      have NG : Hid ((∀ x ∈ g :: ob kvi, w.heap.size ≤ x) ∧ w.heap.size ≤ b7 ∧ b7 ∉ g :: ob kvi) := Lib.hid ⟨fun x hx => by
        rcases List.mem_cons.1 hx with rfl | hx
        · exact p3.gn
        · exact p3.kn x (mem_ob.1 hx), p3.bn, p3.ne⟩
      have CPP := Lib.hid cp
      clear cp m3 d3 p3 P2 MC2 MD EC ED hkc hkd HZ1 B3 F3 f23 x0 x1 x2 x3 hws hwr hb1 fsz zc zd HW0
      generalize w2.heap.size = b13 at *
      generalize w1.heap.size = gd at *
      generalize wr.heap.size = gc at *
      clear w1 w2
      go_loopw [14] (fun v wr => Rel2 w gc b13 most F2 n2 h1 g kvi h1 gd kvd h1 b7 (.slice KA KN KC) h1 v wr) (fun v _ => n2 - (intOf v).toNat)
      case atStart => exact ⟨0, _, _, _, by omega, rfl, CPP.out⟩
      case round =>
        clear CPP
        have NGG := NG
        have hi1' := hi1
        generalize hKV : Value.slice KA KN KC = kv0 at *
        generalize hKI : kvi = ki0 at *
        clear hKV hKI
        obtain ⟨k, S, kvi, kvr, hk, rfl, pl⟩ := hrel
        have PL := Lib.hid pl
        by_cases hlt : k < n2
        · obtain ⟨b, o, rfl, hbB, a0, a1, a2, a3, aby⟩ := H2.out.fr PL.out.pl.fr (Nat.le_refl _) (by simp) k hlt
          have Aby := Lib.hid aby
          obtain ⟨dA, dc, hdv, hdn, hdc⟩ := aby.form
          have hbg : b ∉ gc :: ob kvi := fun hm => by
            rcases List.mem_cons.1 hm with rfl | hm
            · have := PL.out.pl.gn; omega
            · have := PL.out.pl.kn _ (mem_ob.1 hm); omega
          have HB := Lib.hid hbg
          have NE := Lib.hid PL.out.pl.ne
          have B7 := Lib.hid PL.out.pl.blk
          have hlb := PL.out.pl.blk.lt
          have hgz := PL.out.pl.two.off.2 gc (by simp)
          obtain ⟨KA, KN, KC, rfl⟩ := PL.out.pl.two.form
          have HDo : Hid (∀ W, Fr [] wr W → Calls Try.prog 12 #[ptr gc, agH (runV F2 k (h1)) (.slice KA KN KC), .agg (arA (F2 k).kind (F2 k).at_ (F2 k).dv (F2 k).near)] W (DoesPost S W gc kvi (doesV (runV F2 k (h1)) (F2 k)))) := Lib.hid (fun W fW => does_any (PL.out.pl.two.fr fW) (F2 k) (fun b => b < w.heap.size) (Aby.out.fr fW (by simp)) (fun b hb hm => PL.out.pl.two.off.1 b hm (PL.out.pl.pub b hb)) (HD2.out k hlt))
          rw [hdv] at a2 HDo
          have k64 : (k : Int) < 9223372036854775807 := by omega
          have hym := does_most (runV F2 k (h1)) (F2 k)
          have hyr : doesV (runV F2 k (h1)) (F2 k) = runV F2 (k + 1) (h1) := rfl
          generalize doesV (runV F2 k (h1)) (F2 k) = y at *
          generalize runV F2 k (h1) = hh at *
          obtain ⟨x0, x1, x2, x3⟩ := cells4 B7.out
          have HYM := Lib.hid hym
          have HYR := Lib.hid hyr
          clear aby hdv hbg pl hym hyr
          go_upto_region 16 with fail
          go_region_with (go_at_call 12; refine (HDo.out _ (Fr.refl [] wr).drew).mono ?_; rintro e w5 ⟨S5, kv5, kr5, rfl, x5, t5, f5, n5⟩; obtain ⟨A5, m5, c5, rfl⟩ := t5.form; have B5 := B7.out.fr ((Fr.refl (gc :: ob kvi) wr).drew.trans f5 (fun x hx => .inl hx)) NE.out; obtain ⟨y0, y1, y2, y3⟩ := cells4 B5; obtain ⟨z0, z1, z2, z3⟩ := free4 B5)
          all_goals
            go_wp2_with fail
            go_roundw
            case rel =>
              refine ⟨k + 1, S5, kv5, .slice A5 m5 c5, by omega, by go_num, ?_⟩
              rw [← HYR.out]
              exact PL.out.step (Fr.refl [] wr).drew x5 t5 f5 n5 HYM.out (fr4 (b := b13) (Fr.refl [b13] w5) (Or.inl (by simp)) _ _ _ _) (set4 B5 _ _ _ _)
            case measure => simp [intOf]; omega
        · obtain rfl : n2 = k := by omega
          clear pl hlt hk
          generalize hx2 : runV F2 n2 h1 = h2 at *
          have HX2 := Lib.hid hx2
          clear hx2
          go_wp2_with fail
          refine (same_hp PL.out.m1 PL.out.m2 hi1.out).mono ?_
          rintro e w6 ⟨rfl, f6⟩
          have P6 := Lib.hid (PL.out.fr' f6)
          clear f6 PL
          obtain ⟨x0, x1, x2, x3⟩ := cells4 P6.out.blk9
          go_wp2_with fail
          refine (lsame ⟨hi1.out, P6.out.m1, P6.out.r0⟩).mono ?_
          rintro e w7 ⟨rfl, f7⟩
          have P7 := Lib.hid (P6.out.fr' f7)
          clear f7 P6 x0 x1 x2 x3
          obtain ⟨x0, x1, x2, x3⟩ := cells4 P7.out.pl.blk
          go_wp2_with fail
          refine (lsame P7.out.pl.two).mono ?_
          rintro e w8 ⟨rfl, f8⟩
          have cp8 := (P7.out.fr' f8).swap hi1.out HM1.out rfl NG.out.1 NG.out.2.1 NG.out.2.2
          have CP8 := Lib.hid cp8
          have hi2 := Lib.hid P7.out.pl.two.1
          clear f8 P7 x0 x1 x2 x3 cp8
          go_wp2_with fail
          go_loopw [15] (fun v wr => Rel2 w g b7 most F2 n2 h1 gc kvi h2 gc kvi h2 b13 kvr h2 v wr) (fun v _ => n2 - (intOf v).toNat)
          case atStart => exact ⟨0, _, _, _, by omega, rfl, CP8.out⟩
          case round =>
            clear CP8
            generalize hKV : kvr = kvz at *
            generalize hKI : kvi = kiz at *
            clear hKV hKI
            obtain ⟨k, S, kvi, kvr, hk, rfl, pl⟩ := hrel
            have PL := Lib.hid pl
            by_cases hlt : k < n2
            · obtain ⟨b, o, rfl, hbB, a0, a1, a2, a3, aby⟩ := H2.out.fr PL.out.pl.fr (Nat.le_refl _) (by simp) k hlt
              have Aby := Lib.hid aby
              obtain ⟨dA, dc, hdv, hdn, hdc⟩ := aby.form
              have hbg : b ∉ g :: ob kvi := fun hm => by
                rcases List.mem_cons.1 hm with rfl | hm
                · have := PL.out.pl.gn; omega
                · have := PL.out.pl.kn _ (mem_ob.1 hm); omega
              have HB := Lib.hid hbg
              have NE := Lib.hid PL.out.pl.ne
              have B7 := Lib.hid PL.out.pl.blk
              have hlb := PL.out.pl.blk.lt
              have hgz := PL.out.pl.two.off.2 g (by simp)
              obtain ⟨KA, KN, KC, rfl⟩ := PL.out.pl.two.form
              have HDo : Hid (∀ W, Fr [] wr W → Calls Try.prog 12 #[ptr g, agH (runV F2 k (h1)) (.slice KA KN KC), .agg (arA (F2 k).kind (F2 k).at_ (F2 k).dv (F2 k).near)] W (DoesPost S W g kvi (doesV (runV F2 k (h1)) (F2 k)))) := Lib.hid (fun W fW => does_any (PL.out.pl.two.fr fW) (F2 k) (fun b => b < w.heap.size) (Aby.out.fr fW (by simp)) (fun b hb hm => PL.out.pl.two.off.1 b hm (PL.out.pl.pub b hb)) (HD2.out k hlt))
              rw [hdv] at a2 HDo
              have k64 : (k : Int) < 9223372036854775807 := by omega
              have hym := does_most (runV F2 k (h1)) (F2 k)
              have hyr : doesV (runV F2 k (h1)) (F2 k) = runV F2 (k + 1) (h1) := rfl
              generalize doesV (runV F2 k (h1)) (F2 k) = y at *
              generalize runV F2 k (h1) = hh at *
              obtain ⟨x0, x1, x2, x3⟩ := cells4 B7.out
              have HYM := Lib.hid hym
              have HYR := Lib.hid hyr
              clear aby hdv hbg pl hym hyr
              go_upto_region 22 with fail
              go_region_with (go_at_call 12; refine (HDo.out _ (Fr.refl [] wr).drew).mono ?_; rintro e w5 ⟨S5, kv5, kr5, rfl, x5, t5, f5, n5⟩; obtain ⟨A5, m5, c5, rfl⟩ := t5.form; have B5 := B7.out.fr ((Fr.refl (g :: ob kvi) wr).drew.trans f5 (fun x hx => .inl hx)) NE.out; obtain ⟨y0, y1, y2, y3⟩ := cells4 B5; obtain ⟨z0, z1, z2, z3⟩ := free4 B5)
              all_goals
                go_wp2_with fail
                go_roundw
                case rel =>
                  refine ⟨k + 1, S5, kv5, .slice A5 m5 c5, by omega, by go_num, ?_⟩
                  rw [← HYR.out]
                  exact PL.out.step (Fr.refl [] wr).drew x5 t5 f5 n5 HYM.out (fr4 (b := b7) (Fr.refl [b7] w5) (Or.inl (by simp)) _ _ _ _) (set4 B5 _ _ _ _)
                case measure => simp [intOf]; omega
            · obtain rfl : n2 = k := by omega
              clear pl hlt hk
              have m2 := PL.out.pl.two.2.1
              rw [HX2.out] at m2
              go_wp2_with fail
              refine (same_hp m2 PL.out.m1 hi2.out).mono ?_
              rintro e w6 ⟨rfl, f6⟩
              go_wp2_with fail
              refine (known_any _).mono ?_
              rintro e w7 ⟨rfl, f7⟩
              go_wp2_with fail
              go_ret
              exact ⟨rfl, (PL.out.pl.fr.trans f6 (by simp)).trans f7 (by simp)⟩
end Go.Proofs.Ytdlmhadcaagokaa
