import Derived.Test.YtdlmhadcaagokaaHb
import Derived.Deep.DeepCutAuto
import Derived.Deep.RegionLaw
namespace Go.Proofs.Ytdlmhadcaagokaa
open Go.RowKit Go.Deep Go.Shelf
attribute [local go_sem] Oper.semAt_some
/-- What a round knows of the piece that it is handed, and the state behind it. -/
def TellRnd (S : Nat → Prop) (s s' : Int × Value × List (Pc × Value) × List Int) (v : Value) (W : World) : Prop :=
  ∃ (p : Pc) (A : Option Addr) (c : Nat), v = agp p.at_ (.slice A p.d.length c) ∧ Byt S W (.slice A p.d.length c) p.d ∧ 0 ≤ p.at_ ∧ p.at_ ≤ s.1 ∧ p.at_ ≤ 4611686018427387904 ∧ p.d.length ≤ 64 ∧ s.2.2.2.length + 64 ≤ 64 * (65 - s.2.2.1.length) ∧
    s' = ((takeV s.1 p).2, s.2.1, s.2.2.1, s.2.2.2 ++ (takeV s.1 p).1)
def TellFin (k : Nat) (n : Int) (L : List Pc) (l : List Int) (s : Int × Value × List (Pc × Value) × List Int) : Prop :=
  s.1 = (drainV k n L).1 ∧ s.2.2.1.map (·.1) = (drainV k n L).2.1 ∧ s.2.2.2 = l ++ (drainV k n L).2.2
theorem ready_any (g : Nat) (w : World) : Calls Try.prog 30 #[ptr g] w fun e w' => e = .returned (.func (.func 42) #[] #[.pointer (some ⟨w.heap.size, 0, none⟩)]) ∧ w.alloc (.cells #[ptr g] 25) = w' := by
  go_enter Try.func30, Try.ntmps30
  go_wp2
  go_ret
  exact ⟨rfl, rfl⟩
/-- What stands where a piece is to be told, what is ahead of Next cut off. -/
structure TellRel (S S' : Nat → Prop) (w : World) (g hx ob' pb : Nat) (kv ev : Value) (h : Hp) (L : List (Pc × Value)) (l : List Int) (wx : World) : Prop where
  fr : Fr [] w wx
  hbx : Blk wx hx 25 #[ptr g]
  obx : Blk wx ob' 35 #[.slice none 0 0]
  hp : HPx S wx g kv ev h L
  pc : ∃ A c, Blk wx pb 67 #[.int .i64 h.next, .slice A l.length c] ∧ Byt S' wx (.slice A l.length c) l
  pub : ∀ b, S' b → b < wx.heap.size

set_option maxRecDepth 100000 in
set_option maxHeartbeats 2000000 in
theorem put_tell {S : Nat → Prop} {w : World} {g : Nat} {kv : Value} {h : Hp} (m : HP S w g kv h) (a : Int) (dv : Value) (d : List Int) (T : Nat → Prop) (hd : Byt T w dv d) (hl : d.length ≤ 1000000) (h0 : 0 ≤ a) (h1 : a ≤ 4611686018427387904) (h2 : 1 ≤ d.length) (h3 : d.length ≤ 64) (h4 : past h.fin (a + d.length) = false) (h5 : a ≤ h.next) (h6 : h.next < a + d.length) (hi : Inv h) :
    Calls Try.prog 16 #[ptr g, .int .i64 a, dv] w (PutPost S w g kv { h with next := (drainV h.kept.length (a + d.length) h.kept).1, kept := (drainV h.kept.length (a + d.length) h.kept).2.1 } (d.drop (h.next - a).toNat ++ (drainV h.kept.length (a + d.length) h.kept).2.2) 0) := by
  have M := Lib.hid m
  obtain ⟨ev, L, m⟩ := m
  obtain ⟨A, c, rfl, hn, hcm⟩ := hd.form
  have c4 := m.cells.2.2.2.2
  have hg := m.blk.lt
  have hcl : ∀ W, Fr [] w W → Calls Try.prog 27 #[.slice A d.length c] W _ := fun W f => cloneB_any W (hd.fr f (by simp)) hl
  have Hcl := Lib.hid hcl
  have f0 : Fr [] w ((w.alloc (.cells #[ptr g] 25)).alloc (.cells #[.slice none 0 0] 35)) := ((Fr.refl _ _).alloc _).alloc _
  have bo := Blk.new (w.alloc (.cells #[ptr g] 25)) 35 #[.slice none 0 0]
  have bh := (Blk.new w 25 #[ptr g]).alloc (.cells #[.slice none 0 0] 35)
  have BO := Lib.hid bo
  have BH := Lib.hid bh
  have M0 := Lib.hid m
  clear hcl m hd bo bh
  have HP := Lib.hid h4
  have HI := Lib.hid hi
  clear h4 hi
  let tok : Exit → Act → World → Prop := bodyPost Try.prog Try.f16 (fun _ _ => True)
  refine calls_of_marks Try.func16 rfl ?_
  simp only [Try.ntmps16, List.size_toArray, List.length_cons, List.length_nil, Nat.reduceAdd, Nat.reduceSub, Array.replicate_succ, Array.replicate_zero, List.push_toArray, List.append_toArray, List.nil_append, List.cons_append]
  go_wp2_with fail
  refine wp_scope_fwd 0 rfl ?_
  go_wp2_with fail
  refine (Hcl.out _ f0).mono ?_
  rintro e w1 ⟨A1, c1, rfl, own1, f1, fb1⟩
  have F1 : Fr [] w w1 := f0.trans f1 (by simp)
  have b4 := fr_cell F1 c4
  have bh1 := BH.out.fr f1 (by simp)
  have bo1 : Blk w1 (w.heap.size + 1) 35 #[.slice none 0 0] := by simpa using BO.out.fr f1 (by simp)
  have bh0 : w1.cell? ⟨w.heap.size, 0, none⟩ = some (ptr g) := bh1.cell 0
  have bo0 : w1.cell? ⟨w.heap.size + 1, 0, none⟩ = some (.slice none 0 0) := by simpa using bo1.cell 0
  have bof : w1.frozen? ⟨w.heap.size + 1, 0, none⟩ = false := by simpa using bo1.frozen 0
  have sz1 : w.heap.size + 1 < w1.heap.size := by have := f1.size; simp at this; omega
  have sz2 : w.heap.size < w1.heap.size := by omega
  have hg1 : g < w1.heap.size := by omega
  have HF1 := Lib.hid F1
  have HO1 := Lib.hid own1
  have HB1 := Lib.hid fb1
  have Bh1 := Lib.hid bh1
  have Bo1 := Lib.hid bo1
  clear f0 f1 F1 own1 fb1 c4 bh1 bo1
  go_upto_region 7 with (go_at_call 26; refine (none_hp ?_).mono ?_; (first | exact b4 | exact cell_al b4 _ | assumption); rintro e w' ⟨rfl, rfl⟩)
  have fp : Fr [] w1 (w1.alloc (bxp a (.slice A1 d.length c1))) := (Fr.refl _ _).alloc _
  have pb := Blk.new w1 67 #[.int .i64 a, .slice A1 d.length c1]
  have szp : w1.heap.size < (w1.alloc (bxp a (.slice A1 d.length c1))).heap.size := by simp
  generalize w1.alloc (bxp a (.slice A1 d.length c1)) = W1 at *
  have FP := Lib.hid fp
  have PB := Lib.hid pb
  clear fp pb bh0 bo0 bof b4 hn
  go_cut [47] (fun s47 wx => s47 = .bool (past h.fin (a + d.length)) ∧ Fr [] W1 wx)
  case first =>
    have qh := fr_cell FP.out (show w1.cell? ⟨w.heap.size, 0, none⟩ = some (ptr g) from Bh1.out.cell 0)
    have q3 := fr_cell (HF1.out.trans FP.out (by simp)) M0.out.cells.2.2.2.1
    have p0 := PB.out.cell 0
    have p1 := PB.out.cell 1
    have x0 := Grew.cell qh
    have x1 := Grew.cell q3
    have x2 := Grew.cell p0
    have x3 := Grew.cell p1
    have hbeh : ∀ p : Grew W1, Calls Try.prog 28 #[agp a (.slice A1 d.length c1)] p.W fun e w'' => e = .returned (.int .i64 (a + d.length)) ∧ ∃ q : Grew W1, w'' = q.W := fun p => grew_call (behind_fr a A1 d.length c1 _ h0 (by omega) (by omega))
    have HBH := Lib.hid hbeh
    have hfin := M0.out.fin
    clear qh q3 p0 p1 hbeh
    rcases hfin with ⟨e1, rfl⟩ | ⟨fa, fb, e1, rfl, e3, e4⟩
    · have e5 : past h.fin (a + d.length) = false := by unfold past; rw [e1]
      have E5 := Lib.hid e5
      clear e1 e5
      refine wp_region_grew (by kernel_rfl) (by kernel_rfl) ?_
      repeat (go_big_quiet_step ((go_at_call 28; exact HBH.out _)))
      refine wpQuiet_nil ?_
      intro W2 f2
      go_wp2_with fail
      go_meet
      exact ⟨by rw [E5.out], f2⟩
    · have e5 : past h.fin (a + d.length) = decide (fa < a + d.length) := by unfold past; rw [e1]
      have E5 := Lib.hid e5
      have x4 := Grew.cell (fr_cell (HF1.out.trans FP.out (by simp)) e4)
      clear e1 e5 e4
      refine wp_region_grew (by kernel_rfl) (by kernel_rfl) ?_
      repeat (go_big_quiet_step ((go_at_call 28; exact HBH.out _)))
      refine wpQuiet_nil ?_
      intro W2 f2
      go_wp2_with fail
      go_meet
      exact ⟨by rw [E5.out], f2⟩
  case rest =>
    obtain ⟨rfl, f2⟩ := hcut
    generalize wc = W2 at *
    have F2 := Lib.hid ((HF1.out.trans FP.out (by simp)).trans f2 (by simp))
    have Bh2 := Lib.hid (Bh1.out.fr (FP.out.trans f2 (by simp)) (by simp))
    have Bo2 := Lib.hid (Bo1.out.fr (FP.out.trans f2 (by simp)) (by simp))
    have Pb2 := Lib.hid (PB.out.fr f2 (by simp))
    have M2 := Lib.hid (M0.out.fr F2.out (by simp) (by simp) (by simp))
    have D2 := Lib.hid (own_fr HO1.out (FP.out.trans f2 (by simp)) (by simp))
    clear f2
    have xbh : W2.cell? ⟨w.heap.size, 0, none⟩ = some (ptr g) := Bh2.out.cell 0
    have xbo : W2.cell? ⟨w.heap.size + 1, 0, none⟩ = some (.slice none 0 0) := Bo2.out.cell 0
    have xbof := Bo2.out.frozen 0
    have xp0 : W2.cell? ⟨w1.heap.size, 0, none⟩ = some (.int .i64 a) := Pb2.out.cell 0
    have xp1 : W2.cell? ⟨w1.heap.size, 1, none⟩ = some (.slice A1 d.length c1) := Pb2.out.cell 1
    obtain ⟨xc0, xc1, xc2, xc3, xc4⟩ := M2.out.cells
    have xsp := Pb2.out.lt
    have xsh := Bh2.out.lt
    have xso := Bo2.out.lt
    have xsg := M2.out.blk.lt
    rw [HP.out]
    go_upto_region 8 with fail
    go_cut [63] (fun s63 wx => s63 = .bool (decide (a < h.next)) ∧ Fr [] W2 wx)
    case first =>
      have y0 := Grew.cell xbh
      have y1 := Grew.cell xc1
      have y2 := Grew.cell xp0
      have y3 := Grew.cell xp1
      have hbeh : ∀ p : Grew W2, Calls Try.prog 28 #[agp a (.slice A1 d.length c1)] p.W fun e w'' => e = .returned (.int .i64 (a + d.length)) ∧ ∃ q : Grew W2, w'' = q.W := fun p => grew_call (behind_fr a A1 d.length c1 _ h0 (by omega) (by omega))
      have HBH := Lib.hid hbeh
      clear hbeh
      by_cases hlt : a < h.next
      · refine wp_region_grew (by kernel_rfl) (by kernel_rfl) ?_
        repeat (go_big_quiet_step ((go_at_call 28; exact HBH.out _)))
        refine wpQuiet_nil ?_
        intro W3 f3
        go_wp2_with fail
        go_meet
        exact ⟨by simp [hlt], f3⟩
      · have hlf : decide (a < h.next) = false := by simpa using hlt
        refine wp_region_grew (by kernel_rfl) (by kernel_rfl) ?_
        repeat (go_big_quiet_step ((go_at_call 28; exact HBH.out _)))
        refine wpQuiet_nil ?_
        intro W3 f3
        go_wp2_with fail
        go_meet
        exact ⟨by simp [hlt], f3⟩
    case rest =>
      obtain ⟨rfl, f3⟩ := hcut
      generalize wc = W3 at *
      have F3 := Lib.hid (F2.out.trans f3 (by simp))
      have Bh3 := Lib.hid (Bh2.out.fr f3 (by simp))
      have Bo3 := Lib.hid (Bo2.out.fr f3 (by simp))
      have Pb3 := Lib.hid (Pb2.out.fr f3 (by simp))
      have M3 := Lib.hid (M2.out.fr f3 (by simp) (by simp) (by simp))
      have D3 := Lib.hid (own_fr D2.out f3 (by simp))
      clear xbh xbo xbof xp0 xp1 xc0 xc1 xc2 xc3 xc4 xsp xsh xso xsg f3
      have xbh : W3.cell? ⟨w.heap.size, 0, none⟩ = some (ptr g) := Bh3.out.cell 0
      have xbo : W3.cell? ⟨w.heap.size + 1, 0, none⟩ = some (.slice none 0 0) := Bo3.out.cell 0
      have xbof := Bo3.out.frozen 0
      have xp0 : W3.cell? ⟨w1.heap.size, 0, none⟩ = some (.int .i64 a) := Pb3.out.cell 0
      have xp1 : W3.cell? ⟨w1.heap.size, 1, none⟩ = some (.slice A1 d.length c1) := Pb3.out.cell 1
      obtain ⟨xc0, xc1, xc2, xc3, xc4⟩ := M3.out.cells
      have xsp := Pb3.out.lt
      have xsh := Bh3.out.lt
      have xso := Bo3.out.lt
      have xsg := M3.out.blk.lt
      go_upto_if 63 with fail
      go_cut [64] (fun _ wx => TellRel S (fun b => S b ∨ (Value.slice A1 d.length c1).ownBlock = some b) w g w.heap.size (w.heap.size + 1) w1.heap.size kv ev h L (d.drop (h.next - a).toNat) wx)
      case first =>
        have hby : Byt (fun b => S b ∨ (Value.slice A1 d.length c1).ownBlock = some b) W3 (.slice A1 d.length c1) d := Sl.of_own D3.out (fun b h => .inr h)
        have HBY := Lib.hid hby
        clear hby
        by_cases hlt : a < h.next
        · obtain ⟨k, hk⟩ : ∃ k : Nat, h.next - a = (k : Int) := ⟨(h.next - a).toNat, by omega⟩
          have hkn : k < d.length := by omega
          obtain ⟨b1, o1, rfl, _, _⟩ := HBY.out.at_ (k := 0) (by omega)
          have hcc : d.length ≤ c1 := by
            obtain ⟨_, _, hv, h1, _⟩ := HBY.out.form
            injection hv with _ _ hc
            omega
          have hw : IntKind.i64.wrap (k : Int) = (k : Int) := IntWalk.i64_in _ (by omega)
          have hk0 : (0 : Int) ≤ (k : Int) := by omega
          have hk1 : (k : Int) ≤ (d.length : Int) := by omega
          have hk2 : (d.length : Int) ≤ (c1 : Int) := by omega
          have hck : ¬ c1 = k := by omega
          go_wp2_with fail
          have hcut := HBY.out.cut (k := k) (by omega)
          rw [if_neg hck] at hcut
          simp only [Option.map_some, add_lit'] at hcut
          have Hcut := Lib.hid hcut
          clear hcut
          go_still_tail 15, (by kernel_rfl)
          change wpList Try.prog _ _ _ _ W3.drew
          refine wpList_store_blk rfl 67 (.tmp 8) (.tmp 78) rfl w1.heap.size 67 #[.int .i64 a, .slice (some ⟨b1, o1, none⟩) d.length c1] #[.int .i64 h.next, .slice (some ⟨b1, o1 + k, none⟩) (d.length - k) (c1 - k)] rfl rfl Pb3.out rfl (by kernel_rfl) (by simp [Value.oneCell']) ?_
          intro W4 B4 F4
          have f4 : Fr [w1.heap.size] W3 W4 := (Fr.refl [w1.heap.size] W3).drew.trans F4 (by simp)
          clear F4
          go_wp2_with fail
          go_meet
          have hkk : (h.next - a).toNat = k := by omega
          have hlk : (d.drop k).length = d.length - k := List.length_drop
          have nS : ∀ x ∈ [w1.heap.size], ¬ (S x ∨ (Value.slice (some ⟨b1, o1, none⟩) d.length c1).ownBlock = some x) := by
            intro x hx
            simp only [List.mem_singleton] at hx
            subst hx
            rintro (hs | hs)
            · have := M0.out.pub _ hs; omega
            · have := own_lt HO1.out hs; omega
          rw [hkk]
          refine ⟨F3.out.trans f4 (by intro x hx; simp only [List.mem_singleton] at hx; subst hx; exact .inr (by omega)), Bh3.out.fr f4 (by simpa using blk_ne Bh3.out Pb3.out (by decide)), Bo3.out.fr f4 (by simpa using blk_ne Bo3.out Pb3.out (by decide)), M3.out.fr f4 (fun x hx hs => nS x hx (.inl hs)) (by simpa using blk_ne M3.out.blk Pb3.out (by decide)) (fun b hb => ?_), ⟨_, _, by rw [hlk]; exact B4, by rw [hlk]; exact Hcut.out.fr f4 nS⟩, fun b hb => Nat.lt_of_lt_of_le (hb.elim (M3.out.pub b) (own_lt D3.out)) f4.size⟩
          simp only [List.mem_singleton]
          have := own_lt M0.out.kp.own hb
          omega
        · go_wp2_with fail
          go_meet
          have hk : (h.next - a).toNat = 0 := by omega
          have hn : h.next = a := by omega
          exact ⟨F3.out, Bh3.out, Bo3.out, M3.out, ⟨A1, c1, by rw [hk, hn, List.drop_zero]; exact Pb3.out, by rw [hk, List.drop_zero]; exact HBY.out⟩, fun b hb => hb.elim (M3.out.pub b) (own_lt D3.out)⟩
      case rest =>
        obtain ⟨gf, ghb, gob, ghp, ⟨A2, c2, gpc, gby⟩, gpub⟩ := hcut
        generalize wc = W4 at *
        clear xbh xbo xbof xp0 xp1 xc0 xc1 xc2 xc3 xc4 xsp xsh xso xsg
        have hll : (d.drop (h.next - a).toNat).length = d.length - (h.next - a).toNat := List.length_drop
        have hlk : (h.next - a).toNat < d.length := by omega
        have hbeh : h.next + ((d.drop (h.next - a).toNat).length : Int) = a + d.length := by omega
        have hll2 : (d.drop (h.next - a).toNat).length ≤ 64 := by omega
        have hll1 : 1 ≤ (d.drop (h.next - a).toNat).length := by omega
        have Hbeh := Lib.hid hbeh
        clear hll hlk hbeh
        generalize hlq : d.drop (h.next - a).toNat = l at *
        have Hlq := Lib.hid hlq
        clear hlq
        have z0 := Grew.cell (show W4.cell? ⟨w.heap.size, 0, none⟩ = some (ptr g) from ghb.cell 0)
        have z1 := Grew.cell ghp.cells.2.1
        have z2 := Grew.cell (show W4.cell? ⟨w1.heap.size, 0, none⟩ = some (.int .i64 h.next) from gpc.cell 0)
        have Ggf := Lib.hid gf
        have Ghb := Lib.hid ghb
        have Gob := Lib.hid gob
        have Ghp := Lib.hid ghp
        have Gpc := Lib.hid gpc
        have Gby := Lib.hid gby
        have Gpub := Lib.hid gpub
        clear gf ghb gob ghp gpc gby gpub
        go_wp2_with fail
        refine wp_region_grew (by kernel_rfl) (by kernel_rfl) ?_
        repeat (go_big_quiet_step (fail))
        refine wpQuiet_nil ?_
        intro W5 f5
        have z3 := Grew.cell (fr_cell f5 (show W4.cell? ⟨w.heap.size, 0, none⟩ = some (ptr g) from Ghb.out.cell 0))
        have z4 := Grew.cell (fr_cell f5 Ghp.out.cells.2.1)
        have z5 := Grew.cell (fr_cell f5 (show W4.cell? ⟨w1.heap.size, 0, none⟩ = some (.int .i64 h.next) from Gpc.out.cell 0))
        clear z0 z1 z2
        have F5 := Lib.hid f5
        clear f5
        go_wp2_with fail
        refine wp_region_grew (by kernel_rfl) (by kernel_rfl) ?_
        repeat (go_big_quiet_step (fail))
        refine wpQuiet_nil ?_
        intro W6 f6
        clear z3 z4 z5
        have f46 : Fr [] W4 W6 := F5.out.trans f6 (by simp)
        have ghb6 := Ghb.out.fr f46 (by simp)
        have gob6 := Gob.out.fr f46 (by simp)
        have gpc6 := Gpc.out.fr f46 (by simp)
        have ghp6 := Ghp.out.fr f46 (by simp) (by simp) (by simp)
        have z0 : W6.cell? ⟨w.heap.size, 0, none⟩ = some (ptr g) := ghb6.cell 0
        have z1 : W6.cell? ⟨w.heap.size + 1, 0, none⟩ = some (.slice none 0 0) := gob6.cell 0
        have z2 : W6.cell? ⟨w1.heap.size, 0, none⟩ = some (.int .i64 h.next) := gpc6.cell 0
        have z3 : W6.cell? ⟨w1.heap.size, 1, none⟩ = some (.slice A2 l.length c2) := gpc6.cell 1
        have htk : Calls Try.prog 29 #[ptr g, .slice none 0 0, agp h.next (.slice A2 l.length c2)] W6 (fun e w' => ∃ A c, e = .returned (.slice A l.length c) ∧ w'.ownsRow 0 5 1 (.slice A l.length c) l.length (byts l) ∧ Fr [g] W6 w' ∧ Blk w' g 58 (hpa h.most (a + d.length) kv ev) ∧ (∀ b, (Value.slice A l.length c).ownBlock = some b → W6.heap.size ≤ b ∧ b < w'.heap.size)) := by
          have e : takeV h.next ⟨h.next, l⟩ = (l, a + d.length) := by
            unfold takeV Pc.beh
            dsimp only
            rw [Hbeh.out, if_neg (by omega), Int.sub_self]
            rfl
          refine (take_any _ W6 g h.most h.next kv ev [] none 0 ⟨h.next, l⟩ (.slice A2 l.length c2) ghp6.blk (World.ownsRow_nil _ _ _ _) (Gby.out.fr f46 (by simp)) (fun b hb => Nat.lt_of_lt_of_le (Gpub.out b hb) f46.size) HI.out.n0 (Int.le_refl _) HI.out.n1 hll2 (by simp)).mono ?_
          rintro e' w' ⟨A, c, he, h1, h2, h3, h4⟩
          rw [e] at he h1 h3 h4
          refine ⟨A, c, he, h1, h2, h3, fun b hb => ?_⟩
          rcases h4 b hb with h5 | h5
          · simp [Value.ownBlock] at h5
          · exact h5
        have Htk := Lib.hid htk
        have Gpc6 := Lib.hid gpc6
        have Gob6 := Lib.hid gob6
        have Ghb6 := Lib.hid ghb6
        have Ghp6 := Lib.hid ghp6
        have F46 := Lib.hid f46
        have zso := gob6.lt
        clear htk gpc6 gob6 ghb6 ghp6 f46 f6
        go_wp2_with fail
        refine Htk.out.mono ?_
        rintro e W7 ⟨A3, c3, rfl, own7, f7, blk7, fr7⟩
        have n1 := blk_ne Gob6.out Ghp6.out.blk (by decide)
        have n2 := blk_ne Ghb6.out Ghp6.out.blk (by decide)
        have bo7 := Gob6.out.fr f7 (by simpa using n1)
        have bh7 := Ghb6.out.fr f7 (by simpa using n2)
        have y0 : W7.cell? ⟨w.heap.size, 0, none⟩ = some (ptr g) := bh7.cell 0
        have y1 : W7.cell? ⟨w.heap.size + 1, 0, none⟩ = some (.slice none 0 0) := bo7.cell 0
        have y2 := bo7.frozen 0
        have y3 := bo7.lt
        have y4 := bh7.lt
        have Own7 := Lib.hid own7
        have F7 := Lib.hid f7
        have Blk7 := Lib.hid blk7
        have Fr7 := Lib.hid fr7
        have Bo7 := Lib.hid bo7
        have Bh7 := Lib.hid bh7
        clear own7 f7 blk7 fr7 bo7 bh7 z0 z1 z2 z3
        go_wp2_with fail
        refine (ready_any g _).mono ?_
        rintro e w' ⟨rfl, rfl⟩
        have start := fun rec => tell_start (S' := fun b => S b ∨ (Value.slice A1 d.length c1).ownBlock = some b) rec M0.out HI.out (fun b hb => .inl hb) (fun b hb => hb.imp id (fun h => by have := HB1.out _ h; simp at this; omega)) (Ggf.out.trans F46.out (by simp)) Ghp6.out (fun b hb => Nat.lt_of_lt_of_le (Gpub.out b hb) F46.out.size) Ghb6.out Gob6.out F7.out Blk7.out Own7.out Fr7.out (by omega) (by omega) hll2
        have Start := Lib.hid start
        have hsz8 : (W7.setCell ⟨w.heap.size + 1, 0, none⟩ (.slice A3 l.length c3)).heap.size = W7.heap.size := by simp [World.setCell]
        clear start
        go_wp2_with fail
        have z9 : W7.heap.size < ((W7.setCell ⟨w.heap.size + 1, 0, none⟩ (.slice A3 l.length c3)).alloc (.cells #[ptr g] 25)).heap.size := by simp [World.setCell]
        generalize (W7.setCell ⟨w.heap.size + 1, 0, none⟩ (.slice A3 l.length c3)).alloc (.cells #[ptr g] 25) = W9 at *
        have hev : (∀ W, Fr [g] w W → (h.fin = none ∧ ev = .pointer none) ∨ ∃ fa fb, h.fin = some fa ∧ ev = ptr fb ∧ S fb ∧ W.cell? ⟨fb, 0, none⟩ = some (.int .i64 fa)) := fun W f => by
          rcases M0.out.fin with h1 | ⟨fa, fb, h1, h2, h3, h4⟩
          · exact .inl h1
          · exact .inr ⟨fa, fb, h1, h2, h3, (f.cell (p := ⟨fb, 0, none⟩) (M0.out.pub fb h3) (by simp; rintro rfl; exact M0.out.offg h3)).trans h4⟩
        refine wp_range_iter (σ := Int × Value × List (Pc × Value) × List Int) 42 #[.pointer (some ⟨W7.heap.size, 0, none⟩)] (by rfl) (enters_of Try.func42 (by kernel_rfl) rfl) rfl
          (fun r s W => DJ (fun b => S b ∨ (Value.slice A1 d.length c1).ownBlock = some b) w g w.heap.size W7.heap.size (w.heap.size + 1) (W9.heap.size + 1) W9.heap.size h.most kv ev r s.1 s.2.1 s.2.2.1 s.2.2.2 W)
          (a + d.length, kv, L, l)
          (TellRnd (fun b => S b ∨ (Value.slice A1 d.length c1).ownBlock = some b))
          (fun s => TellFin L.length (a + d.length) (L.map (·.1)) l s)
          (fun r r' s W j => j.put r') (fun r s W j => ⟨j.rcd, j.dfr⟩) Start.out ?round ?seq ?done
        case seq =>
          intro r hy W1 hj
          refine (ready1_any (fun b => S b ∨ (Value.slice A1 d.length c1).ownBlock = some b) (W9.heap.size + 1) g W7.heap.size h.most ev (fun n kv' L' out W => DJ (fun b => S b ∨ (Value.slice A1 d.length c1).ownBlock = some b) w g w.heap.size W7.heap.size (w.heap.size + 1) (W9.heap.size + 1) W9.heap.size h.most kv ev r n kv' L' out W)
            (fun n kv' L' out W j => j.seen) (fun n kv' L' out W W3 kv3 i j f k3 hn => j.iter f k3 hn) (fun n kv' L' out W W' j f => j.fr0 f) (fun n kv' L' out W p A' c' kv1 L1 W1 j1 hl1 j hb q0 q1 q2 q3 => ?_) (a + d.length) kv L l W1 hj).mono ?_
          · exact hy (n, kv', L', out) _ _ W j ⟨p, A', c', rfl, hb, q0, q1, q2, q3, by have := j1.olen; have := j1.seen.len; dsimp only; omega, rfl⟩
          · rintro e W' ⟨hv, kv', L', j, hL⟩
            exact ⟨hv, (_, kv', L', _), ⟨rfl, hL, rfl⟩, j⟩
        case done =>
          rintro r ⟨n', kv', L', out'⟩ W ⟨hn, hL, hout⟩ j
          dsimp only at hn hL hout j
          obtain ⟨oA, oc, o1, o2, o3⟩ := j.orow
          have o1c : W.cell? ⟨w.heap.size + 1, 0, none⟩ = some (.slice oA out'.length oc) := o1.cell 0
          have o1f := o1.frozen 0
          have o1l := o1.lt
          have J := Lib.hid j
          have O1 := Lib.hid o1
          have O2 := Lib.hid o2
          have O3 := Lib.hid o3
          have Hn := Lib.hid hn
          have HL := Lib.hid hL
          have Hout := Lib.hid hout
          clear o1 o2 o3 hn hL hout j
          go_wp2_with fail
          have z67 : W6.heap.size ≤ W7.heap.size := F7.out.size
          have z06 : w.heap.size ≤ W6.heap.size := (Ggf.out.trans F46.out (by simp)).size
          have fs := (Fr.refl [w.heap.size + 1] W).setCell (p := ⟨w.heap.size + 1, 0, none⟩) (.inl (by simp)) (.slice oA out'.length oc)
          have n1 := blk_def J.out.dfr O1.out
          have dfr := fr_at J.out.dfr fs (by simpa using fun e => n1 e.symm)
          have fp := fr_put (W.setCell ⟨w.heap.size + 1, 0, none⟩ (.slice oA out'.length oc)) W9.heap.size (.deferred none)
          have b8 : Blk (W.setCell ⟨w.heap.size + 1, 0, none⟩ (.slice oA out'.length oc)) (w.heap.size + 1) 35 #[.slice oA out'.length oc] := by simpa using O1.out.set_ 0 (.slice oA out'.length oc)
          have b9 := b8.fr fp (by simpa using n1)
          have hres : World.cell? _ ⟨w.heap.size + 1, 0, none⟩ = some (.slice oA out'.length oc) := b9.cell 0
          have fz : Fr [w.heap.size + 1, W9.heap.size] W _ := (fs.mono (by simp)).trans fp (by intro x hx; simp at hx; subst hx; exact .inl (by simp))
          have hn := Hn.out
          have hL := HL.out
          have hout := Hout.out
          rw [← M0.out.len, ← M0.out.kept] at hn hL hout
          rw [← hn, ← hL, ← hout]
          have hpost := tell_post (S' := fun b => S b ∨ (Value.slice A1 d.length c1).ownBlock = some b) M0.out (fun b h => .inl h) (fun b hb => hb.imp id (fun h => by have := HB1.out _ h; simp at this; omega)) J.out O1.out O2.out O3.out fz (by omega) (fun hs => by have := Gpub.out _ hs; have h8 := F46.out.size; omega)
          clear hn hL hout
          refine endM_ret (D := W9.heap.size) rfl dfr ?_ hpost
          clear hpost fz b9 b8 fs n1
          generalize (W.setCell ⟨w.heap.size + 1, 0, none⟩ (.slice oA out'.length oc)).putObj W9.heap.size (.deferred none) = Wz at *
          simp [results, Try.results16, go_sem, hres]
        case round =>
          rintro ⟨n, kv', L', out⟩ s' v W r r' j ⟨p, A', c', rfl, hb, q0, q1, q2, q3, q4, rfl⟩
          dsimp only at j q1 q4 ⊢
          generalize hO : out ++ (takeV n p).1 = out'
          have HO := Lib.hid hO
          have J := Lib.hid j
          have HB := Lib.hid hb
          clear hO j hb
          gi_wp2
          have fA : Fr [] W (W.alloc (bxp p.at_ (.slice A' p.d.length c'))) := (Fr.refl _ _).alloc _
          have bA := Blk.new W 67 #[.int .i64 p.at_, .slice A' p.d.length c']
          have j1 := J.out.fr0 fA
          refine ⟨j1, ?_⟩
          have fP := fr_put (W.alloc (bxp p.at_ (.slice A' p.d.length c'))) (W9.heap.size + 1) (.loop r')
          have j2 := j1.put r'
          have nl := blk_loop j1.rcd bA
          have b2 := bA.fr fP (by simpa using nl)
          have hb2 := (HB.out.fr fA (by simp)).fr fP (by intro x hx; simp only [List.mem_singleton] at hx; subst hx; exact j1.off.1)
          clear fA fP bA j1 nl
          generalize (W.alloc (bxp p.at_ (.slice A' p.d.length c'))).putObj (W9.heap.size + 1) (.loop r') = W2' at *
          obtain ⟨oA, oc, o1, o2, o3⟩ := j2.orow
          have e0 : W2'.cell? ⟨w.heap.size, 0, none⟩ = some (ptr g) := j2.hbx.cell 0
          have e1 : W2'.cell? ⟨w.heap.size + 1, 0, none⟩ = some (.slice oA out.length oc) := o1.cell 0
          have e2 : W2'.cell? ⟨W.heap.size, 0, none⟩ = some (.int .i64 p.at_) := b2.cell 0
          have e3 : W2'.cell? ⟨W.heap.size, 1, none⟩ = some (.slice A' p.d.length c') := b2.cell 1
          have htk := take_any _ W2' g h.most n kv' ev out oA oc p (.slice A' p.d.length c') j2.seen.blk o2 hb2 j2.seen.pub q0 q1 j2.seen.n1 q3 (by omega)
          rw [HO.out] at htk
          have tb := take_bd n p j2.seen.n0 j2.seen.n1 ⟨q2, q3⟩
          have tl : (takeV n p).1.length ≤ 64 := by unfold takeV; split <;> simp; omega
          have hol : out'.length ≤ 64 * (65 - L'.length) := by rw [← HO.out, List.length_append]; omega
          have hbo : (fun W3 => Fr (g :: ob (.slice oA out.length oc)) W2' W3 → Blk W3 (w.heap.size + 1) 35 #[.slice oA out.length oc]) = (fun W3 => Fr (g :: ob (.slice oA out.length oc)) W2' W3 → Blk W3 (w.heap.size + 1) 35 #[.slice oA out.length oc]) := rfl
          have nob : w.heap.size + 1 ∉ g :: ob (.slice oA out.length oc) := by
            intro hm
            rcases List.mem_cons.1 hm with hm | hm
            · exact blk_ne o1 j2.seen.blk (by decide) hm
            · exact own_ne o2 o1 (by decide) (mem_ob.1 hm)
          have Htk := Lib.hid htk
          have J2 := Lib.hid j2
          have O1 := Lib.hid o1
          have O2 := Lib.hid o2
          have O3 := Lib.hid o3
          have TB := Lib.hid tb
          have HOL := Lib.hid hol
          have NOB := Lib.hid nob
          clear htk j2 o1 o2 o3 tb hol hb2 b2 hbo tl nob
          gi_wp2_with fail
          refine ⟨trivial, ?_⟩
          refine (CallsIn.inRound _ (callsIn_wide.2 Htk.out)).mono ?_
          rintro e W3' ⟨A4, c4, rfl, own4, f4, blk4, new4⟩
          have b4 := O1.out.fr f4 NOB.out
          have e5 : W3'.cell? ⟨w.heap.size + 1, 0, none⟩ = some (.slice oA out.length oc) := b4.cell 0
          have e6 := b4.frozen 0
          have e7 := b4.lt
          have J4 := Lib.hid (J2.out.took oA oc O1.out O2.out O3.out f4 blk4 own4 new4 TB.out.1 TB.out.2.1 HOL.out)
          clear own4 f4 blk4 new4 b4
          gi_wp2_with fail
          exact J4.out
end Go.Proofs.Ytdlmhadcaagokaa
