import Derived.Test.YtmgdbbbdhkfdmaaZ16
import Derived.Test.YtmgdbbbdhkfdmaaZ14
import Derived.Deep.DeepCutAuto
import Derived.Lib.SmallJoins
import Derived.Lib.SlBytesConst
set_option linter.unusedSimpArgs false
set_option linter.unusedVariables false
/-
  What Write, Close and Read do.
-/
namespace Go.Proofs.Ytmgdbbbdhkfdmaa
set_option maxRecDepth 100000
open Go.RowKit Go.Deep

theorem c_nil {S : Nat → Prop} {w w' : World} {H : Hd} {x : St} {n : Int} (m : SI S w' H x) (f : Fr H.own w w') : CPost S w H (x, [], n) (.returned (.tuple #[.slice none 0 0, .int .i64 n])) w' := ⟨_, rfl, lpost_nil m f⟩
/-- Behind a change of the end: what is sent. -/
theorem c_sends {S : Nat → Prop} {w w1 w2 : World} {H H1 : Hd} {y : St} {R : St × List Prt} {v : Value} {n : Int} (lk : Hd.like w H H1) (f1 : Fr H.own w w1) (h : SPost S w1 H1 (.slice none 0 0) [] R (.returned v) w2) : CPost S w H (R.1, R.2, n) (.returned (.tuple #[v, .int .i64 n])) w2 := by
  have := sends_post (r := (y, [])) (R := R) rfl (Ext.refl w S) lk (by simp [ob, Value.ownBlock]) f1 h
  rw [List.nil_append] at this
  exact ⟨_, rfl, this⟩
theorem SI.setclosing {S : Nat → Prop} {w : World} {H : Hd} {x : St} (m : SI S w H x) : SI S (w.setCell ⟨H.g, 11, none⟩ (.bool true)) H { x with closing := true } :=
  m.set ((Fr.refl [H.g] w).setCell (p := ⟨H.g, 11, none⟩) (.inl (by simp)) _) (by simpa using m.blk.set_ 11 (.bool true)) rfl rfl rfl rfl rfl
theorem closeV_over (x : St) (h : overV x = true) : closeV x = (x, [], 260) := by unfold closeV; rw [if_pos h]
theorem closeV_go (x : St) (h : overV x = false) : closeV x = ((sendsV { x with closing := true }).1, (sendsV { x with closing := true }).2, 0) := by unfold closeV; rw [if_neg (by simp [h])]
set_option maxHeartbeats 2000000 in
theorem close_si {S : Nat → Prop} {w : World} {H : Hd} {x : St} (m : SI S w H x) (ok : OkS x) : Calls Try.prog 8 #[ptr H.g] w (CPost S w H (closeV x)) := by
  have vo := closeV_over x
  have vg := closeV_go x
  have c16 := (scells m.blk).c16
  have hov := over_si m
  generalize closeV x = r at *
  have M := Lib.hid m
  have OK := Lib.hid ok
  have HO := Lib.hid hov
  have VO := Lib.hid vo
  have VG := Lib.hid vg
  clear m ok hov vo vg
  go_enter Try.func8, Try.ntmps8
  go_wp2_with fail
  refine (snone_si H.g H.gw w c16).mono ?_
  rintro e w' ⟨rfl, rfl⟩
  go_wp2_with fail
  refine HO.out.mono ?_
  rintro e w1 ⟨rfl, f1⟩
  generalize hb : overV x = b at *
  have F1 := Lib.hid f1
  have m1 := M.out.fr f1
  have c11 := (scells m1.blk).c11
  have z11 := m1.blk.frozen 11
  have M1 := Lib.hid m1
  clear m1 f1 c16
  rcases Bool.eq_false_or_eq_true b with rfl | rfl
  · go_wp2_with fail
    go_ret2
    rw [VO.out (by trivial)]
    exact c_nil M1.out (F1.out.mono (by simp))
  · go_wp2_with fail
    have m2 := M1.out.setclosing
    have f2 : Fr [H.g] w1 (w1.setCell ⟨H.g, 11, none⟩ (.bool true)) := (Fr.refl [H.g] w1).setCell (p := ⟨H.g, 11, none⟩) (.inl (by simp)) _
    generalize w1.setCell ⟨H.g, 11, none⟩ (.bool true) = w2 at *
    refine (sends_si m2 ⟨OK.out.hi, OK.out.hu, OK.out.hw, OK.out.hc, OK.out.hm, OK.out.hl, OK.out.n0, OK.out.n1, OK.out.s0, OK.out.s1⟩ Pr.nil (by simp [ob, Value.ownBlock]) (by simp)).mono ?_
    rintro e w3 ⟨S3, v3, L3, rfl, hp3⟩
    have hc := c_sends (n := 0) (y := x) (Hd.like.rfl' w H) ((F1.out.mono (by simp)).trans (f2.mono (O' := H.own) (by simp [Hd.own])) (fun y hy => .inl hy)) (⟨S3, v3, L3, rfl, hp3⟩ : SPost S w2 H (.slice none 0 0) [] (sendsV { x with closing := true }) (.returned v3) w3)
    have HC := Lib.hid hc
    clear hp3 hc m2 f2 c11 z11
    go_wp2_with fail
    go_ret2
    rw [VG.out (by trivial)]
    exact HC.out
section
variable {S : Nat → Prop} {w w' : World} {H : Hd} {x : St}
/-- Bytes were appended to the buffer. -/
theorem SI.setb (m : SI S w H x) {b : List Int} {bv' : Value} (ha : 0 ≤ x.win.a) (hm : x.win.a ≤ x.all.length) (own : w'.ownsRow 0 5 1 bv' (bufV x ++ b).length (byts (bufV x ++ b))) (f : Fr (ob H.bv) w w') (n : ∀ y, bv'.ownBlock = some y → H.bv.ownBlock = some y ∨ (w.heap.size ≤ y ∧ y < w'.heap.size)) (z : Int) (hz : z = (x.all ++ b).length) :
    SI S ((w'.setCell ⟨H.g, 14, none⟩ bv').setCell ⟨H.g, 7, none⟩ (.int .i64 z)) ⟨H.g, H.gw, H.gc, H.gh, bv', H.uv, H.kv⟩ { x with all := x.all ++ b } ∧ Hd.like w H ⟨H.g, H.gw, H.gc, H.gh, bv', H.uv, H.kv⟩ ∧ Fr H.own w ((w'.setCell ⟨H.g, 14, none⟩ bv').setCell ⟨H.g, 7, none⟩ (.int .i64 z)) := by
  subst hz
  have hO : ∀ y ∈ ob H.bv, ¬ S y := fun y hy => m.nS y (.inr (.inr (.inr (.inl hy))))
  have ng : H.g ∉ ob H.bv := fun hm => m.ne_b _ hm rfl
  have hb : ∀ {b : Nat} {t : TypeId} {cs : Array Value}, Blk w b t cs → 5 ≠ t → b ∉ ob H.bv := fun B h1 hm => own_ne m.buf B h1 (mem_ob.1 hm)
  have hk : ∀ y ∈ H.gh :: ob H.kv, y ∉ ob H.bv := fun y hy hm => by
    obtain ⟨ev, L, n⟩ := m.hp
    rcases List.mem_cons.1 hy with rfl | h
    · exact own_ne m.buf n.blk (by decide) (mem_ob.1 hm)
    · exact own_ne2 m.buf n.kp.own (by decide) (mem_ob.1 hm) (mem_ob.1 h)
  have hp1 := m.hp.ext' f (Ext.refl w S) hO hk (fun b hb => Nat.lt_of_lt_of_le (HP.pub' m.hp b hb) f.size)
  have B1 := m.blk.fr f ng
  have f3 : Fr [H.g] w' ((w'.setCell ⟨H.g, 14, none⟩ bv').setCell ⟨H.g, 7, none⟩ (.int .i64 (x.all ++ b).length)) := ((Fr.refl [H.g] w').setCell (p := ⟨H.g, 14, none⟩) (.inl (by simp)) _).setCell (p := ⟨H.g, 7, none⟩) (.inl (by simp)) _
  have hO3 : ∀ y ∈ [H.g], ¬ S y := fun y hy => by simp at hy; subst hy; exact m.nS _ (.inl rfl)
  have hbu : bufV { x with all := x.all ++ b } = bufV x ++ b := by
    unfold bufV
    rw [List.drop_append_of_le_length (by show x.win.a.toNat ≤ _; omega)]
  refine ⟨⟨(B1.set_ 14 bv').set_ 7 (.int .i64 (x.all ++ b).length), Blk.fr (Blk.fr m.win f (hb m.win (by decide))) f3 (by simpa using m.ne_w), Blk.fr (Blk.fr m.clk f (hb m.clk (by decide))) f3 (by simpa using m.ne_c), hp1.ext' f3 (Ext.refl w' S) hO3 (fun y hy => by simpa using m.ne_h y hy) (fun b hb => Nat.lt_of_lt_of_le (HP.pub' hp1 b hb) f3.size),
    by rw [hbu]; exact own_fr own f3 (fun b hb => by simp; rintro rfl; exact own_ne own B1 (by decide) hb), own_fr (own_fr m.unr f (fun b hb hm => m.bu b hm (mem_ob.2 hb))) f3 (fun b hb => by simpa using m.ne_u b (mem_ob.2 hb)), fun y hy => ?_, fun y hy hu => ?_⟩, ⟨rfl, rfl, rfl, rfl, fun b hb => ?_⟩, ?_⟩
  · rcases hy with h | h | h | h | h
    · exact m.nS y (.inl h)
    · exact m.nS y (.inr (.inl h))
    · exact m.nS y (.inr (.inr (.inl h)))
    · rcases n y (mem_ob.1 h) with h1 | h1
      · exact hO y (mem_ob.2 h1)
      · intro hs; have := HP.pub' m.hp y hs; omega
    · exact m.nS y (.inr (.inr (.inr (.inr h))))
  · rcases n y (mem_ob.1 hy) with h1 | h1
    · exact m.bu y (mem_ob.2 h1) hu
    · have := own_lt m.unr (mem_ob.1 hu); omega
  · simp only [Hd.own, List.mem_cons, List.mem_append] at hb ⊢
    rcases hb with h | h | h | h | h | h | h
    · exact .inl (.inl h)
    · exact .inl (.inr (.inl h))
    · exact .inl (.inr (.inr (.inl h)))
    · exact .inl (.inr (.inr (.inr (.inl h))))
    · exact .inl (.inr (.inr (.inr (.inr (.inl h)))))
    · rcases n b (mem_ob.1 h) with h1 | h1
      · exact .inl (.inr (.inr (.inr (.inr (.inr (.inl (mem_ob.2 h1)))))))
      · exact .inr h1.1
    · exact .inl (.inr (.inr (.inr (.inr (.inr (.inr h))))))
  · exact (f.mono (fun y hy => by simp only [Hd.own, List.mem_cons, List.mem_append]; exact .inr (.inr (.inr (.inr (.inr (.inl hy))))))).trans (f3.mono (O' := H.own) (by simp [Hd.own])) (fun y hy => .inl hy)
end
theorem writeV_over (x : St) (b : List Int) (h : overV x = true) : writeV x b = (x, [], 260) := by unfold writeV; rw [if_pos h]
theorem writeV_long (x : St) (b : List Int) (h : overV x = false) (h2 : 4096 - (x.all.length - x.win.a) < (b.length : Int)) : writeV x b = (x, [], 3) := by unfold writeV; rw [if_neg (by simp [h]), if_pos h2]
theorem writeV_go (x : St) (b : List Int) (h : overV x = false) (h2 : ¬ 4096 - (x.all.length - x.win.a) < (b.length : Int)) : writeV x b = ((sendsV { x with all := x.all ++ b }).1, (sendsV { x with all := x.all ++ b }).2, 0) := by unfold writeV; rw [if_neg (by simp [h]), if_neg h2]
set_option maxHeartbeats 4000000 in
theorem write_si {S : Nat → Prop} {w : World} {H : Hd} {x : St} (m : SI S w H x) (ok : OkS x) (b : List Int) (hal : x.all.length ≤ 990000) (A : Option Addr) (c : Nat) (T : Nat → Prop) (hd : Byt T w (.slice A b.length c) b) :
    Calls Try.prog 7 #[ptr H.g, .slice A b.length c] w (CPost S w H (writeV x b)) := by
  have vo := writeV_over x b
  have vl := writeV_long x b
  have vg := writeV_go x b
  have c16 := (scells m.blk).c16
  have hov := over_si m
  obtain ⟨bA, bc, hbv, hbq, _⟩ := own_form m.buf
  have hbl0 : ((bufV x).length : Int) = x.all.length - x.win.a := by unfold bufV; rw [List.length_drop]; have := Win.Inv.bd ok.hw; have := ok.hm; omega
  generalize hbl : (bufV x).length = bl at *
  have HBL := Lib.hid hbl0
  have HBQ := Lib.hid hbl
  clear hbl0 hbl
  have hcap : b.length ≤ maxLen := by obtain ⟨_, _, _, h1, h2⟩ := hd.form; omega
  unfold maxLen at hcap
  generalize writeV x b = r at *
  have M := Lib.hid m
  have OK := Lib.hid ok
  have HO := Lib.hid hov
  have VO := Lib.hid vo
  have VL := Lib.hid vl
  have VG := Lib.hid vg
  have HD := Lib.hid hd
  clear m ok hov vo vg vl hd
  go_enter Try.func7, Try.ntmps7
  go_wp2_with fail
  refine (snone_si H.g H.gw w c16).mono ?_
  rintro e w' ⟨rfl, rfl⟩
  go_wp2_with fail
  refine HO.out.mono ?_
  rintro e w1 ⟨rfl, f1⟩
  generalize hov : overV x = o at *
  have F1 := Lib.hid f1
  have m1 := M.out.fr f1
  have c14 := (scells m1.blk).c14
  have c7 := (scells m1.blk).c7
  rw [hbv] at c14
  have z14 := m1.blk.frozen 14
  have z7 := m1.blk.frozen 7
  have hlt := m1.blk.lt
  have M1 := Lib.hid m1
  have HBV := Lib.hid hbv
  clear m1 f1 c16 hbv
  rcases Bool.eq_false_or_eq_true o with rfl | rfl
  · go_wp2_with fail
    go_ret2
    rw [VO.out (by trivial)]
    exact c_nil M1.out (F1.out.mono (by simp))
  · have hwr : IntKind.i64.wrap (4096 - (bl : Int)) = 4096 - (bl : Int) := IntWalk.i64_in _ (by have := HBL.out; have := OK.out.hl; have := Win.Inv.bd OK.out.hw; omega)
    by_cases hlo : 4096 - (bl : Int) < (b.length : Int)
    · have hd0 : decide (4096 - (bl : Int) < (b.length : Int)) = true := by simpa using hlo
      have hd1 : decide ((b.length : Int) > 4096 - (bl : Int)) = true := by simpa using hlo
      go_wp2_with fail
      go_ret2
      rw [VL.out (by trivial) (by have := HBL.out; omega)]
      exact c_nil M1.out (F1.out.mono (by simp))
    · have hd0 : decide (4096 - (bl : Int) < (b.length : Int)) = false := by simpa using hlo
      have hd1 : decide ((b.length : Int) > 4096 - (bl : Int)) = false := by simpa using hlo
      have hw7 : IntKind.i64.wrap ((x.all.length : Int) + (b.length : Int)) = ((x.all.length : Int) + (b.length : Int)) := IntWalk.i64_in _ (by omega)
      obtain ⟨i0, hi0, hz0, hz1, hz2⟩ := info_parts info_u8
      have HOwn : Hid (w1.ownsRow 0 5 1 (.slice bA bl bc) bl (byts (bufV x))) := Lib.hid (by rw [← HBV.out, ← HBQ.out]; exact M1.out.buf)
      have HLM : Hid (bl + b.length ≤ maxLen) := Lib.hid (by unfold maxLen; have := HBL.out; have := Win.Inv.bd OK.out.hw; omega)
      have HLB : Hid ((bl + b.length) * 1 ≤ 140737488355328) := Lib.hid (by have := HBL.out; have := Win.Inv.bd OK.out.hw; omega)
      go_upto_region 8 with (at_builtin; refine wpList_append_sl _ rfl (.tmp 26) (.tmp 27) 25 rfl 5 i0 (.int .u8 0) 1 1 Try.underlying25 hi0 hz0 hz1 hz2 rfl (by decide) (.slice bA bl bc) bl (byts (bufV x)) (by rfl) HOwn.out T (.slice A b.length c) b.length (byts b) (by rfl) (HD.out.fr F1.out (by simp)) (byts_one _) HLM.out HLB.out (bl + b.length) rfl ?_; intro A7 c7' W7 h10 h11 h12; have B7 := M1.out.blk.fr h11 (by rw [← HBV.out]; exact fun hm => M1.out.ne_b _ hm rfl); have z14' := B7.frozen 14; have z7' := B7.frozen 7; have c14' := (scells B7).c14; have c7 := (scells B7).c7; have hlt' := B7.lt; have H10 := Lib.hid h10; have H11 := Lib.hid h11; have H12 := Lib.hid h12; clear h10 h11 h12 B7)
      go_upto_region 9 with fail
      have hown : W7.ownsRow 0 5 1 (.slice A7 (bl + b.length) c7') (bufV x ++ b).length (byts (bufV x ++ b)) := by
        have h := H10.out
        rw [byts_app] at h
        rwa [List.length_append, HBQ.out]
      have hset := M1.out.setb (b := b) (bv' := .slice A7 (bl + b.length) c7') (by have := Win.Inv.bd OK.out.hw; omega) (by have := Win.Inv.bd OK.out.hw; have := OK.out.hm; omega) hown (by rw [HBV.out]; exact H11.out) (by rw [HBV.out]; exact H12.out) ((x.all.length : Int) + b.length) (by simp)
      generalize ((W7.setCell ⟨H.g, 14, none⟩ (.slice A7 (bl + b.length) c7')).setCell ⟨H.g, 7, none⟩ (.int .i64 ((x.all.length : Int) + b.length))) = w8 at *
      obtain ⟨m8, lk8, f8⟩ := hset
      have hse := sends_si m8 (⟨OK.out.hi, OK.out.hu, OK.out.hw, OK.out.hc, by have := OK.out.hm; simp; omega, by have := Win.Inv.bd OK.out.hw; have := HBL.out; simp; omega, OK.out.n0, OK.out.n1, OK.out.s0, OK.out.s1⟩ : OkS { x with all := x.all ++ b }) Pr.nil (by simp [ob, Value.ownBlock]) (by simp)
      dsimp only at hse
      have HSE := Lib.hid hse
      have LK8 : Hid (Hd.like w H ⟨H.g, H.gw, H.gc, H.gh, .slice A7 (bl + b.length) c7', H.uv, H.kv⟩) := Lib.hid (Hd.like.trans (Hd.like.rfl' w H) F1.out.size lk8)
      have F8 : Hid (Fr H.own w w8) := Lib.hid ((F1.out.mono (by simp)).trans f8 (fun y hy => .inl hy))
      clear hse m8 lk8 f8 hown c14 c14' z14 z7 z14' z7' c7
      go_wp2_with fail
      refine HSE.out.mono ?_
      rintro e w9 ⟨S3, v3, L3, rfl, hp3⟩
      have hc := c_sends (n := 0) (y := x) LK8.out F8.out (⟨S3, v3, L3, rfl, hp3⟩ : SPost S w8 _ (.slice none 0 0) [] (sendsV { x with all := x.all ++ b }) (.returned v3) w9)
      have HC := Lib.hid hc
      clear hp3 hc
      go_wp2_with fail
      go_ret2
      rw [VG.out (by trivial) (by have := HBL.out; omega)]
      exact HC.out

/-! ### Read -/
def ReadPost (S : Nat → Prop) (w : World) (H : Hd) (r : St × List Int × List Prt) (e : Ending) (w' : World) : Prop :=
  ∃ S' H' v L, e = .returned (.tuple #[H.uv, v]) ∧ L.map (·.1) = r.2.2 ∧ Ext w S S' ∧ Hd.like w H H' ∧ SI S' w' H' r.1 ∧ Pr S' w' v L ∧ (∀ b ∈ ob v, w.heap.size ≤ b ∧ ¬ S' b) ∧ Fr [H.g] w w' ∧ Byt (fun b => b ∈ ob H.uv) w' H.uv r.2.1 ∧ (∀ b ∈ ob H.uv, b ∉ H'.own)
/-- The unread bytes are handed over. -/
theorem SI.told {S : Nat → Prop} {w : World} {H : Hd} {x : St} (m : SI S w H x) :
    SI S (w.setCell ⟨H.g, 15, none⟩ (.slice none 0 0)) ⟨H.g, H.gw, H.gc, H.gh, H.bv, .slice none 0 0, H.kv⟩ { x with unread := [] } ∧ Hd.like w H ⟨H.g, H.gw, H.gc, H.gh, H.bv, .slice none 0 0, H.kv⟩ ∧ Fr [H.g] w (w.setCell ⟨H.g, 15, none⟩ (.slice none 0 0)) ∧
    (∀ b ∈ ob H.uv, b ∉ (⟨H.g, H.gw, H.gc, H.gh, H.bv, .slice none 0 0, H.kv⟩ : Hd).own) := by
  have f3 : Fr [H.g] w (w.setCell ⟨H.g, 15, none⟩ (.slice none 0 0)) := (Fr.refl [H.g] w).setCell (p := ⟨H.g, 15, none⟩) (.inl (by simp)) _
  have hO3 : ∀ y ∈ [H.g], ¬ S y := fun y hy => by simp at hy; subst hy; exact m.nS _ (.inl rfl)
  have h0 : ∀ y, y ∉ ob (.slice none 0 0) := by simp [ob, Value.ownBlock]
  refine ⟨⟨m.blk.set_ 15 (.slice none 0 0), Blk.fr m.win f3 (by simpa using m.ne_w), Blk.fr m.clk f3 (by simpa using m.ne_c), m.hp.ext' f3 (Ext.refl w S) hO3 (fun y hy => by simpa using m.ne_h y hy) (fun b hb => Nat.lt_of_lt_of_le (HP.pub' m.hp b hb) f3.size),
    own_fr m.buf f3 (fun b hb => by simpa using m.ne_b b (mem_ob.2 hb)), World.ownsRow_nil _ 0 5 1, fun y hy => ?_, fun y hy hu => h0 y hu⟩, ⟨rfl, rfl, rfl, rfl, fun b hb => ?_⟩, f3, fun b hb hm => ?_⟩
  · rcases hy with h | h | h | h | h
    · exact m.nS y (.inl h)
    · exact m.nS y (.inr (.inl h))
    · exact m.nS y (.inr (.inr (.inl h)))
    · exact m.nS y (.inr (.inr (.inr (.inl h))))
    · exact absurd h (h0 y)
  · simp only [Hd.own, List.mem_cons, List.mem_append] at hb ⊢
    rcases hb with h | h | h | h | h | h | h
    · exact .inl (.inl h)
    · exact .inl (.inr (.inl h))
    · exact .inl (.inr (.inr (.inl h)))
    · exact .inl (.inr (.inr (.inr (.inl h))))
    · exact .inl (.inr (.inr (.inr (.inr (.inl h)))))
    · exact .inl (.inr (.inr (.inr (.inr (.inr (.inl h))))))
    · exact absurd h (h0 b)
  · have hu := mem_ob.1 hb
    simp only [Hd.own, List.mem_cons, List.mem_append] at hm
    obtain ⟨ev, L, n⟩ := m.hp
    rcases hm with h | h | h | h | h | h | h
    · exact m.ne_u b hb h
    · subst h; exact own_ne m.unr m.win (by decide) hu
    · subst h; exact own_ne m.unr m.clk (by decide) hu
    · subst h; exact own_ne m.unr n.blk (by decide) hu
    · exact own_ne2 m.unr n.kp.own (by decide) hu (mem_ob.1 h)
    · exact m.bu b h hb
    · exact h0 b h
theorem readV_yes (x : St) (h : x.shown = 0 ∧ x.at_ = 4 ∧ 0 < roomV { x with unread := [] }) : readV x = (shows { x with unread := [] }, x.unread, [answerV { x with unread := [] }]) := by unfold readV; dsimp only; rw [if_pos h]
theorem readV_no (x : St) (h : ¬ (x.shown = 0 ∧ x.at_ = 4 ∧ 0 < roomV { x with unread := [] })) : readV x = ({ x with unread := [] }, x.unread, []) := by unfold readV; dsimp only; rw [if_neg h]
theorem read_no {S : Nat → Prop} {w w2 w3 : World} {H H2 : Hd} {x : St} (m : SI S w H x) (m2 : SI S w2 H2 { x with unread := [] }) (lk : Hd.like w H H2) (f : Fr [H.g] w w2) (n : ∀ b ∈ ob H.uv, b ∉ H2.own) (f3 : Fr [] w2 w3) :
    ReadPost S w H ({ x with unread := [] }, x.unread, []) (.returned (.tuple #[H.uv, .slice none 0 0])) w3 :=
  ⟨S, H2, _, [], rfl, rfl, Ext.refl w S, lk, m2.fr f3, Pr.nil, by simp [ob, Value.ownBlock], f.trans f3 (by simp), (Byt.fr (Sl.of_own m.unr (fun b hb => mem_ob.2 hb)) f (fun y hy hm => by simp at hy; subst hy; exact m.ne_u _ hm rfl)).fr f3 (by simp), n⟩
theorem read_yes {S S4 : Nat → Prop} {w w2 w3 w4 : World} {H H2 : Hd} {x : St} {A4 : Option Addr} {c4 : Nat} (m : SI S w H x) (lk : Hd.like w H H2) (f : Fr [H.g] w w2) (n : ∀ b ∈ ob H.uv, b ∉ H2.own) (f3 : Fr [] w2 w3) (x4 : Ext w3 S S4)
    (by4 : Byt S4 w4 (.slice A4 (answerV { x with unread := [] }).d.length c4) (answerV { x with unread := [] }).d) (m4 : SI S4 w4 H2 (shows { x with unread := [] })) (f4 : Fr [H2.g] w3 w4) :
    ReadPost S w H (shows { x with unread := [] }, x.unread, [answerV { x with unread := [] }]) (.returned (.tuple #[H.uv, .slice (some ⟨w4.heap.size, 0, none⟩) 1 1])) (w4.alloc (.cells #[.int .i64 (answerV { x with unread := [] }).flags, .int .u32 (answerV { x with unread := [] }).seq, .int .u32 (answerV { x with unread := [] }).ack, .int .u16 (answerV { x with unread := [] }).win, .slice A4 (answerV { x with unread := [] }).d.length c4] 27)) := by
  have hz : w.heap.size ≤ w3.heap.size := Nat.le_trans f.size f3.size
  have hz4 := f4.size
  rw [lk.g] at f4
  have ff : Fr [H.g] w (w4.alloc (.cells #[.int .i64 (answerV { x with unread := [] }).flags, .int .u32 (answerV { x with unread := [] }).seq, .int .u32 (answerV { x with unread := [] }).ack, .int .u16 (answerV { x with unread := [] }).win, .slice A4 (answerV { x with unread := [] }).d.length c4] 27)) := ((f.trans f3 (by simp)).trans f4 (fun y hy => .inl hy)).alloc _
  have hp : ∀ b, S4 b → b < w4.heap.size := HP.pub' m4.hp
  refine ⟨S4, H2, _, [(answerV { x with unread := [] }, .slice A4 _ c4)], rfl, rfl, ext_up x4 hz, lk, m4.fr ((Fr.refl [] w4).alloc _), pr_one by4, ?_, ff, Byt.fr (Sl.of_own m.unr (fun b hb => mem_ob.2 hb)) ff (fun y hy hm => by simp at hy; subst hy; exact m.ne_u _ hm rfl), n⟩
  intro b hb
  simp [ob, Value.ownBlock] at hb
  subst hb
  exact ⟨by omega, fun hs => by have := hp _ hs; omega⟩
set_option maxHeartbeats 4000000 in
theorem read_si {S : Nat → Prop} {w : World} {H : Hd} {x : St} (m : SI S w H x) (ok : OkS x) : Calls Try.prog 12 #[ptr H.g] w (ReadPost S w H (readV x)) := by
  have vy := readV_yes x
  have vn := readV_no x
  obtain ⟨uA, uc, huv, _, _⟩ := own_form m.unr
  have cs := scells m.blk
  have c16 := cs.c16
  have c15 := cs.c15
  have c24 := cs.c24
  have c0 := cs.c0
  have z15 := m.blk.frozen 15
  have hlt := m.blk.lt
  rw [huv] at c15
  generalize readV x = r at *
  have M := Lib.hid m
  have OK := Lib.hid ok
  have VY := Lib.hid vy
  have VN := Lib.hid vn
  have HUV := Lib.hid huv
  have hset := m.told
  have HN := Lib.hid hset.2.2.2
  clear m ok vy vn huv cs
  go_enter Try.func12, Try.ntmps12
  go_wp2_with fail
  refine (snone_si H.g H.gw w c16).mono ?_
  rintro e w' ⟨rfl, rfl⟩
  go_upto_region 5 with fail
  generalize w.setCell ⟨H.g, 15, none⟩ (.slice none 0 0) = w2 at *
  obtain ⟨m2, lk2, f2, n2⟩ := hset
  have ok2 : OkS { x with unread := [] } := ⟨OK.out.hi, by simp, OK.out.hw, OK.out.hc, OK.out.hm, OK.out.hl, OK.out.n0, OK.out.n1, OK.out.s0, OK.out.s1⟩
  have hroom := room_si m2 OK.out.hi (by simp)
  have hans := answer_si m2 OK.out.hi (by simp) (by have := Win.Inv.bd OK.out.hw; show 0 ≤ x.win.m; omega) (by have := OK.out.hm; have := OK.out.hl; show x.win.m ≤ _; omega)
  have c24 : w2.cell? ⟨H.g, 24, none⟩ = some (.int .i64 x.shown) := (scells m2.blk).c24
  have c0 : w2.cell? ⟨H.g, 0, none⟩ = some (.int .i64 x.at_) := (scells m2.blk).c0
  have hlt2 := m2.blk.lt
  dsimp only at hroom hans
  have M2 := Lib.hid m2
  have LK2 := Lib.hid lk2
  have F2 := Lib.hid f2
  have HR := Lib.hid hroom
  have HANS := Lib.hid hans
  generalize hrv : roomV { x with unread := [] } = rv at *
  clear m2 lk2 f2 n2 hroom hans c15 c16 z15
  have HRV := Lib.hid hrv
  clear hrv
  by_cases h24 : x.shown = 0
  · rw [h24] at c24
    by_cases h4 : x.at_ = 4
    · rw [h4] at c0
      go_wp2_with fail
      refine HR.out.mono ?_
      rintro e w3 ⟨rfl, f3⟩
      by_cases hrp : 0 < rv
      · have hd0 : decide (0 < rv) = true := by simpa using hrp
        have hd1 : decide (rv > 0) = true := by simpa using hrp
        have HANS2 := Lib.hid (answer_si (M2.out.fr f3) OK.out.hi (by simp) (by have := Win.Inv.bd OK.out.hw; show 0 ≤ x.win.m; omega) (by have := OK.out.hm; have := OK.out.hl; show x.win.m ≤ _; omega))
        have F3 := Lib.hid f3
        clear f3 c0 c24
        go_wp2_with fail
        refine HANS2.out.mono ?_
        rintro e w4 ⟨S4, A4, c4, rfl, x4, by4, m4, f4⟩
        have hrd := read_yes M.out LK2.out F2.out HN.out F3.out x4 by4 m4 f4
        have HRD := Lib.hid hrd
        clear x4 by4 m4 f4 hrd
        go_wp2_with fail
        go_ret2
        rw [VY.out ⟨h24, h4, hrp⟩, ← HUV.out]
        exact HRD.out
      · have hd0 : decide (0 < rv) = false := by simpa using hrp
        have hd1 : decide (rv > 0) = false := by simpa using hrp
        go_wp2_with fail
        go_ret2
        rw [VN.out (fun h => by have := h.2.2; omega), ← HUV.out]
        exact read_no M.out M2.out LK2.out F2.out HN.out f3
    · have hd0 : decide (x.at_ = 4) = false := by simpa using h4
      have hd1 : (x.at_ == 4) = false := by simpa using h4
      go_wp2_with fail
      go_ret2
      rw [VN.out (fun h => h4 h.2.1), ← HUV.out]
      exact read_no M.out M2.out LK2.out F2.out HN.out (Fr.refl _ _)
  · have hd0 : decide (x.shown = 0) = false := by simpa using h24
    have hd1 : (x.shown == 0) = false := by simpa using h24
    go_wp2_with fail
    go_ret2
    rw [VN.out (fun h => h24 h.1), ← HUV.out]
    exact read_no M.out M2.out LK2.out F2.out HN.out (Fr.refl _ _)
end Go.Proofs.Ytmgdbbbdhkfdmaa

/-
  Two ends in memory, apart from each other; parts read out of a list.
-/
namespace Go.Proofs.Ytmgdbbbdhkfdmaa
set_option maxRecDepth 100000
open Go.RowKit Go.Deep

theorem SI.keep {S S' : Nat → Prop} {w w' : World} {H : Hd} {x : St} {O : List Nat} (m : SI S w H x) (f : Fr O w w') (hO : ∀ y ∈ O, y ∉ H.own) (hS : ∀ y ∈ O, ¬ S y) (e : Ext w S S') (hp : ∀ b, S' b → b < w'.heap.size) : SI S' w' H x := by
  have hm : ∀ y, y ∈ H.own → y ∉ O := fun y hy ho => hO y ho hy
  have hmem : ∀ {y}, (y = H.g ∨ y = H.gw ∨ y = H.gc ∨ y = H.gh ∨ y ∈ ob H.kv ∨ y ∈ ob H.bv ∨ y ∈ ob H.uv) → y ∉ O := fun {y} hy => hm y (by
    simp only [Hd.own, List.mem_cons, List.mem_append]; rcases hy with h | h | h | h | h | h | h <;> simp [h])
  refine ⟨m.blk.fr f (hmem (by simp)), Blk.fr m.win f (hmem (by simp)), Blk.fr m.clk f (hmem (by simp)), m.hp.ext' f e hS (fun y hy => hmem (by rcases List.mem_cons.1 hy with h | h <;> simp [h])) hp,
    own_fr m.buf f (fun b hb => hmem (by simp [mem_ob.2 hb])), own_fr m.unr f (fun b hb => hmem (by simp [mem_ob.2 hb])), fun y hy hs => ?_, m.bu⟩
  rcases e.2 y hs with h | h
  · exact m.nS y hy h
  · have := m.lt y (by
      simp only [Hd.own, List.mem_cons, List.mem_append]
      rcases hy with h | h | h | h | h <;> simp [h])
    omega
/-- Two ends. -/
structure Duo (S : Nat → Prop) (w : World) (Ha Hb : Hd) (xa xb : St) : Prop where
  a : SI S w Ha xa
  b : SI S w Hb xb
  ap : ∀ y ∈ Ha.own, y ∉ Hb.own
section
variable {S S' : Nat → Prop} {w w' : World} {Ha Ha' Hb : Hd} {xa xa' xb : St} {O : List Nat}
theorem Duo.symm (d : Duo S w Ha Hb xa xb) : Duo S w Hb Ha xb xa := ⟨d.b, d.a, fun y hb ha => d.ap y ha hb⟩
theorem Duo.pub (d : Duo S w Ha Hb xa xb) : ∀ b, S b → b < w.heap.size := HP.pub' d.a.hp
theorem Duo.fr (d : Duo S w Ha Hb xa xb) (f : Fr [] w w') : Duo S w' Ha Hb xa xb := ⟨d.a.fr f, d.b.fr f, d.ap⟩
theorem Duo.turn (d : Duo S w Ha Hb xa xb) (f : Fr Ha.own w w') (e : Ext w S S') (lk : Hd.like w Ha Ha') (m : SI S' w' Ha' xa') : Duo S' w' Ha' Hb xa' xb :=
  ⟨m, d.b.keep f (fun y hy => d.ap y hy) (fun y hy => d.a.off y hy) e (HP.pub' m.hp), fun y hy hb => by
    rcases lk.own y hy with h | h
    · exact d.ap y h hb
    · have := d.b.lt y hb; omega⟩
/-- One of two ends was called. -/
theorem Duo.call {r : St × List Prt} {v : Value} (d : Duo S w Ha Hb xa xb) (h : LPost S w Ha r (.returned v) w') :
    ∃ S' Ha' L, L.map (·.1) = r.2 ∧ Ext w S S' ∧ Hd.like w Ha Ha' ∧ Duo S' w' Ha' Hb r.1 xb ∧ Pr S' w' v L ∧ (∀ b ∈ ob v, w.heap.size ≤ b ∧ ¬ S' b) ∧ Fr Ha.own w w' := by
  obtain ⟨S', Ha', v', L, he, hL, e, lk, m, p, n, f⟩ := h
  injection he with he
  subst he
  exact ⟨S', Ha', L, hL, e, lk, d.turn f e lk m, p, n, f⟩
end
theorem prs_at : ∀ (L : List (Prt × Value)) (i : Nat) (x : Prt × Value), L[i]? = some x → (prs L)[i * 5]? = some (.int .i64 x.1.flags) ∧ (prs L)[i * 5 + 1]? = some (.int .u32 x.1.seq) ∧ (prs L)[i * 5 + 2]? = some (.int .u32 x.1.ack) ∧ (prs L)[i * 5 + 3]? = some (.int .u16 x.1.win) ∧ (prs L)[i * 5 + 4]? = some x.2
  | [], i, x, h => by simp at h
  | y :: L, 0, x, h => by
    simp at h
    subst h
    exact ⟨rfl, rfl, rfl, rfl, rfl⟩
  | y :: L, i + 1, x, h => by
    simp at h
    have := prs_at L i x h
    rw [show (i + 1) * 5 = i * 5 + 1 + 1 + 1 + 1 + 1 by omega]
    simp only [prs, show ∀ j, j + 1 + 1 + 1 + 1 + 1 + 1 = (j + 1) + 1 + 1 + 1 + 1 + 1 from fun _ => rfl, show ∀ j, j + 1 + 1 + 1 + 1 + 1 + 2 = (j + 2) + 1 + 1 + 1 + 1 + 1 from fun _ => rfl, show ∀ j, j + 1 + 1 + 1 + 1 + 1 + 3 = (j + 3) + 1 + 1 + 1 + 1 + 1 from fun _ => rfl, show ∀ j, j + 1 + 1 + 1 + 1 + 1 + 4 = (j + 4) + 1 + 1 + 1 + 1 + 1 from fun _ => rfl, List.getElem?_cons_succ]
    exact this
/-- The i-th part of a list. -/
structure PAt (S : Nat → Prop) (w : World) (v : Value) (n : Nat) (i : Nat) (p : Prt) (b : Nat) (A : Option Addr) (c : Nat) : Prop where
  c0 : w.cell? ⟨b, i * 5, none⟩ = some (.int .i64 p.flags)
  c1 : w.cell? ⟨b, i * 5 + 1, none⟩ = some (.int .u32 p.seq)
  c2 : w.cell? ⟨b, i * 5 + 2, none⟩ = some (.int .u32 p.ack)
  c3 : w.cell? ⟨b, i * 5 + 3, none⟩ = some (.int .u16 p.win)
  c4 : w.cell? ⟨b, i * 5 + 4, none⟩ = some (.slice A p.d.length c)
  byt : Byt S w (.slice A p.d.length c) p.d
theorem Pr.at_ {S : Nat → Prop} {w : World} {v : Value} {L : List (Prt × Value)} (h : Pr S w v L) {i : Nat} {p : Prt} (hi : (L.map (·.1))[i]? = some p) : ∃ b k A c, v = .slice (some ⟨b, 0, none⟩) L.length k ∧ i < L.length ∧ L.length ≤ k ∧ k ≤ maxLen ∧ PAt S w v L.length i p b A c := by
  rw [List.getElem?_map] at hi
  obtain ⟨x, hx, hp⟩ := Option.map_eq_some_iff.1 hi
  subst hp
  have hlt : i < L.length := (List.getElem?_eq_some_iff.1 hx).1
  have hs := Sl.of_own (S := fun _ => True) h.own (fun _ _ => trivial)
  obtain ⟨_, A', c', hv, h1, h2, hu⟩ := hs
  rcases h.own.2 with ⟨rfl, h0⟩ | ⟨g, cap, cur, rfl, _, hg, _⟩
  · omega
  · obtain ⟨b, o, hA, _, hc⟩ := hu (by omega)
    subst hA
    injection hv with hv _ hc'
    subst hc'
    injection hv with hv
    injection hv with hb ho _
    subst hb ho
    obtain ⟨q0, q1, q2, q3, q4⟩ := prs_at L i x hx
    have hby := h.byt x (List.mem_of_getElem? hx)
    obtain ⟨A, c, hxv, _, _⟩ := hby.form
    rw [hxv] at q4 hby
    have z : ∀ j u, (prs L)[j]? = some u → w.cell? ⟨g, j, none⟩ = some u := fun j u h => by have := hc j u h; rwa [Nat.zero_add] at this
    exact ⟨g, cap, A, c, rfl, hlt, h1, h2, ⟨z _ _ q0, z _ _ q1, z _ _ q2, z _ _ q3, z _ _ q4, hby⟩⟩
/-- A list of one part. -/
theorem Pr.one_ {S : Nat → Prop} {w : World} {v : Value} {L : List (Prt × Value)} {p : Prt} (h : Pr S w v L) (hL : L.map (·.1) = [p]) : ∃ b k A c, v = .slice (some ⟨b, 0, none⟩) 1 k ∧ 1 ≤ k ∧ k ≤ maxLen ∧
    w.cell? ⟨b, 0, none⟩ = some (.int .i64 p.flags) ∧ w.cell? ⟨b, 1, none⟩ = some (.int .u32 p.seq) ∧ w.cell? ⟨b, 2, none⟩ = some (.int .u32 p.ack) ∧ w.cell? ⟨b, 3, none⟩ = some (.int .u16 p.win) ∧ w.cell? ⟨b, 4, none⟩ = some (.slice A p.d.length c) ∧ Byt S w (.slice A p.d.length c) p.d := by
  have hl : L.length = 1 := by have := congrArg List.length hL; simpa using this
  obtain ⟨b, k, A, c, hv, _, h1, h2, q⟩ := h.at_ (i := 0) (p := p) (by rw [hL]; rfl)
  rw [hl] at hv h1
  exact ⟨b, k, A, c, hv, h1, h2, by simpa using q.c0, by simpa using q.c1, by simpa using q.c2, by simpa using q.c3, by simpa using q.c4, q.byt⟩
theorem Pr.none_ {S : Nat → Prop} {w : World} {v : Value} {L : List (Prt × Value)} (h : Pr S w v L) (hL : L.map (·.1) = []) : ∃ A k, v = .slice A 0 k := by
  have hl : L.length = 0 := by have := congrArg List.length hL; simpa using this
  obtain ⟨A, k, hv, _⟩ := own_form h.own
  exact ⟨A, k, by rw [hv, hl]⟩
def DPost (S : Nat → Prop) (w : World) (Ha Hb : Hd) (xb : St) (r : St × List Prt × Int) (e : Ending) (w' : World) : Prop :=
  ∃ v S' Ha' L, e = .returned (.tuple #[v, .int .i64 r.2.2]) ∧ L.map (·.1) = r.2.1 ∧ Ext w S S' ∧ Hd.like w Ha Ha' ∧ Duo S' w' Ha' Hb r.1 xb ∧ Pr S' w' v L ∧ (∀ b ∈ ob v, w.heap.size ≤ b ∧ ¬ S' b) ∧ Fr Ha.own w w'
theorem Duo.calls {S : Nat → Prop} {w w' : World} {Ha Hb : Hd} {xa xb : St} {r : St × List Prt × Int} {e : Ending} (d : Duo S w Ha Hb xa xb) (h : CPost S w Ha r e w') : DPost S w Ha Hb xb r e w' := by
  obtain ⟨v, he, h⟩ := h
  obtain ⟨S', Ha', L, hL, x, lk, d', p, n, f⟩ := d.call h
  exact ⟨v, S', Ha', L, he, hL, x, lk, d', p, n, f⟩
theorem duo_come {S : Nat → Prop} {w : World} {Ha Hb : Hd} {xa xb : St} (d : Duo S w Ha Hb xa xb) (ok : Ok xa) (p : Prt) (hw : 0 ≤ p.win ∧ p.win < 65536) (A : Option Addr) (c : Nat) (hd : Byt S w (.slice A p.d.length c) p.d) :
    Calls Try.prog 6 #[ptr Ha.g, agP p (.slice A p.d.length c)] w (DPost S w Ha Hb xb (comeV xa p)) :=
  (come_si d.a ok p hw.1 hw.2 A c S hd (fun b hb => ⟨fun hm => d.a.off b hm hb, d.pub b hb⟩)).mono fun _ _ h => d.calls h
theorem duo_write {S : Nat → Prop} {w : World} {Ha Hb : Hd} {xa xb : St} (d : Duo S w Ha Hb xa xb) (ok : Ok xa) (b : List Int) (hal : xa.all.length ≤ 990000) (A : Option Addr) (c : Nat) (T : Nat → Prop) (hd : Byt T w (.slice A b.length c) b) :
    Calls Try.prog 7 #[ptr Ha.g, .slice A b.length c] w (DPost S w Ha Hb xb (writeV xa b)) :=
  (write_si d.a ok.s b hal A c T hd).mono fun _ _ h => d.calls h
end Go.Proofs.Ytmgdbbbdhkfdmaa

/-
  known: two ends that open, and some bytes.
-/
namespace Go.Proofs.Ytmgdbbbdhkfdmaa
set_option maxRecDepth 100000
open Go.RowKit Go.Deep

structure Chain (a0 b0 b1 a1 b2 a2 b3 b4 b5 : St) (p0 p1 p2 p3 p4 : Prt) (m2 q1 q2 : List Prt) : Prop where
  n1 : newSV 100 true = (a0, [p0])
  n2 : newSV 500 false = (b0, [])
  c1 : comeV b0 p0 = (b1, [p1], 0)
  c2 : comeV a0 p1 = (a1, [p2], 0)
  c3 : comeV b1 p2 = (b2, m2, 0)
  w1 : writeV a1 [97, 98] = (a2, [p3], 0)
  c4 : comeV b2 p3 = (b3, [p4], 0)
  r1 : readV b3 = (b4, [97, 98], q1)
  r2 : readV b4 = (b5, [], q2)
  f0 : p0.flags = 1
  s0 : p0.seq = 100
  k4 : p4.ack = 103
  h0 : 0 ≤ p0.win ∧ p0.win < 65536
  h1 : 0 ≤ p1.win ∧ p1.win < 65536
  h2 : 0 ≤ p2.win ∧ p2.win < 65536
  h3 : 0 ≤ p3.win ∧ p3.win < 65536
  oa0 : Ok a0
  ob0 : Ok b0
  oa1 : Ok a1
  ob1 : Ok b1
  ob2 : Ok b2
  ob3 : Ok b3
  ob4 : Ok b4
  l1 : a1.all.length ≤ 990000
theorem fst_of {α β : Type} {a : α × β} {b c} (h : a = (b, c)) : a.1 = b := by rw [h]
theorem chain : ∃ a0 b0 b1 a1 b2 a2 b3 b4 b5 p0 p1 p2 p3 p4 m2 q1 q2, Chain a0 b0 b1 a1 b2 a2 b3 b4 b5 p0 p1 p2 p3 p4 m2 q1 q2 := by
  have n1 : newSV 100 true = ((newSV 100 true).1, [⟨1, 100, 0, 1024, []⟩]) := by kernel_rfl
  have oa0 := (new_ok 100 true).1
  have ob0 := (new_ok 500 false).1
  have c1 : comeV (newSV 500 false).1 ⟨1, 100, 0, 1024, []⟩ = ((comeV (newSV 500 false).1 ⟨1, 100, 0, 1024, []⟩).1, [⟨3, 500, 101, 1024, []⟩], 0) := by kernel_rfl
  have ob1 := ob0.come ⟨1, 100, 0, 1024, []⟩
  have c2 : comeV (newSV 100 true).1 ⟨3, 500, 101, 1024, []⟩ = ((comeV (newSV 100 true).1 ⟨3, 500, 101, 1024, []⟩).1, [⟨2, 101, 501, 1024, []⟩], 0) := by kernel_rfl
  have oa1 := oa0.come ⟨3, 500, 101, 1024, []⟩
  have c3 : comeV (comeV (newSV 500 false).1 ⟨1, 100, 0, 1024, []⟩).1 ⟨2, 101, 501, 1024, []⟩ = ((comeV (comeV (newSV 500 false).1 ⟨1, 100, 0, 1024, []⟩).1 ⟨2, 101, 501, 1024, []⟩).1, [], 0) := by kernel_rfl
  have ob2 := ob1.come ⟨2, 101, 501, 1024, []⟩
  have w1 : writeV (comeV (newSV 100 true).1 ⟨3, 500, 101, 1024, []⟩).1 [97, 98] = ((writeV (comeV (newSV 100 true).1 ⟨3, 500, 101, 1024, []⟩).1 [97, 98]).1, [⟨2, 101, 501, 1024, [97, 98]⟩], 0) := by kernel_rfl
  have hla : (comeV (newSV 100 true).1 ⟨3, 500, 101, 1024, []⟩).1.all.length ≤ 990000 := by
    have : (comeV (newSV 100 true).1 ⟨3, 500, 101, 1024, []⟩).1.all.length = 0 := by kernel_rfl
    omega
  generalize hB2 : (comeV (comeV (newSV 500 false).1 ⟨1, 100, 0, 1024, []⟩).1 ⟨2, 101, 501, 1024, []⟩).1 = B2 at *
  have c4 : comeV B2 ⟨2, 101, 501, 1024, [97, 98]⟩ = ((comeV B2 ⟨2, 101, 501, 1024, [97, 98]⟩).1, [⟨2, 501, 103, 1022, []⟩], 0) := by rw [← hB2]; kernel_rfl
  have ob3 := ob2.come ⟨2, 101, 501, 1024, [97, 98]⟩
  generalize hB3 : (comeV B2 ⟨2, 101, 501, 1024, [97, 98]⟩).1 = B3 at *
  have r1 : readV B3 = ((readV B3).1, [97, 98], []) := by rw [← hB3, ← hB2]; kernel_rfl
  have r2 : readV (readV B3).1 = ((readV (readV B3).1).1, [], []) := by rw [← hB3, ← hB2]; kernel_rfl
  exact ⟨_, _, _, _, _, _, _, _, _, _, _, _, _, _, _, _, _, n1, rfl, c1, c2, c3, w1, c4, r1, r2, rfl, rfl, rfl, by decide, by decide, by decide, by decide, oa0, ob0, oa1, ob1, ob2, ob3, ob3.read, hla⟩
end Go.Proofs.Ytmgdbbbdhkfdmaa

/-
  known: the walk.
-/
namespace Go.Proofs.Ytmgdbbbdhkfdmaa
set_option maxRecDepth 100000
open Go.RowKit Go.Deep

theorem byt_lit (w : World) (l : List Int) (hl : l.length ≤ maxLen) (fr : Nat × Nat) : Byt (fun b => b = w.heap.size) (w.alloc (.cells (byts l).toArray 5 fr)) (.slice (some ⟨w.heap.size, 0, none⟩) l.length l.length) l := by
  unfold Byt
  refine ⟨by simp [byts], _, _, rfl, Nat.le_refl _, hl, fun _ => ⟨_, _, rfl, rfl, fun j u hj => ?_⟩⟩
  rw [Nat.zero_add, Go.Joins.cell_alloc_mark_at _ _ _ _ _ _ rfl]
  simpa using hj
/-- Nothing of what was there at first is owned. -/
def Late (w : World) (H : Hd) : Prop := ∀ y ∈ H.own, w.heap.size ≤ y
theorem Late.like {w w1 : World} {H H' : Hd} (h : Late w H) (lk : Hd.like w1 H H') (hz : w.heap.size ≤ w1.heap.size) : Late w H' := fun y hy => by
  rcases lk.own y hy with q | q
  · exact h y q
  · omega
theorem Late.fr {w w1 w2 : World} {H : Hd} (h : Late w H) (f : Fr [] w w1) (k : Fr H.own w1 w2) : Fr [] w w2 := f.trans k (fun y hy => .inr (h y hy))
theorem read_unread (x : St) : (readV x).2.1 = x.unread := by unfold readV; dsimp only; split <;> rfl
set_option maxHeartbeats 16000000 in
theorem known_any (w : World) : Calls Try.prog 5 #[] w fun e w' => e = .returned (.bool true) ∧ Fr [] w w' := by
  obtain ⟨a0, b0, b1, a1, b2, a2, b3, b4, b5, p0, p1, p2, p3, p4, m2, q1, q2, ch⟩ := chain
  have CH := Lib.hid ch
  clear ch
  go_enter Try.func5, Try.ntmps5
  go_wp2_with fail
  have hn := new_si (fun b => b < w.heap.size) 100 true w (fun b h => h)
  rw [CH.out.n1] at hn
  refine hn.mono ?_
  rintro e w1 ⟨S1, Ha, v1, L1, rfl, hL1, x1, ma, pr1, n1, f1, la⟩
  have MA := Lib.hid ma
  have PR1 := Lib.hid pr1
  have N1 := Lib.hid n1
  have F1 := Lib.hid f1
  have LA := Lib.hid la
  have HL1 := Lib.hid hL1
  obtain ⟨vA, vc, hv1, _, _⟩ := own_form pr1.own
  have hl1 : L1.length = 1 := by have := congrArg List.length hL1; simpa using this
  rw [hl1] at hv1
  subst hv1
  clear hn x1 ma pr1 n1 f1 la hL1
  go_wp2_with fail
  have hn := new_si S1 500 false w1 (HP.pub' MA.out.hp)
  rw [CH.out.n2] at hn
  refine hn.mono ?_
  rintro e w2 ⟨S2, Hb, v2, L2, rfl, hL2, x2, mb, pr2, n2, f2, lb⟩
  have hd : Duo S2 w2 Ha Hb a0 b0 := ⟨MA.out.ext f2 x2 (HP.pub' mb.hp), mb, fun y hy hb => by have h1 := MA.out.lt y hy; have h2 := lb y hb; omega⟩
  have D2 := Lib.hid hd
  have hpr : Pr S2 w2 (.slice vA 1 vc) L1 := PR1.out.fr f2 (by simp) (by simp) x2.1
  obtain ⟨k2, kc2, hv2⟩ := pr2.none_ hL2
  subst hv2
  obtain ⟨bb, bk, A0, c0, hv0, hk1, hk2, y0, y1, y2, y3, y4, hby0⟩ := hpr.one_ HL1.out
  injection hv0 with hvA _ hvc
  subst hvA hvc
  have Y0 := Lib.hid y0
  have Y1 := Lib.hid y1
  rw [CH.out.f0] at y0
  rw [CH.out.s0] at y1
  have HBY0 := Lib.hid hby0
  have HPR := Lib.hid hpr
  have LB := Lib.hid (show Late w Hb from fun y hy => by have := lb y hy; have := F1.out.size; omega)
  have F2 := Lib.hid (F1.out.trans f2 (by simp))
  clear hn x2 mb pr2 n2 f2 lb hd hpr hL2 hby0 PR1 N1 MA
  have hc := duo_come D2.out.symm CH.out.ob0 p0 CH.out.h0 A0 c0 HBY0.out
  rw [CH.out.c1] at hc
  have HC := Lib.hid hc
  clear hc
  go_upto_region 5 with fail
  clear y0 y1
  have y0 := Y0.out
  have y1 := Y1.out
  go_upto_region 6 with (go_at_call 6; refine HC.out.mono ?_; rintro e w3 ⟨v3, S3, Hb3, L3, rfl, hL3, x3, lk3, d3, pr3, n3, f3⟩; have D3 := Lib.hid d3.symm; obtain ⟨q3, k3, A3, c3, rfl, g1, g2, y0, y1, y2, y3, y4, hby3⟩ := pr3.one_ hL3; have LB3 := Lib.hid (LB.out.like lk3 F2.out.size); have LK3 := Lib.hid lk3; have F3 := Lib.hid (LB.out.fr F2.out f3); have HBY3 := Lib.hid hby3; clear hL3 x3 lk3 d3 pr3 n3 f3 hby3)
  clear HC LB F2 HBY0 HPR D2
  have hc := duo_come D3.out CH.out.oa0 p1 CH.out.h1 A3 c3 HBY3.out
  rw [CH.out.c2] at hc
  have HC := Lib.hid hc
  clear hc
  go_upto_region 7 with (go_at_call 6; refine HC.out.mono ?_; rintro e w4 ⟨v4, S4, Ha4, L4, rfl, hL4, x4, lk4, d4, pr4, n4, f4⟩; have D4 := Lib.hid d4; obtain ⟨q4, k4, A4, c4, rfl, g1, g2, y0, y1, y2, y3, y4, hby4⟩ := pr4.one_ hL4; have LA4 := Lib.hid (Late.like LA.out lk4 F3.out.size); have F4 := Lib.hid (Late.fr LA.out F3.out f4); have HBY4 := Lib.hid hby4; have LK4 := Lib.hid lk4; have LB4 := LB3; clear hL4 x4 lk4 d4 pr4 n4 f4 hby4)
  clear HC LB3 LA F3 HBY3 D3
  have hc := duo_come D4.out.symm CH.out.ob1 p2 CH.out.h2 A4 c4 HBY4.out
  rw [CH.out.c3] at hc
  rw [LK3.out.g] at hc
  have HC := Lib.hid hc
  clear hc
  go_upto_region 8 with (go_at_call 6; refine HC.out.mono ?_; rintro e w5 ⟨v5, S5, Hb5, L5, rfl, hL5, x5, lk5, d5, pr5, n5, f5⟩; have D5 := Lib.hid d5.symm; have LB5 := Lib.hid (Late.like LB4.out lk5 F4.out.size); have F5 := Lib.hid (Late.fr LB4.out F4.out f5); have LK5 := Lib.hid (Hd.like.g lk5 |>.trans LK3.out.g); have LA5 := LA4; clear hL5 x5 lk5 d5 pr5 n5 f5)
  clear HC LB4 F4 HBY4 D4 LA4 y0 y1 y2 y3 y4 LK3
  have cv1 := Lib.run_convert_bytes_const (P := Try.prog) w5 25 5 #[.int .u8 97, .int .u8 98] 2 2 Try.underlying25 Try.underlying5
  have hb1 : Byt (fun b => b = w5.heap.size) (w5.alloc (.cells #[.int .u8 97, .int .u8 98] 5 (2, 3))) (.slice (some ⟨w5.heap.size, 0, none⟩) 2 2) [97, 98] := byt_lit w5 [97, 98] (by decide) _
  have hf6 : Fr [] w5 (w5.alloc (.cells #[.int .u8 97, .int .u8 98] 5 (2, 3))) := (Fr.refl [] w5).alloc _
  have hc := duo_write (D5.out.fr hf6) CH.out.oa1 [97, 98] CH.out.l1 (some ⟨w5.heap.size, 0, none⟩) 2 _ hb1
  rw [CH.out.w1, LK4.out.g] at hc
  have HC := Lib.hid hc
  clear hc hb1
  go_upto_region 9 with (go_at_call 7; refine HC.out.mono ?_; rintro e w6 ⟨v6, S6, Ha6, L6, rfl, hL6, x6, lk6, d6, pr6, n6, f6⟩; have D6 := Lib.hid d6; obtain ⟨q6, k6, A6, c6, rfl, g1, g2, y0, y1, y2, y3, y4, hby6⟩ := pr6.one_ hL6; have LA6 := Lib.hid (Late.like LA5.out lk6 (F5.out.alloc (.cells #[.int .u8 97, .int .u8 98] 5 (2, 3))).size); have F6 := Lib.hid (Late.fr LA5.out (F5.out.alloc (.cells #[.int .u8 97, .int .u8 98] 5 (2, 3))) f6); have HBY6 := Lib.hid hby6; clear hL6 x6 lk6 d6 pr6 n6 f6 hby6)
  clear HC LA5 F5 D5 cv1 hf6
  have hc := duo_come D6.out.symm CH.out.ob2 p3 CH.out.h3 A6 c6 HBY6.out
  rw [CH.out.c4, LK5.out] at hc
  have HC := Lib.hid hc
  clear hc
  go_upto_region 10 with (go_at_call 6; refine HC.out.mono ?_; rintro e w7 ⟨v7, S7, Hb7, L7, rfl, hL7, x7, lk7, d7, pr7, n7, f7⟩; have D7 := Lib.hid d7.symm; obtain ⟨q7, k7, A7, c7, rfl, g1, g2, y0, y1, y2, y3, y4, hby7⟩ := pr7.one_ hL7; have LB7 := Lib.hid (Late.like LB5.out lk7 F6.out.size); have F7 := Lib.hid (Late.fr LB5.out F6.out f7); have LK7 := Lib.hid (Hd.like.g lk7 |>.trans LK5.out); have PR7 := Lib.hid pr7; have HL7 := Lib.hid hL7; clear hL7 x7 lk7 d7 pr7 n7 f7 hby7)
  clear HC LB5 F6 D6 HBY6 LK5 y0 y1 y2 y3 y4
  obtain ⟨uA, uc, huv, _, _⟩ := own_form D7.out.b.unr
  have hun : b3.unread = [97, 98] := by rw [← read_unread b3, CH.out.r1]
  rw [hun] at huv
  have hun2 : b4.unread = [] := by rw [← read_unread b4, CH.out.r2]
  have hr := read_si D7.out.b CH.out.ob3.s
  rw [CH.out.r1, LK7.out] at hr
  have HR := Lib.hid hr
  have HUV := Lib.hid huv
  have HUN2 := Lib.hid hun2
  clear hr huv hun hun2
  go_wp2_with fail
  refine HR.out.mono ?_
  rintro e w8 ⟨S8, H8, v8, L8, rfl, hL8, x8, lk8, m8, pr8, n8, f8, by8, na8⟩
  rw [HUV.out] at by8 na8 ⊢
  obtain ⟨uA8, uc8, huv8, _, _⟩ := own_form m8.unr
  dsimp only at huv8 m8 by8
  rw [HUN2.out] at huv8
  have hr := read_si m8 CH.out.ob4.s
  rw [CH.out.r2, lk8.g, LK7.out] at hr
  have HR8 := Lib.hid hr
  have HUV8 := Lib.hid huv8
  have BY8 := Lib.hid by8
  have NA8 := Lib.hid na8
  have HG8 := Lib.hid lk8.g
  have PR8 := Lib.hid (PR7.out.own_fr' D7.out.b f8 (by simp [Hd.own]))
  have F8 := Lib.hid (F7.out.trans f8 (fun y hy => .inr (by simp at hy; subst hy; exact LB7.out _ (by simp [Hd.own]))))
  clear hr huv8 by8 na8 hL8 x8 pr8 n8 f8 HR
  have HM8 := Lib.hid (show H8.g ∈ H8.own by simp [Hd.own])
  have NR8 : Hid (∀ b ∈ ob (.slice (some ⟨q7, 0, none⟩) 1 k7), b ≠ H8.g) := Lib.hid (fun b hb => by rw [HG8.out]; rintro rfl; exact Pr.apart D7.out.b PR7.out _ hb (by simp [Hd.own]))
  have NS8 : Hid (¬ S7 H8.g) := Lib.hid (by rw [HG8.out]; exact D7.out.b.nS _ (.inl rfl))
  clear lk8 m8
  go_wp2_with fail
  refine HR8.out.mono ?_
  rintro e w9 ⟨S9, H9, v9, L9, rfl, hL9, x9, lk9, m9, pr9, n9, f9, by9, na9⟩
  rw [HUV8.out]
  have pr9' := PR8.out.fr f9 (fun y hy => by simp at hy; subst hy; exact NS8.out) (fun b hb => by simpa using NR8.out b hb) (fun _ h => h)
  obtain ⟨q9, k9, A9, c9, hv9, _, _, _, _, y2, _, _, _⟩ := pr9'.one_ HL7.out
  injection hv9 with hv9 _ _
  injection hv9 with hv9
  injection hv9 with hv9 _ _
  subst hv9
  rw [CH.out.k4] at y2
  have by9' : Byt (fun b => b ∈ ob (.slice uA [97, 98].length uc)) w9 (.slice uA [97, 98].length uc) [97, 98] := Byt.fr BY8.out f9 (fun y hy hm => by simp at hy; subst hy; exact NA8.out _ hm HM8.out)
  have cvs : (convert 25 9 (.slice uA 2 uc)).run Try.prog w9 = .ok (.string { data := #[97, 98] }) w9 := by9'.string (P := Try.prog) 25 5 Try.underlying25 Try.underlying5 9 Try.underlying9
  have F9 := Lib.hid (F8.out.trans f9 (fun y hy => .inr (by simp at hy; subst hy; rw [HG8.out]; exact LB7.out _ (by simp [Hd.own]))))
  clear hL9 x9 lk9 m9 pr9 n9 f9 by9 na9 by9' pr9'
  have e2 : ([97, 98] : List Int).length = 2 := rfl
  have e0 : ([] : List Int).length = 0 := rfl
  simp only [e2, e0]
  go_wp2_with fail
  go_ret
  exact ⟨rfl, F9.out⟩
end Go.Proofs.Ytmgdbbbdhkfdmaa
