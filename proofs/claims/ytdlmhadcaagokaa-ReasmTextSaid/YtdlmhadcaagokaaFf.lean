import Derived.Test.YtdlmhadcaagokaaFe
import Derived.Deep.DeepCutAuto
import Derived.Deep.RegionHeldLaw
namespace Go.Proofs.Ytdlmhadcaagokaa
open Go.RowKit Go.Deep Go.Shelf

def T1Post (w : World) (g : Nat) (bm bt bh bn bo : Nat) (tv : Value) (txt : List Int) (most : Int) (h : Hp) (at_ long : Int) (e : Ending) (w' : World) : Prop :=
  e = .returned (.bool true) ∧ ∃ S' kv' ov' h' out', TR w S' g kv' bm bt bh bn bo tv txt most h' out' ov' w' ∧ Inv h' ∧ Txt txt h' out' ∧ h'.most = most ∧ h.next ≤ h'.next ∧ (0 ≤ at_ → at_ < txt.length → 1 ≤ long → at_ ≤ h.next → min (txt.length : Int) (at_ + min long 64) ≤ h'.next)
theorem c3 {w : World} {b b' b'' : Nat} {t t' t'' : TypeId} {u u' u'' : Value} (B : Blk w b t #[u]) (B' : Blk w b' t' #[u']) (B'' : Blk w b'' t'' #[u'']) : w.cell? ⟨b, 0, none⟩ = some u ∧ w.cell? ⟨b', 0, none⟩ = some u' ∧ w.cell? ⟨b'', 0, none⟩ = some u'' := ⟨by simpa using B.cell 0, by simpa using B'.cell 0, by simpa using B''.cell 0⟩
/-- What is between the putting and the telling. -/
def MidT (w : World) (g : Nat) (bm bt bh bn bo : Nat) (tv : Value) (txt : List Int) (most : Int) (y : Hp) (out : List Int) (ov : Value) (o5 : List Int) (err : Int) (s10 s11 : Value) (wx : World) : Prop :=
  ∃ S5 kv5 A c, s10 = .slice A o5.length c ∧ s11 = .int .i64 err ∧ TR w S5 g kv5 bm bt bh bn bo tv txt most y out ov wx ∧ Byt S5 wx (.slice A o5.length c) o5
theorem TR.sees {w wr : World} {S : Nat → Prop} {g : Nat} {kv : Value} {bm bt bh bn bo tb tq n tc N c : Nat} {A : Option Addr} {txt : List Int} {most : Int} {h : Hp} {out : List Int} (t : TR w S g kv bm bt bh bn bo (.slice (some ⟨tb, tq, none⟩) n tc) txt most h out (.slice A N c) wr) (hN : N = out.length) (hle : N ≤ txt.length) (ho : out = txt.take N) :
    wr.cell? ⟨bo, 0, none⟩ = some (.slice A N c) ∧ wr.cell? ⟨bn, 0, none⟩ = some (.int .i64 txt.length) ∧ wr.cell? ⟨bt, 0, none⟩ = some (.slice (some ⟨tb, tq, none⟩) n tc) ∧ wr.cell? ⟨bh, 0, none⟩ = some (ptr g) ∧ wr.cell? ⟨bm, 0, none⟩ = some (.int .i64 most) ∧
      (convert 35 9 (.slice A N c)).run Try.prog wr = .ok (.string (strOfNums out)) wr ∧ (convert 35 9 (.slice (some ⟨tb, tq, none⟩) N tc)).run Try.prog wr = .ok (.string (strOfNums out)) wr := by
  refine ⟨by simpa using t.co.cell 0, by simpa using t.cn.cell 0, by simpa using t.ct.cell 0, by simpa using t.ch.cell 0, by simpa using t.cm.cell 0, ?_, ?_⟩
  · have b1 : Byt (fun _ => True) wr (.slice A N c) out := Sl.of_own t.own (fun _ _ => trivial)
    exact b1.string 35 5 Try.underlying35 Try.underlying5 9 Try.underlying9
  · have b2 := (t.byt.take (k := N) hle).string (P := Try.prog) 35 5 Try.underlying35 Try.underlying5 9 Try.underlying9
    rw [← ho] at b2
    exact b2
set_option maxRecDepth 100000 in
set_option maxHeartbeats 4000000 in
theorem text1 {w wr : World} {S : Nat → Prop} {g : Nat} {kv : Value} {bm bt bh bn bo : Nat} {tv : Value} {txt : List Int} {most : Int} {h : Hp} {out : List Int} {ov : Value} (t : TR w S g kv bm bt bh bn bo tv txt most h out ov wr) (hi : Inv h) (tx : Txt txt h out) (hm : h.most = most) (hn : txt.length ≤ 1000) (at_ long : Int)
    (r1 : -9223372036854775808 ≤ long) (r2 : long ≤ 9223372036854775807) : Calls Try.prog 15 #[.int .i64 at_, .int .i64 long, ptr bn, ptr bh, ptr bt, ptr bo, ptr bm] wr (T1Post w g bm bt bh bn bo tv txt most h at_ long) := by
  have same : ∀ wx, Fr [] wr wx → ¬ (0 ≤ at_ ∧ at_ < txt.length ∧ 1 ≤ long) → T1Post w g bm bt bh bn bo tv txt most h at_ long (.returned (.bool true)) wx := fun wx f hne => ⟨rfl, S, kv, ov, h, out, t.fr' f, hi, tx, hm, Int.le_refl _, fun a b c => absurd ⟨a, b, c⟩ hne⟩
  have HSame := Lib.hid same
  obtain ⟨x0, x1, x2⟩ := c3 t.cn t.ch t.ct
  have T := Lib.hid t
  have TX := Lib.hid tx
  have HI := Lib.hid hi
  have HM := Lib.hid hm
  clear same t tx hi hm
  go_enter Try.func15, Try.ntmps15
  by_cases h0 : at_ < 0
  · go_wp2_with fail
    go_ret
    exact HSame.out _ (Fr.refl _ _) (by omega)
  by_cases h1 : (txt.length : Int) ≤ at_
  · go_wp2_with fail
    go_ret
    exact HSame.out _ (Fr.refl _ _) (by omega)
  by_cases h2 : long < 1
  · go_wp2_with fail
    go_ret
    exact HSame.out _ (Fr.refl _ _) (by omega)
  clear HSame
  obtain ⟨k, rfl⟩ : ∃ k : Nat, at_ = k := ⟨at_.toNat, by omega⟩
  obtain ⟨tA, tc, rfl, htn, htc⟩ := T.out.byt.form
  obtain ⟨tb, tq, rfl, _, _⟩ := T.out.byt.at_ (k := 0) (by omega)
  obtain ⟨M, rfl⟩ : ∃ M, tc = k + M := ⟨tc - k, by omega⟩
  obtain ⟨N, hN⟩ : ∃ N, txt.length = k + N := ⟨txt.length - k, by omega⟩
  obtain ⟨L, hmin⟩ : ∃ L : Nat, min (txt.length : Int) ((k : Int) + min long 64) = (k : Int) + (L : Int) := ⟨(min (txt.length : Int) ((k : Int) + min long 64) - k).toNat, by omega⟩
  have hL : 1 ≤ L ∧ L ≤ 64 ∧ L ≤ N ∧ N ≤ M := by omega
  obtain ⟨hL1, hL2, hL3, hL4⟩ := hL
  have hwr : IntKind.i64.wrap ((k : Int) + min long 64) = (k : Int) + min long 64 := IntWalk.i64_in _ (by omega)
  unfold maxLen at htc
  have hlen : ((txt.drop k).take L).length = L := by simp; omega
  have hsb : Sub txt ⟨k, (txt.drop k).take L⟩ := by
    refine ⟨by simp, ?_, ?_, ?_⟩ <;> dsimp only <;> rw [hlen]
    · exact hL1
    · omega
    · unfold seg
      rw [show ((k : Int) + (L : Int) - (k : Int)).toNat = L by omega, Int.toNat_natCast]
  have hpt := put_txt TX.out hn k ((txt.drop k).take L) (by omega) hsb
  have hpi := put_inv HI.out k ((txt.drop k).take L)
  have hpm := put_most h k ((txt.drop k).take L)
  have hby := (T.out.byt.cut (k := k) (by omega)).take (k := L) (by simp; omega)
  rw [if_neg (by omega), Option.map_some, add_lit', show k + M - k = M by omega] at hby
  have hput : ∀ W, Fr [] wr W → Calls Try.prog 16 #[ptr g, .int .i64 k, .slice (some ⟨tb, tq + k, none⟩) L M] W (PutPost S W g kv (putV h k ((txt.drop k).take L)).1 (putV h k ((txt.drop k).take L)).2.1 (putV h k ((txt.drop k).take L)).2.2) := fun W f => put_any (T.out.hp.fr f) HI.out k _ _ _ (hby.fr f (by simp)) (by omega)
  rw [hlen] at hpt
  generalize putV h k ((txt.drop k).take L) = Q at *
  have HPut := Lib.hid hput
  have HPT := Lib.hid hpt
  have HPI := Lib.hid hpi
  have HPM := Lib.hid hpm
  have HN := Lib.hid hN
  have HLs := Lib.hid (And.intro hL2 (And.intro hL3 hL4))
  have k0 : (0 : Int) ≤ (k : Int) := by omega
  have k1 : (k : Int) ≤ (k : Int) + (L : Int) := by omega
  have k2 : (k : Int) + (L : Int) ≤ (k : Int) + (M : Int) := by omega
  have k3 : ((k : Int) + (L : Int)).toNat = k + L := by omega
  have k4 : ¬ M = 0 := by omega
  clear hput hpt hpi hpm hby hsb hlen hN hL2 hL3 hL4
  go_upto_region 3 with fail
  go_cut [10, 11] (fun s10 s11 wx => MidT w g bm bt bh bn bo (.slice (some ⟨tb, tq, none⟩) txt.length (k + M)) txt most Q.1 out ov Q.2.1 Q.2.2 s10 s11 wx)
  case first =>
    go_region_held3 (fun w' => w'.cell? ⟨bn, 0, none⟩ = some (.int .i64 txt.length) ∧ w'.cell? ⟨bh, 0, none⟩ = some (ptr g) ∧ w'.cell? ⟨bt, 0, none⟩ = some (.slice (some ⟨tb, tq, none⟩) txt.length (k + M)))
      (first
        | (with_reducible exact c3 T5.out.cn T5.out.ch T5.out.ct)
        | go_keep)
      (first | (go_at_call 16; refine (HPut.out _ (Fr.refl [] wr).drew).mono ?_; rintro e w5 ⟨S5, kv5, A5, c5, rfl, x5, by5, m5, f5, n5⟩; have T5 := Lib.hid (T.out.put x5 m5 ((Fr.refl (g :: ob kv) wr).drew.trans f5 (fun x hx => .inl hx)) n5)))
    all_goals
      go_wp2_with fail
      go_meet
      exact ⟨S5, kv5, A5, c5, rfl, rfl, T5.out, by5⟩
  case rest =>
    obtain ⟨S5, kv5, A5, c5, rfl, rfl, t5, by5⟩ := hcut
    clear x0 x1 x2 T k0 k1 k2 k3 k4 HPut hwr
    obtain ⟨q1, q2, q3, q4⟩ := HPT.out
    have HQ1 := Lib.hid q1
    have HQ3 := Lib.hid q3
    have HQ4 := Lib.hid q4
    clear HPT q1 q3 q4
    generalize Q.1 = y at *
    generalize Q.2.1 = o5 at *
    generalize Q.2.2 = er at *
    clear Q
    obtain ⟨oA, oc, rfl, _, _⟩ := own_form t5.own
    have T5 := Lib.hid t5
    have By5 := Lib.hid by5
    have hL := HQ1.out.le
    rw [List.length_append] at hL
    have x0 := t5.co.cell 0
    simp only [List.size_toArray, List.length_cons, List.length_nil, Nat.zero_add, Nat.lt_add_one, getElem?_pos, List.getElem_toArray, List.getElem_cons_zero] at x0
    have HLM : Hid (out.length + o5.length ≤ maxLen) := Lib.hid (by unfold maxLen; omega)
    have HLB : Hid ((out.length + o5.length) * 1 ≤ 140737488355328) := Lib.hid (by omega)
    have nb : bo ∉ ob (.slice oA out.length oc) := fun hm => own_ne t5.own t5.co (by decide) (mem_ob.1 hm)
    have NB := Lib.hid nb
    clear t5 by5 nb
    obtain ⟨i0, hi0, hz0, hz1, hz2⟩ := info_parts info_u8
    go_upto_region 5 with (at_builtin; refine wpList_append_sl _ rfl (.tmp 38) (.tmp 39) 35 rfl 5 i0 (.int .u8 0) 1 1 Try.underlying35 hi0 hz0 hz1 hz2 rfl (by decide) (.slice oA out.length oc) out.length (byts out) (by rfl) T5.out.own S5 (.slice A5 o5.length c5) o5.length (byts o5) (by rfl) By5.out (byts_one _) HLM.out HLB.out (out.length + o5.length) rfl ?_; intro A7 c7 W7 h10 h11 h12; have H10 := Lib.hid h10; have H11 := Lib.hid h11; have H12 := Lib.hid h12; have co7 := T5.out.co.fr h11 NB.out; have y0 := co7.cell 0; have y1 := co7.frozen 0; clear h10 h11 h12 co7)
    have own7 := H10.out
    rw [byts_app, ← List.length_append] at own7
    have t8 := T5.out.app own7 H11.out (fun b hb => (H12.out b (by rw [← List.length_append]; exact hb)).imp id And.left)
    rw [List.length_append] at t8
    clear x0 y0 y1 H10 H11 H12 T5 By5 own7
    generalize W7.setCell ⟨bo, 0, none⟩ (.slice A7 (out.length + o5.length) c7) = W8 at *
    have T8 := Lib.hid t8
    have tx8 := HQ1.out
    have hto : out ++ o5 = txt.take (out.length + o5.length) := by
      have := tx8.out
      unfold seg at this
      rw [show (((out ++ o5).length : Int) - 0).toNat = out.length + o5.length by rw [List.length_append]; omega] at this
      simpa using this
    have hnx : y.next = ((out.length + o5.length : Nat) : Int) := by rw [tx8.next, List.length_append]
    have HTo := Lib.hid hto
    have HTl := Lib.hid hL
    have hiY := HPI.out
    have HKL : Hid ((y.kept.length : Int) ≤ most) := Lib.hid (by have := hiY.len; have := HPM.out; have := HM.out; omega)
    have HNX : Hid (∀ W, Fr [] W8 W → Calls Try.prog 17 #[ptr g] W fun e w' => e = .returned (.int .i64 ((out.length + o5.length : Nat) : Int)) ∧ W = w') := Lib.hid (fun W f => by rw [← hnx]; exact next_hp (T8.out.hp.fr f))
    have HPCS : Hid (∀ W, Fr [] W8 W → Calls Try.prog 14 #[ptr g] W fun e w' => ∃ A c, e = .returned (.slice A y.kept.length c) ∧ w'.ownsRow 0 2 1 (.slice A y.kept.length c) y.kept.length ((y.kept.map Pc.at_).map (Value.int .i64)) ∧ Fr [] W w') := Lib.hid (fun W f => pieces_hp (T8.out.hp.fr f) HPI.out)
    have see0 := T8.out.sees (by rw [List.length_append]) hL hto
    have See := Lib.hid (fun W (f : Fr [] W8 W) => (T8.out.fr' f).sees (by rw [List.length_append]) hL hto)
    obtain ⟨x0, x1, x2, x3, x4, x5, x6⟩ := see0
    have T8' : Hid (∀ W, Fr [] W8 W → T1Post w g bm bt bh bn bo (.slice (some ⟨tb, tq, none⟩) txt.length (k + M)) txt most h k long (.returned (.bool true)) W) := Lib.hid (fun W f => ⟨rfl, S5, kv5, _, y, out ++ o5, T8.out.fr' f, HPI.out, HQ1.out, HPM.out.trans HM.out, HQ3.out, fun _ _ _ h4 => by rw [hmin]; exact HQ4.out h4⟩)
    have kl0 : (y.kept.length : Int) ≤ most := HKL.out
    have hdk : decide ((y.kept.length : Int) ≤ most) = true := by simpa using kl0
    generalize out.length + o5.length = N1 at *
    have hdn : decide ((N1 : Int) ≤ (txt.length : Int)) = true := by simp; exact hL
    have k0 : (0 : Int) ≤ (N1 : Int) := by omega
    have k1 : (N1 : Int) ≤ ((k + M : Nat) : Int) := by have := HLs.out; have := HN.out; omega
    have k2 : (N1 : Int) ≤ (txt.length : Int) := by omega
    have k3 : (N1 : Int) ≤ (k : Int) + (M : Int) := by omega
    generalize strOfNums (out ++ o5) = str at *
    generalize y.kept.length = kl at *
    clear t8 tx8 hto hiY hnx hi0 hz0 hz1 hz2 hL T8 HTo HTl HKL kl0 HQ1 HQ3 HQ4 HPI HPM HM hmin
    rcases q2 with rfl | rfl
    all_goals
      first | (go_region_held_law (fun w' => w'.cell? ⟨bo, 0, none⟩ = some (.slice A7 N1 c7) ∧ w'.cell? ⟨bn, 0, none⟩ = some (.int .i64 txt.length) ∧ w'.cell? ⟨bt, 0, none⟩ = some (.slice (some ⟨tb, tq, none⟩) txt.length (k + M)) ∧ w'.cell? ⟨bh, 0, none⟩ = some (ptr g) ∧ w'.cell? ⟨bm, 0, none⟩ = some (.int .i64 most) ∧
      (convert 35 9 (.slice A7 N1 c7)).run Try.prog w' = .ok (.string str) w' ∧ (convert 35 9 (.slice (some ⟨tb, tq, none⟩) N1 (k + M))).run Try.prog w' = .ok (.string str) w')
        (first
          | (with_reducible exact See.out _ f7)
          | (with_reducible exact See.out _ (Fr.refl _ _).drew)
          | (with_reducible exact See.out _ (Fr.refl _ _))
          | go_keep)
        (first
          | (go_at_call 17; refine (HNX.out _ (Fr.refl [] W8).drew).mono ?_; rintro e w6 ⟨rfl, rfl⟩)
          | (go_at_call 14; refine (HPCS.out _ (Fr.refl [] W8).drew).mono ?_; rintro e w7 ⟨pA, pc, rfl, own7, f7'⟩; have f7 := (Fr.refl [] W8).drew.trans f7' (by simp); clear own7 f7'))) | fail "x"
      all_goals
        go_wp2_with fail
        go_ret
        exact T8'.out _ f7
end Go.Proofs.Ytdlmhadcaagokaa
