import Derived.Test.YtdlmhadcaagokaaB
namespace Go.Proofs.Ytdlmhadcaagokaa
open Go.RowKit
theorem map_get (L : List (Pc × Value)) (k : Nat) (x : Pc × Value) (h : L[k]? = some x) : (L.map (·.1)).getD k default = x.1 := by
  rw [List.getD_eq_getElem?_getD, List.getElem?_map, h]; rfl

set_option maxHeartbeats 2000000 in
theorem first_ready (S : Nat → Prop) (w : World) (g hb : Nat) (n : Int) (d0 : w.cell? ⟨hb, 0, none⟩ = some (ptr g)) (d1 : w.cell? ⟨g, 1, none⟩ = some (.int .i64 n)) (kv : Value) (L : List (Pc × Value)) (h : Kp 67 S w kv L) (hl : L.length ≤ 1000000) :
    Calls Try.prog 31 #[kv, .func (.func 43) #[] #[.pointer (some ⟨hb, 0, none⟩)], .func (.func 44) #[] #[]] w fun e w' => e = .returned (.int .i64 (bestV (early n) ahead (L.map (·.1)) L.length)) ∧ Fr [] w w' := by
  obtain ⟨KA, KC, rfl, hKn, hKc⟩ := h.form
  go_enter Try.func31, Try.ntmps31
  go_wp2
  go_loopw [7, 12] (fun s7 s12 wr => ∃ k : Nat, k ≤ L.length ∧ s12 = .int .i64 k ∧ s7 = .int .i64 (bestV (early n) ahead (L.map (·.1)) k) ∧ Fr [] w wr) (fun _ s12 _ => L.length - (intOf s12).toNat)
  case atStart => exact ⟨0, by omega, rfl, rfl, Fr.refl _ _⟩
  case round =>
    obtain ⟨k, hk, rfl, rfl, fk⟩ := hrel
    have hbd := best_bd (early n) ahead (L.map (·.1)) k
    have hsucc := best_succ (early n) ahead (L.map (·.1)) k
    by_cases hlt : k < L.length
    · have hk2 := h.fr fk (by simp) (by simp)
      obtain ⟨b, _, x, hv, hx, c0, c1, hb⟩ := hk2.at_ hlt
      injection hv with hv _ _
      subst hv
      rw [map_get L k x hx] at hsucc
      obtain ⟨A, c, hxv, hnc, _⟩ := hb.form
      rw [hxv] at c1
      have hxx : (early n) x.1 = decide (x.1.at_ ≤ n) := rfl
      have hlb := World.block_lt_of_cell? wr _ c0
      dsimp only at hlb
      have d0' := fr_cell fk d0
      have d1' := fr_cell fk d1
      have fW := (Fr.refl [] wr).alloc (bxp x.1.at_ (.slice A x.1.d.length c))
      have q0 := Grew.cell (cell_al d0' (bxp x.1.at_ (.slice A x.1.d.length c)))
      have q1 := Grew.cell (cell_al d1' (bxp x.1.at_ (.slice A x.1.d.length c)))
      have bn := Blk.new wr 67 #[.int .i64 x.1.at_, .slice A x.1.d.length c]
      have q2 := Grew.cell (w := wr.alloc (bxp x.1.at_ (.slice A x.1.d.length c))) (a := ⟨wr.heap.size, 0, none⟩) (bn.cell 0)
      have q3 := Grew.cell (w := wr.alloc (bxp x.1.at_ (.slice A x.1.d.length c))) (a := ⟨wr.heap.size, 1, none⟩) (bn.cell 1)
      have Hx := Lib.hid hx
      have Hk2 := Lib.hid hk2
      have Hxv := Lib.hid hxv
      have Hfk := Lib.hid fk
      have HfW := Lib.hid fW
      clear hx hk2 hxv hb fW fk bn hnc
      have hc1 : ∀ p : Grew (wr.alloc (bxp x.1.at_ (.slice A x.1.d.length c))), Calls Try.prog 43 #[agp x.1.at_ (.slice A x.1.d.length c), .pointer (some ⟨hb, 0, none⟩)] p.W fun e w'' => e = .returned (.bool ((early n) x.1)) ∧ ∃ q : Grew (wr.alloc (bxp x.1.at_ (.slice A x.1.d.length c))), w'' = q.W := fun p => grew_call (r11_any x.1.at_ _ g hb n _ (q0 p) (q1 p) rfl A x.1.d.length c rfl)
      generalize hbb : bestV (early n) ahead (L.map (·.1)) k = bb at *
      have Hc1 := Lib.hid hc1
      clear hc1 hxx
      have HS := Lib.hid hsucc
      clear hsucc hbb
      obtain ⟨hb0, hb1⟩ := hbd
      cases hi : (early n) x.1
      · rw [hi] at Hc1 HS
        clear hi
        go_upto_region 5 with fail
        refine wp_region_grew (by kernel_rfl) (by kernel_rfl) ?_
        repeat (go_big_quiet_step ((go_at_call 43; exact Hc1.out _)))
        refine wpQuiet_nil ?_
        intro W1 f1
        go_wp2_with fail
        go_roundw
        case rel =>
          have e := HS.out
          simp at e
          exact ⟨k + 1, by omega, by go_num, by rw [e], Hfk.out.trans (HfW.out.trans f1 (by simp)) (by simp)⟩
        case measure => simp [intOf]; omega
      · rw [hi] at Hc1 HS
        clear hi
        by_cases hb2 : bb < 0
        · have e2 : decide (bb < 0) = true := by simpa using hb2
          rw [e2] at HS
          go_upto_region 5 with fail
          refine wp_region_grew (by kernel_rfl) (by kernel_rfl) ?_
          repeat (go_big_quiet_step ((go_at_call 43; exact Hc1.out _)))
          refine wpQuiet_nil ?_
          intro W1 f1
          go_wp2_with fail
          go_roundw
          case rel =>
            have e := HS.out
            simp at e
            exact ⟨k + 1, by omega, by go_num, by rw [e], Hfk.out.trans (HfW.out.trans f1 (by simp)) (by simp)⟩
          case measure => simp [intOf]; omega
        · have e2 : decide (bb < 0) = false := by simpa using hb2
          have hb3 : 0 ≤ bb := by omega
          have hb4 : bb.toNat < L.length := by omega
          have hb5 : bb < (L.length : Int) := by omega
          obtain ⟨_, _, y, hv, hy, c2, c3, hby⟩ := Hk2.out.at_ hb4
          injection hv with hv _ _
          injection hv with hv
          injection hv with hv _ _
          subst hv
          rw [e2] at HS
          rw [map_get L _ y hy] at HS
          obtain ⟨A2, c4, hyv, _, _⟩ := hby.form
          rw [hyv] at c3
          have q4 := Grew.cell (cell_al c2 (bxp x.1.at_ (.slice A x.1.d.length c)))
          have q5 := Grew.cell (cell_al c3 (bxp x.1.at_ (.slice A x.1.d.length c)))
          have Hy := Lib.hid hy
          have Hyv := Lib.hid hyv
          clear hy hyv hby
          have hc2 : ∀ p : Grew (wr.alloc (bxp x.1.at_ (.slice A x.1.d.length c))), Calls Try.prog 44 #[agp x.1.at_ (.slice A x.1.d.length c), agp y.1.at_ (.slice A2 y.1.d.length c4)] p.W fun e w'' => e = .returned (.bool (ahead x.1 y.1)) ∧ ∃ q : Grew (wr.alloc (bxp x.1.at_ (.slice A x.1.d.length c))), w'' = q.W := fun p => grew_call (r12_any _ _ _ _ _ _ _ _ _)
          have Hc2 := Lib.hid hc2
          clear hc2
          clear hb2
          cases hi : ahead x.1 y.1
          · rw [hi] at Hc2 HS
            clear hi
            go_upto_region 5 with fail
            refine wp_region_grew (by kernel_rfl) (by kernel_rfl) ?_
            repeat (go_big_quiet_step (first | (go_at_call 43; exact Hc1.out _) | (go_at_call 44; exact Hc2.out _)))
            refine wpQuiet_nil ?_
            intro W1 f1
            go_wp2_with fail
            go_roundw
            case rel =>
              have e := HS.out
              simp at e
              exact ⟨k + 1, by omega, by go_num, by rw [e], Hfk.out.trans (HfW.out.trans f1 (by simp)) (by simp)⟩
            case measure => simp [intOf]; omega
          · rw [hi] at Hc2 HS
            clear hi
            go_upto_region 5 with fail
            refine wp_region_grew (by kernel_rfl) (by kernel_rfl) ?_
            repeat (go_big_quiet_step (first | (go_at_call 43; exact Hc1.out _) | (go_at_call 44; exact Hc2.out _)))
            refine wpQuiet_nil ?_
            intro W1 f1
            go_wp2_with fail
            go_roundw
            case rel =>
              have e := HS.out
              simp at e
              exact ⟨k + 1, by omega, by go_num, by rw [e], Hfk.out.trans (HfW.out.trans f1 (by simp)) (by simp)⟩
            case measure => simp [intOf]; omega
    · obtain rfl : L.length = k := by omega
      go_wp2_with fail
      go_ret
      exact ⟨rfl, fk⟩

set_option maxHeartbeats 2000000 in
theorem first_put (S : Nat → Prop) (w : World) (pb : Nat) (pa : Int) (B : Option Addr) (ln' c' : Nat) (d0 : w.cell? ⟨pb, 0, none⟩ = some (.int .i64 pa)) (d1 : w.cell? ⟨pb, 1, none⟩ = some (.slice B ln' c')) (kv : Value) (L : List (Pc × Value)) (h : Kp 67 S w kv L) (hl : L.length ≤ 1000000) :
    Calls Try.prog 31 #[kv, .func (.func 32) #[] #[.pointer (some ⟨pb, 0, none⟩)], .func (.func 33) #[] #[]] w fun e w' => e = .returned (.int .i64 (bestV (longer pa ln') (fun _ _ => false) (L.map (·.1)) L.length)) ∧ Fr [] w w' := by
  obtain ⟨KA, KC, rfl, hKn, hKc⟩ := h.form
  go_enter Try.func31, Try.ntmps31
  go_wp2
  go_loopw [7, 12] (fun s7 s12 wr => ∃ k : Nat, k ≤ L.length ∧ s12 = .int .i64 k ∧ s7 = .int .i64 (bestV (longer pa ln') (fun _ _ => false) (L.map (·.1)) k) ∧ Fr [] w wr) (fun _ s12 _ => L.length - (intOf s12).toNat)
  case atStart => exact ⟨0, by omega, rfl, rfl, Fr.refl _ _⟩
  case round =>
    obtain ⟨k, hk, rfl, rfl, fk⟩ := hrel
    have hbd := best_bd (longer pa ln') (fun _ _ => false) (L.map (·.1)) k
    have hsucc := best_succ (longer pa ln') (fun _ _ => false) (L.map (·.1)) k
    by_cases hlt : k < L.length
    · have hk2 := h.fr fk (by simp) (by simp)
      obtain ⟨b, _, x, hv, hx, c0, c1, hb⟩ := hk2.at_ hlt
      injection hv with hv _ _
      subst hv
      rw [map_get L k x hx] at hsucc
      obtain ⟨A, c, hxv, hnc, _⟩ := hb.form
      rw [hxv] at c1
      have hxx : (longer pa ln') x.1 = ((x.1.at_ == pa) && decide (ln' ≤ x.1.d.length)) := rfl
      have hlb := World.block_lt_of_cell? wr _ c0
      dsimp only at hlb
      have d0' := fr_cell fk d0
      have d1' := fr_cell fk d1
      have fW := (Fr.refl [] wr).alloc (bxp x.1.at_ (.slice A x.1.d.length c))
      have q0 := Grew.cell (cell_al d0' (bxp x.1.at_ (.slice A x.1.d.length c)))
      have q1 := Grew.cell (cell_al d1' (bxp x.1.at_ (.slice A x.1.d.length c)))
      have bn := Blk.new wr 67 #[.int .i64 x.1.at_, .slice A x.1.d.length c]
      have q2 := Grew.cell (w := wr.alloc (bxp x.1.at_ (.slice A x.1.d.length c))) (a := ⟨wr.heap.size, 0, none⟩) (bn.cell 0)
      have q3 := Grew.cell (w := wr.alloc (bxp x.1.at_ (.slice A x.1.d.length c))) (a := ⟨wr.heap.size, 1, none⟩) (bn.cell 1)
      have Hx := Lib.hid hx
      have Hk2 := Lib.hid hk2
      have Hxv := Lib.hid hxv
      have Hfk := Lib.hid fk
      have HfW := Lib.hid fW
      clear hx hk2 hxv hb fW fk bn hnc
      have hc1 : ∀ p : Grew (wr.alloc (bxp x.1.at_ (.slice A x.1.d.length c))), Calls Try.prog 32 #[agp x.1.at_ (.slice A x.1.d.length c), .pointer (some ⟨pb, 0, none⟩)] p.W fun e w'' => e = .returned (.bool ((longer pa ln') x.1)) ∧ ∃ q : Grew (wr.alloc (bxp x.1.at_ (.slice A x.1.d.length c))), w'' = q.W := fun p => grew_call (p1_any x.1.at_ pa A B x.1.d.length c ln' c' pb _ (q0 p) (q1 p))
      generalize hbb : bestV (longer pa ln') (fun _ _ => false) (L.map (·.1)) k = bb at *
      have Hc1 := Lib.hid hc1
      clear hc1 hxx
      have HS := Lib.hid hsucc
      clear hsucc hbb
      obtain ⟨hb0, hb1⟩ := hbd
      cases hi : (longer pa ln') x.1
      · rw [hi] at Hc1 HS
        clear hi
        go_upto_region 5 with fail
        refine wp_region_grew (by kernel_rfl) (by kernel_rfl) ?_
        repeat (go_big_quiet_step ((go_at_call 32; exact Hc1.out _)))
        refine wpQuiet_nil ?_
        intro W1 f1
        go_wp2_with fail
        go_roundw
        case rel =>
          have e := HS.out
          simp at e
          exact ⟨k + 1, by omega, by go_num, by rw [e], Hfk.out.trans (HfW.out.trans f1 (by simp)) (by simp)⟩
        case measure => simp [intOf]; omega
      · rw [hi] at Hc1 HS
        clear hi
        by_cases hb2 : bb < 0
        · have e2 : decide (bb < 0) = true := by simpa using hb2
          rw [e2] at HS
          go_upto_region 5 with fail
          refine wp_region_grew (by kernel_rfl) (by kernel_rfl) ?_
          repeat (go_big_quiet_step ((go_at_call 32; exact Hc1.out _)))
          refine wpQuiet_nil ?_
          intro W1 f1
          go_wp2_with fail
          go_roundw
          case rel =>
            have e := HS.out
            simp at e
            exact ⟨k + 1, by omega, by go_num, by rw [e], Hfk.out.trans (HfW.out.trans f1 (by simp)) (by simp)⟩
          case measure => simp [intOf]; omega
        · have e2 : decide (bb < 0) = false := by simpa using hb2
          have hb3 : 0 ≤ bb := by omega
          have hb4 : bb.toNat < L.length := by omega
          have hb5 : bb < (L.length : Int) := by omega
          obtain ⟨_, _, y, hv, hy, c2, c3, hby⟩ := Hk2.out.at_ hb4
          injection hv with hv _ _
          injection hv with hv
          injection hv with hv _ _
          subst hv
          rw [e2] at HS
          skip
          obtain ⟨A2, c4, hyv, _, _⟩ := hby.form
          rw [hyv] at c3
          have q4 := Grew.cell (cell_al c2 (bxp x.1.at_ (.slice A x.1.d.length c)))
          have q5 := Grew.cell (cell_al c3 (bxp x.1.at_ (.slice A x.1.d.length c)))
          have Hy := Lib.hid hy
          have Hyv := Lib.hid hyv
          clear hy hyv hby
          have hc2 : ∀ p : Grew (wr.alloc (bxp x.1.at_ (.slice A x.1.d.length c))), Calls Try.prog 33 #[agp x.1.at_ (.slice A x.1.d.length c), agp y.1.at_ (.slice A2 y.1.d.length c4)] p.W fun e w'' => e = .returned (.bool ((fun _ _ => false) x.1 y.1)) ∧ ∃ q : Grew (wr.alloc (bxp x.1.at_ (.slice A x.1.d.length c))), w'' = q.W := fun p => grew_call (p2_any _ _ _ _ _ _ _ _ _)
          have Hc2 := Lib.hid hc2
          clear hc2
          clear hb2
          go_upto_region 5 with fail
          refine wp_region_grew (by kernel_rfl) (by kernel_rfl) ?_
          repeat (go_big_quiet_step (first | (go_at_call 32; exact Hc1.out _) | (go_at_call 33; exact Hc2.out _)))
          refine wpQuiet_nil ?_
          intro W1 f1
          go_wp2_with fail
          go_roundw
          case rel =>
            have e := HS.out
            simp at e
            exact ⟨k + 1, by omega, by go_num, by rw [e], Hfk.out.trans (HfW.out.trans f1 (by simp)) (by simp)⟩
          case measure => simp [intOf]; omega
    · obtain rfl : L.length = k := by omega
      go_wp2_with fail
      go_ret
      exact ⟨rfl, fk⟩
end Go.Proofs.Ytdlmhadcaagokaa
