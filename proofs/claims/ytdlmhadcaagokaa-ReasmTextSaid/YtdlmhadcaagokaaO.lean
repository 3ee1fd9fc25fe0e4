import Derived.Test.YtdlmhadcaagokaaN
import Derived.Deep.DeepCutAuto
namespace Go.Proofs.Ytdlmhadcaagokaa
open Go.RowKit Go.Deep

/-- The reference's heap by value. -/
structure RPx (S : Nat → Prop) (w : World) (kv : Value) (h : Hp) (L : List (Pc × Value)) : Prop where
  kp : Kp 65 S w kv L
  kept : h.kept = L.map (·.1)
  offk : ∀ b, kv.ownBlock = some b → S b
  pub : ∀ b, S b → b < w.heap.size
abbrev agH (h : Hp) (kv : Value) : Value := agR h.most h.next kv (finI h.fin)
abbrev arH (h : Hp) (kv : Value) : Array Value := arR h.most h.next kv (finI h.fin)
theorem RPx.ext {S S' : Nat → Prop} {w w' : World} {kv : Value} {h : Hp} {L : List (Pc × Value)} {O : List Nat} (m : RPx S w kv h L) (f : Fr O w w') (hO : ∀ x ∈ O, ¬ S x) (hS : ∀ b, S b → S' b) (hp : ∀ b, S' b → b < w'.heap.size) : RPx S' w' kv h L :=
  ⟨(m.kp.fr f hO (fun b hb hm => hO b hm (m.offk b hb))).mono hS, m.kept, fun b hb => hS b (m.offk b hb), hp⟩

def RReadyRel (w : World) (m n f : Int) (kv : Value) (l : List Pc) (s3 s4 : Value) (wr : World) : Prop :=
  ∃ k : Nat, k ≤ l.length ∧ s4 = .int .i64 k ∧ s3 = .int .i64 (bestV (early n) ahead l k) ∧ Fr [] w wr ∧ Blk wr w.heap.size 31 (arR m n kv f)
set_option maxHeartbeats 2000000 in
theorem rready (S : Nat → Prop) (w : World) (m n f : Int) (kv : Value) (L : List (Pc × Value)) (h : Kp 65 S w kv L) (hl : L.length ≤ 64) :
    Calls Try.prog 41 #[agR m n kv f] w fun e w' => e = .returned (.int .i64 (readyV n (L.map (·.1)))) ∧ Fr [] w w' := by
  obtain ⟨KA, KC, rfl, hKn, hKc⟩ := h.form
  have K := Lib.hid h
  have hrd : readyV n (L.map (·.1)) = bestV (early n) ahead (L.map (·.1)) L.length := by unfold readyV; rw [List.length_map]
  rw [hrd]
  clear h hrd
  go_enter Try.func41, Try.ntmps41
  go_wp2
  go_loopw [3, 4] (fun s3 s4 wr => RReadyRel w m n f (.slice KA L.length KC) (L.map (·.1)) s3 s4 wr) (fun _ s4 _ => L.length - (intOf s4).toNat)
  case atStart => exact ⟨0, by omega, rfl, rfl, (Fr.refl _ _).alloc _, Blk.new _ _ _⟩
  case round =>
    obtain ⟨k, hk, rfl, rfl, fk, bx⟩ := hrel
    rw [List.length_map] at hk
    have hbd := best_bd (early n) ahead (L.map (·.1)) k
    have hsucc := best_succ (early n) ahead (L.map (·.1)) k
    obtain ⟨c0, c1, c2, c3⟩ := cells4 bx
    have Bx := Lib.hid bx
    have Fk := Lib.hid fk
    by_cases hlt : k < L.length
    · obtain ⟨b, _, x, hv, hx, d0, d1, hby⟩ := (K.out.fr fk (by simp) (by simp)).at_ hlt
      injection hv with hv _ hc
      subst hv hc
      rw [map_get L k x hx] at hsucc
      obtain ⟨A, c, hxv, _, _⟩ := hby.form
      rw [hxv] at d1
      have x0 := Grew.cell c1
      have x1 := Grew.cell c2
      have x2 := Grew.cell d0
      have hei : early n x.1 = decide (x.1.at_ ≤ n) := rfl
      clear bx fk hx hxv hby
      generalize bestV (early n) ahead (L.map (·.1)) k = bb at *
      obtain ⟨hb0, hb1⟩ := hbd
      by_cases hi : x.1.at_ ≤ n
      · have hi1 : decide (x.1.at_ ≤ n) = true := by simpa using hi
        rw [hei, hi1] at hsucc
        clear hei
        by_cases hb2 : bb < 0
        · have e2 : decide (bb < 0) = true := by simpa using hb2
          rw [e2] at hsucc
          have HS := Lib.hid hsucc
          clear hsucc
          go_upto_region 5 with fail
          refine wp_region_grew (by kernel_rfl) (by kernel_rfl) ?_
          repeat (go_big_quiet_step (fail))
          refine wpQuiet_nil ?_
          intro W1 f1
          go_wp2_with fail
          go_roundw
          case rel =>
            have e := HS.out
            simp at e
            exact ⟨k + 1, by simp; omega, by go_num, by rw [e], Fk.out.trans f1 (by simp), Bx.out.fr f1 (by simp)⟩
          case measure => simp [intOf]; omega
        · have e2 : decide (bb < 0) = false := by simpa using hb2
          have hb3 : 0 ≤ bb := by omega
          have hb4 : bb.toNat < L.length := by omega
          have hb5 : bb < (L.length : Int) := by omega
          obtain ⟨_, _, y, hv, hy, d2, d3, hby⟩ := (K.out.fr Fk.out (by simp) (by simp)).at_ hb4
          injection hv with hv _ hc
          injection hv with hv
          injection hv with hv _ _
          subst hv hc
          rw [e2, map_get L _ y hy] at hsucc
          have x3 := Grew.cell d2
          have hah : ahead x.1 y.1 = decide (x.1.at_ < y.1.at_) := rfl
          clear hy hby
          by_cases hj : x.1.at_ < y.1.at_
          · have hj1 : decide (x.1.at_ < y.1.at_) = true := by simpa using hj
            rw [hah, hj1] at hsucc
            have HS := Lib.hid hsucc
            clear hsucc hah
            go_upto_region 5 with fail
            refine wp_region_grew (by kernel_rfl) (by kernel_rfl) ?_
            repeat (go_big_quiet_step (fail))
            refine wpQuiet_nil ?_
            intro W1 f1
            go_wp2_with fail
            go_roundw
            case rel =>
              have e := HS.out
              simp at e
              exact ⟨k + 1, by simp; omega, by go_num, by rw [e], Fk.out.trans f1 (by simp), Bx.out.fr f1 (by simp)⟩
            case measure => simp [intOf]; omega
          · have hj1 : decide (x.1.at_ < y.1.at_) = false := by simpa using hj
            rw [hah, hj1] at hsucc
            have HS := Lib.hid hsucc
            clear hsucc hah
            go_upto_region 5 with fail
            refine wp_region_grew (by kernel_rfl) (by kernel_rfl) ?_
            repeat (go_big_quiet_step (fail))
            refine wpQuiet_nil ?_
            intro W1 f1
            go_wp2_with fail
            go_roundw
            case rel =>
              have e := HS.out
              simp at e
              exact ⟨k + 1, by simp; omega, by go_num, by rw [e], Fk.out.trans f1 (by simp), Bx.out.fr f1 (by simp)⟩
            case measure => simp [intOf]; omega
      · have hi1 : decide (x.1.at_ ≤ n) = false := by simpa using hi
        rw [hei, hi1] at hsucc
        have HS := Lib.hid hsucc
        clear hsucc hei
        go_upto_region 5 with fail
        refine wp_region_grew (by kernel_rfl) (by kernel_rfl) ?_
        repeat (go_big_quiet_step (fail))
        refine wpQuiet_nil ?_
        intro W1 f1
        go_wp2_with fail
        go_roundw
        case rel =>
          have e := HS.out
          simp at e
          exact ⟨k + 1, by simp; omega, by go_num, by rw [e], Fk.out.trans f1 (by simp), Bx.out.fr f1 (by simp)⟩
        case measure => simp [intOf]; omega
    · obtain rfl : L.length = k := by omega
      clear hsucc bx fk
      go_wp2
      go_ret
      exact ⟨rfl, Fk.out⟩

def RHeldRel (w : World) (ar : Array Value) (l : List Pc) (s3 s4 : Value) (wr : World) : Prop :=
  ∃ k : Nat, k ≤ l.length ∧ s4 = .int .i64 k ∧ s3 = .int .i64 (sumV (l.take k)) ∧ Fr [] w wr ∧ Blk wr w.heap.size 31 ar
theorem rheld (S : Nat → Prop) (w : World) (m n f : Int) (kv : Value) (L : List (Pc × Value)) (h : Kp 65 S w kv L) (hl : L.length ≤ 64) (hpc : ∀ x ∈ L, x.1.d.length ≤ 64) :
    Calls Try.prog 25 #[agR m n kv f] w fun e w' => e = .returned (.int .i64 (sumV (L.map (·.1)))) ∧ Fr [] w w' := by
  obtain ⟨KA, KC, rfl, hKn, hKc⟩ := h.form
  have K := Lib.hid h
  have hb : ∀ k, 0 ≤ sumV ((L.map (·.1)).take k) ∧ sumV ((L.map (·.1)).take k) ≤ 4096 := fun k => by
    have h1 := sum_bd ((L.map (·.1)).take k) (fun p hp => by obtain ⟨x, hx, rfl⟩ := List.mem_map.1 (List.mem_of_mem_take hp); exact hpc x hx)
    have h2 : ((L.map (·.1)).take k).length ≤ 64 := by simp; omega
    omega
  have HB := Lib.hid hb
  have HPC := Lib.hid hpc
  clear h hb hpc
  go_enter Try.func25, Try.ntmps25
  go_wp2
  go_loopw [3, 4] (fun s3 s4 wr => RHeldRel w (arR m n (.slice KA L.length KC) f) (L.map (·.1)) s3 s4 wr) (fun _ s4 _ => L.length - (intOf s4).toNat)
  case atStart => exact ⟨0, by omega, rfl, rfl, (Fr.refl _ _).alloc _, Blk.new _ _ _⟩
  case round =>
    obtain ⟨k, hk, rfl, rfl, fk, bx⟩ := hrel
    rw [List.length_map] at hk
    obtain ⟨hb0, hb1⟩ := HB.out k
    obtain ⟨c0, c1, c2, c3⟩ := cells4 bx
    by_cases hlt : k < L.length
    · obtain ⟨b, _, x, hv, hx, d0, d1, hby⟩ := (K.out.fr fk (by simp) (by simp)).at_ hlt
      injection hv with hv _ hc
      subst hv hc
      obtain ⟨A, c, hxv, _, _⟩ := hby.form
      rw [hxv] at d1
      have hx64 := HPC.out x (List.mem_of_getElem? hx)
      have hs : sumV ((L.map (·.1)).take (k + 1)) = sumV ((L.map (·.1)).take k) + x.1.d.length := by
        rw [List.take_add_one]
        have : (L.map (·.1))[k]? = some x.1 := by simp [hx]
        rw [this]
        exact sum_snoc _ _
      have HS := Lib.hid hs
      have Fk := Lib.hid fk
      have Bx := Lib.hid bx
      clear hs hx hxv hby fk bx
      generalize sumV ((L.map (·.1)).take k) = sm at *
      go_wp2
      go_roundw
      case rel => exact ⟨k + 1, by simp; omega, by go_num, by rw [HS.out], Fk.out, Bx.out⟩
      case measure => simp [intOf]; omega
    · obtain rfl : L.length = k := by omega
      have Fk := Lib.hid fk
      clear fk bx
      go_wp2
      go_ret
      exact ⟨ret1_eq (by rw [List.take_of_length_le (by simp)]), Fk.out⟩
end Go.Proofs.Ytdlmhadcaagokaa
