import Derived.Test.YtdlmhadcaagokaaEa
import Derived.Deep.DeepCutAuto
import Derived.Lib.SmallJoins
import Derived.Lib.SlBytesConst
namespace Go.Proofs.Ytdlmhadcaagokaa
open Go.RowKit Go.Deep

theorem known_1 : putV (newV 2) 3 [100, 101] = (⟨2, 0, [⟨3, [100, 101]⟩], none⟩, [], 0) := by rfl
theorem known_2 : putV ⟨2, 0, [⟨3, [100, 101]⟩], none⟩ 0 [97, 98, 99] = (⟨2, 5, [], none⟩, [97, 98, 99, 100, 101], 0) := by rfl
theorem known_3 : endV ⟨2, 5, [], none⟩ 5 = (⟨2, 5, [], some 5⟩, 0) := by rfl
theorem HP.off {S : Nat → Prop} {w : World} {g : Nat} {kv : Value} {h : Hp} (m : HP S w g kv h) : ¬ S g := by
  obtain ⟨ev, L, m⟩ := m
  exact m.offg
theorem byt_lit (w : World) (l : List Int) (hl : l.length ≤ maxLen) (fr : Nat × Nat) : Byt (fun _ => True) (w.alloc (.cells (byts l).toArray 5 fr)) (.slice (some ⟨w.heap.size, 0, none⟩) l.length l.length) l := by
  unfold Byt
  refine ⟨by simp [byts], _, _, rfl, Nat.le_refl _, hl, fun _ => ⟨_, _, rfl, trivial, fun j u hj => ?_⟩⟩
  rw [Nat.zero_add, Go.Joins.cell_alloc_mark_at _ _ _ _ _ _ rfl]
  simpa using hj
set_option maxRecDepth 100000 in
set_option maxHeartbeats 4000000 in
theorem known_any (w : World) : Calls Try.prog 9 #[] w fun e w' => e = .returned (.bool true) ∧ Fr [] w w' := by
  go_enter Try.func9, Try.ntmps9
  go_wp2_with fail
  refine (new_hp (fun b => b < w.heap.size) 2 w (by omega) (by omega) (fun b h => h)).mono ?_
  rintro e w1 ⟨rfl, f1, m1, hz⟩
  have F1 := Lib.hid f1
  have M1 := Lib.hid m1
  have HZ := Lib.hid hz
  have cv1 := Lib.run_convert_bytes_const (P := Try.prog) w1 35 5 #[.int .u8 100, .int .u8 101] 2 2 Try.underlying35 Try.underlying5
  clear f1 m1 hz
  have i1 : Inv (newV 2) := new_inv (by omega) (by omega)
  go_wp2_with fail
  have hb1 : Byt (fun _ => True) (w1.alloc (.cells #[.int .u8 100, .int .u8 101] 5 (2, 3))) (.slice (some ⟨w1.heap.size, 0, none⟩) 2 2) [100, 101] := byt_lit w1 [100, 101] (by decide) _
  refine (put_any (M1.out.fr ((Fr.refl [] w1).alloc _)) i1 3 _ [100, 101] (fun _ => True) hb1 (by decide)).mono ?_
  rw [known_1]
  rintro e w2 ⟨S2, kv2, A2, c2, rfl, x2, by2, m2, f2, n2⟩
  have M2 := Lib.hid m2
  have N2 := Lib.hid n2
  have hw1 := HZ.out
  have F2 : Hid (Fr [] w w2) := Lib.hid ((F1.out.trans ((Fr.refl [] w1).alloc _) (by simp)).trans f2 (by
    intro x hx
    simp [ob, Value.ownBlock] at hx
    subst hx
    exact .inr (Nat.le_refl _)))
  have hlen2 : ([] : List Int).length = 0 := rfl
  clear cv1 hb1 x2 by2 m2 f2 n2 hw1
  have cv2 := Lib.run_convert_bytes_const (P := Try.prog) w2 35 5 #[.int .u8 97, .int .u8 98, .int .u8 99] 3 3 Try.underlying35 Try.underlying5
  go_wp2_with fail
  have hb2 : Byt (fun _ => True) (w2.alloc (.cells #[.int .u8 97, .int .u8 98, .int .u8 99] 5 (3, 4))) (.slice (some ⟨w2.heap.size, 0, none⟩) 3 3) [97, 98, 99] := byt_lit w2 [97, 98, 99] (by decide) _
  have i2 : Inv (⟨2, 0, [⟨3, [100, 101]⟩], none⟩ : Hp) := by have := put_inv i1 3 [100, 101]; rwa [known_1] at this
  refine (put_any (M2.out.fr ((Fr.refl [] w2).alloc _)) i2 0 _ [97, 98, 99] (fun _ => True) hb2 (by decide)).mono ?_
  rw [known_2]
  rintro e w3 ⟨S3, kv3, A3, c3, rfl, x3, by3, m3, f3, n3⟩
  have M3 := Lib.hid m3
  have By3 := Lib.hid by3
  have F3 : Hid (Fr [] w w3) := Lib.hid ((F2.out.trans ((Fr.refl [] w2).alloc _) (by simp)).trans f3 (by
    intro x hx
    rcases List.mem_cons.1 hx with rfl | hx
    · exact .inr (Nat.le_refl _)
    · rcases N2.out x (mem_ob.1 hx) with h | h
      · simp [Value.ownBlock] at h
      · exact .inr (by have := HZ.out; simp at h; omega)))
  have i3 : Inv (⟨2, 5, [], none⟩ : Hp) := by have := put_inv i2 0 [97, 98, 99]; rwa [known_2] at this
  clear cv2 hb2 x3 by3 m3 f3 n3
  go_wp2_with fail
  refine (end_any M3.out i3 5).mono ?_
  rw [known_3]
  rintro e w4 ⟨S4, rfl, x4, m4, f4⟩
  have M4 := Lib.hid m4
  have By4 := Lib.hid (By3.out.fr f4 (by simpa using M3.out.off))
  have F4 : Hid (Fr [] w w4) := Lib.hid (F3.out.trans f4 (by simp))
  have q1 : (convert 35 9 (.slice A3 5 c3)).run Try.prog w4 = .ok (.string { data := #[97, 98, 99, 100, 101] }) w4 := By4.out.string (P := Try.prog) 35 5 Try.underlying35 Try.underlying5 9 Try.underlying9
  clear x4 m4 f4
  go_wp2_with (first
    | (go_at_call 19; refine (done_hp M4.out).mono ?_; rintro e w5 ⟨rfl, f5⟩; have M5 := Lib.hid (M4.out.fr f5); have F5 := Lib.hid f5; clear f5)
    | (go_at_call 17; refine (next_hp M5.out).mono ?_; rintro e w6 ⟨rfl, rfl⟩))
  go_ret
  exact ⟨rfl, F4.out.trans F5.out (by simp)⟩
end Go.Proofs.Ytdlmhadcaagokaa
