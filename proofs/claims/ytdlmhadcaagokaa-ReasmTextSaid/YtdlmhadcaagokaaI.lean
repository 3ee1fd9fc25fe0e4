import Derived.Test.YtdlmhadcaagokaaH
import Derived.Test.YtdlmhadcaagokaaC
import Derived.Deep.DeepCutAuto
namespace Go.Proofs.Ytdlmhadcaagokaa
open Go.RowKit Go.Deep

theorem held_hp {S : Nat → Prop} {g : Nat} {kv : Value} {h : Hp} {w : World} (m : HP S w g kv h) (hi : Inv h) : Calls Try.prog 20 #[ptr g] w fun e w' => e = .returned (.int .i64 (sumV h.kept)) ∧ Fr [] w w' := by
  obtain ⟨ev, L, m⟩ := m
  obtain ⟨c0, c1, c2, c3, c4⟩ := m.cells
  have hL : L.length ≤ 64 := by have h1 := hi.len; have h2 := hi.m1; rw [m.len] at h1; omega
  have hb : ∀ k, 0 ≤ sumV ((L.map (·.1)).take k) ∧ sumV ((L.map (·.1)).take k) ≤ 4096 := fun k => by
    have h1 := sum_bd ((L.map (·.1)).take k) (fun p hp => (hi.pc p (by rw [m.kept]; exact List.mem_of_mem_take hp)).2.2.2)
    have h2 : ((L.map (·.1)).take k).length ≤ 64 := by simp; omega
    omega
  have hpc : ∀ x ∈ L, x.1.d.length ≤ 64 := fun x hx => (hi.pc x.1 (by rw [m.kept]; exact List.mem_map.2 ⟨x, hx, rfl⟩)).2.2.2
  have K := Lib.hid m.kp
  have HB := Lib.hid hb
  have HPC := Lib.hid hpc
  rw [m.kept]
  obtain ⟨KA, KC, rfl, hKn, hKc⟩ := m.kp.form
  clear hb m hpc hi
  go_enter Try.func20, Try.ntmps20
  go_wp2_with (go_at_call 26; refine (none_hp c4).mono ?_; rintro e w' ⟨rfl, rfl⟩)
  go_loopw [3, 13] (fun s3 s13 wr => ∃ k : Nat, k ≤ L.length ∧ s13 = .int .i64 k ∧ s3 = .int .i64 (sumV ((L.map (·.1)).take k)) ∧ Fr [] w wr) (fun _ s13 _ => L.length - (intOf s13).toNat)
  case atStart => exact ⟨0, by omega, rfl, rfl, Fr.refl _ _⟩
  case round =>
    obtain ⟨k, hk, rfl, rfl, fk⟩ := hrel
    obtain ⟨hb0, hb1⟩ := HB.out k
    by_cases hlt : k < L.length
    · obtain ⟨b, _, x, hv, hx, d0, d1, hby⟩ := (K.out.fr fk (by simp) (by simp)).at_ hlt
      injection hv with hv _ _
      subst hv
      obtain ⟨A, c, hxv, _, _⟩ := hby.form
      rw [hxv] at d1
      have hlb := World.block_lt_of_cell? wr _ d0
      dsimp only at hlb
      have hx64 := HPC.out x (List.mem_of_getElem? hx)
      have hs : sumV ((L.map (·.1)).take (k + 1)) = sumV ((L.map (·.1)).take k) + x.1.d.length := by
        rw [List.take_add_one]
        have : (L.map (·.1))[k]? = some x.1 := by simp [hx]
        rw [this]
        exact sum_snoc _ _
      have HS := Lib.hid hs
      clear hs hx hxv hby
      generalize sumV ((L.map (·.1)).take k) = sm at *
      go_wp2
      go_roundw
      case rel => exact ⟨k + 1, by omega, by go_num, by rw [HS.out], fk.alloc _⟩
      case measure => simp [intOf]; omega
    · obtain rfl : L.length = k := by omega
      go_wp2
      go_ret
      exact ⟨ret1_eq (by rw [List.take_of_length_le (by simp)]), fk⟩
theorem take_i64 (l : List Int) (k : Nat) (x : Int) (h : l[k]? = some x) : (l.take (k + 1)).map (Value.int .i64) = (l.take k).map (Value.int .i64) ++ [.int .i64 x] := by
  rw [List.take_add_one, h]; simp
def PRel (w : World) (L : List (Pc × Value)) (s3 s13 : Value) (wr : World) : Prop :=
  ∃ (k : Nat) (A : Option Addr) (c : Nat), k ≤ L.length ∧ s13 = .int .i64 k ∧ s3 = .slice A k c ∧ wr.ownsRow 0 2 1 (.slice A k c) k ((((L.map (·.1)).map Pc.at_).take k).map (Value.int .i64)) ∧ (∀ b, (Value.slice A k c).ownBlock = some b → w.heap.size ≤ b) ∧ Fr [] w wr
/-- The slice of the places, newly made. -/
theorem pieces_hp {S : Nat → Prop} {g : Nat} {kv : Value} {h : Hp} {w : World} (m : HP S w g kv h) (hi : Inv h) : Calls Try.prog 14 #[ptr g] w fun e w' =>
    ∃ A c, e = .returned (.slice A h.kept.length c) ∧ w'.ownsRow 0 2 1 (.slice A h.kept.length c) h.kept.length ((h.kept.map Pc.at_).map (Value.int .i64)) ∧ Fr [] w w' := by
  obtain ⟨ev, L, m⟩ := m
  obtain ⟨c0, c1, c2, c3, c4⟩ := m.cells
  have hL : L.length ≤ 64 := by have h1 := hi.len; have h2 := hi.m1; rw [m.len] at h1; omega
  have K := Lib.hid m.kp
  rw [m.len, m.kept]
  obtain ⟨KA, KC, rfl, hKn, hKc⟩ := m.kp.form
  obtain ⟨i0, hi0, hz0, hz1, hz2⟩ := info_parts info_i64
  clear m hi
  go_enter Try.func14, Try.ntmps14
  go_wp2_with (go_at_call 26; refine (none_hp c4).mono ?_; rintro e w' ⟨rfl, rfl⟩)
  go_loopw [3, 13] (fun s3 s13 wr => PRel w L s3 s13 wr) (fun _ s13 _ => L.length - (intOf s13).toNat)
  case atStart => exact ⟨0, none, 0, by omega, rfl, rfl, World.ownsRow_nil _ _ _ _, by simp [Value.ownBlock], Fr.refl _ _⟩
  case round =>
    obtain ⟨k, A, c, hk, rfl, rfl, own, hown, fk⟩ := hrel
    by_cases hlt : k < L.length
    · obtain ⟨b, _, x, hv, hx, d0, d1, hby⟩ := (K.out.fr fk (by simp) (by simp)).at_ hlt
      injection hv with hv _ _
      subst hv
      obtain ⟨A1, c1', hxv, _, _⟩ := hby.form
      rw [hxv] at d1
      have hlb := World.block_lt_of_cell? wr _ d0
      dsimp only at hlb
      have hg : ((L.map (·.1)).map Pc.at_)[k]? = some x.1.at_ := by simp [hx]
      have htk := take_i64 _ k _ hg
      have HTK := Lib.hid htk
      have Own := Lib.hid own
      have HOwn := Lib.hid hown
      have Fk := Lib.hid fk
      have hlm : k + 1 ≤ maxLen := by unfold maxLen; omega
      have hlb8 : (k + 1) * 8 ≤ 140737488355328 := by omega
      have HLM := Lib.hid hlm
      have HLB := Lib.hid hlb8
      have f1 : Fr [] wr ((wr.alloc (bxp x.1.at_ (.slice A1 x.1.d.length c1'))).alloc (.cells #[.int .i64 x.1.at_] 2)) := ((Fr.refl _ _).alloc _).alloc _
      have hsrc : Sl (fun _ => True) ((wr.alloc (bxp x.1.at_ (.slice A1 x.1.d.length c1'))).alloc (.cells #[.int .i64 x.1.at_] 2)) 1 (.slice (some ⟨wr.heap.size + 1, 0, none⟩) 1 1) 1 [.int .i64 x.1.at_] := by
        have := Sl.of_own (S := fun _ => True) (World.ownsRow_lit (base := 0) (e := 2) (size := 1) (wr.alloc (bxp x.1.at_ (.slice A1 x.1.d.length c1'))) #[.int .i64 x.1.at_] 1 (Nat.zero_le _) (by unfold maxLen; omega) rfl) (fun _ _ => trivial)
        simpa using this
      have HS := Lib.hid hsrc
      have F1 := Lib.hid f1
      clear htk own hown fk hlm hlb8 f1 hsrc hx hxv hby hg
      go_wp2_with (at_builtin; refine wpList_append_sl _ rfl (.tmp 17) (.tmp 20) 39 rfl 2 i0 (.int .i64 0) 1 8 Try.underlying39 hi0 hz0 hz1 hz2 rfl (by decide) (.slice A k c) k ((((L.map (·.1)).map Pc.at_).take k).map (Value.int .i64)) (by rfl) (own_fr Own.out F1.out (by simp)) (fun _ => True) (.slice (some ⟨wr.heap.size + 1, 0, none⟩) 1 1) 1 [.int .i64 x.1.at_] (by rfl) HS.out (by simp [Value.oneCell']) HLM.out HLB.out (k + 1) rfl ?_; intro A' c' w' h4 h5 h6; have H4 := Lib.hid h4; have H5 := Lib.hid h5; have H6 := Lib.hid h6; clear h4 h5 h6)
      go_roundw
      case rel =>
        have hz := Fk.out.size
        refine ⟨_, _, _, ?_, rfl, rfl, rfl⟩
        refine ⟨k + 1, A', c', by omega, by go_num, rfl, by rw [HTK.out]; exact H4.out, fun b hb => ?_, (Fk.out.trans F1.out (by simp)).trans H5.out (fun x hx => .inr (HOwn.out x (mem_ob.1 hx)))⟩
        rcases H6.out b hb with h7 | h7
        · exact HOwn.out b h7
        · have := h7.1
          simp at this
          omega
      case measure => simp [intOf]; omega
    · obtain rfl : L.length = k := by omega
      go_wp2
      go_ret
      refine ⟨A, c, rfl, ?_, fk⟩
      rwa [List.take_of_length_le (by simp)] at own
end Go.Proofs.Ytdlmhadcaagokaa
