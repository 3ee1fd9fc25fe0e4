import Derived.Test.YtdlmhadcaagokaaC
namespace Go.Proofs.Ytdlmhadcaagokaa
open Go.RowKit

abbrev hpa (m n : Int) (kv ev : Value) : Array Value := #[.int .i64 m, .int .i64 n, kv, ev, .bool true]

theorem add_lit' (b o k : Nat) : (⟨b, o, none⟩ : Addr).add k = ⟨b, o + k, none⟩ := by unfold Addr.add; split <;> simp_all

set_option maxHeartbeats 1000000 in
theorem take_any (S : Nat → Prop) (w : World) (g : Nat) (m n : Int) (kv ev : Value) (out : List Int) (oA : Option Addr) (oc : Nat) (p : Pc) (dv : Value)
    (hb : Blk w g 58 (hpa m n kv ev)) (ho : w.ownsRow 0 5 1 (.slice oA out.length oc) out.length (byts out)) (hp : Byt S w dv p.d) (hS : ∀ b, S b → b < w.heap.size)
    (h0 : 0 ≤ p.at_) (h1 : p.at_ ≤ n) (h2 : n ≤ 4611686018427387968) (h3 : p.d.length ≤ 64) (h4 : out.length ≤ 100000) :
    Calls Try.prog 29 #[ptr g, .slice oA out.length oc, agp p.at_ dv] w fun e w' => ∃ A c, e = .returned (.slice A (out ++ (takeV n p).1).length c) ∧
      w'.ownsRow 0 5 1 (.slice A (out ++ (takeV n p).1).length c) (out ++ (takeV n p).1).length (byts (out ++ (takeV n p).1)) ∧
      Fr (g :: ob (.slice oA out.length oc)) w w' ∧ Blk w' g 58 (hpa m (takeV n p).2 kv ev) ∧
      (∀ b, (Value.slice A (out ++ (takeV n p).1).length c).ownBlock = some b → (Value.slice oA out.length oc).ownBlock = some b ∨ (w.heap.size ≤ b ∧ b < w'.heap.size)) := by
  have c1 : w.cell? ⟨g, 1, none⟩ = some (.int .i64 n) := by simpa using hb.cell 1
  have z1 := hb.frozen 1
  have hg := hb.lt
  obtain ⟨A, c, rfl, hnc, hcm⟩ := hp.form
  unfold takeV Pc.beh
  by_cases hle : p.at_ + (p.d.length : Int) ≤ n
  · rw [if_pos hle]
    have H := Lib.hid ho
    have HB := Lib.hid hb
    clear ho hb
    go_enter Try.func29, Try.ntmps29
    go_wp2_with fail
    have bn := Blk.new w 67 #[.int .i64 p.at_, .slice A p.d.length c]
    have q0 := Grew.cell (w := w.alloc (bxp p.at_ (.slice A p.d.length c))) (a := ⟨w.heap.size, 0, none⟩) (bn.cell 0)
    have q1 := Grew.cell (w := w.alloc (bxp p.at_ (.slice A p.d.length c))) (a := ⟨w.heap.size, 1, none⟩) (bn.cell 1)
    have q2 := Grew.cell (cell_al c1 (bxp p.at_ (.slice A p.d.length c)))
    refine wp_region_grew (by kernel_rfl) (by kernel_rfl) ?_
    repeat (go_big_quiet_step ((go_at_call 28; exact grew_call (behind_fr p.at_ A p.d.length c _ h0 (by omega) (by omega)))))
    refine wpQuiet_nil ?_
    intro W1 f1
    go_wp2_with fail
    go_ret
    have F : Fr [] w W1 := ((Fr.refl _ _).alloc _).trans f1 (by simp)
    refine ⟨oA, oc, by simp, ?_, F.mono (by simp), HB.out.fr F (by simp), ?_⟩
    · simpa using own_fr H.out F (by simp)
    · intro b hb
      exact .inl (by simpa using hb)
  · rw [if_neg hle]
    obtain ⟨b, o, rfl, hSb, _⟩ := hp.at_ (k := 0) (by omega)
    obtain ⟨k, hk⟩ : ∃ k : Nat, n - p.at_ = (k : Int) := ⟨(n - p.at_).toNat, by omega⟩
    have hkn : k < p.d.length := by omega
    have H := Lib.hid ho
    have HB := Lib.hid hb
    have HP := Lib.hid hp
    have hck : ¬ c = k := by omega
    clear ho hb hp
    go_enter Try.func29, Try.ntmps29
    go_wp2_with fail
    have bn := Blk.new w 67 #[.int .i64 p.at_, .slice (some ⟨b, o, none⟩) p.d.length c]
    have q0 := Grew.cell (w := w.alloc (bxp p.at_ (.slice (some ⟨b, o, none⟩) p.d.length c))) (a := ⟨w.heap.size, 0, none⟩) (bn.cell 0)
    have q1 := Grew.cell (w := w.alloc (bxp p.at_ (.slice (some ⟨b, o, none⟩) p.d.length c))) (a := ⟨w.heap.size, 1, none⟩) (bn.cell 1)
    have q2 := Grew.cell (cell_al c1 (bxp p.at_ (.slice (some ⟨b, o, none⟩) p.d.length c)))
    have hle' : n < p.at_ + (p.d.length : Int) := by omega
    refine wp_region_grew (by kernel_rfl) (by kernel_rfl) ?_
    repeat (go_big_quiet_step ((go_at_call 28; exact grew_call (behind_fr p.at_ _ p.d.length c _ h0 (by omega) (by omega)))))
    refine wpQuiet_nil ?_
    intro W1 f1
    have e0 := fr_cell f1 (bn.cell 0)
    have e1 := fr_cell f1 (bn.cell 1)
    have e2 := fr_cell f1 (cell_al c1 (bxp p.at_ (.slice (some ⟨b, o, none⟩) p.d.length c)))
    have F1 : Fr [] w W1 := ((Fr.refl _ _).alloc _).trans f1 (by simp)
    have Hs := Lib.hid F1.size
    have Hbn := Lib.hid bn
    have Hf1 := Lib.hid f1
    clear q0 q1 q2 bn f1
    go_wp2_with fail
    have hw : IntKind.i64.wrap (k : Int) = (k : Int) := IntWalk.i64_in _ (by omega)
    have hk0 : (0 : Int) ≤ (k : Int) := by omega
    have hk1 : (k : Int) ≤ (p.d.length : Int) := by omega
    have hk2 : (p.d.length : Int) ≤ (c : Int) := by omega
    go_still_tail 11, (by kernel_rfl)
    change wpList Try.prog _ _ _ _ W1.drew
    obtain ⟨i0, hi, hz0, hz1, hz2⟩ := info_parts info_u8
    have hcut := (HP.out.fr F1 (by simp)).cut (k := k) (by omega)
    rw [if_neg hck] at hcut
    have hob : ∀ x, (Value.slice oA out.length oc).ownBlock = some x → x ≠ w.heap.size ∧ x ≠ g := fun x hx => by
      have h5 := own_lt H.out hx
      refine ⟨by omega, ?_⟩
      rintro rfl
      exact own_ne H.out HB.out (by decide) hx
    have hl : out.length + (p.d.drop k).length ≤ maxLen := by unfold maxLen; simp; omega
    have hl2 : (out.length + (p.d.drop k).length) * 1 ≤ 140737488355328 := by simp; omega
    have ho1 := own_fr H.out F1 (by simp)
    have hbw : b < w.heap.size := hS b hSb
    have hbo : (Value.slice oA out.length oc).ownBlock ≠ some b ∨ True := .inr trivial
    have Hl := Lib.hid hl
    have Hl2 := Lib.hid hl2
    have Hcut := Lib.hid hcut
    have Hob := Lib.hid hob
    clear hl hl2 hcut hob
    simp only [Option.map_some] at Hcut
    obtain ⟨N, hN⟩ : ∃ N, out.length + (p.d.drop k).length = N := ⟨_, rfl⟩
    have HN := Lib.hid hN
    clear hN
    refine wpList_append_sl _ rfl (.tmp 15) (.tmp 25) 35 rfl 5 i0 (.int .u8 0) 1 1 Try.underlying35 hi hz0 hz1 hz2 rfl (by decide) (.slice oA out.length oc) out.length (byts out) rfl ho1 S _ (p.d.drop k).length (byts (p.d.drop k)) rfl ?_ (byts_one _) Hl.out Hl2.out N HN.out ?_
    · have := Hcut.out.fr ((Fr.refl [] W1).drew) (by simp)
      rw [add_lit'] at this
      exact this
    intro A' c' W2 h5 h6 h7
    rw [byts_app] at h5
    have f2 : Fr (ob (.slice oA out.length oc)) W1 W2 := ((Fr.refl (ob (.slice oA out.length oc)) W1).drew).trans h6 (fun x hx => .inl hx)
    have bn2 := (Hbn.out.fr Hf1.out (by simp)).fr f2 (fun hm => (Hob.out _ (mem_ob.1 hm)).1 rfl)
    have hb2 := (HB.out.fr F1 (by simp)).fr f2 (fun hm => (Hob.out _ (mem_ob.1 hm)).2 rfl)
    have F2 : Fr (g :: ob (.slice oA out.length oc)) w W2 := (F1.mono (by simp)).trans f2 (fun x hx => .inl (List.mem_cons_of_mem _ hx))
    have m0 : W2.cell? ⟨w.heap.size, 0, none⟩ = some (.int .i64 p.at_) := bn2.cell 0
    have m1 : W2.cell? ⟨w.heap.size, 1, none⟩ = some (.slice (some ⟨b, o, none⟩) p.d.length c) := bn2.cell 1
    have m2 : W2.cell? ⟨g, 1, none⟩ = some (.int .i64 n) := hb2.cell 1
    have m3 : W2.frozen? ⟨g, 1, none⟩ = false := hb2.frozen 1
    have m4 := hb2.lt
    have H5 := Lib.hid h5
    have H7 := Lib.hid h7
    have HB2 := Lib.hid hb2
    have HF2 := Lib.hid F2
    clear h5 h6 h7 hb2 F2 f2 bn2 F1 ho1 hw hk0 hk1 hk2 e0 e1 e2 z1 c1
    go_wp2_with fail
    refine (behind_any p.at_ _ p.d.length c _ h0 (by omega) (by omega)).mono ?_
    rintro e w3 ⟨rfl, rfl⟩
    go_wp2_with fail
    go_ret
    have ek : (n - p.at_).toNat = k := by omega
    dsimp only
    rw [ek]
    have hN2 : (out ++ p.d.drop k).length = N := by rw [List.length_append]; exact HN.out
    rw [hN2]
    have F3 := (HF2.out.setCell (p := ⟨g, 1, none⟩) (.inl (by simp)) (.int .i64 (p.at_ + p.d.length))).alloc (bxp p.at_ (.slice (some ⟨b, o, none⟩) p.d.length c))
    have hgb : ∀ x, (Value.slice A' N c').ownBlock = some x → x ≠ g := fun x hx => by
      rintro rfl
      exact own_ne H5.out HB2.out (by decide) hx
    refine ⟨A', c', rfl, ?_, F3, ?_, fun x hx => ?_⟩
    · exact own_fr (own_fr H5.out ((Fr.refl [g] W2).setCell (p := ⟨g, 1, none⟩) (.inl (by simp)) _) (fun x hx => by simpa using hgb x hx)) ((Fr.refl [] _).alloc _) (by simp)
    · have := (HB2.out.set_ 1 (.int .i64 (p.at_ + p.d.length))).alloc (bxp p.at_ (.slice (some ⟨b, o, none⟩) p.d.length c))
      simpa using this
    · rcases H7.out x hx with h8 | h8
      · exact .inl h8
      · refine .inr ⟨?_, ?_⟩
        · have := Hs.out
          have h9 : W1.heap.size ≤ x := h8.1
          omega
        · have h9 : x < W2.heap.size := h8.2
          simp [World.setCell]
          omega
end Go.Proofs.Ytdlmhadcaagokaa
