import Derived.Test.YtdlmhadcaagokaaD
import Derived.Laws.OwnMore
namespace Go.Proofs.Ytdlmhadcaagokaa
open Go.RowKit

theorem own_beyond {g c n : Nat} {e : TypeId} {size : Nat} {xs : List Value} : ∀ (zs : List Value) (j : Nat) (w : World), w.ownsRow 0 e size (.slice (some ⟨g, 0, none⟩) n c) n xs → n * size ≤ j → (w.setCells g j zs).ownsRow 0 e size (.slice (some ⟨g, 0, none⟩) n c) n xs
  | [], _, _, h, _ => h
  | z :: zs, j, w, h, hj => by
    rw [World.setCells]
    refine own_beyond zs (j + 1) _ ?_ (by omega)
    have := h.stored j z
    rw [List.set_eq_of_length_le (by have := h.1; omega)] at this
    exact this.1
theorem own_take {w : World} {g c n k : Nat} {e : TypeId} {size : Nat} {xs : List Value} (h : w.ownsRow 0 e size (.slice (some ⟨g, 0, none⟩) n c) n xs) (hk : k ≤ n) : w.ownsRow 0 e size (.slice (some ⟨g, 0, none⟩) k c) k (xs.take (k * size)) := by
  rcases h.2 with ⟨h', _⟩ | ⟨g', cap', cur, h', hb, hg, hnc, hcm, hs, ht⟩
  · simp at h'
  · simp only [Value.slice.injEq, Option.some.injEq, Addr.mk.injEq, and_true, true_and] at h'
    obtain ⟨rfl, rfl⟩ := h'
    have hm : k * size ≤ n * size := Nat.mul_le_mul_right _ hk
    exact ⟨by rw [List.length_take, h.1]; exact Nat.min_eq_left hm, .inr ⟨g, c, cur, rfl, hb, hg, by omega, hcm, hs, by rw [← ht, List.take_take, Nat.min_eq_left hm]⟩⟩
theorem own_there {w : World} {g c n : Nat} {e : TypeId} {size : Nat} {xs : List Value} (h : w.ownsRow 0 e size (.slice (some ⟨g, 0, none⟩) n c) n xs) (j : Nat) (hj : j < c * size) : (w.cell? ⟨g, j, none⟩).isSome = true := by
  rcases h.2 with ⟨h', _⟩ | ⟨g', cap', cur, h', _, hg, _, _, hs, _⟩
  · simp at h'
  · simp only [Value.slice.injEq, Option.some.injEq, Addr.mk.injEq, and_true, true_and] at h'
    obtain ⟨rfl, rfl⟩ := h'
    rw [cell_of_row w g j cur e (0, 0) hg]
    simp [show j < cur.size by omega]
theorem run_clear_last {P : Program} {w : World} (t ty e : TypeId) (z : Value) (ht : P.underlying t = some (.slice e)) (hv : ∀ w, (zeroValue e).run P w = .ok z w) (zs : List Value) (hz : (Builtin.zeroCells z.cells 1).toList = zs) (hzl : zs.length = 2) (h1 : ∀ u ∈ zs, u.oneCell' = true)
    {g c n : Nat} {xs : List Value} (h : w.ownsRow 0 e 2 (.slice (some ⟨g, 0, none⟩) n c) n xs) (hc : n + 1 ≤ c) (c' : Nat) :
    ∃ w', (Builtin.clear_ #[t] ty #[.slice (some ⟨g, n * 2, none⟩) 1 c']).run P w = .ok (.tuple #[]) w' ∧ w'.ownsRow 0 e 2 (.slice (some ⟨g, 0, none⟩) n c) n xs ∧ Fr [g] w w' := by
  have hst := run_storeCells_cells (P := P) g (n * 2) zs 0 w (fun j hj => own_there h _ (by omega)) (fun j _ => h.frozenAt _) h1
  simp only [Nat.add_zero] at hst
  refine ⟨w.setCells g (n * 2) zs, ?_, own_beyond zs (n * 2) w h (Nat.le_refl _), setCells_fr g zs (n * 2) w⟩
  simp [Builtin.clear_, run_underlying ht, hv, hz, hst, Result.andThen]

set_option maxHeartbeats 1000000 in
theorem del_any (S : Nat → Prop) (w : World) (kb c i m : Nat) (L : List (Pc × Value)) (hL : L.length = i + 1 + m) (h : Kp 67 S w (.slice (some ⟨kb, 0, none⟩) L.length c) L) (hk : ¬ S kb) (hm : L.length ≤ 1000000) :
    Calls Try.prog 45 #[.slice (some ⟨kb, 0, none⟩) (i + 1 + m) c, .int .i64 i, .int .i64 (i + 1)] w fun e w' => e = .returned (.slice (some ⟨kb, 0, none⟩) (i + m) c) ∧
      Kp 67 S w' (.slice (some ⟨kb, 0, none⟩) (i + m) c) (L.eraseIdx i) ∧ Fr [kb] w w' := by
  obtain ⟨i0, hi, hz0, hz1, hz2⟩ := info_parts info_pc
  obtain ⟨hnc, hcm⟩ : i + 1 + m ≤ c ∧ c ≤ maxLen := by
    obtain ⟨A, c', hv, h1, h2⟩ := h.form
    injection hv with _ _ hc
    subst hc
    omega
  have hzv : ∀ w, (zeroValue 67).run Try.prog w = .ok (.agg #[.int .i64 0, .slice none 0 0]) w := fun w => by kernel_rfl
  have hn1 : i + 1 + m ≤ 1000000 := by omega
  have ho := h.own
  rw [hL] at ho
  have hpre : w.ownsRow 0 67 2 (.slice (some ⟨kb, 0, none⟩) i c) i ((pcs L).take (i * 2)) := own_take ho (by omega)
  have HL := Lib.hid hL
  have H := Lib.hid h
  have Hpre := Lib.hid hpre
  have Ho := Lib.hid ho
  unfold maxLen at hcm
  clear hL h hpre ho
  by_cases hcj : c = i + 1
  · obtain rfl : m = 0 := by omega
    subst hcj
    simp only [Nat.add_zero, Int.natCast_zero, Int.add_zero] at *
    go_enter Try.func45, Try.ntmps45
    go_wp2_with fail
    have k0 : (0 : Int) ≤ (i : Int) := by omega
    have k1' : (i : Int) ≤ (i : Int) + 1 := by omega
    have k1'' : (i : Int) + 1 ≤ (i : Int) + 1 := by omega
    have k1 : (i : Int) ≤ ((i + 1 : Nat) : Int) := by omega
    have k2 : (0 : Int) ≤ (i : Int) + 1 := by omega
    have k3 : ((i : Int) + 1) ≤ (i : Int) + 1 := by omega
    have k4 : (i : Int) + 1 ≤ ((i + 1 : Nat) : Int) := by omega
    have k5 : ((i : Int) + 1).toNat = i + 1 := by omega
    have k6 : i ≤ i + 1 := by omega
    have k7 : i + 1 ≤ i + 1 := by omega
    go_still_tail 6, (by kernel_rfl)
    have hone : ∀ u ∈ (pcs L).drop ((i + 1) * 2), u.oneCell' = true := fun u hu => H.out.one u (List.mem_of_mem_drop hu)
    have hnl : ((pcs L).drop ((i + 1) * 2)).length = 0 * 2 := by rw [List.length_drop, pcs_len, HL.out]; omega
    refine wpList_append_fits_any w.drew rfl (.tmp 22) (.tmp 25) 55 rfl 0 67 i0 2 Try.underlying55 hi hz1 kb i (i + 1) ((pcs L).take (i * 2)) rfl Hpre.out (some ⟨kb, 0, none⟩) 0 0 ((pcs L).drop ((i + 1) * 2)) rfl hnl (by simp) ?_ hone (by omega) ?_
    · intro ad he j u hj
      have h0 : ((pcs L).drop ((i + 1) * 2)).length = 0 := by omega
      rw [List.eq_nil_of_length_eq_zero h0] at hj
      simp at hj
    intro w2 h5 h6
    have ed : (pcs L).take (i * 2) ++ (pcs L).drop ((i + 1) * 2) = pcs (L.eraseIdx i) := by
      rw [pcs_take, pcs_drop, pcs_app, List.eraseIdx_eq_take_drop_succ]
    rw [ed] at h5
    simp only [Nat.add_zero] at h5
    have f2 : Fr [kb] w w2 := ⟨h6.os, h6.tape, h6.output, h6.size, fun x hx hn => h6.block x hx (by simpa using hn)⟩
    obtain ⟨w3, hrun, h7, h8⟩ := run_clear_last (P := Try.prog) 55 0 67 (.agg #[.int .i64 0, .slice none 0 0]) Try.underlying55 hzv [.int .i64 0, .slice none 0 0] (by kernel_rfl) rfl (by decide) h5 (by omega) 1
    have H7 := Lib.hid h7
    have F3 := Lib.hid (f2.trans h8 (by simp))
    have Hone := Lib.hid hone
    have Hnl := Lib.hid hnl
    have Hed := Lib.hid ed
    clear h5 h6 f2 hone hnl ed h7 h8
    have k8 : i ≤ i + 1 := by omega
    have k9 : (i : Int) ≤ (i : Int) + 1 := by omega
    have k10 : i + 1 - (i) = 1 := by omega
    have k11 : ((i : Int) + 1).toNat = i + 1 := by omega
    have k12 : ((i : Int)).toNat = i := by omega
    have k13 : ¬ i + 1 = i := by omega
    go_wp2_with fail
    go_ret
    exact ⟨rfl, ⟨by rw [show (L.eraseIdx i).length = i by rw [List.length_eraseIdx]; have := HL.out; split <;> omega]; exact H7.out, fun x hx => (H.out.byt x (List.mem_of_mem_eraseIdx hx)).fr F3.out (by simpa using hk)⟩, F3.out⟩
  · go_enter Try.func45, Try.ntmps45
    go_wp2_with fail
    have k0 : (0 : Int) ≤ (i : Int) := by omega
    have k1 : (i : Int) ≤ (c : Int) := by omega
    have k2 : (0 : Int) ≤ (i : Int) + 1 := by omega
    have k3 : ((i : Int) + 1) ≤ (i : Int) + 1 + (m : Int) := by omega
    have k4 : (i : Int) + 1 + (m : Int) ≤ (c : Int) := by omega
    have k5 : ((i : Int) + 1).toNat = i + 1 := by omega
    have k6 : i ≤ c := by omega
    have k7 : i + 1 ≤ i + 1 + m := by omega
    go_still_tail 6, (by kernel_rfl)
    have hone : ∀ u ∈ (pcs L).drop ((i + 1) * 2), u.oneCell' = true := fun u hu => H.out.one u (List.mem_of_mem_drop hu)
    have hnl : ((pcs L).drop ((i + 1) * 2)).length = m * 2 := by rw [List.length_drop, pcs_len, HL.out]; omega
    refine wpList_append_fits_any w.drew rfl (.tmp 22) (.tmp 25) 55 rfl 0 67 i0 2 Try.underlying55 hi hz1 kb i c ((pcs L).take (i * 2)) rfl Hpre.out (some ⟨kb, (i + 1) * 2, none⟩) m (c - (i + 1)) ((pcs L).drop ((i + 1) * 2)) rfl hnl (by simp) ?_ hone (by omega) ?_
    · intro ad he j u hj
      injection he with he
      subst he
      have h3 := Sl.of_own (S := fun _ => True) Ho.out (fun _ _ => trivial)
      obtain ⟨_, A', c', hv, _, _, hu⟩ := h3
      obtain ⟨b', o', hA, _, hcl⟩ := hu (by omega)
      subst hA
      injection hv with hv _ _
      injection hv with hv
      injection hv with hb ho _
      subst hb ho
      rw [add_lit']
      rw [List.getElem?_drop] at hj
      have := hcl _ u hj
      rwa [Nat.zero_add] at this
    intro w2 h5 h6
    have ed : (pcs L).take (i * 2) ++ (pcs L).drop ((i + 1) * 2) = pcs (L.eraseIdx i) := by
      rw [pcs_take, pcs_drop, pcs_app, List.eraseIdx_eq_take_drop_succ]
    rw [ed] at h5
    have f2 : Fr [kb] w w2 := ⟨h6.os, h6.tape, h6.output, h6.size, fun x hx hn => h6.block x hx (by simpa using hn)⟩
    obtain ⟨w3, hrun, h7, h8⟩ := run_clear_last (P := Try.prog) 55 0 67 (.agg #[.int .i64 0, .slice none 0 0]) Try.underlying55 hzv [.int .i64 0, .slice none 0 0] (by kernel_rfl) rfl (by decide) h5 (by omega) (c - (i + m))
    have H7 := Lib.hid h7
    have F3 := Lib.hid (f2.trans h8 (by simp))
    have Hone := Lib.hid hone
    have Hnl := Lib.hid hnl
    have Hed := Lib.hid ed
    clear h5 h6 f2 hone hnl ed h7 h8
    have k8 : i + m ≤ c := by omega
    have k9 : (i : Int) + (m : Int) ≤ (i : Int) + 1 + (m : Int) := by omega
    have k10 : i + 1 + m - (i + m) = 1 := by omega
    have k11 : ((i : Int) + 1 + (m : Int)).toNat = i + 1 + m := by omega
    have k12 : ((i : Int) + (m : Int)).toNat = i + m := by omega
    have k13 : ¬ c = i + m := by omega
    go_wp2_with fail
    go_ret
    exact ⟨rfl, ⟨by rw [show (L.eraseIdx i).length = i + m by rw [List.length_eraseIdx]; have := HL.out; split <;> omega]; exact H7.out, fun x hx => (H.out.byt x (List.mem_of_mem_eraseIdx hx)).fr F3.out (by simpa using hk)⟩, F3.out⟩
end Go.Proofs.Ytdlmhadcaagokaa
