import Derived.Test.YtdlmhadcaagokaaDb
import Derived.Deep.DeepCutAuto
namespace Go.Proofs.Ytdlmhadcaagokaa
open Go.RowKit Go.Deep

theorem fin_next {h : Hp} (hi : Inv h) : (finI h.fin == h.next) = isFin h := by
  have hn := hi.n0
  unfold isFin
  cases hf : h.fin with
  | none => simp [finI]; omega
  | some a => simp [finI]
def LSameRel (w w1 : World) (ar : Array Value) (n : Nat) (s6 : Value) (wr : World) : Prop := ∃ k : Nat, k ≤ n ∧ s6 = .int .i64 k ∧ Fr [] w1 wr
set_option maxRecDepth 100000 in
set_option maxHeartbeats 4000000 in
theorem lsame {S : Nat → Prop} {w : World} {g : Nat} {kvi kvr : Value} {h : Hp} (t : Two S w g kvi kvr h) : Calls Try.prog 13 #[ptr g, agH h kvr] w fun e w' => e = .returned (.bool true) ∧ Fr [] w w' := by
  obtain ⟨hi, m, L, r⟩ := t
  obtain ⟨KA, KC, rfl, hKn, hKc⟩ := r.kp.form
  have hkl : h.kept.length = L.length := by rw [r.kept, List.length_map]
  have hL : L.length ≤ 64 := by have := hi.len; have := hi.m1; omega
  have hpc : ∀ x ∈ L, x.1.d.length ≤ 64 := fun x hx => (hi.pc x.1 (by rw [r.kept]; exact List.mem_map.2 ⟨x, hx, rfl⟩)).2.2.2
  have f0 : Fr [] w (w.alloc (.cells (arH h (.slice KA L.length KC)) 31)) := (Fr.refl _ _).alloc _
  have b0 := Blk.new w 31 (arH h (.slice KA L.length KC))
  have HP0 := Lib.hid (pieces_hp (m.fr f0) hi)
  have hfn := fin_next hi
  have HI := Lib.hid hi
  have M := Lib.hid m
  have R := Lib.hid r
  have F0 := Lib.hid f0
  have B0 := Lib.hid b0
  have HPC := Lib.hid hpc
  have HKL := Lib.hid hkl
  have HK := Lib.hid r.kept
  clear m r f0 b0 hpc hi hkl
  go_enter Try.func13, Try.ntmps13
  go_wp2_with fail
  refine HP0.out.mono ?_
  rintro e w1 ⟨A1, c1, rfl, own1, f1⟩
  have d0 := B0.out.fr f1 (by simp)
  obtain ⟨e0, e1, e2, e3⟩ := cells4 d0
  have F1 := Lib.hid (F0.out.trans f1 (by simp))
  have M1 := Lib.hid (M.out.fr F1.out)
  have HN : Hid (∀ p : Grew w1, Calls Try.prog 17 #[ptr g] p.W fun e w'' => e = .returned (.int .i64 h.next) ∧ ∃ q : Grew w1, w'' = q.W) := Lib.hid (fun p => grew_same (next_hp (M1.out.fr p.fr)))
  have HH : Hid (∀ p : Grew w1, Calls Try.prog 20 #[ptr g] p.W fun e w'' => e = .returned (.int .i64 (sumV h.kept)) ∧ ∃ q : Grew w1, w'' = q.W) := Lib.hid (fun p => grew_call (held_hp (M1.out.fr p.fr) HI.out))
  have HD : Hid (∀ p : Grew w1, Calls Try.prog 19 #[ptr g] p.W fun e w'' => e = .returned (.bool (isFin h)) ∧ ∃ q : Grew w1, w'' = q.W) := Lib.hid (fun p => grew_call (done_hp (M1.out.fr p.fr)))
  have HR : Hid (∀ p : Grew w1, Calls Try.prog 25 #[agH h (.slice KA L.length KC)] p.W fun e w'' => e = .returned (.int .i64 (sumV h.kept)) ∧ ∃ q : Grew w1, w'' = q.W) := Lib.hid (fun p => by
    have := rheld S p.W h.most h.next (finI h.fin) (.slice KA L.length KC) L (R.out.kp.fr (F1.out.trans p.fr (by simp)) (by simp) (by simp)) hL HPC.out
    rw [← R.out.kept] at this
    exact grew_call this)
  have x0 := Grew.cell e0
  have x1 := Grew.cell e1
  have x2 := Grew.cell e2
  have x3 := Grew.cell e3
  rw [HKL.out] at own1
  have Own := Lib.hid own1
  have D0 := Lib.hid d0
  clear f1 own1 d0
  rw [HKL.out]
  generalize hbb : isFin h = bb at *
  go_wp2_with fail
  refine wp_region_grew (by kernel_rfl) (by kernel_rfl) ?_
  repeat (go_big_quiet_step (first | (go_at_call 17; exact HN.out _) | (go_at_call 20; exact HH.out _) | (go_at_call 19; exact HD.out _) | (go_at_call 25; exact HR.out _)))
  refine wpQuiet_nil ?_
  intro W1 f2
  have F2 := Lib.hid f2
  clear f2 x0 x1 x2 x3 e0 e1 e2 e3
  go_wp2_with fail
  go_loopw [6] (fun s6 wr => LSameRel w w1 (arH h (.slice KA L.length KC)) L.length s6 wr) (fun s6 _ => L.length - (intOf s6).toNat)
  case atStart => exact ⟨0, by omega, rfl, F2.out⟩
  case round =>
    obtain ⟨k, hk, rfl, fk⟩ := hrel
    have own := own_fr Own.out fk (by simp)
    obtain ⟨e0, e1, e2, e3⟩ := cells4 (D0.out.fr fk (by simp))
    have Fk := Lib.hid fk
    by_cases hlt : k < L.length
    · obtain ⟨b, _, x, hv, hx, c0, c1', hby⟩ := (R.out.kp.fr (F1.out.trans fk (by simp)) (by simp) (by simp)).at_ hlt
      injection hv with hv _ hc
      subst hv hc
      have hsl := Sl.of_own (S := fun _ => True) own (fun _ _ => trivial)
      obtain ⟨_, A', c', hv, hnc, hcm, hx2⟩ := hsl
      injection hv with hv _ hc
      subst hv hc
      obtain ⟨pb, po, rfl, _, hcell⟩ := hx2 (by omega)
      have p0 := hcell k (.int .i64 x.1.at_) (by rw [HK.out]; simp [hx])
      have x0 := Grew.cell e2
      have x1 := Grew.cell c0
      have x2 := Grew.cell p0
      clear hcell hx hby fk own c1' hx2
      go_upto_region 7 with fail
      refine wp_region_grew (by kernel_rfl) (by kernel_rfl) ?_
      repeat (go_big_quiet_step (fail))
      refine wpQuiet_nil ?_
      intro W2 f3
      go_wp2_with fail
      go_roundw
      case rel => exact ⟨k + 1, by omega, by go_num, Fk.out.trans f3 (by simp)⟩
      case measure => simp [intOf]; omega
    · obtain rfl : L.length = k := by omega
      clear fk own
      go_wp2
      go_ret
      exact ⟨rfl, F1.out.trans Fk.out (by simp)⟩
end Go.Proofs.Ytdlmhadcaagokaa
