import Derived.Test.YtdlmhadcaagokaaH
import Derived.Test.YtdlmhadcaagokaaC
import Derived.Deep.DeepCutAuto
namespace Go.Proofs.Ytdlmhadcaagokaa
open Go.RowKit Go.Deep

def IdxPost (w : World) (p : Pc → Bool) (l : List Pc) (e : Ending) (w' : World) : Prop := ∃ r : Int, e = .returned (.int .i64 r) ∧ decide (0 ≤ r) = l.any p ∧ Fr [] w w'
theorem any_take (p : Pc → Bool) (l : List Pc) (k : Nat) (x : Pc) (h : l[k]? = some x) : (l.take (k + 1)).any p = ((l.take k).any p || p x) := by
  rw [List.take_add_one, h]; simp
theorem index_end (S : Nat → Prop) (w : World) (ab : Nat) (a : Int) (d0 : w.cell? ⟨ab, 0, none⟩ = some (.int .i64 a)) (kv : Value) (L : List (Pc × Value)) (h : Kp 67 S w kv L) (hl : L.length ≤ 64)
    (hpc : ∀ x ∈ L, 0 ≤ x.1.at_ ∧ x.1.at_ ≤ 4611686018427387904 ∧ 1 ≤ x.1.d.length ∧ x.1.d.length ≤ 64) :
    Calls Try.prog 46 #[kv, .func (.func 35) #[] #[.pointer (some ⟨ab, 0, none⟩)]] w (IdxPost w (over a) (L.map (·.1))) := by
  obtain ⟨KA, KC, rfl, hKn, hKc⟩ := h.form
  have K := Lib.hid h
  have HPC := Lib.hid hpc
  clear h hpc
  go_enter Try.func46, Try.ntmps46
  go_wp2
  go_loopw [8] (fun s8 wr => ∃ k : Nat, k ≤ L.length ∧ s8 = .int .i64 k ∧ ((L.map (·.1)).take k).any (over a) = false ∧ Fr [] w wr) (fun s8 _ => L.length - (intOf s8).toNat)
  case atStart => exact ⟨0, by omega, rfl, rfl, Fr.refl _ _⟩
  case round =>
    obtain ⟨k, hk, rfl, hany, fk⟩ := hrel
    have HA := Lib.hid hany
    clear hany
    by_cases hlt : k < L.length
    · obtain ⟨b, _, x, hv, hx, c0, c1, hby⟩ := (K.out.fr fk (by simp) (by simp)).at_ hlt
      injection hv with hv _ hc
      subst hv hc
      obtain ⟨A, c, hxv, _, _⟩ := hby.form
      rw [hxv] at c1
      have hp := HPC.out x (List.mem_of_getElem? hx)
      have hg : (L.map (·.1))[k]? = some x.1 := by simp [hx]
      have hcall := e1_any x.1.at_ a A x.1.d.length c ab wr (fr_cell fk d0) hp.1 (by omega) (by omega)
      have hov : decide (a < x.1.at_ + (x.1.d.length : Int)) = over a x.1 := rfl
      rw [hov] at hcall
      have HC := Lib.hid hcall
      have HG := Lib.hid hg
      have Fk := Lib.hid fk
      clear hcall hov hg hx hxv hby fk hp
      cases ho : over a x.1
      · rw [ho] at HC
        have HO := Lib.hid ho
        clear ho
        go_wp2_with fail
        refine HC.out.mono ?_
        rintro e w1 ⟨rfl, f1⟩
        go_wp2_with fail
        go_roundw
        case rel => exact ⟨k + 1, by omega, by go_num, by rw [any_take _ _ _ _ HG.out, HA.out, HO.out]; rfl, Fk.out.trans f1 (by simp)⟩
        case measure => simp [intOf]; omega
      · rw [ho] at HC
        have HO := Lib.hid ho
        clear ho
        go_wp2_with fail
        refine HC.out.mono ?_
        rintro e w1 ⟨rfl, f1⟩
        go_wp2_with fail
        go_ret
        refine ⟨k, rfl, ?_, Fk.out.trans f1 (by simp)⟩
        have h1 : (L.map (·.1)).any (over a) = true := List.any_eq_true.2 ⟨x.1, List.mem_of_getElem? HG.out, HO.out⟩
        rw [h1]
        simp
    · obtain rfl : L.length = k := by omega
      go_wp2_with fail
      go_ret
      refine ⟨-1, rfl, ?_, fk⟩
      have := HA.out
      rw [List.take_of_length_le (by simp)] at this
      rw [this]
      rfl
theorem contains_end (S : Nat → Prop) (w : World) (ab : Nat) (a : Int) (d0 : w.cell? ⟨ab, 0, none⟩ = some (.int .i64 a)) (kv : Value) (L : List (Pc × Value)) (h : Kp 67 S w kv L) (hl : L.length ≤ 64)
    (hpc : ∀ x ∈ L, 0 ≤ x.1.at_ ∧ x.1.at_ ≤ 4611686018427387904 ∧ 1 ≤ x.1.d.length ∧ x.1.d.length ≤ 64) :
    Calls Try.prog 34 #[kv, .func (.func 35) #[] #[.pointer (some ⟨ab, 0, none⟩)]] w fun e w' => e = .returned (.bool ((L.map (·.1)).any (over a))) ∧ Fr [] w w' := by
  have hi := index_end S w ab a d0 kv L h hl hpc
  have HI := Lib.hid hi
  obtain ⟨KA, KC, rfl, _, _⟩ := h.form
  clear hi h hpc d0
  go_enter Try.func34, Try.ntmps34
  go_wp2_with fail
  refine HI.out.mono ?_
  rintro e w1 ⟨r, rfl, hr, f1⟩
  have HR := Lib.hid hr
  clear hr
  go_wp2_with fail
  go_ret
  exact ⟨retb_eq HR.out, f1⟩
end Go.Proofs.Ytdlmhadcaagokaa
