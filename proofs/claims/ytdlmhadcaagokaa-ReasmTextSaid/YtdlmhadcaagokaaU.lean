import Derived.Test.YtdlmhadcaagokaaR
import Derived.Test.YtdlmhadcaagokaaT
namespace Go.Proofs.Ytdlmhadcaagokaa
open Go.RowKit

theorem rput_any {S : Nat → Prop} {w : World} {kv : Value} {h : Hp} {L : List (Pc × Value)} (r : RPx S w kv h L) (hi : Inv h) (a : Int) (dv : Value) (d : List Int) (T : Nat → Prop) (hd : Byt T w dv d) (hl : d.length ≤ 1000000) :
    Calls Try.prog 23 #[agH h kv, .int .i64 a, dv] w (RPutPost S w (putV h a d).1 (putV h a d).2.1 (putV h a d).2.2) := by
  have hlen : h.kept.length ≤ 64 := by have := hi.len; have := hi.m1; omega
  have hkl : h.kept.length = L.length := by rw [r.kept, List.length_map]
  have hL : L.length ≤ 64 := by omega
  unfold putV
  by_cases h0 : a < 0
  · rw [if_pos (.inl h0)]
    exact rput_arg0 r a dv d T hd hl hL h0
  by_cases h1 : 4611686018427387904 < a
  · rw [if_pos (.inr (.inl h1))]
    exact rput_arg1 r a dv d T hd hl hL h1
  by_cases h2 : d.length < 1
  · rw [if_pos (.inr (.inr (.inl h2)))]
    exact rput_arg2 r a dv d T hd hl hL (by omega) (by omega) h2
  by_cases h3 : 64 < d.length
  · rw [if_pos (.inr (.inr (.inr h3)))]
    exact rput_arg3 r a dv d T hd hl hL (by omega) (by omega) (by omega) h3
  rw [if_neg (by omega)]
  by_cases h4 : past h.fin (a + d.length) = true
  · rw [if_pos h4]
    obtain ⟨e, he, hlt⟩ : ∃ e, h.fin = some e ∧ e < a + d.length := by
      cases hf : h.fin with
      | none => simp [past, hf] at h4
      | some e => exact ⟨e, rfl, by simpa [past, hf] using h4⟩
    have hf := hi.fin e he
    have ef : finI h.fin = e := by rw [he]; rfl
    exact rput_past r a dv d T hd hl hL (by omega) (by omega) (by omega) (by omega) (by omega) (by omega)
  rw [if_neg h4]
  have h4' : finI h.fin < 0 ∨ (0 ≤ finI h.fin ∧ a + (d.length : Int) ≤ finI h.fin) := by
    cases hf : h.fin with
    | none => exact .inl (by simp [finI])
    | some e =>
      have := hi.fin e hf
      refine .inr ⟨by simp only [finI]; omega, ?_⟩
      simp [past, hf] at h4
      simp only [finI]
      omega
  by_cases h5 : a + d.length ≤ h.next
  · rw [if_pos h5]
    exact rput_low r a dv d T hd hl hL (by omega) (by omega) (by omega) (by omega) h4' h5
  rw [if_neg h5]
  by_cases h6 : a ≤ h.next
  · rw [if_pos h6]
    exact rput_tell r hi a dv d T hd (by omega) (by omega) (by omega) (by omega) h4' (by omega) h6 _ rfl
  rw [if_neg h6]
  by_cases h7 : h.kept.any (longer a d.length) = true
  · rw [if_pos h7]
    exact rput_longer r a dv d T hd hl hL (by omega) (by omega) (by omega) (by omega) h4' (by omega) h7
  rw [if_neg h7]
  have h7' : h.kept.any (longer a d.length) = false := by simpa using h7
  by_cases h8 : h.most ≤ h.kept.length
  · rw [if_pos h8]
    exact rput_full r a dv d T hd hl hL (by omega) (by omega) (by omega) (by omega) h4' (by omega) h7' (by omega)
  rw [if_neg h8]
  exact rput_app r a dv d T hd hl hL (by omega) (by omega) (by omega) (by omega) h4' (by omega) h7' (by omega)
end Go.Proofs.Ytdlmhadcaagokaa
