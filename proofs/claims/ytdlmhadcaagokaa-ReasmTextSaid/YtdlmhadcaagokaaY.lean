import Derived.Test.YtdlmhadcaagokaaX
import Derived.Deep.DeepCutAuto
namespace Go.Proofs.Ytdlmhadcaagokaa
open Go.RowKit Go.Deep

def FewPost (n : Nat) (f : Nat → PAct) (w : World) (e : Ending) (w' : World) : Prop := ∃ b : Bool, e = .returned (.bool b) ∧ w = w' ∧ (b = true → n ≤ 60 ∧ ∀ i, i < n → (f i).d.length ≤ 100)
def FewRel (n : Nat) (f : Nat → PAct) (w : World) (s3 : Value) (wr : World) : Prop := ∃ k : Nat, k ≤ n ∧ s3 = .int .i64 k ∧ w = wr ∧ ∀ i, i < k → (f i).d.length ≤ 100
set_option maxHeartbeats 1000000 in
theorem few_any (w : World) (B : Nat) (A : Option Addr) (n c : Nat) (f : Nat → PAct) (h : Acts w B A n f) (hn : n ≤ maxLen) : Calls Try.prog 8 #[.slice A n c] w (FewPost n f w) := by
  have H := Lib.hid h
  unfold maxLen at hn
  clear h
  by_cases h60 : 60 < n
  · go_enter Try.func8, Try.ntmps8
    go_wp2
    go_ret
    exact ⟨false, rfl, rfl, by simp⟩
  · go_enter Try.func8, Try.ntmps8
    go_wp2
    go_loopw [3] (fun s3 wr => FewRel n f w s3 wr) (fun s3 _ => n - (intOf s3).toNat)
    case atStart => exact ⟨0, by omega, rfl, rfl, by omega⟩
    case round =>
      obtain ⟨k, hk, rfl, rfl, hd⟩ := hrel
      have HD := Lib.hid hd
      clear hd
      by_cases hlt : k < n
      · obtain ⟨b, o, rfl, _, c0, c1, c2, c3, hby⟩ := H.out k hlt
        obtain ⟨dA, dc, hdv, hdn, hdc⟩ := hby.form
        rw [hdv] at c2
        clear hby hdv
        by_cases h1 : 100 < (f k).d.length
        · go_wp2
          go_ret
          exact ⟨false, rfl, rfl, by simp⟩
        · go_wp2
          go_roundw
          case rel => exact ⟨k + 1, by omega, by go_num, rfl, fun i hi => by
            rcases Nat.lt_or_ge i k with h' | h'
            · exact HD.out i h'
            · have : i = k := by omega
              subst this
              omega⟩
          case measure => simp [intOf]; omega
      · obtain rfl : n = k := by omega
        go_wp2
        go_ret
        exact ⟨true, rfl, rfl, fun _ => ⟨by omega, HD.out⟩⟩
end Go.Proofs.Ytdlmhadcaagokaa
