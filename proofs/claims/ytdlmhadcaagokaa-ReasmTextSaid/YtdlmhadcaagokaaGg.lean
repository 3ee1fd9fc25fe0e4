import Derived.Test.YtdlmhadcaagokaaGa
import Derived.Test.YtdlmhadcaagokaaGb
import Derived.Test.YtdlmhadcaagokaaGc
import Derived.Test.YtdlmhadcaagokaaGd
import Derived.Test.YtdlmhadcaagokaaGe
import Derived.Test.YtdlmhadcaagokaaGf
namespace Go.Proofs.Ytdlmhadcaagokaa
open Go.RowKit

theorem put_any {S : Nat → Prop} {w : World} {g : Nat} {kv : Value} {h : Hp} (m : HP S w g kv h) (hi : Inv h) (a : Int) (dv : Value) (d : List Int) (T : Nat → Prop) (hd : Byt T w dv d) (hl : d.length ≤ 1000000) :
    Calls Try.prog 16 #[ptr g, .int .i64 a, dv] w (PutPost S w g kv (putV h a d).1 (putV h a d).2.1 (putV h a d).2.2) := by
  have hlen : h.kept.length ≤ 64 := by have := hi.len; have := hi.m1; omega
  unfold putV
  by_cases h0 : a < 0
  · rw [if_pos (.inl h0)]
    exact put_arg0 m a dv d T hd hl h0
  by_cases h1 : 4611686018427387904 < a
  · rw [if_pos (.inr (.inl h1))]
    exact put_arg1 m a dv d T hd hl h1
  by_cases h2 : d.length < 1
  · rw [if_pos (.inr (.inr (.inl h2)))]
    exact put_arg2 m a dv d T hd hl (by omega) (by omega) h2
  by_cases h3 : 64 < d.length
  · rw [if_pos (.inr (.inr (.inr h3)))]
    exact put_arg3 m a dv d T hd hl (by omega) (by omega) (by omega) h3
  rw [if_neg (by omega)]
  by_cases h4 : past h.fin (a + d.length) = true
  · rw [if_pos h4]
    exact put_past m a dv d T hd hl (by omega) (by omega) (by omega) (by omega) h4
  rw [if_neg h4]
  have h4' : past h.fin (a + d.length) = false := by simpa using h4
  by_cases h5 : a + d.length ≤ h.next
  · rw [if_pos h5]
    exact put_low m a dv d T hd hl (by omega) (by omega) (by omega) (by omega) h4' h5
  rw [if_neg h5]
  by_cases h6 : a ≤ h.next
  · rw [if_pos h6]
    exact put_tell m a dv d T hd hl (by omega) (by omega) (by omega) (by omega) h4' h6 (by omega) hi
  rw [if_neg h6]
  by_cases h7 : h.kept.any (longer a d.length) = true
  · rw [if_pos h7]
    exact put_longer m a dv d T hd hl (by omega) (by omega) (by omega) (by omega) h4' (by omega) h7 hlen
  rw [if_neg h7]
  have h7' : h.kept.any (longer a d.length) = false := by simpa using h7
  by_cases h8 : h.most ≤ h.kept.length
  · rw [if_pos h8]
    exact put_full m a dv d T hd hl (by omega) (by omega) (by omega) (by omega) h4' (by omega) h7' hlen h8
  rw [if_neg h8]
  exact put_app m a dv d T hd hl (by omega) (by omega) (by omega) (by omega) h4' (by omega) h7' hlen (by omega)
end Go.Proofs.Ytdlmhadcaagokaa
