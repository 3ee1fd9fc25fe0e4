import Derived.Test.YthhageigbonoaaaI
namespace Go.Proofs.Ythhageigbonoaaa
open Go.RowKit Go.Deep

def eqV (x y : Wn) : Bool := x.a == y.a && (x.s == y.s && (x.m == y.m && x.l == y.l))
theorem eqV_same (x : Wn) : eqV x x = true := by simp [eqV]
theorem eqV_eql33 (x y : Wn) (w : World) : (binOp .eql 33 (agW x) (agW y)).run Try.prog w = .ok (.bool (eqV x y)) w := eql33 x y w

theorem five {w : World} {g : Nat} {x : Wn} (h : Win w g x true) :
    w.cell? ⟨g, 0, none⟩ = some (.int .i64 x.a) ∧ w.cell? ⟨g, 1, none⟩ = some (.int .i64 x.s) ∧ w.cell? ⟨g, 2, none⟩ = some (.int .i64 x.m) ∧ w.cell? ⟨g, 3, none⟩ = some (.int .i64 x.l) ∧ w.cell? ⟨g, 4, none⟩ = some (.bool true) :=
  ⟨by simpa using Blk.cell h 0, by simpa using Blk.cell h 1, by simpa using Blk.cell h 2, by simpa using Blk.cell h 3, by simpa using Blk.cell h 4⟩

theorem same_win (g g' : Nat) (x x' : Wn) (w : World) (m : Win w g x true) (m' : Win w g' x' true) : Calls Try.prog 19 #[ptr g, ptr g'] w fun e w' => e = .returned (.bool (eqV x x')) ∧ Fr [] w w' := by
  obtain ⟨c0, c1, c2, c3, c4⟩ := five m
  obtain ⟨d0, d1, d2, d3, d4⟩ := five m'
  have e1 := eqV_eql33 x x'
  have e2 := eqg33
  go_enter Try.func19, Try.ntmps19
  go_wp2_with fail
  refine (none_win _ _ _ _ m).mono ?_
  rintro e w' ⟨rfl, rfl⟩
  go_wp2_with fail
  refine (none_win _ _ _ _ m').mono ?_
  rintro e w' ⟨rfl, rfl⟩
  go_wp2_with fail
  go_quiet (fail)
  go_wp2
  go_ret
  exact ⟨rfl, (Fr.refl _ _).drewN _⟩

/-- The places behind the first k acts. -/
def runV (K N R : Nat → Int) (E : Nat → Bool) : Nat → Wn → Wn
  | 0, x => x
  | k + 1, x => doesV (runV K N R E k x) (K k) (N k) (R k) (E k)
theorem run_inv (K N R : Nat → Int) (E : Nat → Bool) (B : Int) (x : Wn) (h : Inv B x) : ∀ k : Nat, Inv (B + 65536 * k) (runV K N R E k x)
  | 0 => by simpa [runV] using h
  | k + 1 => by
    have := (does_inv _ (K k) (N k) (R k) (E k) _ (run_inv K N R E B x h k)).1
    rw [show B + 65536 * ((k + 1 : Nat) : Int) = B + 65536 * (k : Int) + 65536 from by push_cast; omega]
    exact this
end Go.Proofs.Ythhageigbonoaaa
