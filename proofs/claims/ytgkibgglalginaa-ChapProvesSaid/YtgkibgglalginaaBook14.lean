/- SamePackets of lists of one packet: the program's alone. -/
import Derived.Test.YtgkibgglalginaaAlive14
namespace Go.Proofs.Ytgkibgglalginaa
open Go.RowKit
set_option linter.unusedVariables false
variable {w : World} {g h : Nat}

theorem sameopt_nil (w : World) : Calls Try.prog 34 #[.slice none 0 0, .slice none 0 0] w fun e w' => e = .returned (.bool true) ∧ w' = w := by
  go_enter Try.func34, Try.ntmps34
  go_wp2
  refine wp_loop_rounds 1 ?_
  rw [rounds_succ]; go_wp2
  go_ret
  exact ⟨rfl, rfl⟩

set_option maxRecDepth 100000 in
set_option maxHeartbeats 1000000 in
theorem samep_one (c i : Int) (d : List UInt8) (k1 k2 : Nat) (hP : Pk w g c i d) (hQ : Pk w h c i d) :
    Calls Try.prog 24 #[.slice (some ⟨g, 0, none⟩) 1 k1, .slice (some ⟨h, 0, none⟩) 1 k2] w fun e w' => e = .returned (.bool true) ∧ Fr [] w w' := by
  obtain ⟨p0, p1, p2, p3⟩ := hP
  obtain ⟨q0, q1, q2, q3⟩ := hQ
  have HN := Lib.hid fun N => sameopt_nil (w.drewN N)
  go_enter Try.func24, Try.ntmps24
  go_wp2
  refine wp_loop_rounds 2 ?_
  rw [rounds_succ]; go_wp2
  go_quiet ((go_at_call 34; exact Calls.quiet_of_same (HN.out _)))
  go_wp2
  rw [rounds_succ]; go_wp2
  go_ret
  exact ⟨rfl, (Fr.refl _ _).drewN _⟩
end Go.Proofs.Ytgkibgglalginaa
