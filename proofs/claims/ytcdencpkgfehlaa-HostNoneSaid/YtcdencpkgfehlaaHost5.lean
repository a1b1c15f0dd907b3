/- host: Start, Tick. -/
import Derived.Test.YtcdencpkgfehlaaHost4
namespace Go.Proofs.Ytcdencpkgfehlaa
open Go.RowKit
set_option linter.unusedVariables false
section
variable {w : World} {g : Nat} {h : Hs} {ck : Value}
set_option maxRecDepth 100000 in
set_option maxHeartbeats 4000000 in
theorem start_yes (hk : HsOk h) (hw : h.wt ≠ 0) (hst : h.st = 0 ∨ h.st = 4) (hB : Blk w g (hsC h ck) 92) :
    Calls Try.prog 15 #[.pointer (some ⟨g, 0, none⟩)] w (SayP w g h (entered h 1) (.slice none 0 0)) := by
  have d10 : w.cell? ⟨g, 10, none⟩ = some (.int .i64 h.st) := hB.c 10 _ rfl
  have NO := Lib.hid (hnone_any hB)
  have hwt : (h.wt == 0) = false := by simpa using hw
  rw [hwt] at NO
  have EN := Lib.hid (enter_off 1 (by decide) (by decide) hB)
  have HK := Lib.hid (show HsOk (entered h 1) from hk)
  clear hwt hw hB hk
  rcases hst with hst | hst
  all_goals
    rw [hst] at d10
    clear hst
    go_enter Try.func15, Try.ntmps15
    go_wp2_with fail
    refine NO.out.mono ?_
    rintro e w1 ⟨rfl, rfl⟩
    go_wp2_with fail
    refine EN.out.mono ?_
    rintro e w2 ⟨rfl, hB2, hF2⟩
    have SA := Lib.hid (say_asked (h := entered h 1) HK.out rfl hB2)
    have HF2 := Lib.hid hF2
    clear EN NO hB2 hF2
    go_wp2_with fail
    refine SA.out.mono ?_
    rintro e w3 ⟨⟨q, rfl, hq, hN, hF3⟩, hB3⟩
    have HX : Hid (SayP w1 g h (entered h 1) (.slice none 0 0) (.returned (.slice (some ⟨q, 0, none⟩) 1 1)) w3) := Lib.hid ⟨⟨q, rfl, Nat.le_trans HF2.out.size hq, hN, HF2.out.trans hF3⟩, hB3⟩
    clear SA hq hN hF3 hB3
    go_wp2_with fail
    go_ret
    exact HX.out
set_option maxRecDepth 100000 in
theorem start_no (hw : h.wt ≠ 0) (h0 : h.st ≠ 0) (h4 : h.st ≠ 4) (hB : Blk w g (hsC h ck) 92) :
    Calls Try.prog 15 #[.pointer (some ⟨g, 0, none⟩)] w fun e w' => e = .returned (.slice none 0 0) ∧ w' = w := by
  have d10 : w.cell? ⟨g, 10, none⟩ = some (.int .i64 h.st) := hB.c 10 _ rfl
  have NO := Lib.hid (hnone_any hB)
  have hwt : (h.wt == 0) = false := by simpa using hw
  rw [hwt] at NO
  have n0 : (h.st != 0) = true := by simpa using h0
  have n4 : (h.st != 4) = true := by simpa using h4
  clear hwt hw hB
  go_enter Try.func15, Try.ntmps15
  go_wp2_with fail
  refine NO.out.mono ?_
  rintro e w1 ⟨rfl, rfl⟩
  go_wp2_with fail
  go_ret
  exact ⟨rfl, rfl⟩
end
end Go.Proofs.Ytcdencpkgfehlaa
