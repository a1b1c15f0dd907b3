import Derived.Test.YtmdgilhjiooalaaFcs
import Derived.Test.YtmdgilhjiooalaaClone
namespace Go.Proofs.Ytmdgilhjiooalaa
open Go.RowKit
set_option linter.unusedVariables false

def sealL (l : List UInt8) : List UInt8 := l ++ bytesOf [(fcs l : Int) % 256, (fcs l : Int) / 256]
theorem sealL_length (l : List UInt8) : (sealL l).length = l.length + 2 := by simp [sealL, bytesOf]
theorem fcs_le (l : List UInt8) : fcs l ≤ 65535 := by unfold fcs; omega

theorem seal_any (l : List UInt8) (w : World) (hl : l.length ≤ 1000000) :
    Calls Try.prog 19 #[.string (B l)] w fun e w' => e = .returned (.string (B (sealL l))) ∧ Fr [] w w' := by
  obtain ⟨x, hx⟩ : ∃ x : Int, (fcs l : Int) = x := ⟨_, rfl⟩
  have x1 : x ≤ 65535 := by have := fcs_le l; omega
  have x0 : 0 ≤ x := by omega
  have hs : sealL l = l ++ bytesOf [x % 256, x / 256] := by rw [← hx]; rfl
  have hcv := run_str (P := Try.prog) (w := w.alloc (.cells #[.int .u8 (x % 256), .int .u8 (x / 256)] 5)) (cap := 2) Try.underlying35 Try.underlying5 Try.underlying9 [x % 256, x / 256] (Blk.new _ _ _) 2 rfl
  have hb : (bytesOf [x % 256, x / 256]).length = 2 := rfl
  have Hx := Lib.hid hx
  have Hs := Lib.hid hs
  clear hx hs
  go_enter Try.func19, Try.ntmps19
  go_wp2_with fail
  refine (fcs_any l _ (by omega)).mono ?_
  rintro e w1 ⟨rfl, rfl⟩
  rw [Hx.out]
  go_wp2
  go_ret
  exact ⟨rstr Hs.out.symm, (Fr.refl _ _).alloc _⟩

theorem rseal_any (l : List UInt8) (w : World) (hl : l.length ≤ 1000000) :
    Calls Try.prog 24 #[.string (B l)] w fun e w' => e = .returned (.string (B (sealL l))) ∧ Fr [] w w' := by
  obtain ⟨x, hx⟩ : ∃ x : Int, (fcs l : Int) = x := ⟨_, rfl⟩
  have x1 : x ≤ 65535 := by have := fcs_le l; omega
  have x0 : 0 ≤ x := by omega
  have hs : sealL l = l ++ bytesOf [x % 256, x / 256] := by rw [← hx]; rfl
  have hcv := run_str (P := Try.prog) (w := w.alloc (.cells #[.int .u8 (x % 256), .int .u8 (x / 256)] 5)) (cap := 2) Try.underlying35 Try.underlying5 Try.underlying9 [x % 256, x / 256] (Blk.new _ _ _) 2 rfl
  have hb : (bytesOf [x % 256, x / 256]).length = 2 := rfl
  have Hx := Lib.hid hx
  have Hs := Lib.hid hs
  clear hx hs
  go_enter Try.func24, Try.ntmps24
  go_wp2_with fail
  refine (rfcs_any l _ (by omega)).mono ?_
  rintro e w1 ⟨rfl, rfl⟩
  rw [Hx.out]
  go_wp2
  go_ret
  exact ⟨rstr Hs.out.symm, (Fr.refl _ _).alloc _⟩

/-- what is unsealed, and the error's number -/
def unsE (l : List UInt8) : Int := if l.length < 2 then 5 else if sealL (l.take (l.length - 2)) = l then 0 else 6
def unsL (l : List UInt8) : List UInt8 := if unsE l = 0 then l.take (l.length - 2) else []

theorem unseal_any (l : List UInt8) (w : World) (hl : l.length ≤ 1000000) :
    Calls Try.prog 20 #[.string (B l)] w fun e w' => e = .returned (.tuple #[.string (B (unsL l)), .int .i64 (unsE l)]) ∧ Fr [] w w' := by
  by_cases h2 : l.length < 2
  · have e : unsE l = 5 := by unfold unsE; rw [if_pos h2]
    have e1 : unsL l = [] := by unfold unsL; rw [e]; rfl
    rw [e, e1]; clear e e1
    go_enter Try.func20, Try.ntmps20
    go_wp2
    go_ret2
    exact ⟨rfl, Fr.refl _ _⟩
  · obtain ⟨m, hm⟩ : ∃ m, l.take (l.length - 2) = m := ⟨_, rfl⟩
    have hml : m.length ≤ 1000000 := by rw [← hm, List.length_take]; omega
    by_cases hs : sealL m = l
    · have e : unsE l = 0 := by unfold unsE; rw [if_neg h2, hm, if_pos hs]
      have e1 : unsL l = m := by unfold unsL; rw [e, if_pos rfl, hm]
      have hb : (sealL m == l) = true := by rw [beq_iff_eq]; exact hs
      have Hm := Lib.hid hm
      rw [e, e1]; clear e e1 hs hm
      go_enter Try.func20, Try.ntmps20
      go_wp2_with fail
      rw [Hm.out]
      refine (seal_any m _ hml).mono ?_
      rintro e w1 ⟨rfl, hF⟩
      go_wp2_with fail
      refine (clone_any m _ (by omega)).mono ?_
      rintro e w2 ⟨rfl, hF2⟩
      go_wp2
      go_ret2
      exact ⟨rfl, hF.trans hF2⟩
    · have e : unsE l = 6 := by unfold unsE; rw [if_neg h2, hm, if_neg hs]
      have e1 : unsL l = [] := by unfold unsL; rw [e]; rfl
      have hb : (sealL m == l) = false := by rw [beq_eq_false_iff_ne]; exact hs
      have Hm := Lib.hid hm
      rw [e, e1]; clear e e1 hs hm
      go_enter Try.func20, Try.ntmps20
      go_wp2_with fail
      rw [Hm.out]
      refine (seal_any m _ hml).mono ?_
      rintro e w1 ⟨rfl, hF⟩
      go_wp2
      go_ret2
      exact ⟨rfl, hF⟩

theorem runseal_any (l : List UInt8) (w : World) (hl : l.length ≤ 1000000) :
    Calls Try.prog 21 #[.string (B l)] w fun e w' => e = .returned (.tuple #[.string (B (unsL l)), .int .i64 (unsE l)]) ∧ Fr [] w w' := by
  by_cases h2 : l.length < 2
  · have e : unsE l = 5 := by unfold unsE; rw [if_pos h2]
    have e1 : unsL l = [] := by unfold unsL; rw [e]; rfl
    rw [e, e1]; clear e e1
    go_enter Try.func21, Try.ntmps21
    go_wp2
    go_ret2
    exact ⟨rfl, Fr.refl _ _⟩
  · obtain ⟨m, hm⟩ : ∃ m, l.take (l.length - 2) = m := ⟨_, rfl⟩
    have hml : m.length ≤ 1000000 := by rw [← hm, List.length_take]; omega
    by_cases hs : sealL m = l
    · have e : unsE l = 0 := by unfold unsE; rw [if_neg h2, hm, if_pos hs]
      have e1 : unsL l = m := by unfold unsL; rw [e, if_pos rfl, hm]
      have hb : (sealL m == l) = true := by rw [beq_iff_eq]; exact hs
      have Hm := Lib.hid hm
      rw [e, e1]; clear e e1 hs hm
      go_enter Try.func21, Try.ntmps21
      go_wp2_with fail
      rw [Hm.out]
      refine (rseal_any m _ hml).mono ?_
      rintro e w1 ⟨rfl, hF⟩
      go_wp2
      rw [Hm.out]
      go_ret2
      exact ⟨rfl, hF⟩
    · have e : unsE l = 6 := by unfold unsE; rw [if_neg h2, hm, if_neg hs]
      have e1 : unsL l = [] := by unfold unsL; rw [e]; rfl
      have hb : (sealL m == l) = false := by rw [beq_eq_false_iff_ne]; exact hs
      have Hm := Lib.hid hm
      rw [e, e1]; clear e e1 hs hm
      go_enter Try.func21, Try.ntmps21
      go_wp2_with fail
      rw [Hm.out]
      refine (rseal_any m _ hml).mono ?_
      rintro e w1 ⟨rfl, hF⟩
      go_wp2
      go_ret2
      exact ⟨rfl, hF⟩

end Go.Proofs.Ytmdgilhjiooalaa
