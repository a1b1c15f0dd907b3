/- HostWaits, its plain part: where a host is i ticks behind its Start. -/
import Derived.Test.YtcdencpkgfehlaaHost8
namespace Go.Proofs.Ytcdencpkgfehlaa
open Go.RowKit
set_option linter.unusedVariables false
def hA (rt wt st tk ag : Int) : Hs := ⟨⟨1, 0, 0, 0, 0, 0⟩, [], [117], rt, wt, st, mc0, 0, tk, ag⟩
def tot (rt wt : Int) : Int := wt * (2 ^ (rt.toNat + 1) - 1)
/-- i ticks behind its Start, when n frames have been sent -/
def AtI (rt wt i n : Int) (h : Hs) : Prop :=
  (∃ (tk : Int) (ag : Nat), h = hA rt wt 1 tk ag ∧ 0 ≤ tk ∧ tk < wt * 2 ^ ag ∧ (ag : Int) ≤ rt ∧ i = wt * (2 ^ ag - 1) + tk ∧ n = ag + 1) ∨ (h = hA rt wt 4 0 0 ∧ i = tot rt wt ∧ n = rt + 1)
theorem AtI.start (rt wt : Int) (h0 : 0 ≤ rt) (h1 : 1 ≤ wt) : AtI rt wt 0 1 (hA rt wt 1 0 0) := by
  refine Or.inl ⟨0, 0, rfl, Int.le_refl _, ?_, by simpa using h0, by simp, by simp⟩
  simp; omega
theorem tot_small (rt wt : Int) (h0 : 0 ≤ rt ∧ rt ≤ 5) (h1 : 1 ≤ wt ∧ wt ≤ 20) : 1 ≤ tot rt wt ∧ tot rt wt ≤ 1260 := by
  unfold tot
  have : rt = 0 ∨ rt = 1 ∨ rt = 2 ∨ rt = 3 ∨ rt = 4 ∨ rt = 5 := by omega
  rcases this with rfl | rfl | rfl | rfl | rfl | rfl <;> simp <;> omega
theorem AtI.le {rt wt i n : Int} {h : Hs} (h0 : 0 ≤ rt) (h1 : 1 ≤ wt) (hA : AtI rt wt i n h) : i ≤ tot rt wt := by
  rcases hA with ⟨tk, ag, _, t0, t1, a1, hi, _⟩ | ⟨_, hi, _⟩
  · have hp : (2 : Int) ^ (ag + 1) ≤ 2 ^ (rt.toNat + 1) := by
      have : (2 : Nat) ^ (ag + 1) ≤ 2 ^ (rt.toNat + 1) := Nat.pow_le_pow_right (by omega) (by omega)
      exact_mod_cast this
    have e : wt * 2 ^ (ag + 1) = wt * 2 ^ ag + wt * 2 ^ ag := by rw [Int.pow_succ, ← Int.mul_assoc]; omega
    have := Int.mul_le_mul_of_nonneg_left hp (show (0 : Int) ≤ wt by omega)
    unfold tot
    rw [Int.mul_sub, Int.mul_one] at hi ⊢
    omega
  · omega
theorem AtI.asked {rt wt i n : Int} {h : Hs} (hA : AtI rt wt i n h) (hi : i < tot rt wt) : h.st = 1 ∧ h.wt = wt ∧ h.k = mc0 ∧ h.ss = 0 := by
  rcases hA with ⟨tk, ag, rfl, _⟩ | ⟨_, h2, _⟩
  · exact ⟨rfl, rfl, rfl, rfl⟩
  · omega
theorem AtI.failed {rt wt n : Int} {h : Hs} (h0 : 0 ≤ rt) (h1 : 1 ≤ wt) (hA : AtI rt wt (tot rt wt) n h) : h = Go.Proofs.Ytcdencpkgfehlaa.hA rt wt 4 0 0 ∧ n = rt + 1 := by
  rcases hA with ⟨tk, ag, _, t0, t1, a1, hi, _⟩ | ⟨h2, _, h3⟩
  · exfalso
    have hp : (2 : Int) ^ (ag + 1) ≤ 2 ^ (rt.toNat + 1) := by
      have : (2 : Nat) ^ (ag + 1) ≤ 2 ^ (rt.toNat + 1) := Nat.pow_le_pow_right (by omega) (by omega)
      exact_mod_cast this
    have e : wt * 2 ^ (ag + 1) = wt * 2 ^ ag + wt * 2 ^ ag := by rw [Int.pow_succ, ← Int.mul_assoc]; omega
    have := Int.mul_le_mul_of_nonneg_left hp (show (0 : Int) ≤ wt by omega)
    unfold tot at hi
    rw [Int.mul_sub, Int.mul_one, Int.mul_sub, Int.mul_one] at hi
    omega
  · exact ⟨h2, h3⟩
theorem state_at {w : World} {g : Nat} {h : Hs} {rt wt i n : Int} (h1 : 1 ≤ wt) (hi : i < tot rt wt) (hI : AtI rt wt i n h) (hB : Blk w g (hsC h (.slice none 0 0)) 92) :
    Calls Try.prog 16 #[.pointer (some ⟨g, 0, none⟩)] w fun e w' => e = .returned (.tuple #[.int .i64 1, .agg #[.int .u8 0, .int .u8 0, .int .u8 0, .int .u8 0, .int .u8 0, .int .u8 0], .int .i64 0]) ∧ Fr [] w w' := by
  obtain ⟨a1, a2, a3, a4⟩ := hI.asked hi
  have := hstate_any (by omega) hB
  rw [a1, a3, a4] at this
  exact this
/-- a Tick of a host that asks -/
def StepP (w : World) (g : Nat) (rt wt i n : Int) (e : Ending) (w' : World) : Prop := ∃ A, ∃ L cap : Nat, ∃ h', e = .returned (.slice A L cap) ∧ L ≤ 1 ∧ Blk w' g (hsC h' (.slice none 0 0)) 92 ∧ AtI rt wt (i + 1) (n + L) h' ∧ Fr [g] w w'
theorem wait_step {w : World} {g : Nat} {h : Hs} {rt wt i n : Int} (h0 : 0 ≤ rt ∧ rt ≤ 5) (h1 : 1 ≤ wt ∧ wt ≤ 20) (hi : i < tot rt wt) (hI : AtI rt wt i n h) (hB : Blk w g (hsC h (.slice none 0 0)) 92) :
    Calls Try.prog 17 #[.pointer (some ⟨g, 0, none⟩)] w (StepP w g rt wt i n) := by
  rcases hI with ⟨tk, ag, rfl, t0, t1, a1, hi', hn⟩ | ⟨_, h2, _⟩
  · have hp := pow_small ag (by omega)
    obtain ⟨P, hP⟩ : ∃ P : Int, (2 : Int) ^ ag = P := ⟨_, rfl⟩
    have hm : wt * P ≤ 20 * 1024 := by rw [hP] at hp; exact Int.mul_le_mul h1.2 hp.2 (by omega) (by omega)
    have htk : tk ≤ 1000000 := by rw [hP] at t1; omega
    have hagn : ((ag : Int)).toNat = ag := by simp
    by_cases hlt : tk + 1 < wt * 2 ^ ag
    · refine (tick_wait (h := hA rt wt 1 tk ag) (by unfold hA; simp only; omega) rfl (by unfold hA; simp only; omega) (by unfold hA; simp only; omega) (by unfold hA; simp only; rw [hagn]; exact hlt) hB).mono ?_
      rintro e w' ⟨rfl, hB', hF⟩
      exact ⟨none, 0, 0, _, rfl, by omega, hB', Or.inl ⟨tk + 1, ag, rfl, by omega, hlt, a1, by omega, by simpa using hn⟩, hF⟩
    · have e : wt * 2 ^ (ag + 1) = wt * 2 ^ ag + wt * 2 ^ ag := by rw [Int.pow_succ, ← Int.mul_assoc]; omega
      rw [Int.mul_sub, Int.mul_one] at hi'
      by_cases hr : rt ≤ ag
      · have har : rt = ag := by omega
        refine (tick_fail (h := hA rt wt 1 tk ag) (by unfold hA; simp only; omega) rfl (by unfold hA; simp only; omega) (by unfold hA; simp only; omega) (by unfold hA; simp only; rw [hagn]; exact hlt) hr hB).mono ?_
        rintro e w' ⟨rfl, hB', hF⟩
        refine ⟨none, 0, 0, _, rfl, by omega, hB', Or.inr ⟨rfl, ?_, by simp; omega⟩, hF⟩
        unfold tot
        rw [show rt.toNat = ag by omega, Int.mul_sub, Int.mul_one]
        omega
      · refine (tick_again (h := hA rt wt 1 tk ag) (by unfold hA; simp only; omega) rfl (by unfold hA; simp only; omega) (by unfold hA; simp only; omega) (by unfold hA; simp only; rw [hagn]; exact hlt) hr (by unfold HsOk hA; simp) hB).mono ?_
        rintro e w' ⟨⟨q, rfl, hq, hN, hF⟩, hB'⟩
        refine ⟨some ⟨q, 0, none⟩, 1, 1, _, rfl, by omega, hB', Or.inl ⟨0, ag + 1, by unfold hA; simp, by omega, ?_, by omega, ?_, by simp; omega⟩, hF⟩
        · have := Int.mul_le_mul h1.1 (pow_small (ag + 1) (by omega)).1 (by omega) (by omega)
          omega
        · rw [Int.mul_sub, Int.mul_one, e]; omega
  · omega
end Go.Proofs.Ytcdencpkgfehlaa
