/- the book: the texts that mark. -/
import Derived.Test.YtfchbppfbepelaaGreatMgA
namespace Go.Proofs.YtfchbppfbepelaaGreat
open Go.RowKit
set_option linter.unusedVariables false
def nmI (i k : Nat) : List Int := [109, 65 + (i : Int) % 26, 65 + (i : Int) / 26 % 26, 48 + (k : Int) % 10, 48 + (k : Int) / 10 % 10, 48 + (k : Int) / 100 % 10]
def nmB (i k : Nat) : List UInt8 := bytesOf (nmI i k)
set_option maxRecDepth 100000 in
set_option maxHeartbeats 4000000 in
theorem name_any {w : World} (i k : Nat) (hi : i ≤ 250) (hk : k ≤ 3000) :
    Calls Tryz.prog 319 #[.int .i64 i, .int .i64 k] w fun e w' => e = .returned (.string (B (nmB i k))) ∧ Fr [] w w' := by
  obtain ⟨a, ha⟩ : ∃ a, (i : Int) % 26 = a := ⟨_, rfl⟩
  obtain ⟨c, hc⟩ : ∃ c, (k : Int) % 10 = c := ⟨_, rfl⟩
  have a0 : 0 ≤ a := by omega
  have a1 : a < 26 := by omega
  have b0 : 0 ≤ (i : Int) / 26 % 26 := by omega
  have b1 : (i : Int) / 26 % 26 < 26 := by omega
  have c0 : 0 ≤ c := by omega
  have c1 : c < 10 := by omega
  have d0 : 0 ≤ (k : Int) / 10 % 10 := by omega
  have d1 : (k : Int) / 10 % 10 < 10 := by omega
  have f0 : 0 ≤ (k : Int) / 100 % 10 := by omega
  have f1 : (k : Int) / 100 % 10 < 10 := by omega
  have e : nmB i k = bytesOf [109, 65 + a, 65 + (i : Int) / 26 % 26, 48 + c, 48 + (k : Int) / 10 % 10, 48 + (k : Int) / 100 % 10] := by unfold nmB nmI; rw [ha, hc]
  have hcv : ∀ W : World, (convert 383 9 (.slice (some ⟨W.heap.size, 0, none⟩) 6 6)).run Tryz.prog (W.alloc (.cells #[.int .u8 109, .int .u8 (65 + a), .int .u8 (65 + (i : Int) / 26 % 26), .int .u8 (48 + c), .int .u8 (48 + (k : Int) / 10 % 10), .int .u8 (48 + (k : Int) / 100 % 10)] 5)) = .ok (.string (B (bytesOf [109, 65 + a, 65 + (i : Int) / 26 % 26, 48 + c, 48 + (k : Int) / 10 % 10, 48 + (k : Int) / 100 % 10]))) (W.alloc (.cells #[.int .u8 109, .int .u8 (65 + a), .int .u8 (65 + (i : Int) / 26 % 26), .int .u8 (48 + c), .int .u8 (48 + (k : Int) / 10 % 10), .int .u8 (48 + (k : Int) / 100 % 10)] 5)) := fun W => run_str Tryz.underlying383 Tryz.underlying5 Tryz.underlying9 [109, 65 + a, 65 + (i : Int) / 26 % 26, 48 + c, 48 + (k : Int) / 10 % 10, 48 + (k : Int) / 100 % 10] (Blk.new _ _ _) 6 rfl
  have m1 : (i : Int).tmod 26 = a := by rw [Int.tmod_eq_emod_of_nonneg (by omega)]; exact ha
  have m3 : (k : Int).tmod 10 = c := by rw [Int.tmod_eq_emod_of_nonneg (by omega)]; exact hc
  have hiI : (i : Int) ≤ 250 := by omega
  have hkI : (k : Int) ≤ 3000 := by omega
  rw [e]
  clear e ha hc
  go_enter Tryz.func319, Tryz.ntmps319
  go_wp2
  go_ret
  exact ⟨rfl, (Fr.refl _ _).alloc _⟩
end Go.Proofs.YtfchbppfbepelaaGreat
