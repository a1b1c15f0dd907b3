/- Cookies: the document's. -/
import Derived.Test.YtgeoldcddfmgnaaCookie
import Derived.Deep.RegionHeld3
namespace Go.Proofs.Ytgeoldcddfmgnaa
open Go.RowKit
set_option linter.unusedVariables false

theorem low_8 (v : Int) (w : World) (hv : Hid (-9223372036854775808 ≤ v ∧ v ≤ 9223372036854775807)) :
    Calls Try.prog 40 #[.int .i64 v, .int .i64 8] w fun e w' => e = .returned (.string (B (be 8 v))) ∧ Fr [] w w' := low_any v 8 w hv.out (by omega)
theorem low_4 (v : Int) (w : World) (hv : Hid (-9223372036854775808 ≤ v ∧ v ≤ 9223372036854775807)) :
    Calls Try.prog 40 #[.int .i64 v, .int .i64 4] w fun e w' => e = .returned (.string (B (be 4 v))) ∧ Fr [] w w' := low_any v 4 w hv.out (by omega)
theorem macStr6 (m0 m1 m2 m3 m4 m5 : Int) {w : World} {g T : Nat} (hB : Blk w g (mac6 m0 m1 m2 m3 m4 m5) T) :
    (convert 46 9 (.slice (some ⟨g, 0, none⟩) 6 6)).run Try.prog w = .ok (.string (B (bytesOf [m0, m1, m2, m3, m4, m5]))) w :=
  run_str (P := Try.prog) Try.underlying46 Try.underlying5 Try.underlying9 [m0, m1, m2, m3, m4, m5] hB 6 rfl

set_option maxRecDepth 100000 in
set_option maxHeartbeats 4000000 in
theorem rcookie_any (s : List UInt8) (m0 m1 m2 m3 m4 m5 : Int) (v : List UInt8) (e : Int) (w : World) (e0 : -9223372036854775808 ≤ e) (e1 : e ≤ 9223372036854775807) (hs : s.length ≤ 40000) (hv : v.length ≤ 40000) :
    Calls Try.prog 42 #[.string (B s), .agg #[.int .u8 m0, .int .u8 m1, .int .u8 m2, .int .u8 m3, .int .u8 m4, .int .u8 m5], .string (B v), .int .i64 e] w
      fun r w' => r = .returned (.string (B (md5 (cookL e [m0, m1, m2, m3, m4, m5] v s)))) ∧ Fr [] w w' := by
  have hLl := cookL_length e [m0, m1, m2, m3, m4, m5] v s
  have hLb : (cookL e [m0, m1, m2, m3, m4, m5] v s).length ≤ 100000 := by rw [hLl]; simp; omega
  have HLb := Lib.hid hLb
  have b8 := be_length 8 e
  have b4 := be_length 4 (v.length : Int)
  have l6 : (bytesOf [m0, m1, m2, m3, m4, m5]).length = 6 := rfl
  have hq : ¬ 9223372036854775807 < 14 + (4 + (v.length + s.length)) := by omega
  have hq1 : ¬ 9223372036854775807 < 18 + v.length := by omega
  have hq2 : ¬ 9223372036854775807 < 18 + v.length + s.length := by omega
  have hq3 : ¬ 9223372036854775807 < 18 + (v.length + s.length) := by omega
  have hq5 : ¬ 9223372036854775807 < 8 + (6 + (4 + v.length)) + s.length := by omega
  have He := Lib.hid (And.intro e0 e1)
  have Hn : Hid (-9223372036854775808 ≤ (v.length : Int) ∧ (v.length : Int) ≤ 9223372036854775807) := Lib.hid (by omega)
  clear hLl hLb e0 e1
  go_enter Try.func42, Try.ntmps42
  go_wp2_with fail
  obtain ⟨C, hC⟩ : ∃ C : Array Value, C = #[.int .u8 m0, .int .u8 m1, .int .u8 m2, .int .u8 m3, .int .u8 m4, .int .u8 m5] := ⟨_, rfl⟩
  rw [← hC]
  obtain ⟨W, hW⟩ : ∃ W, w.alloc (.cells C 35) = W := ⟨_, rfl⟩
  have hB : Blk W w.heap.size C 35 := by rw [← hW]; exact Blk.new _ _ _
  have hF : Fr [] w W := by rw [← hW]; exact (Fr.refl _ _).alloc _
  rw [hW]
  have hsl := fun w' => slMac w.heap.size w'
  have hcv : ∀ w', Blk w' w.heap.size C 35 → (convert 46 9 (.slice (some ⟨w.heap.size, 0, none⟩) 6 6)).run Try.prog w' = .ok (.string (B (bytesOf [m0, m1, m2, m3, m4, m5]))) w' := fun w' h => macStr6 m0 m1 m2 m3 m4 m5 (by rw [hC] at h; exact h)
  clear hW hC
  have hG : Blk W.drew w.heap.size C 35 ∧ Fr [] w W.drew := ⟨hB.drew, hF.drew⟩
  go_region_held3 (fun w' => Blk w' w.heap.size C 35 ∧ Fr [] w w')
    (first | exact hG | assumption | exact ⟨Fr.blk (by assumption) (by go_split_ands; assumption) (by simp), Fr.trans (by go_split_ands; assumption) (by assumption)⟩)
    (first
      | (go_at_call 40; ((with_reducible refine (low_8 _ _ He).mono ?_); rintro e w3 ⟨rfl, hF3⟩))
      | (go_at_call 40; ((with_reducible refine (low_4 _ _ Hn).mono ?_); rintro e w3 ⟨rfl, hF3⟩))
      | (go_at_call 17; refine (rmd5_any (cookL e [m0, m1, m2, m3, m4, m5] v s) _ HLb.out).mono ?_; rintro e w3 ⟨rfl, hF3⟩)
      | (go_at_call 19; refine (rtext_any (md5 (cookL e [m0, m1, m2, m3, m4, m5] v s)) _ (md5_length _)).mono ?_; rintro e w3 ⟨rfl, hF3⟩))
  all_goals (go_wp2; go_ret; exact ⟨rfl, by go_split_ands; assumption⟩)
end Go.Proofs.Ytgeoldcddfmgnaa
