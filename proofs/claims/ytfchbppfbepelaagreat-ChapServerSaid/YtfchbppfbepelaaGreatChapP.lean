/- The answer to a challenge: the program's alone. -/
import Derived.Test.YtfchbppfbepelaaGreatSame
namespace Go.Proofs.YtfchbppfbepelaaGreat
open Go.RowKit
set_option linter.unusedVariables false

def chapL (id : Int) (s c : List UInt8) : List UInt8 := bytesOf [id % 256] ++ (s ++ c)
theorem chapL_length (id : Int) (s c : List UInt8) : (chapL id s c).length = s.length + c.length + 1 := by
  unfold chapL
  rw [List.length_append, List.length_append]
  show 1 + _ = _
  omega
theorem chap_any (id : Int) (s c : List UInt8) (w : World) (hs : s.length ≤ 40000) (hc : c.length ≤ 40000) :
    Calls Tryz.prog 183 #[.int .i64 id, .string (B s), .string (B c)] w fun e w' => e = .returned (.string (B (md5 (chapL id s c)))) ∧ Fr [] w w' := by
  have hcv : ∀ W : World, (convert 383 9 (.slice (some ⟨W.heap.size, 0, none⟩) 1 1)).run Tryz.prog (W.alloc (.cells #[.int .u8 (id % 256)] 5)) = .ok (.string (B (bytesOf [id % 256]))) (W.alloc (.cells #[.int .u8 (id % 256)] 5)) := fun W => run_str Tryz.underlying383 Tryz.underlying5 Tryz.underlying9 [id % 256] (Blk.new _ _ _) 1 rfl
  have hb1 : (bytesOf [id % 256]).length = 1 := rfl
  have hq1 : ¬ 9223372036854775807 < 1 + s.length := by omega
  have hq2 : ¬ 9223372036854775807 < 1 + s.length + c.length := by omega
  have hq3 : ¬ 9223372036854775807 < s.length + c.length := by omega
  have hq4 : ¬ 9223372036854775807 < 1 + (s.length + c.length) := by omega
  have hL := chapL_length id s c
  have hl : (chapL id s c).length ≤ 100000 := by omega
  have Hl := Lib.hid hl
  clear hL hl
  go_enter Tryz.func183, Tryz.ntmps183
  go_wp2_with fail
  refine (md5_any (chapL id s c) _ Hl.out).mono ?_
  rintro e w1 ⟨rfl, hF1⟩
  go_wp2_with fail
  refine (text_any (md5 (chapL id s c)) _ (md5_length _)).mono ?_
  rintro e w2 ⟨rfl, hF2⟩
  go_wp2
  go_ret
  exact ⟨rfl, (((Fr.refl [] w).alloc _).trans hF1).trans hF2⟩
end Go.Proofs.YtfchbppfbepelaaGreat
