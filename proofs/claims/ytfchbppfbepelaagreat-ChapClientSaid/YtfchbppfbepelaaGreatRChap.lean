/- The document's answer to a challenge (its digest by RMd5). -/
import Derived.Test.YtfchbppfbepelaaGreatChapP
import Derived.Test.YtfchbppfbepelaaGreatRMd5
import Derived.Test.YtfchbppfbepelaaGreatLowB
namespace Go.Proofs.YtfchbppfbepelaaGreat
open Go.RowKit
set_option linter.unusedVariables false
theorem rtext_any (l : List UInt8) (w : World) (hl : l.length = 16) :
    Calls Tryz.prog 287 #[.agg (arr8 l)] w fun e w' => e = .returned (.string (B l)) ∧ Fr [] w w' := by
  have hcv : (convert 383 9 (.slice (some ⟨w.heap.size, 0, none⟩) 16 16)).run Tryz.prog (w.alloc (.cells (arr8 l) 381)) = .ok (.string (B l)) (w.alloc (.cells (arr8 l) 381)) := by
    rw [arr8_ints]
    have := run_str (P := Tryz.prog) (w := w.alloc (.cells ((ints8 l).map (Value.int .u8)).toArray 381)) (b := w.heap.size) (cap := 16) Tryz.underlying383 Tryz.underlying5 Tryz.underlying9 (ints8 l) (Blk.new _ _ _) 16 (by simp [ints8, hl])
    rw [this, bytes_ints8]
  have hsl := fun w' => sl16 w.heap.size w'
  have Hl := Lib.hid hl
  clear hl
  go_enter Tryz.func287, Tryz.ntmps287
  go_wp2
  go_ret
  exact ⟨rfl, (Fr.refl _ _).alloc _⟩

theorem rchap_any (id : Int) (s c : List UInt8) (w : World) (h0 : -9223372036854775808 ≤ id) (h1 : id ≤ 9223372036854775807) (hs : s.length ≤ 40000) (hc : c.length ≤ 40000) :
    Calls Tryz.prog 189 #[.int .i64 id, .string (B s), .string (B c)] w fun e w' => e = .returned (.string (B (md5 (chapL id s c)))) ∧ Fr [] w w' := by
  have hb1 : (be 1 id).length = 1 := be_length 1 id
  have hq1 : ¬ 9223372036854775807 < 1 + s.length := by omega
  have hq2 : ¬ 9223372036854775807 < 1 + s.length + c.length := by omega
  have hq3 : ¬ 9223372036854775807 < s.length + c.length := by omega
  have hq4 : ¬ 9223372036854775807 < 1 + (s.length + c.length) := by omega
  have hL := chapL_length id s c
  have hl : (chapL id s c).length ≤ 100000 := by omega
  have Hl := Lib.hid hl
  have hi := Lib.hid (And.intro h0 h1)
  clear hL hl h0 h1
  go_enter Tryz.func189, Tryz.ntmps189
  go_wp2_with fail
  refine (low_any id 1 _ hi.out (by omega)).mono ?_
  rintro e w0 ⟨rfl, hF0⟩
  go_wp2_with fail
  refine (rmd5_any (chapL id s c) _ Hl.out).mono ?_
  rintro e w1 ⟨rfl, hF1⟩
  go_wp2_with fail
  refine (rtext_any (md5 (chapL id s c)) _ (md5_length _)).mono ?_
  rintro e w2 ⟨rfl, hF2⟩
  go_wp2
  go_ret
  exact ⟨rfl, (hF0.trans hF1).trans hF2⟩
end Go.Proofs.YtfchbppfbepelaaGreat
