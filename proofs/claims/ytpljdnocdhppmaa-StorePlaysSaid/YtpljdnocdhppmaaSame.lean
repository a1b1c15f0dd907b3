/- A digest's text (the program's alone). -/
import Derived.Test.YtpljdnocdhppmaaMd5
namespace Go.Proofs.Ytpljdnocdhppmaa
open Go.RowKit
set_option linter.unusedVariables false

def ints8 (l : List UInt8) : List Int := l.map fun b => (b.toNat : Int)
theorem bytes_ints8 (l : List UInt8) : bytesOf (ints8 l) = l := by
  unfold bytesOf ints8
  rw [List.map_map]
  conv => rhs; rw [← List.map_id l]
  apply List.map_congr_left
  intro b _
  simp
theorem arr8_ints (l : List UInt8) : arr8 l = ((ints8 l).map (Value.int .u8)).toArray := by
  unfold arr8 ints8
  rw [List.map_map]; rfl
set_option maxRecDepth 100000 in
theorem sl16 (g : Nat) (w : World) :
    (Instr.sliceAt 94 (.pointer (some ⟨g, 0, none⟩)) none none none).run Try.prog w = .ok (.slice (some ⟨g, 0, none⟩) 16 16) w := by
  have ha : Try.prog.arrayLen 94 = 16 := by kernel_rfl
  have hs : (sizeOf (Try.prog.elem 94)).run Try.prog w = .ok 1 w := by kernel_rfl
  rw [run_sliceAt_array_all w 94 ⟨g, 0, none⟩ Try.underlying94, hs, ha]
  rfl
theorem text_any (l : List UInt8) (w : World) (hl : l.length = 16) :
    Calls Try.prog 57 #[.agg (arr8 l)] w fun e w' => e = .returned (.string (B l)) ∧ Fr [] w w' := by
  have hcv : (convert 96 9 (.slice (some ⟨w.heap.size, 0, none⟩) 16 16)).run Try.prog (w.alloc (.cells (arr8 l) 94)) = .ok (.string (B l)) (w.alloc (.cells (arr8 l) 94)) := by
    rw [arr8_ints]
    have := run_str (P := Try.prog) (w := w.alloc (.cells ((ints8 l).map (Value.int .u8)).toArray 94)) (b := w.heap.size) (cap := 16) Try.underlying96 Try.underlying5 Try.underlying9 (ints8 l) (Blk.new _ _ _) 16 (by simp [ints8, hl])
    rw [this, bytes_ints8]
  have hsl := fun w' => sl16 w.heap.size w'
  have Hl := Lib.hid hl
  clear hl
  go_enter Try.func57, Try.ntmps57
  go_wp2
  go_ret
  exact ⟨rfl, (Fr.refl _ _).alloc _⟩
end Go.Proofs.Ytpljdnocdhppmaa
