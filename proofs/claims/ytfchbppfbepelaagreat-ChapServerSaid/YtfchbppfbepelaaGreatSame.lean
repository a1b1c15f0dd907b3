/- A digest's text (the program's alone). -/
import Derived.Test.YtfchbppfbepelaaGreatMd5
namespace Go.Proofs.YtfchbppfbepelaaGreat
open Go.RowKit
set_option linter.unusedVariables false

def ints8 (l : List UInt8) : List Int := l.map fun b => (b.toNat : Int)
theorem bytes_ints8 (l : List UInt8) : bytesOf (ints8 l) = l := by
  unfold bytesOf ints8
  rw [List.map_map]
  conv => rhs; rw [← List.map_id l]
  apply List.map_congr_left
  intro b _
  simp
theorem arr8_ints (l : List UInt8) : arr8 l = ((ints8 l).map (Value.int .u8)).toArray := by
  unfold arr8 ints8
  rw [List.map_map]; rfl
set_option maxRecDepth 100000 in
theorem sl16 (g : Nat) (w : World) :
    (Instr.sliceAt 381 (.pointer (some ⟨g, 0, none⟩)) none none none).run Tryz.prog w = .ok (.slice (some ⟨g, 0, none⟩) 16 16) w := by
  have ha : Tryz.prog.arrayLen 381 = 16 := by kernel_rfl
  have hs : (sizeOf (Tryz.prog.elem 381)).run Tryz.prog w = .ok 1 w := by kernel_rfl
  rw [run_sliceAt_array_all w 381 ⟨g, 0, none⟩ Tryz.underlying381, hs, ha]
  rfl
theorem text_any (l : List UInt8) (w : World) (hl : l.length = 16) :
    Calls Tryz.prog 283 #[.agg (arr8 l)] w fun e w' => e = .returned (.string (B l)) ∧ Fr [] w w' := by
  have hcv : (convert 383 9 (.slice (some ⟨w.heap.size, 0, none⟩) 16 16)).run Tryz.prog (w.alloc (.cells (arr8 l) 381)) = .ok (.string (B l)) (w.alloc (.cells (arr8 l) 381)) := by
    rw [arr8_ints]
    have := run_str (P := Tryz.prog) (w := w.alloc (.cells ((ints8 l).map (Value.int .u8)).toArray 381)) (b := w.heap.size) (cap := 16) Tryz.underlying383 Tryz.underlying5 Tryz.underlying9 (ints8 l) (Blk.new _ _ _) 16 (by simp [ints8, hl])
    rw [this, bytes_ints8]
  have hsl := fun w' => sl16 w.heap.size w'
  have Hl := Lib.hid hl
  clear hl
  go_enter Tryz.func283, Tryz.ntmps283
  go_wp2
  go_ret
  exact ⟨rfl, (Fr.refl _ _).alloc _⟩
end Go.Proofs.YtfchbppfbepelaaGreat
