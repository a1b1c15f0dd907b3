/- The tables of a step. -/
import Derived.Test.YtfchbppfbepelaaGreatRot
import Derived.Test.YtfchbppfbepelaaGreatRow
namespace Go.Proofs.YtfchbppfbepelaaGreat
open Go.RowKit
set_option linter.unusedVariables false

theorem nat_get {k : IntKind} (l : List Nat) (i : Nat) (h : i < (l.map fun n : Nat => Value.int k (n : Int)).length) : (l.map fun n : Nat => Value.int k (n : Int))[i] = Value.int k (l.getD i 0 : Nat) := by
  have h' : i < l.length := by simpa using h
  simp [List.getD, List.getElem?_eq_getElem h']
theorem dturn_any (i : Nat) (w : World) (hi : i < 64) :
    Calls Tryz.prog 352 #[.int .i64 i] w fun e w' => e = .returned (.int .i64 (turnOf i : Nat)) ∧ Fr [] w w' := by
  have b1 : i / 16 * 4 + i % 4 < 16 := by omega
  go_enter Tryz.func352, Tryz.ntmps352
  go_wp2
  go_ret
  exact ⟨congrArg Ending.returned (nat_get (k := .i64) turnL (i / 16 * 4 + i % 4) b1), (Fr.refl _ _).alloc _⟩
def tabC : Array Value := (tabL.map fun n : Nat => Value.int .u32 (n : Int)).toArray
def tabZ : Array Value := Array.replicate 64 (.int .u32 0)
theorem infoTab : (Tryz.prog.info? 451).map (·.size) = some 64 := by kernel_rfl
theorem tabC_one : tabC.all (·.oneCell') = true := by decide +kernel
theorem mkTab (w : World) : (Instr.alloc 451 true (.tuple #[])).run Tryz.prog w = .ok (.pointer (some ⟨w.heap.size, 0, none⟩)) (w.alloc (.cells tabZ 451 (0, 0))) := by kernel_rfl
theorem tabC_at (w : World) (i : Nat) (hi : i < 64) : (w.alloc (.cells tabC 451 (0, 0))).cell? ⟨w.heap.size, i, none⟩ = some (.int .u32 (tabL.getD i 0 : Nat)) := by
  refine (Blk.new w tabC 451).c i _ ?_
  unfold tabC
  rw [List.getElem?_toArray, List.getElem?_map, List.getElem?_eq_getElem (show i < tabL.length from hi)]
  simp [List.getD, List.getElem?_eq_getElem (show i < tabL.length from hi)]
set_option maxRecDepth 100000 in
theorem table_any (i : Nat) (w : World) (hi : i < 64) :
    Calls Tryz.prog 351 #[.int .i64 i] w fun e w' => e = .returned (.int .u32 (tabL.getD i 0 : Nat)) ∧ Fr [] w w' := by
  have hc := tabC_at w i hi
  go_enter Tryz.func351, Tryz.ntmps351
  go_wp2_with (refine wpList_lit rfl rfl rfl 451 _ (.tmp 3) (.tmp 4) rfl rfl rfl tabC tabZ (fun w => by kernel_rfl) mkTab rfl infoTab tabC_one rfl rfl ?_)
  go_ret
  exact ⟨rfl, (Fr.refl _ _).alloc _⟩
end Go.Proofs.YtfchbppfbepelaaGreat
