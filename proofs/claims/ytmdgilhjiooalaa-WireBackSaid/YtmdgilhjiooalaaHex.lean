import Derived.Test.YtmdgilhjiooalaaStr
import Derived.StillTailTactics
namespace Go.Proofs.Ytmdgilhjiooalaa
open Go.RowKit
set_option linter.unusedVariables false
theorem infoB : (Try.prog.info? 5).map (fun i => (i.zero, i.size, i.bytes)) = some (some (.int .u8 0), 1, 1) := by kernel_rfl

def hexD (x : Int) : Int := if x < 10 then 48 + x else 87 + x
def hexL (l : List UInt8) : List Int := l.flatMap fun b => [hexD (b.toNat / 16), hexD (b.toNat % 16)]
theorem hexL_length (l : List UInt8) : (hexL l).length = 2 * l.length := by
  induction l with
  | nil => rfl
  | cons b l ih => simp only [hexL, List.flatMap_cons, List.length_append, List.length_cons, List.length_nil] at *; omega
theorem hexL_snoc (l : List UInt8) (i : Nat) (h : i < l.length) : hexL (l.take (i + 1)) = hexL (l.take i) ++ [hexD (l[i].toNat / 16), hexD (l[i].toNat % 16)] := by
  unfold hexL
  rw [List.take_succ_eq_append_getElem h, List.flatMap_append]; simp

theorem nibble_any (x : Int) (w : World) (h0 : 0 ≤ x) (h1 : x < 16) :
    Calls Try.prog 50 #[.int .u8 x] w fun e w' => e = .returned (.int .u8 (hexD x)) ∧ w = w' := by
  by_cases h : x < 10
  · go_enter Try.func50, Try.ntmps50
    go_wp2
    go_ret
    exact ⟨rint (by rw [hexD, if_pos h]), rfl⟩
  · go_enter Try.func50, Try.ntmps50
    go_wp2
    go_ret
    exact ⟨rint (by rw [hexD, if_neg (by omega)]; omega), rfl⟩

theorem hexIdx (x : Int) (w : World) (h0 : 0 ≤ x) (h1 : x < 16) :
    (Instr.index 9 (.string ⟨#[48, 49, 50, 51, 52, 53, 54, 55, 56, 57, 97, 98, 99, 100, 101, 102]⟩) (.int .u8 x)).run Try.prog w = .ok (.int .u8 (hexD x)) w := by
  have h : x = 0 ∨ x = 1 ∨ x = 2 ∨ x = 3 ∨ x = 4 ∨ x = 5 ∨ x = 6 ∨ x = 7 ∨ x = 8 ∨ x = 9 ∨ x = 10 ∨ x = 11 ∨ x = 12 ∨ x = 13 ∨ x = 14 ∨ x = 15 := by omega
  rcases h with rfl | rfl | rfl | rfl | rfl | rfl | rfl | rfl | rfl | rfl | rfl | rfl | rfl | rfl | rfl | rfl <;> rfl

set_option maxRecDepth 100000 in
set_option maxHeartbeats 1000000 in
theorem hex_any (l : List UInt8) (w : World) (hl : l.length ≤ 1000000) :
    Calls Try.prog 25 #[.string (B l)] w fun e w' => e = .returned (.string (B (bytesOf (hexL l)))) ∧ Fr [] w w' := by
  obtain ⟨i0, hi, hz0, hz1, hz2⟩ := info_parts infoB
  obtain ⟨w1, hmk, hown, hgr⟩ := run_make_own (P := Try.prog) w w.heap.size 35 5 i0 (.int .u8 0) 1 Try.underlying35 hi hz0 hz1 .i64 .i64 (2 * l.length) (by rw [hz2]; omega) (by unfold maxLen; omega) (Nat.le_refl _)
  rw [show ((2 * l.length : Nat) : Int) = 2 * (l.length : Int) from by omega] at hmk
  have hF1 : Fr [] w w1 := (Fr.refl _ _).grown hgr (by simp)
  go_enter Try.func25, Try.ntmps25
  go_wp2
  clear hmk hgr
  go_loopw [3, 11] (fun v iv wr => ∃ i : Nat, i ≤ l.length ∧ iv = .int .i64 i ∧ wr.ownsRow w.heap.size 5 1 v (2 * i) ((hexL (l.take i)).map (Value.int .u8)) ∧ Fr [] w wr) (fun _ iv _ => l.length - (intOf iv).toNat)
  case atStart => exact ⟨0, Nat.zero_le _, rfl, hown, hF1⟩
  case round =>
    obtain ⟨i, hil, rfl, hown, hF⟩ := hrel
    by_cases hlt : i < l.length
    · have hsn := hexL_snoc l i hlt
      have Hsn := Lib.hid hsn
      clear hsn
      have hband := u8_and15 (x := (l[i].toNat : Int)) (by omega) (byte_bd l[i])
      have hi1 := fun w => hexIdx ((l[i].toNat : Int) / 16) w (by omega) (by have := byte_bd l[i]; omega)
      have hi2 := fun w => hexIdx ((l[i].toNat : Int) % 16) w (by omega) (by omega)
      go_wp2
      go_region_law (first | (refine step_append_own rfl (.tmp 14) (.tmp 25) 35 rfl w.heap.size 5 i0 (.int .u8 0) 1 1 Try.underlying35 hi hz0 hz1 hz2 rfl (by decide) _ (2 * i) _ (by simp [Act.eval]) (World.ownsRow.alloc (own_drew hown) _) ⟨wr.heap.size, 0, none⟩ 2 2 [_, _] (by simp [Act.eval]) rfl (new_cells _ _ _) (by simp [Value.oneCell']) (by unfold maxLen; omega) (by omega) (by have := hF.size; simp; omega) ?_; intro v' w' hown' hgr'))
      all_goals
        go_wp2
        go_roundw
        case rel =>
          refine ⟨i + 1, by omega, by go_num, ?_, (hF.drew.alloc _).grown hgr' (own_new hown)⟩
          rw [Hsn.out, List.map_append]
          exact hown'
        case measure => (simp [intOf]) <;> omega
    · have : i = l.length := by omega
      subst this
      rw [List.take_length] at hown
      have hcv := run_str_any (P := Try.prog) Try.underlying35 Try.underlying5 Try.underlying9 (hexL l) _ hown
      go_wp2
      go_ret
      exact ⟨rfl, hF⟩

set_option maxRecDepth 100000 in
set_option maxHeartbeats 2000000 in
theorem rhex_any (l : List UInt8) (w : World) (hl : l.length ≤ 1000000) :
    Calls Try.prog 32 #[.string (B l)] w fun e w' => e = .returned (.string (B (bytesOf (hexL l)))) ∧ Fr [] w w' := by
  obtain ⟨i0, hi, hz0, hz1, hz2⟩ := info_parts infoB
  go_enter Try.func32, Try.ntmps32
  go_wp2
  go_loopw [3, 4] (fun v iv wr => ∃ i : Nat, i ≤ l.length ∧ iv = .int .i64 i ∧ wr.ownsRow w.heap.size 5 1 v (2 * i) ((hexL (l.take i)).map (Value.int .u8)) ∧ Fr [] w wr) (fun _ iv _ => l.length - (intOf iv).toNat)
  case atStart => exact ⟨0, Nat.zero_le _, rfl, World.ownsRow_nil _ _ _ _, Fr.refl _ _⟩
  case round =>
    obtain ⟨i, hil, rfl, hown, hF⟩ := hrel
    by_cases hlt : i < l.length
    · have hsn := hexL_snoc l i hlt
      have Hsn := Lib.hid hsn
      clear hsn
      have e1 : IntKind.u8.wrap ((l[i].toNat : Int) / 16) = (l[i].toNat : Int) / 16 := by have := byte_bd l[i]; rw [IntKind.wrap_u8]; omega
      have e2 : (l[i].toNat : Int).tmod 16 = (l[i].toNat : Int) % 16 := Int.tmod_eq_emod_of_nonneg (by omega)
      go_wp2
      go_region_law (first | (go_simp; go_at_call 50; refine (nibble_any _ _ (by omega) (by have := byte_bd l[i]; omega)).mono ?_; rintro e w' ⟨rfl, rfl⟩) | (refine step_append_own rfl (.tmp 11) (.tmp 22) 35 rfl w.heap.size 5 i0 (.int .u8 0) 1 1 Try.underlying35 hi hz0 hz1 hz2 rfl (by decide) _ (2 * i) _ (by simp [Act.eval]) (World.ownsRow.alloc (own_drew hown) _) ⟨wr.heap.size, 0, none⟩ 2 2 [_, _] (by simp [Act.eval]) rfl (new_cells _ _ _) (by simp [Value.oneCell']) (by unfold maxLen; omega) (by omega) (by have := hF.size; simp; omega) ?_; intro v' w' hown' hgr'))
      all_goals
        go_wp2
        go_roundw
        case rel =>
          refine ⟨i + 1, by omega, by go_num, ?_, (hF.drew.alloc _).grown hgr' (own_new hown)⟩
          rw [Hsn.out, List.map_append]
          exact hown'
        case measure => (simp [intOf]) <;> omega
    · have : i = l.length := by omega
      subst this
      rw [List.take_length] at hown
      have hcv := run_str_any (P := Try.prog) Try.underlying35 Try.underlying5 Try.underlying9 (hexL l) _ hown
      go_wp2
      go_ret
      exact ⟨rfl, hF⟩
end Go.Proofs.Ytmdgilhjiooalaa
