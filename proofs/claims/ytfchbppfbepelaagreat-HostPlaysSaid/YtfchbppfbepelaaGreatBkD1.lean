/- the book: kinds without lists (printed by tools/gen_dead.py). -/
import Derived.Test.YtfchbppfbepelaaGreatMgA
namespace Go.Proofs.YtfchbppfbepelaaGreat
open Go.RowKit
set_option linter.unusedVariables false
section
variable {w : World} {b : Nat} {Fb : Nat → Value}
set_option maxRecDepth 100000 in
set_option maxHeartbeats 2000000 in
theorem stillTexts_dead (hB : Blk w b (bkC Fb) 52) (h0 : Fb 0 = .slice none 0 0) :
    Calls Tryz.prog 111 #[.pointer (some ⟨b, 0, none⟩)] w fun e w' => e = .returned (.bool true) ∧ Fr [] w w' := by
  have HBC : Hid (∀ W, Fr [] w W → W.cell? ⟨b, 0, none⟩ = some (.slice none 0 0)) := Lib.hid fun W hW => by rw [← h0]; exact (hW.blk hB (by simp)).c 0 _ rfl
  clear hB h0
  go_enter Tryz.func111, Tryz.ntmps111
  go_wp2_with fail
  go_loopw [3] (fun iv wr => iv = .int .i64 0 ∧ Fr [] w wr) (fun _ _ => 0)
  case atStart => exact ⟨rfl, Fr.refl _ _⟩
  case round =>
    obtain ⟨rfl, hF⟩ := hrel
    have g0 := HBC.out _ hF
    have HF := Lib.hid hF
    clear hF
    go_wp2_with fail
    go_ret
    exact ⟨rfl, HF.out⟩
set_option maxRecDepth 100000 in
set_option maxHeartbeats 2000000 in
theorem putTexts_dead (hB : Blk w b (bkC Fb) 52) (h0 : Fb 0 = .slice none 0 0) :
    Calls Tryz.prog 133 #[.pointer (some ⟨b, 0, none⟩)] w fun e w' => e = .returned (.tuple #[]) ∧ Fr [] w w' := by
  have HBC : Hid (∀ W, Fr [] w W → W.cell? ⟨b, 0, none⟩ = some (.slice none 0 0)) := Lib.hid fun W hW => by rw [← h0]; exact (hW.blk hB (by simp)).c 0 _ rfl
  clear hB h0
  go_enter Tryz.func133, Tryz.ntmps133
  go_wp2_with fail
  go_loopw [2] (fun iv wr => iv = .int .i64 0 ∧ Fr [] w wr) (fun _ _ => 0)
  case atStart => exact ⟨rfl, Fr.refl _ _⟩
  case round =>
    obtain ⟨rfl, hF⟩ := hrel
    have g0 := HBC.out _ hF
    have HF := Lib.hid hF
    clear hF
    go_wp2_with fail
    exact bodyPost_end (results_none rfl _ _ _) rfl ⟨rfl, HF.out⟩
set_option maxRecDepth 100000 in
set_option maxHeartbeats 2000000 in
theorem growTexts_dead (hB : Blk w b (bkC Fb) 52) (h0 : Fb 0 = .slice none 0 0) :
    Calls Tryz.prog 147 #[.pointer (some ⟨b, 0, none⟩)] w fun e w' => e = .returned (.slice none 0 0) ∧ Fr [] w w' := by
  have HBC : Hid (∀ W, Fr [] w W → W.cell? ⟨b, 0, none⟩ = some (.slice none 0 0)) := Lib.hid fun W hW => by rw [← h0]; exact (hW.blk hB (by simp)).c 0 _ rfl
  clear hB h0
  go_enter Tryz.func147, Tryz.ntmps147
  go_wp2_with fail
  go_loopw [3, 4] (fun ov iv wr => ov = .slice none 0 0 ∧ iv = .int .i64 0 ∧ Fr [] w wr) (fun _ _ _ => 0)
  case atStart => exact ⟨rfl, rfl, Fr.refl _ _⟩
  case round =>
    obtain ⟨rfl, rfl, hF⟩ := hrel
    have g0 := HBC.out _ hF
    have HF := Lib.hid hF
    clear hF
    go_wp2_with fail
    go_ret
    exact ⟨rfl, HF.out⟩
set_option maxRecDepth 100000 in
set_option maxHeartbeats 2000000 in
theorem markedTexts_dead :
    Calls Tryz.prog 165 #[.slice none 0 0] w fun e w' => e = .returned (.bool true) ∧ Fr [] w w' := by
  go_enter Tryz.func165, Tryz.ntmps165
  go_wp2_with fail
  go_loopw [3] (fun iv wr => iv = .int .i64 0 ∧ Fr [] w wr) (fun _ _ => 0)
  case atStart => exact ⟨rfl, Fr.refl _ _⟩
  case round =>
    obtain ⟨rfl, hF⟩ := hrel
    have HF := Lib.hid hF
    clear hF
    go_wp2_with fail
    go_ret
    exact ⟨rfl, HF.out⟩
set_option maxRecDepth 100000 in
set_option maxHeartbeats 2000000 in
theorem stillInts_dead (hB : Blk w b (bkC Fb) 52) (h0 : Fb 2 = .slice none 0 0) :
    Calls Tryz.prog 112 #[.pointer (some ⟨b, 0, none⟩)] w fun e w' => e = .returned (.bool true) ∧ Fr [] w w' := by
  have HBC : Hid (∀ W, Fr [] w W → W.cell? ⟨b, 2, none⟩ = some (.slice none 0 0)) := Lib.hid fun W hW => by rw [← h0]; exact (hW.blk hB (by simp)).c 2 _ rfl
  clear hB h0
  go_enter Tryz.func112, Tryz.ntmps112
  go_wp2_with fail
  go_loopw [3] (fun iv wr => iv = .int .i64 0 ∧ Fr [] w wr) (fun _ _ => 0)
  case atStart => exact ⟨rfl, Fr.refl _ _⟩
  case round =>
    obtain ⟨rfl, hF⟩ := hrel
    have g0 := HBC.out _ hF
    have HF := Lib.hid hF
    clear hF
    go_wp2_with fail
    go_ret
    exact ⟨rfl, HF.out⟩
set_option maxRecDepth 100000 in
set_option maxHeartbeats 2000000 in
theorem putInts_dead (hB : Blk w b (bkC Fb) 52) (h0 : Fb 2 = .slice none 0 0) :
    Calls Tryz.prog 134 #[.pointer (some ⟨b, 0, none⟩)] w fun e w' => e = .returned (.tuple #[]) ∧ Fr [] w w' := by
  have HBC : Hid (∀ W, Fr [] w W → W.cell? ⟨b, 2, none⟩ = some (.slice none 0 0)) := Lib.hid fun W hW => by rw [← h0]; exact (hW.blk hB (by simp)).c 2 _ rfl
  clear hB h0
  go_enter Tryz.func134, Tryz.ntmps134
  go_wp2_with fail
  go_loopw [2] (fun iv wr => iv = .int .i64 0 ∧ Fr [] w wr) (fun _ _ => 0)
  case atStart => exact ⟨rfl, Fr.refl _ _⟩
  case round =>
    obtain ⟨rfl, hF⟩ := hrel
    have g0 := HBC.out _ hF
    have HF := Lib.hid hF
    clear hF
    go_wp2_with fail
    exact bodyPost_end (results_none rfl _ _ _) rfl ⟨rfl, HF.out⟩
set_option maxRecDepth 100000 in
set_option maxHeartbeats 2000000 in
theorem growInts_dead (hB : Blk w b (bkC Fb) 52) (h0 : Fb 2 = .slice none 0 0) :
    Calls Tryz.prog 148 #[.pointer (some ⟨b, 0, none⟩)] w fun e w' => e = .returned (.slice none 0 0) ∧ Fr [] w w' := by
  have HBC : Hid (∀ W, Fr [] w W → W.cell? ⟨b, 2, none⟩ = some (.slice none 0 0)) := Lib.hid fun W hW => by rw [← h0]; exact (hW.blk hB (by simp)).c 2 _ rfl
  clear hB h0
  go_enter Tryz.func148, Tryz.ntmps148
  go_wp2_with fail
  go_loopw [3, 4] (fun ov iv wr => ov = .slice none 0 0 ∧ iv = .int .i64 0 ∧ Fr [] w wr) (fun _ _ _ => 0)
  case atStart => exact ⟨rfl, rfl, Fr.refl _ _⟩
  case round =>
    obtain ⟨rfl, rfl, hF⟩ := hrel
    have g0 := HBC.out _ hF
    have HF := Lib.hid hF
    clear hF
    go_wp2_with fail
    go_ret
    exact ⟨rfl, HF.out⟩
set_option maxRecDepth 100000 in
set_option maxHeartbeats 2000000 in
theorem markedInts_dead :
    Calls Tryz.prog 166 #[.slice none 0 0] w fun e w' => e = .returned (.bool true) ∧ Fr [] w w' := by
  go_enter Tryz.func166, Tryz.ntmps166
  go_wp2_with fail
  go_loopw [3] (fun iv wr => iv = .int .i64 0 ∧ Fr [] w wr) (fun _ _ => 0)
  case atStart => exact ⟨rfl, Fr.refl _ _⟩
  case round =>
    obtain ⟨rfl, hF⟩ := hrel
    have HF := Lib.hid hF
    clear hF
    go_wp2_with fail
    go_ret
    exact ⟨rfl, HF.out⟩
set_option maxRecDepth 100000 in
set_option maxHeartbeats 2000000 in
theorem stillEthers_dead (hB : Blk w b (bkC Fb) 52) (h0 : Fb 4 = .slice none 0 0) :
    Calls Tryz.prog 113 #[.pointer (some ⟨b, 0, none⟩)] w fun e w' => e = .returned (.bool true) ∧ Fr [] w w' := by
  have HBC : Hid (∀ W, Fr [] w W → W.cell? ⟨b, 4, none⟩ = some (.slice none 0 0)) := Lib.hid fun W hW => by rw [← h0]; exact (hW.blk hB (by simp)).c 4 _ rfl
  clear hB h0
  go_enter Tryz.func113, Tryz.ntmps113
  go_wp2_with fail
  go_loopw [3] (fun iv wr => iv = .int .i64 0 ∧ Fr [] w wr) (fun _ _ => 0)
  case atStart => exact ⟨rfl, Fr.refl _ _⟩
  case round =>
    obtain ⟨rfl, hF⟩ := hrel
    have g0 := HBC.out _ hF
    have HF := Lib.hid hF
    clear hF
    go_wp2_with fail
    go_ret
    exact ⟨rfl, HF.out⟩
set_option maxRecDepth 100000 in
set_option maxHeartbeats 2000000 in
theorem putEthers_dead (hB : Blk w b (bkC Fb) 52) (h0 : Fb 4 = .slice none 0 0) :
    Calls Tryz.prog 135 #[.pointer (some ⟨b, 0, none⟩)] w fun e w' => e = .returned (.tuple #[]) ∧ Fr [] w w' := by
  have HBC : Hid (∀ W, Fr [] w W → W.cell? ⟨b, 4, none⟩ = some (.slice none 0 0)) := Lib.hid fun W hW => by rw [← h0]; exact (hW.blk hB (by simp)).c 4 _ rfl
  clear hB h0
  go_enter Tryz.func135, Tryz.ntmps135
  go_wp2_with fail
  go_loopw [2] (fun iv wr => iv = .int .i64 0 ∧ Fr [] w wr) (fun _ _ => 0)
  case atStart => exact ⟨rfl, Fr.refl _ _⟩
  case round =>
    obtain ⟨rfl, hF⟩ := hrel
    have g0 := HBC.out _ hF
    have HF := Lib.hid hF
    clear hF
    go_wp2_with fail
    exact bodyPost_end (results_none rfl _ _ _) rfl ⟨rfl, HF.out⟩
set_option maxRecDepth 100000 in
set_option maxHeartbeats 2000000 in
theorem growEthers_dead (hB : Blk w b (bkC Fb) 52) (h0 : Fb 4 = .slice none 0 0) :
    Calls Tryz.prog 149 #[.pointer (some ⟨b, 0, none⟩)] w fun e w' => e = .returned (.slice none 0 0) ∧ Fr [] w w' := by
  have HBC : Hid (∀ W, Fr [] w W → W.cell? ⟨b, 4, none⟩ = some (.slice none 0 0)) := Lib.hid fun W hW => by rw [← h0]; exact (hW.blk hB (by simp)).c 4 _ rfl
  clear hB h0
  go_enter Tryz.func149, Tryz.ntmps149
  go_wp2_with fail
  go_loopw [3, 4] (fun ov iv wr => ov = .slice none 0 0 ∧ iv = .int .i64 0 ∧ Fr [] w wr) (fun _ _ _ => 0)
  case atStart => exact ⟨rfl, rfl, Fr.refl _ _⟩
  case round =>
    obtain ⟨rfl, rfl, hF⟩ := hrel
    have g0 := HBC.out _ hF
    have HF := Lib.hid hF
    clear hF
    go_wp2_with fail
    go_ret
    exact ⟨rfl, HF.out⟩
set_option maxRecDepth 100000 in
set_option maxHeartbeats 2000000 in
theorem markedEthers_dead :
    Calls Tryz.prog 167 #[.slice none 0 0] w fun e w' => e = .returned (.bool true) ∧ Fr [] w w' := by
  go_enter Tryz.func167, Tryz.ntmps167
  go_wp2_with fail
  go_loopw [3] (fun iv wr => iv = .int .i64 0 ∧ Fr [] w wr) (fun _ _ => 0)
  case atStart => exact ⟨rfl, Fr.refl _ _⟩
  case round =>
    obtain ⟨rfl, hF⟩ := hrel
    have HF := Lib.hid hF
    clear hF
    go_wp2_with fail
    go_ret
    exact ⟨rfl, HF.out⟩
set_option maxRecDepth 100000 in
set_option maxHeartbeats 2000000 in
theorem stillTags_dead (hB : Blk w b (bkC Fb) 52) (h0 : Fb 6 = .slice none 0 0) :
    Calls Tryz.prog 114 #[.pointer (some ⟨b, 0, none⟩)] w fun e w' => e = .returned (.bool true) ∧ Fr [] w w' := by
  have HBC : Hid (∀ W, Fr [] w W → W.cell? ⟨b, 6, none⟩ = some (.slice none 0 0)) := Lib.hid fun W hW => by rw [← h0]; exact (hW.blk hB (by simp)).c 6 _ rfl
  clear hB h0
  go_enter Tryz.func114, Tryz.ntmps114
  go_wp2_with fail
  go_loopw [3] (fun iv wr => iv = .int .i64 0 ∧ Fr [] w wr) (fun _ _ => 0)
  case atStart => exact ⟨rfl, Fr.refl _ _⟩
  case round =>
    obtain ⟨rfl, hF⟩ := hrel
    have g0 := HBC.out _ hF
    have HF := Lib.hid hF
    clear hF
    go_wp2_with fail
    go_ret
    exact ⟨rfl, HF.out⟩
set_option maxRecDepth 100000 in
set_option maxHeartbeats 2000000 in
theorem putTags_dead (hB : Blk w b (bkC Fb) 52) (h0 : Fb 6 = .slice none 0 0) :
    Calls Tryz.prog 136 #[.pointer (some ⟨b, 0, none⟩)] w fun e w' => e = .returned (.tuple #[]) ∧ Fr [] w w' := by
  have HBC : Hid (∀ W, Fr [] w W → W.cell? ⟨b, 6, none⟩ = some (.slice none 0 0)) := Lib.hid fun W hW => by rw [← h0]; exact (hW.blk hB (by simp)).c 6 _ rfl
  clear hB h0
  go_enter Tryz.func136, Tryz.ntmps136
  go_wp2_with fail
  go_loopw [2] (fun iv wr => iv = .int .i64 0 ∧ Fr [] w wr) (fun _ _ => 0)
  case atStart => exact ⟨rfl, Fr.refl _ _⟩
  case round =>
    obtain ⟨rfl, hF⟩ := hrel
    have g0 := HBC.out _ hF
    have HF := Lib.hid hF
    clear hF
    go_wp2_with fail
    exact bodyPost_end (results_none rfl _ _ _) rfl ⟨rfl, HF.out⟩
set_option maxRecDepth 100000 in
set_option maxHeartbeats 2000000 in
theorem growTags_dead (hB : Blk w b (bkC Fb) 52) (h0 : Fb 6 = .slice none 0 0) :
    Calls Tryz.prog 150 #[.pointer (some ⟨b, 0, none⟩)] w fun e w' => e = .returned (.slice none 0 0) ∧ Fr [] w w' := by
  have HBC : Hid (∀ W, Fr [] w W → W.cell? ⟨b, 6, none⟩ = some (.slice none 0 0)) := Lib.hid fun W hW => by rw [← h0]; exact (hW.blk hB (by simp)).c 6 _ rfl
  clear hB h0
  go_enter Tryz.func150, Tryz.ntmps150
  go_wp2_with fail
  go_loopw [3, 4] (fun ov iv wr => ov = .slice none 0 0 ∧ iv = .int .i64 0 ∧ Fr [] w wr) (fun _ _ _ => 0)
  case atStart => exact ⟨rfl, rfl, Fr.refl _ _⟩
  case round =>
    obtain ⟨rfl, rfl, hF⟩ := hrel
    have g0 := HBC.out _ hF
    have HF := Lib.hid hF
    clear hF
    go_wp2_with fail
    go_ret
    exact ⟨rfl, HF.out⟩
set_option maxRecDepth 100000 in
set_option maxHeartbeats 2000000 in
theorem markedTags_dead :
    Calls Tryz.prog 168 #[.slice none 0 0] w fun e w' => e = .returned (.bool true) ∧ Fr [] w w' := by
  go_enter Tryz.func168, Tryz.ntmps168
  go_wp2_with fail
  go_loopw [3] (fun iv wr => iv = .int .i64 0 ∧ Fr [] w wr) (fun _ _ => 0)
  case atStart => exact ⟨rfl, Fr.refl _ _⟩
  case round =>
    obtain ⟨rfl, hF⟩ := hrel
    have HF := Lib.hid hF
    clear hF
    go_wp2_with fail
    go_ret
    exact ⟨rfl, HF.out⟩
set_option maxRecDepth 100000 in
set_option maxHeartbeats 2000000 in
theorem stillOptions_dead (hB : Blk w b (bkC Fb) 52) (h0 : Fb 8 = .slice none 0 0) :
    Calls Tryz.prog 115 #[.pointer (some ⟨b, 0, none⟩)] w fun e w' => e = .returned (.bool true) ∧ Fr [] w w' := by
  have HBC : Hid (∀ W, Fr [] w W → W.cell? ⟨b, 8, none⟩ = some (.slice none 0 0)) := Lib.hid fun W hW => by rw [← h0]; exact (hW.blk hB (by simp)).c 8 _ rfl
  clear hB h0
  go_enter Tryz.func115, Tryz.ntmps115
  go_wp2_with fail
  go_loopw [3] (fun iv wr => iv = .int .i64 0 ∧ Fr [] w wr) (fun _ _ => 0)
  case atStart => exact ⟨rfl, Fr.refl _ _⟩
  case round =>
    obtain ⟨rfl, hF⟩ := hrel
    have g0 := HBC.out _ hF
    have HF := Lib.hid hF
    clear hF
    go_wp2_with fail
    go_ret
    exact ⟨rfl, HF.out⟩
set_option maxRecDepth 100000 in
set_option maxHeartbeats 2000000 in
theorem putOptions_dead (hB : Blk w b (bkC Fb) 52) (h0 : Fb 8 = .slice none 0 0) :
    Calls Tryz.prog 137 #[.pointer (some ⟨b, 0, none⟩)] w fun e w' => e = .returned (.tuple #[]) ∧ Fr [] w w' := by
  have HBC : Hid (∀ W, Fr [] w W → W.cell? ⟨b, 8, none⟩ = some (.slice none 0 0)) := Lib.hid fun W hW => by rw [← h0]; exact (hW.blk hB (by simp)).c 8 _ rfl
  clear hB h0
  go_enter Tryz.func137, Tryz.ntmps137
  go_wp2_with fail
  go_loopw [2] (fun iv wr => iv = .int .i64 0 ∧ Fr [] w wr) (fun _ _ => 0)
  case atStart => exact ⟨rfl, Fr.refl _ _⟩
  case round =>
    obtain ⟨rfl, hF⟩ := hrel
    have g0 := HBC.out _ hF
    have HF := Lib.hid hF
    clear hF
    go_wp2_with fail
    exact bodyPost_end (results_none rfl _ _ _) rfl ⟨rfl, HF.out⟩
set_option maxRecDepth 100000 in
set_option maxHeartbeats 2000000 in
theorem growOptions_dead (hB : Blk w b (bkC Fb) 52) (h0 : Fb 8 = .slice none 0 0) :
    Calls Tryz.prog 151 #[.pointer (some ⟨b, 0, none⟩)] w fun e w' => e = .returned (.slice none 0 0) ∧ Fr [] w w' := by
  have HBC : Hid (∀ W, Fr [] w W → W.cell? ⟨b, 8, none⟩ = some (.slice none 0 0)) := Lib.hid fun W hW => by rw [← h0]; exact (hW.blk hB (by simp)).c 8 _ rfl
  clear hB h0
  go_enter Tryz.func151, Tryz.ntmps151
  go_wp2_with fail
  go_loopw [3, 4] (fun ov iv wr => ov = .slice none 0 0 ∧ iv = .int .i64 0 ∧ Fr [] w wr) (fun _ _ _ => 0)
  case atStart => exact ⟨rfl, rfl, Fr.refl _ _⟩
  case round =>
    obtain ⟨rfl, rfl, hF⟩ := hrel
    have g0 := HBC.out _ hF
    have HF := Lib.hid hF
    clear hF
    go_wp2_with fail
    go_ret
    exact ⟨rfl, HF.out⟩
set_option maxRecDepth 100000 in
set_option maxHeartbeats 2000000 in
theorem markedOptions_dead :
    Calls Tryz.prog 169 #[.slice none 0 0] w fun e w' => e = .returned (.bool true) ∧ Fr [] w w' := by
  go_enter Tryz.func169, Tryz.ntmps169
  go_wp2_with fail
  go_loopw [3] (fun iv wr => iv = .int .i64 0 ∧ Fr [] w wr) (fun _ _ => 0)
  case atStart => exact ⟨rfl, Fr.refl _ _⟩
  case round =>
    obtain ⟨rfl, hF⟩ := hrel
    have HF := Lib.hid hF
    clear hF
    go_wp2_with fail
    go_ret
    exact ⟨rfl, HF.out⟩
set_option maxRecDepth 100000 in
set_option maxHeartbeats 2000000 in
theorem stillPackets_dead (hB : Blk w b (bkC Fb) 52) (h0 : Fb 10 = .slice none 0 0) :
    Calls Tryz.prog 116 #[.pointer (some ⟨b, 0, none⟩)] w fun e w' => e = .returned (.bool true) ∧ Fr [] w w' := by
  have HBC : Hid (∀ W, Fr [] w W → W.cell? ⟨b, 10, none⟩ = some (.slice none 0 0)) := Lib.hid fun W hW => by rw [← h0]; exact (hW.blk hB (by simp)).c 10 _ rfl
  clear hB h0
  go_enter Tryz.func116, Tryz.ntmps116
  go_wp2_with fail
  go_loopw [3] (fun iv wr => iv = .int .i64 0 ∧ Fr [] w wr) (fun _ _ => 0)
  case atStart => exact ⟨rfl, Fr.refl _ _⟩
  case round =>
    obtain ⟨rfl, hF⟩ := hrel
    have g0 := HBC.out _ hF
    have HF := Lib.hid hF
    clear hF
    go_wp2_with fail
    go_ret
    exact ⟨rfl, HF.out⟩
set_option maxRecDepth 100000 in
set_option maxHeartbeats 2000000 in
theorem putPackets_dead (hB : Blk w b (bkC Fb) 52) (h0 : Fb 10 = .slice none 0 0) :
    Calls Tryz.prog 129 #[.pointer (some ⟨b, 0, none⟩)] w fun e w' => e = .returned (.tuple #[]) ∧ Fr [] w w' := by
  have HBC : Hid (∀ W, Fr [] w W → W.cell? ⟨b, 10, none⟩ = some (.slice none 0 0)) := Lib.hid fun W hW => by rw [← h0]; exact (hW.blk hB (by simp)).c 10 _ rfl
  clear hB h0
  go_enter Tryz.func129, Tryz.ntmps129
  go_wp2_with fail
  go_loopw [2] (fun iv wr => iv = .int .i64 0 ∧ Fr [] w wr) (fun _ _ => 0)
  case atStart => exact ⟨rfl, Fr.refl _ _⟩
  case round =>
    obtain ⟨rfl, hF⟩ := hrel
    have g0 := HBC.out _ hF
    have HF := Lib.hid hF
    clear hF
    go_wp2_with fail
    exact bodyPost_end (results_none rfl _ _ _) rfl ⟨rfl, HF.out⟩
set_option maxRecDepth 100000 in
set_option maxHeartbeats 2000000 in
theorem growPackets_dead (hB : Blk w b (bkC Fb) 52) (h0 : Fb 10 = .slice none 0 0) :
    Calls Tryz.prog 152 #[.pointer (some ⟨b, 0, none⟩)] w fun e w' => e = .returned (.slice none 0 0) ∧ Fr [] w w' := by
  have HBC : Hid (∀ W, Fr [] w W → W.cell? ⟨b, 10, none⟩ = some (.slice none 0 0)) := Lib.hid fun W hW => by rw [← h0]; exact (hW.blk hB (by simp)).c 10 _ rfl
  clear hB h0
  go_enter Tryz.func152, Tryz.ntmps152
  go_wp2_with fail
  go_loopw [3, 4] (fun ov iv wr => ov = .slice none 0 0 ∧ iv = .int .i64 0 ∧ Fr [] w wr) (fun _ _ _ => 0)
  case atStart => exact ⟨rfl, rfl, Fr.refl _ _⟩
  case round =>
    obtain ⟨rfl, rfl, hF⟩ := hrel
    have g0 := HBC.out _ hF
    have HF := Lib.hid hF
    clear hF
    go_wp2_with fail
    go_ret
    exact ⟨rfl, HF.out⟩
set_option maxRecDepth 100000 in
set_option maxHeartbeats 2000000 in
theorem markedPackets_dead :
    Calls Tryz.prog 170 #[.slice none 0 0] w fun e w' => e = .returned (.bool true) ∧ Fr [] w w' := by
  go_enter Tryz.func170, Tryz.ntmps170
  go_wp2_with fail
  go_loopw [3] (fun iv wr => iv = .int .i64 0 ∧ Fr [] w wr) (fun _ _ => 0)
  case atStart => exact ⟨rfl, Fr.refl _ _⟩
  case round =>
    obtain ⟨rfl, hF⟩ := hrel
    have HF := Lib.hid hF
    clear hF
    go_wp2_with fail
    go_ret
    exact ⟨rfl, HF.out⟩
set_option maxRecDepth 100000 in
set_option maxHeartbeats 2000000 in
theorem stillAvps_dead (hB : Blk w b (bkC Fb) 52) (h0 : Fb 12 = .slice none 0 0) :
    Calls Tryz.prog 117 #[.pointer (some ⟨b, 0, none⟩)] w fun e w' => e = .returned (.bool true) ∧ Fr [] w w' := by
  have HBC : Hid (∀ W, Fr [] w W → W.cell? ⟨b, 12, none⟩ = some (.slice none 0 0)) := Lib.hid fun W hW => by rw [← h0]; exact (hW.blk hB (by simp)).c 12 _ rfl
  clear hB h0
  go_enter Tryz.func117, Tryz.ntmps117
  go_wp2_with fail
  go_loopw [3] (fun iv wr => iv = .int .i64 0 ∧ Fr [] w wr) (fun _ _ => 0)
  case atStart => exact ⟨rfl, Fr.refl _ _⟩
  case round =>
    obtain ⟨rfl, hF⟩ := hrel
    have g0 := HBC.out _ hF
    have HF := Lib.hid hF
    clear hF
    go_wp2_with fail
    go_ret
    exact ⟨rfl, HF.out⟩
set_option maxRecDepth 100000 in
set_option maxHeartbeats 2000000 in
theorem putAvps_dead (hB : Blk w b (bkC Fb) 52) (h0 : Fb 12 = .slice none 0 0) :
    Calls Tryz.prog 138 #[.pointer (some ⟨b, 0, none⟩)] w fun e w' => e = .returned (.tuple #[]) ∧ Fr [] w w' := by
  have HBC : Hid (∀ W, Fr [] w W → W.cell? ⟨b, 12, none⟩ = some (.slice none 0 0)) := Lib.hid fun W hW => by rw [← h0]; exact (hW.blk hB (by simp)).c 12 _ rfl
  clear hB h0
  go_enter Tryz.func138, Tryz.ntmps138
  go_wp2_with fail
  go_loopw [2] (fun iv wr => iv = .int .i64 0 ∧ Fr [] w wr) (fun _ _ => 0)
  case atStart => exact ⟨rfl, Fr.refl _ _⟩
  case round =>
    obtain ⟨rfl, hF⟩ := hrel
    have g0 := HBC.out _ hF
    have HF := Lib.hid hF
    clear hF
    go_wp2_with fail
    exact bodyPost_end (results_none rfl _ _ _) rfl ⟨rfl, HF.out⟩
set_option maxRecDepth 100000 in
set_option maxHeartbeats 2000000 in
theorem growAvps_dead (hB : Blk w b (bkC Fb) 52) (h0 : Fb 12 = .slice none 0 0) :
    Calls Tryz.prog 153 #[.pointer (some ⟨b, 0, none⟩)] w fun e w' => e = .returned (.slice none 0 0) ∧ Fr [] w w' := by
  have HBC : Hid (∀ W, Fr [] w W → W.cell? ⟨b, 12, none⟩ = some (.slice none 0 0)) := Lib.hid fun W hW => by rw [← h0]; exact (hW.blk hB (by simp)).c 12 _ rfl
  clear hB h0
  go_enter Tryz.func153, Tryz.ntmps153
  go_wp2_with fail
  go_loopw [3, 4] (fun ov iv wr => ov = .slice none 0 0 ∧ iv = .int .i64 0 ∧ Fr [] w wr) (fun _ _ _ => 0)
  case atStart => exact ⟨rfl, rfl, Fr.refl _ _⟩
  case round =>
    obtain ⟨rfl, rfl, hF⟩ := hrel
    have g0 := HBC.out _ hF
    have HF := Lib.hid hF
    clear hF
    go_wp2_with fail
    go_ret
    exact ⟨rfl, HF.out⟩
set_option maxRecDepth 100000 in
set_option maxHeartbeats 2000000 in
theorem markedAvps_dead :
    Calls Tryz.prog 171 #[.slice none 0 0] w fun e w' => e = .returned (.bool true) ∧ Fr [] w w' := by
  go_enter Tryz.func171, Tryz.ntmps171
  go_wp2_with fail
  go_loopw [3] (fun iv wr => iv = .int .i64 0 ∧ Fr [] w wr) (fun _ _ => 0)
  case atStart => exact ⟨rfl, Fr.refl _ _⟩
  case round =>
    obtain ⟨rfl, hF⟩ := hrel
    have HF := Lib.hid hF
    clear hF
    go_wp2_with fail
    go_ret
    exact ⟨rfl, HF.out⟩
set_option maxRecDepth 100000 in
set_option maxHeartbeats 2000000 in
theorem stillCtls_dead (hB : Blk w b (bkC Fb) 52) (h0 : Fb 14 = .slice none 0 0) :
    Calls Tryz.prog 118 #[.pointer (some ⟨b, 0, none⟩)] w fun e w' => e = .returned (.bool true) ∧ Fr [] w w' := by
  have HBC : Hid (∀ W, Fr [] w W → W.cell? ⟨b, 14, none⟩ = some (.slice none 0 0)) := Lib.hid fun W hW => by rw [← h0]; exact (hW.blk hB (by simp)).c 14 _ rfl
  clear hB h0
  go_enter Tryz.func118, Tryz.ntmps118
  go_wp2_with fail
  go_loopw [3] (fun iv wr => iv = .int .i64 0 ∧ Fr [] w wr) (fun _ _ => 0)
  case atStart => exact ⟨rfl, Fr.refl _ _⟩
  case round =>
    obtain ⟨rfl, hF⟩ := hrel
    have g0 := HBC.out _ hF
    have HF := Lib.hid hF
    clear hF
    go_wp2_with fail
    go_ret
    exact ⟨rfl, HF.out⟩
set_option maxRecDepth 100000 in
set_option maxHeartbeats 2000000 in
theorem putCtls_dead (hB : Blk w b (bkC Fb) 52) (h0 : Fb 14 = .slice none 0 0) :
    Calls Tryz.prog 130 #[.pointer (some ⟨b, 0, none⟩)] w fun e w' => e = .returned (.tuple #[]) ∧ Fr [] w w' := by
  have HBC : Hid (∀ W, Fr [] w W → W.cell? ⟨b, 14, none⟩ = some (.slice none 0 0)) := Lib.hid fun W hW => by rw [← h0]; exact (hW.blk hB (by simp)).c 14 _ rfl
  clear hB h0
  go_enter Tryz.func130, Tryz.ntmps130
  go_wp2_with fail
  go_loopw [2] (fun iv wr => iv = .int .i64 0 ∧ Fr [] w wr) (fun _ _ => 0)
  case atStart => exact ⟨rfl, Fr.refl _ _⟩
  case round =>
    obtain ⟨rfl, hF⟩ := hrel
    have g0 := HBC.out _ hF
    have HF := Lib.hid hF
    clear hF
    go_wp2_with fail
    exact bodyPost_end (results_none rfl _ _ _) rfl ⟨rfl, HF.out⟩
set_option maxRecDepth 100000 in
set_option maxHeartbeats 2000000 in
theorem growCtls_dead (hB : Blk w b (bkC Fb) 52) (h0 : Fb 14 = .slice none 0 0) :
    Calls Tryz.prog 154 #[.pointer (some ⟨b, 0, none⟩)] w fun e w' => e = .returned (.slice none 0 0) ∧ Fr [] w w' := by
  have HBC : Hid (∀ W, Fr [] w W → W.cell? ⟨b, 14, none⟩ = some (.slice none 0 0)) := Lib.hid fun W hW => by rw [← h0]; exact (hW.blk hB (by simp)).c 14 _ rfl
  clear hB h0
  go_enter Tryz.func154, Tryz.ntmps154
  go_wp2_with fail
  go_loopw [3, 4] (fun ov iv wr => ov = .slice none 0 0 ∧ iv = .int .i64 0 ∧ Fr [] w wr) (fun _ _ _ => 0)
  case atStart => exact ⟨rfl, rfl, Fr.refl _ _⟩
  case round =>
    obtain ⟨rfl, rfl, hF⟩ := hrel
    have g0 := HBC.out _ hF
    have HF := Lib.hid hF
    clear hF
    go_wp2_with fail
    go_ret
    exact ⟨rfl, HF.out⟩
set_option maxRecDepth 100000 in
set_option maxHeartbeats 2000000 in
theorem markedCtls_dead :
    Calls Tryz.prog 172 #[.slice none 0 0] w fun e w' => e = .returned (.bool true) ∧ Fr [] w w' := by
  go_enter Tryz.func172, Tryz.ntmps172
  go_wp2_with fail
  go_loopw [3] (fun iv wr => iv = .int .i64 0 ∧ Fr [] w wr) (fun _ _ => 0)
  case atStart => exact ⟨rfl, Fr.refl _ _⟩
  case round =>
    obtain ⟨rfl, hF⟩ := hrel
    have HF := Lib.hid hF
    clear hF
    go_wp2_with fail
    go_ret
    exact ⟨rfl, HF.out⟩
set_option maxRecDepth 100000 in
set_option maxHeartbeats 2000000 in
theorem stillKeys_dead (hB : Blk w b (bkC Fb) 52) (h0 : Fb 16 = .slice none 0 0) :
    Calls Tryz.prog 119 #[.pointer (some ⟨b, 0, none⟩)] w fun e w' => e = .returned (.bool true) ∧ Fr [] w w' := by
  have HBC : Hid (∀ W, Fr [] w W → W.cell? ⟨b, 16, none⟩ = some (.slice none 0 0)) := Lib.hid fun W hW => by rw [← h0]; exact (hW.blk hB (by simp)).c 16 _ rfl
  clear hB h0
  go_enter Tryz.func119, Tryz.ntmps119
  go_wp2_with fail
  go_loopw [3] (fun iv wr => iv = .int .i64 0 ∧ Fr [] w wr) (fun _ _ => 0)
  case atStart => exact ⟨rfl, Fr.refl _ _⟩
  case round =>
    obtain ⟨rfl, hF⟩ := hrel
    have g0 := HBC.out _ hF
    have HF := Lib.hid hF
    clear hF
    go_wp2_with fail
    go_ret
    exact ⟨rfl, HF.out⟩
set_option maxRecDepth 100000 in
set_option maxHeartbeats 2000000 in
theorem putKeys_dead (hB : Blk w b (bkC Fb) 52) (h0 : Fb 16 = .slice none 0 0) :
    Calls Tryz.prog 139 #[.pointer (some ⟨b, 0, none⟩)] w fun e w' => e = .returned (.tuple #[]) ∧ Fr [] w w' := by
  have HBC : Hid (∀ W, Fr [] w W → W.cell? ⟨b, 16, none⟩ = some (.slice none 0 0)) := Lib.hid fun W hW => by rw [← h0]; exact (hW.blk hB (by simp)).c 16 _ rfl
  clear hB h0
  go_enter Tryz.func139, Tryz.ntmps139
  go_wp2_with fail
  go_loopw [2] (fun iv wr => iv = .int .i64 0 ∧ Fr [] w wr) (fun _ _ => 0)
  case atStart => exact ⟨rfl, Fr.refl _ _⟩
  case round =>
    obtain ⟨rfl, hF⟩ := hrel
    have g0 := HBC.out _ hF
    have HF := Lib.hid hF
    clear hF
    go_wp2_with fail
    exact bodyPost_end (results_none rfl _ _ _) rfl ⟨rfl, HF.out⟩
set_option maxRecDepth 100000 in
set_option maxHeartbeats 2000000 in
theorem growKeys_dead (hB : Blk w b (bkC Fb) 52) (h0 : Fb 16 = .slice none 0 0) :
    Calls Tryz.prog 155 #[.pointer (some ⟨b, 0, none⟩)] w fun e w' => e = .returned (.slice none 0 0) ∧ Fr [] w w' := by
  have HBC : Hid (∀ W, Fr [] w W → W.cell? ⟨b, 16, none⟩ = some (.slice none 0 0)) := Lib.hid fun W hW => by rw [← h0]; exact (hW.blk hB (by simp)).c 16 _ rfl
  clear hB h0
  go_enter Tryz.func155, Tryz.ntmps155
  go_wp2_with fail
  go_loopw [3, 4] (fun ov iv wr => ov = .slice none 0 0 ∧ iv = .int .i64 0 ∧ Fr [] w wr) (fun _ _ _ => 0)
  case atStart => exact ⟨rfl, rfl, Fr.refl _ _⟩
  case round =>
    obtain ⟨rfl, rfl, hF⟩ := hrel
    have g0 := HBC.out _ hF
    have HF := Lib.hid hF
    clear hF
    go_wp2_with fail
    go_ret
    exact ⟨rfl, HF.out⟩
set_option maxRecDepth 100000 in
set_option maxHeartbeats 2000000 in
theorem markedKeys_dead :
    Calls Tryz.prog 173 #[.slice none 0 0] w fun e w' => e = .returned (.bool true) ∧ Fr [] w w' := by
  go_enter Tryz.func173, Tryz.ntmps173
  go_wp2_with fail
  go_loopw [3] (fun iv wr => iv = .int .i64 0 ∧ Fr [] w wr) (fun _ _ => 0)
  case atStart => exact ⟨rfl, Fr.refl _ _⟩
  case round =>
    obtain ⟨rfl, hF⟩ := hrel
    have HF := Lib.hid hF
    clear hF
    go_wp2_with fail
    go_ret
    exact ⟨rfl, HF.out⟩
set_option maxRecDepth 100000 in
set_option maxHeartbeats 2000000 in
theorem stillSessions_dead (hB : Blk w b (bkC Fb) 52) (h0 : Fb 18 = .slice none 0 0) :
    Calls Tryz.prog 120 #[.pointer (some ⟨b, 0, none⟩)] w fun e w' => e = .returned (.bool true) ∧ Fr [] w w' := by
  have HBC : Hid (∀ W, Fr [] w W → W.cell? ⟨b, 18, none⟩ = some (.slice none 0 0)) := Lib.hid fun W hW => by rw [← h0]; exact (hW.blk hB (by simp)).c 18 _ rfl
  clear hB h0
  go_enter Tryz.func120, Tryz.ntmps120
  go_wp2_with fail
  go_loopw [3] (fun iv wr => iv = .int .i64 0 ∧ Fr [] w wr) (fun _ _ => 0)
  case atStart => exact ⟨rfl, Fr.refl _ _⟩
  case round =>
    obtain ⟨rfl, hF⟩ := hrel
    have g0 := HBC.out _ hF
    have HF := Lib.hid hF
    clear hF
    go_wp2_with fail
    go_ret
    exact ⟨rfl, HF.out⟩
set_option maxRecDepth 100000 in
set_option maxHeartbeats 2000000 in
theorem putSessions_dead (hB : Blk w b (bkC Fb) 52) (h0 : Fb 18 = .slice none 0 0) :
    Calls Tryz.prog 140 #[.pointer (some ⟨b, 0, none⟩)] w fun e w' => e = .returned (.tuple #[]) ∧ Fr [] w w' := by
  have HBC : Hid (∀ W, Fr [] w W → W.cell? ⟨b, 18, none⟩ = some (.slice none 0 0)) := Lib.hid fun W hW => by rw [← h0]; exact (hW.blk hB (by simp)).c 18 _ rfl
  clear hB h0
  go_enter Tryz.func140, Tryz.ntmps140
  go_wp2_with fail
  go_loopw [2] (fun iv wr => iv = .int .i64 0 ∧ Fr [] w wr) (fun _ _ => 0)
  case atStart => exact ⟨rfl, Fr.refl _ _⟩
  case round =>
    obtain ⟨rfl, hF⟩ := hrel
    have g0 := HBC.out _ hF
    have HF := Lib.hid hF
    clear hF
    go_wp2_with fail
    exact bodyPost_end (results_none rfl _ _ _) rfl ⟨rfl, HF.out⟩
set_option maxRecDepth 100000 in
set_option maxHeartbeats 2000000 in
theorem growSessions_dead (hB : Blk w b (bkC Fb) 52) (h0 : Fb 18 = .slice none 0 0) :
    Calls Tryz.prog 156 #[.pointer (some ⟨b, 0, none⟩)] w fun e w' => e = .returned (.slice none 0 0) ∧ Fr [] w w' := by
  have HBC : Hid (∀ W, Fr [] w W → W.cell? ⟨b, 18, none⟩ = some (.slice none 0 0)) := Lib.hid fun W hW => by rw [← h0]; exact (hW.blk hB (by simp)).c 18 _ rfl
  clear hB h0
  go_enter Tryz.func156, Tryz.ntmps156
  go_wp2_with fail
  go_loopw [3, 4] (fun ov iv wr => ov = .slice none 0 0 ∧ iv = .int .i64 0 ∧ Fr [] w wr) (fun _ _ _ => 0)
  case atStart => exact ⟨rfl, rfl, Fr.refl _ _⟩
  case round =>
    obtain ⟨rfl, rfl, hF⟩ := hrel
    have g0 := HBC.out _ hF
    have HF := Lib.hid hF
    clear hF
    go_wp2_with fail
    go_ret
    exact ⟨rfl, HF.out⟩
set_option maxRecDepth 100000 in
set_option maxHeartbeats 2000000 in
theorem markedSessions_dead :
    Calls Tryz.prog 174 #[.slice none 0 0] w fun e w' => e = .returned (.bool true) ∧ Fr [] w w' := by
  go_enter Tryz.func174, Tryz.ntmps174
  go_wp2_with fail
  go_loopw [3] (fun iv wr => iv = .int .i64 0 ∧ Fr [] w wr) (fun _ _ => 0)
  case atStart => exact ⟨rfl, Fr.refl _ _⟩
  case round =>
    obtain ⟨rfl, hF⟩ := hrel
    have HF := Lib.hid hF
    clear hF
    go_wp2_with fail
    go_ret
    exact ⟨rfl, HF.out⟩
set_option maxRecDepth 100000 in
set_option maxHeartbeats 2000000 in
theorem stillIds_dead (hB : Blk w b (bkC Fb) 52) (h0 : Fb 20 = .slice none 0 0) :
    Calls Tryz.prog 121 #[.pointer (some ⟨b, 0, none⟩)] w fun e w' => e = .returned (.bool true) ∧ Fr [] w w' := by
  have HBC : Hid (∀ W, Fr [] w W → W.cell? ⟨b, 20, none⟩ = some (.slice none 0 0)) := Lib.hid fun W hW => by rw [← h0]; exact (hW.blk hB (by simp)).c 20 _ rfl
  clear hB h0
  go_enter Tryz.func121, Tryz.ntmps121
  go_wp2_with fail
  go_loopw [3] (fun iv wr => iv = .int .i64 0 ∧ Fr [] w wr) (fun _ _ => 0)
  case atStart => exact ⟨rfl, Fr.refl _ _⟩
  case round =>
    obtain ⟨rfl, hF⟩ := hrel
    have g0 := HBC.out _ hF
    have HF := Lib.hid hF
    clear hF
    go_wp2_with fail
    go_ret
    exact ⟨rfl, HF.out⟩
set_option maxRecDepth 100000 in
set_option maxHeartbeats 2000000 in
theorem putIds_dead (hB : Blk w b (bkC Fb) 52) (h0 : Fb 20 = .slice none 0 0) :
    Calls Tryz.prog 141 #[.pointer (some ⟨b, 0, none⟩)] w fun e w' => e = .returned (.tuple #[]) ∧ Fr [] w w' := by
  have HBC : Hid (∀ W, Fr [] w W → W.cell? ⟨b, 20, none⟩ = some (.slice none 0 0)) := Lib.hid fun W hW => by rw [← h0]; exact (hW.blk hB (by simp)).c 20 _ rfl
  clear hB h0
  go_enter Tryz.func141, Tryz.ntmps141
  go_wp2_with fail
  go_loopw [2] (fun iv wr => iv = .int .i64 0 ∧ Fr [] w wr) (fun _ _ => 0)
  case atStart => exact ⟨rfl, Fr.refl _ _⟩
  case round =>
    obtain ⟨rfl, hF⟩ := hrel
    have g0 := HBC.out _ hF
    have HF := Lib.hid hF
    clear hF
    go_wp2_with fail
    exact bodyPost_end (results_none rfl _ _ _) rfl ⟨rfl, HF.out⟩
set_option maxRecDepth 100000 in
set_option maxHeartbeats 2000000 in
theorem growIds_dead (hB : Blk w b (bkC Fb) 52) (h0 : Fb 20 = .slice none 0 0) :
    Calls Tryz.prog 157 #[.pointer (some ⟨b, 0, none⟩)] w fun e w' => e = .returned (.slice none 0 0) ∧ Fr [] w w' := by
  have HBC : Hid (∀ W, Fr [] w W → W.cell? ⟨b, 20, none⟩ = some (.slice none 0 0)) := Lib.hid fun W hW => by rw [← h0]; exact (hW.blk hB (by simp)).c 20 _ rfl
  clear hB h0
  go_enter Tryz.func157, Tryz.ntmps157
  go_wp2_with fail
  go_loopw [3, 4] (fun ov iv wr => ov = .slice none 0 0 ∧ iv = .int .i64 0 ∧ Fr [] w wr) (fun _ _ _ => 0)
  case atStart => exact ⟨rfl, rfl, Fr.refl _ _⟩
  case round =>
    obtain ⟨rfl, rfl, hF⟩ := hrel
    have g0 := HBC.out _ hF
    have HF := Lib.hid hF
    clear hF
    go_wp2_with fail
    go_ret
    exact ⟨rfl, HF.out⟩
set_option maxRecDepth 100000 in
set_option maxHeartbeats 2000000 in
theorem markedIds_dead :
    Calls Tryz.prog 175 #[.slice none 0 0] w fun e w' => e = .returned (.bool true) ∧ Fr [] w w' := by
  go_enter Tryz.func175, Tryz.ntmps175
  go_wp2_with fail
  go_loopw [3] (fun iv wr => iv = .int .i64 0 ∧ Fr [] w wr) (fun _ _ => 0)
  case atStart => exact ⟨rfl, Fr.refl _ _⟩
  case round =>
    obtain ⟨rfl, hF⟩ := hrel
    have HF := Lib.hid hF
    clear hF
    go_wp2_with fail
    go_ret
    exact ⟨rfl, HF.out⟩
set_option maxRecDepth 100000 in
set_option maxHeartbeats 2000000 in
theorem stillGrams_dead (hB : Blk w b (bkC Fb) 52) (h0 : Fb 22 = .slice none 0 0) :
    Calls Tryz.prog 122 #[.pointer (some ⟨b, 0, none⟩)] w fun e w' => e = .returned (.bool true) ∧ Fr [] w w' := by
  have HBC : Hid (∀ W, Fr [] w W → W.cell? ⟨b, 22, none⟩ = some (.slice none 0 0)) := Lib.hid fun W hW => by rw [← h0]; exact (hW.blk hB (by simp)).c 22 _ rfl
  clear hB h0
  go_enter Tryz.func122, Tryz.ntmps122
  go_wp2_with fail
  go_loopw [3] (fun iv wr => iv = .int .i64 0 ∧ Fr [] w wr) (fun _ _ => 0)
  case atStart => exact ⟨rfl, Fr.refl _ _⟩
  case round =>
    obtain ⟨rfl, hF⟩ := hrel
    have g0 := HBC.out _ hF
    have HF := Lib.hid hF
    clear hF
    go_wp2_with fail
    go_ret
    exact ⟨rfl, HF.out⟩
set_option maxRecDepth 100000 in
set_option maxHeartbeats 2000000 in
theorem putGrams_dead (hB : Blk w b (bkC Fb) 52) (h0 : Fb 22 = .slice none 0 0) :
    Calls Tryz.prog 142 #[.pointer (some ⟨b, 0, none⟩)] w fun e w' => e = .returned (.tuple #[]) ∧ Fr [] w w' := by
  have HBC : Hid (∀ W, Fr [] w W → W.cell? ⟨b, 22, none⟩ = some (.slice none 0 0)) := Lib.hid fun W hW => by rw [← h0]; exact (hW.blk hB (by simp)).c 22 _ rfl
  clear hB h0
  go_enter Tryz.func142, Tryz.ntmps142
  go_wp2_with fail
  go_loopw [2] (fun iv wr => iv = .int .i64 0 ∧ Fr [] w wr) (fun _ _ => 0)
  case atStart => exact ⟨rfl, Fr.refl _ _⟩
  case round =>
    obtain ⟨rfl, hF⟩ := hrel
    have g0 := HBC.out _ hF
    have HF := Lib.hid hF
    clear hF
    go_wp2_with fail
    exact bodyPost_end (results_none rfl _ _ _) rfl ⟨rfl, HF.out⟩
set_option maxRecDepth 100000 in
set_option maxHeartbeats 2000000 in
theorem growGrams_dead (hB : Blk w b (bkC Fb) 52) (h0 : Fb 22 = .slice none 0 0) :
    Calls Tryz.prog 158 #[.pointer (some ⟨b, 0, none⟩)] w fun e w' => e = .returned (.slice none 0 0) ∧ Fr [] w w' := by
  have HBC : Hid (∀ W, Fr [] w W → W.cell? ⟨b, 22, none⟩ = some (.slice none 0 0)) := Lib.hid fun W hW => by rw [← h0]; exact (hW.blk hB (by simp)).c 22 _ rfl
  clear hB h0
  go_enter Tryz.func158, Tryz.ntmps158
  go_wp2_with fail
  go_loopw [3, 4] (fun ov iv wr => ov = .slice none 0 0 ∧ iv = .int .i64 0 ∧ Fr [] w wr) (fun _ _ _ => 0)
  case atStart => exact ⟨rfl, rfl, Fr.refl _ _⟩
  case round =>
    obtain ⟨rfl, rfl, hF⟩ := hrel
    have g0 := HBC.out _ hF
    have HF := Lib.hid hF
    clear hF
    go_wp2_with fail
    go_ret
    exact ⟨rfl, HF.out⟩
set_option maxRecDepth 100000 in
set_option maxHeartbeats 2000000 in
theorem markedGrams_dead :
    Calls Tryz.prog 176 #[.slice none 0 0] w fun e w' => e = .returned (.bool true) ∧ Fr [] w w' := by
  go_enter Tryz.func176, Tryz.ntmps176
  go_wp2_with fail
  go_loopw [3] (fun iv wr => iv = .int .i64 0 ∧ Fr [] w wr) (fun _ _ => 0)
  case atStart => exact ⟨rfl, Fr.refl _ _⟩
  case round =>
    obtain ⟨rfl, hF⟩ := hrel
    have HF := Lib.hid hF
    clear hF
    go_wp2_with fail
    go_ret
    exact ⟨rfl, HF.out⟩
set_option maxRecDepth 100000 in
set_option maxHeartbeats 2000000 in
theorem stillSays_dead (hB : Blk w b (bkC Fb) 52) (h0 : Fb 24 = .slice none 0 0) :
    Calls Tryz.prog 123 #[.pointer (some ⟨b, 0, none⟩)] w fun e w' => e = .returned (.bool true) ∧ Fr [] w w' := by
  have HBC : Hid (∀ W, Fr [] w W → W.cell? ⟨b, 24, none⟩ = some (.slice none 0 0)) := Lib.hid fun W hW => by rw [← h0]; exact (hW.blk hB (by simp)).c 24 _ rfl
  clear hB h0
  go_enter Tryz.func123, Tryz.ntmps123
  go_wp2_with fail
  go_loopw [3] (fun iv wr => iv = .int .i64 0 ∧ Fr [] w wr) (fun _ _ => 0)
  case atStart => exact ⟨rfl, Fr.refl _ _⟩
  case round =>
    obtain ⟨rfl, hF⟩ := hrel
    have g0 := HBC.out _ hF
    have HF := Lib.hid hF
    clear hF
    go_wp2_with fail
    go_ret
    exact ⟨rfl, HF.out⟩
set_option maxRecDepth 100000 in
set_option maxHeartbeats 2000000 in
theorem putSays_dead (hB : Blk w b (bkC Fb) 52) (h0 : Fb 24 = .slice none 0 0) :
    Calls Tryz.prog 131 #[.pointer (some ⟨b, 0, none⟩)] w fun e w' => e = .returned (.tuple #[]) ∧ Fr [] w w' := by
  have HBC : Hid (∀ W, Fr [] w W → W.cell? ⟨b, 24, none⟩ = some (.slice none 0 0)) := Lib.hid fun W hW => by rw [← h0]; exact (hW.blk hB (by simp)).c 24 _ rfl
  clear hB h0
  go_enter Tryz.func131, Tryz.ntmps131
  go_wp2_with fail
  go_loopw [2] (fun iv wr => iv = .int .i64 0 ∧ Fr [] w wr) (fun _ _ => 0)
  case atStart => exact ⟨rfl, Fr.refl _ _⟩
  case round =>
    obtain ⟨rfl, hF⟩ := hrel
    have g0 := HBC.out _ hF
    have HF := Lib.hid hF
    clear hF
    go_wp2_with fail
    exact bodyPost_end (results_none rfl _ _ _) rfl ⟨rfl, HF.out⟩
set_option maxRecDepth 100000 in
set_option maxHeartbeats 2000000 in
theorem growSays_dead (hB : Blk w b (bkC Fb) 52) (h0 : Fb 24 = .slice none 0 0) :
    Calls Tryz.prog 159 #[.pointer (some ⟨b, 0, none⟩)] w fun e w' => e = .returned (.slice none 0 0) ∧ Fr [] w w' := by
  have HBC : Hid (∀ W, Fr [] w W → W.cell? ⟨b, 24, none⟩ = some (.slice none 0 0)) := Lib.hid fun W hW => by rw [← h0]; exact (hW.blk hB (by simp)).c 24 _ rfl
  clear hB h0
  go_enter Tryz.func159, Tryz.ntmps159
  go_wp2_with fail
  go_loopw [3, 4] (fun ov iv wr => ov = .slice none 0 0 ∧ iv = .int .i64 0 ∧ Fr [] w wr) (fun _ _ _ => 0)
  case atStart => exact ⟨rfl, rfl, Fr.refl _ _⟩
  case round =>
    obtain ⟨rfl, rfl, hF⟩ := hrel
    have g0 := HBC.out _ hF
    have HF := Lib.hid hF
    clear hF
    go_wp2_with fail
    go_ret
    exact ⟨rfl, HF.out⟩
set_option maxRecDepth 100000 in
set_option maxHeartbeats 2000000 in
theorem markedSays_dead :
    Calls Tryz.prog 177 #[.slice none 0 0] w fun e w' => e = .returned (.bool true) ∧ Fr [] w w' := by
  go_enter Tryz.func177, Tryz.ntmps177
  go_wp2_with fail
  go_loopw [3] (fun iv wr => iv = .int .i64 0 ∧ Fr [] w wr) (fun _ _ => 0)
  case atStart => exact ⟨rfl, Fr.refl _ _⟩
  case round =>
    obtain ⟨rfl, hF⟩ := hrel
    have HF := Lib.hid hF
    clear hF
    go_wp2_with fail
    go_ret
    exact ⟨rfl, HF.out⟩
set_option maxRecDepth 100000 in
set_option maxHeartbeats 2000000 in
theorem stillItems_dead (hB : Blk w b (bkC Fb) 52) (h0 : Fb 26 = .slice none 0 0) :
    Calls Tryz.prog 124 #[.pointer (some ⟨b, 0, none⟩)] w fun e w' => e = .returned (.bool true) ∧ Fr [] w w' := by
  have HBC : Hid (∀ W, Fr [] w W → W.cell? ⟨b, 26, none⟩ = some (.slice none 0 0)) := Lib.hid fun W hW => by rw [← h0]; exact (hW.blk hB (by simp)).c 26 _ rfl
  clear hB h0
  go_enter Tryz.func124, Tryz.ntmps124
  go_wp2_with fail
  go_loopw [3] (fun iv wr => iv = .int .i64 0 ∧ Fr [] w wr) (fun _ _ => 0)
  case atStart => exact ⟨rfl, Fr.refl _ _⟩
  case round =>
    obtain ⟨rfl, hF⟩ := hrel
    have g0 := HBC.out _ hF
    have HF := Lib.hid hF
    clear hF
    go_wp2_with fail
    go_ret
    exact ⟨rfl, HF.out⟩
set_option maxRecDepth 100000 in
set_option maxHeartbeats 2000000 in
theorem putItems_dead (hB : Blk w b (bkC Fb) 52) (h0 : Fb 26 = .slice none 0 0) :
    Calls Tryz.prog 143 #[.pointer (some ⟨b, 0, none⟩)] w fun e w' => e = .returned (.tuple #[]) ∧ Fr [] w w' := by
  have HBC : Hid (∀ W, Fr [] w W → W.cell? ⟨b, 26, none⟩ = some (.slice none 0 0)) := Lib.hid fun W hW => by rw [← h0]; exact (hW.blk hB (by simp)).c 26 _ rfl
  clear hB h0
  go_enter Tryz.func143, Tryz.ntmps143
  go_wp2_with fail
  go_loopw [2] (fun iv wr => iv = .int .i64 0 ∧ Fr [] w wr) (fun _ _ => 0)
  case atStart => exact ⟨rfl, Fr.refl _ _⟩
  case round =>
    obtain ⟨rfl, hF⟩ := hrel
    have g0 := HBC.out _ hF
    have HF := Lib.hid hF
    clear hF
    go_wp2_with fail
    exact bodyPost_end (results_none rfl _ _ _) rfl ⟨rfl, HF.out⟩
set_option maxRecDepth 100000 in
set_option maxHeartbeats 2000000 in
theorem growItems_dead (hB : Blk w b (bkC Fb) 52) (h0 : Fb 26 = .slice none 0 0) :
    Calls Tryz.prog 160 #[.pointer (some ⟨b, 0, none⟩)] w fun e w' => e = .returned (.slice none 0 0) ∧ Fr [] w w' := by
  have HBC : Hid (∀ W, Fr [] w W → W.cell? ⟨b, 26, none⟩ = some (.slice none 0 0)) := Lib.hid fun W hW => by rw [← h0]; exact (hW.blk hB (by simp)).c 26 _ rfl
  clear hB h0
  go_enter Tryz.func160, Tryz.ntmps160
  go_wp2_with fail
  go_loopw [3, 4] (fun ov iv wr => ov = .slice none 0 0 ∧ iv = .int .i64 0 ∧ Fr [] w wr) (fun _ _ _ => 0)
  case atStart => exact ⟨rfl, rfl, Fr.refl _ _⟩
  case round =>
    obtain ⟨rfl, rfl, hF⟩ := hrel
    have g0 := HBC.out _ hF
    have HF := Lib.hid hF
    clear hF
    go_wp2_with fail
    go_ret
    exact ⟨rfl, HF.out⟩
set_option maxRecDepth 100000 in
set_option maxHeartbeats 2000000 in
theorem markedItems_dead :
    Calls Tryz.prog 178 #[.slice none 0 0] w fun e w' => e = .returned (.bool true) ∧ Fr [] w w' := by
  go_enter Tryz.func178, Tryz.ntmps178
  go_wp2_with fail
  go_loopw [3] (fun iv wr => iv = .int .i64 0 ∧ Fr [] w wr) (fun _ _ => 0)
  case atStart => exact ⟨rfl, Fr.refl _ _⟩
  case round =>
    obtain ⟨rfl, hF⟩ := hrel
    have HF := Lib.hid hF
    clear hF
    go_wp2_with fail
    go_ret
    exact ⟨rfl, HF.out⟩
set_option maxRecDepth 100000 in
set_option maxHeartbeats 2000000 in
theorem stillLines_dead (hB : Blk w b (bkC Fb) 52) (h0 : Fb 28 = .slice none 0 0) :
    Calls Tryz.prog 125 #[.pointer (some ⟨b, 0, none⟩)] w fun e w' => e = .returned (.bool true) ∧ Fr [] w w' := by
  have HBC : Hid (∀ W, Fr [] w W → W.cell? ⟨b, 28, none⟩ = some (.slice none 0 0)) := Lib.hid fun W hW => by rw [← h0]; exact (hW.blk hB (by simp)).c 28 _ rfl
  clear hB h0
  go_enter Tryz.func125, Tryz.ntmps125
  go_wp2_with fail
  go_loopw [3] (fun iv wr => iv = .int .i64 0 ∧ Fr [] w wr) (fun _ _ => 0)
  case atStart => exact ⟨rfl, Fr.refl _ _⟩
  case round =>
    obtain ⟨rfl, hF⟩ := hrel
    have g0 := HBC.out _ hF
    have HF := Lib.hid hF
    clear hF
    go_wp2_with fail
    go_ret
    exact ⟨rfl, HF.out⟩
set_option maxRecDepth 100000 in
set_option maxHeartbeats 2000000 in
theorem putLines_dead (hB : Blk w b (bkC Fb) 52) (h0 : Fb 28 = .slice none 0 0) :
    Calls Tryz.prog 144 #[.pointer (some ⟨b, 0, none⟩)] w fun e w' => e = .returned (.tuple #[]) ∧ Fr [] w w' := by
  have HBC : Hid (∀ W, Fr [] w W → W.cell? ⟨b, 28, none⟩ = some (.slice none 0 0)) := Lib.hid fun W hW => by rw [← h0]; exact (hW.blk hB (by simp)).c 28 _ rfl
  clear hB h0
  go_enter Tryz.func144, Tryz.ntmps144
  go_wp2_with fail
  go_loopw [2] (fun iv wr => iv = .int .i64 0 ∧ Fr [] w wr) (fun _ _ => 0)
  case atStart => exact ⟨rfl, Fr.refl _ _⟩
  case round =>
    obtain ⟨rfl, hF⟩ := hrel
    have g0 := HBC.out _ hF
    have HF := Lib.hid hF
    clear hF
    go_wp2_with fail
    exact bodyPost_end (results_none rfl _ _ _) rfl ⟨rfl, HF.out⟩
set_option maxRecDepth 100000 in
set_option maxHeartbeats 2000000 in
theorem growLines_dead (hB : Blk w b (bkC Fb) 52) (h0 : Fb 28 = .slice none 0 0) :
    Calls Tryz.prog 161 #[.pointer (some ⟨b, 0, none⟩)] w fun e w' => e = .returned (.slice none 0 0) ∧ Fr [] w w' := by
  have HBC : Hid (∀ W, Fr [] w W → W.cell? ⟨b, 28, none⟩ = some (.slice none 0 0)) := Lib.hid fun W hW => by rw [← h0]; exact (hW.blk hB (by simp)).c 28 _ rfl
  clear hB h0
  go_enter Tryz.func161, Tryz.ntmps161
  go_wp2_with fail
  go_loopw [3, 4] (fun ov iv wr => ov = .slice none 0 0 ∧ iv = .int .i64 0 ∧ Fr [] w wr) (fun _ _ _ => 0)
  case atStart => exact ⟨rfl, rfl, Fr.refl _ _⟩
  case round =>
    obtain ⟨rfl, rfl, hF⟩ := hrel
    have g0 := HBC.out _ hF
    have HF := Lib.hid hF
    clear hF
    go_wp2_with fail
    go_ret
    exact ⟨rfl, HF.out⟩
set_option maxRecDepth 100000 in
set_option maxHeartbeats 2000000 in
theorem markedLines_dead :
    Calls Tryz.prog 179 #[.slice none 0 0] w fun e w' => e = .returned (.bool true) ∧ Fr [] w w' := by
  go_enter Tryz.func179, Tryz.ntmps179
  go_wp2_with fail
  go_loopw [3] (fun iv wr => iv = .int .i64 0 ∧ Fr [] w wr) (fun _ _ => 0)
  case atStart => exact ⟨rfl, Fr.refl _ _⟩
  case round =>
    obtain ⟨rfl, hF⟩ := hrel
    have HF := Lib.hid hF
    clear hF
    go_wp2_with fail
    go_ret
    exact ⟨rfl, HF.out⟩
set_option maxRecDepth 100000 in
set_option maxHeartbeats 2000000 in
theorem stillSeats_dead (hB : Blk w b (bkC Fb) 52) (h0 : Fb 30 = .slice none 0 0) :
    Calls Tryz.prog 126 #[.pointer (some ⟨b, 0, none⟩)] w fun e w' => e = .returned (.bool true) ∧ Fr [] w w' := by
  have HBC : Hid (∀ W, Fr [] w W → W.cell? ⟨b, 30, none⟩ = some (.slice none 0 0)) := Lib.hid fun W hW => by rw [← h0]; exact (hW.blk hB (by simp)).c 30 _ rfl
  clear hB h0
  go_enter Tryz.func126, Tryz.ntmps126
  go_wp2_with fail
  go_loopw [3] (fun iv wr => iv = .int .i64 0 ∧ Fr [] w wr) (fun _ _ => 0)
  case atStart => exact ⟨rfl, Fr.refl _ _⟩
  case round =>
    obtain ⟨rfl, hF⟩ := hrel
    have g0 := HBC.out _ hF
    have HF := Lib.hid hF
    clear hF
    go_wp2_with fail
    go_ret
    exact ⟨rfl, HF.out⟩
set_option maxRecDepth 100000 in
set_option maxHeartbeats 2000000 in
theorem putSeats_dead (hB : Blk w b (bkC Fb) 52) (h0 : Fb 30 = .slice none 0 0) :
    Calls Tryz.prog 145 #[.pointer (some ⟨b, 0, none⟩)] w fun e w' => e = .returned (.tuple #[]) ∧ Fr [] w w' := by
  have HBC : Hid (∀ W, Fr [] w W → W.cell? ⟨b, 30, none⟩ = some (.slice none 0 0)) := Lib.hid fun W hW => by rw [← h0]; exact (hW.blk hB (by simp)).c 30 _ rfl
  clear hB h0
  go_enter Tryz.func145, Tryz.ntmps145
  go_wp2_with fail
  go_loopw [2] (fun iv wr => iv = .int .i64 0 ∧ Fr [] w wr) (fun _ _ => 0)
  case atStart => exact ⟨rfl, Fr.refl _ _⟩
  case round =>
    obtain ⟨rfl, hF⟩ := hrel
    have g0 := HBC.out _ hF
    have HF := Lib.hid hF
    clear hF
    go_wp2_with fail
    exact bodyPost_end (results_none rfl _ _ _) rfl ⟨rfl, HF.out⟩
set_option maxRecDepth 100000 in
set_option maxHeartbeats 2000000 in
theorem growSeats_dead (hB : Blk w b (bkC Fb) 52) (h0 : Fb 30 = .slice none 0 0) :
    Calls Tryz.prog 162 #[.pointer (some ⟨b, 0, none⟩)] w fun e w' => e = .returned (.slice none 0 0) ∧ Fr [] w w' := by
  have HBC : Hid (∀ W, Fr [] w W → W.cell? ⟨b, 30, none⟩ = some (.slice none 0 0)) := Lib.hid fun W hW => by rw [← h0]; exact (hW.blk hB (by simp)).c 30 _ rfl
  clear hB h0
  go_enter Tryz.func162, Tryz.ntmps162
  go_wp2_with fail
  go_loopw [3, 4] (fun ov iv wr => ov = .slice none 0 0 ∧ iv = .int .i64 0 ∧ Fr [] w wr) (fun _ _ _ => 0)
  case atStart => exact ⟨rfl, rfl, Fr.refl _ _⟩
  case round =>
    obtain ⟨rfl, rfl, hF⟩ := hrel
    have g0 := HBC.out _ hF
    have HF := Lib.hid hF
    clear hF
    go_wp2_with fail
    go_ret
    exact ⟨rfl, HF.out⟩
set_option maxRecDepth 100000 in
set_option maxHeartbeats 2000000 in
theorem markedSeats_dead :
    Calls Tryz.prog 180 #[.slice none 0 0] w fun e w' => e = .returned (.bool true) ∧ Fr [] w w' := by
  go_enter Tryz.func180, Tryz.ntmps180
  go_wp2_with fail
  go_loopw [3] (fun iv wr => iv = .int .i64 0 ∧ Fr [] w wr) (fun _ _ => 0)
  case atStart => exact ⟨rfl, Fr.refl _ _⟩
  case round =>
    obtain ⟨rfl, hF⟩ := hrel
    have HF := Lib.hid hF
    clear hF
    go_wp2_with fail
    go_ret
    exact ⟨rfl, HF.out⟩
set_option maxRecDepth 100000 in
set_option maxHeartbeats 2000000 in
theorem stillEvents_dead (hB : Blk w b (bkC Fb) 52) (h0 : Fb 32 = .slice none 0 0) :
    Calls Tryz.prog 127 #[.pointer (some ⟨b, 0, none⟩)] w fun e w' => e = .returned (.bool true) ∧ Fr [] w w' := by
  have HBC : Hid (∀ W, Fr [] w W → W.cell? ⟨b, 32, none⟩ = some (.slice none 0 0)) := Lib.hid fun W hW => by rw [← h0]; exact (hW.blk hB (by simp)).c 32 _ rfl
  clear hB h0
  go_enter Tryz.func127, Tryz.ntmps127
  go_wp2_with fail
  go_loopw [3] (fun iv wr => iv = .int .i64 0 ∧ Fr [] w wr) (fun _ _ => 0)
  case atStart => exact ⟨rfl, Fr.refl _ _⟩
  case round =>
    obtain ⟨rfl, hF⟩ := hrel
    have g0 := HBC.out _ hF
    have HF := Lib.hid hF
    clear hF
    go_wp2_with fail
    go_ret
    exact ⟨rfl, HF.out⟩
set_option maxRecDepth 100000 in
set_option maxHeartbeats 2000000 in
theorem putEvents_dead (hB : Blk w b (bkC Fb) 52) (h0 : Fb 32 = .slice none 0 0) :
    Calls Tryz.prog 146 #[.pointer (some ⟨b, 0, none⟩)] w fun e w' => e = .returned (.tuple #[]) ∧ Fr [] w w' := by
  have HBC : Hid (∀ W, Fr [] w W → W.cell? ⟨b, 32, none⟩ = some (.slice none 0 0)) := Lib.hid fun W hW => by rw [← h0]; exact (hW.blk hB (by simp)).c 32 _ rfl
  clear hB h0
  go_enter Tryz.func146, Tryz.ntmps146
  go_wp2_with fail
  go_loopw [2] (fun iv wr => iv = .int .i64 0 ∧ Fr [] w wr) (fun _ _ => 0)
  case atStart => exact ⟨rfl, Fr.refl _ _⟩
  case round =>
    obtain ⟨rfl, hF⟩ := hrel
    have g0 := HBC.out _ hF
    have HF := Lib.hid hF
    clear hF
    go_wp2_with fail
    exact bodyPost_end (results_none rfl _ _ _) rfl ⟨rfl, HF.out⟩
set_option maxRecDepth 100000 in
set_option maxHeartbeats 2000000 in
theorem growEvents_dead (hB : Blk w b (bkC Fb) 52) (h0 : Fb 32 = .slice none 0 0) :
    Calls Tryz.prog 163 #[.pointer (some ⟨b, 0, none⟩)] w fun e w' => e = .returned (.slice none 0 0) ∧ Fr [] w w' := by
  have HBC : Hid (∀ W, Fr [] w W → W.cell? ⟨b, 32, none⟩ = some (.slice none 0 0)) := Lib.hid fun W hW => by rw [← h0]; exact (hW.blk hB (by simp)).c 32 _ rfl
  clear hB h0
  go_enter Tryz.func163, Tryz.ntmps163
  go_wp2_with fail
  go_loopw [3, 4] (fun ov iv wr => ov = .slice none 0 0 ∧ iv = .int .i64 0 ∧ Fr [] w wr) (fun _ _ _ => 0)
  case atStart => exact ⟨rfl, rfl, Fr.refl _ _⟩
  case round =>
    obtain ⟨rfl, rfl, hF⟩ := hrel
    have g0 := HBC.out _ hF
    have HF := Lib.hid hF
    clear hF
    go_wp2_with fail
    go_ret
    exact ⟨rfl, HF.out⟩
set_option maxRecDepth 100000 in
set_option maxHeartbeats 2000000 in
theorem markedEvents_dead :
    Calls Tryz.prog 181 #[.slice none 0 0] w fun e w' => e = .returned (.bool true) ∧ Fr [] w w' := by
  go_enter Tryz.func181, Tryz.ntmps181
  go_wp2_with fail
  go_loopw [3] (fun iv wr => iv = .int .i64 0 ∧ Fr [] w wr) (fun _ _ => 0)
  case atStart => exact ⟨rfl, Fr.refl _ _⟩
  case round =>
    obtain ⟨rfl, hF⟩ := hrel
    have HF := Lib.hid hF
    clear hF
    go_wp2_with fail
    go_ret
    exact ⟨rfl, HF.out⟩
set_option maxRecDepth 100000 in
set_option maxHeartbeats 2000000 in
theorem stillSteps_dead (hB : Blk w b (bkC Fb) 52) (h0 : Fb 34 = .slice none 0 0) :
    Calls Tryz.prog 128 #[.pointer (some ⟨b, 0, none⟩)] w fun e w' => e = .returned (.bool true) ∧ Fr [] w w' := by
  have HBC : Hid (∀ W, Fr [] w W → W.cell? ⟨b, 34, none⟩ = some (.slice none 0 0)) := Lib.hid fun W hW => by rw [← h0]; exact (hW.blk hB (by simp)).c 34 _ rfl
  clear hB h0
  go_enter Tryz.func128, Tryz.ntmps128
  go_wp2_with fail
  go_loopw [3] (fun iv wr => iv = .int .i64 0 ∧ Fr [] w wr) (fun _ _ => 0)
  case atStart => exact ⟨rfl, Fr.refl _ _⟩
  case round =>
    obtain ⟨rfl, hF⟩ := hrel
    have g0 := HBC.out _ hF
    have HF := Lib.hid hF
    clear hF
    go_wp2_with fail
    go_ret
    exact ⟨rfl, HF.out⟩
set_option maxRecDepth 100000 in
set_option maxHeartbeats 2000000 in
theorem putSteps_dead (hB : Blk w b (bkC Fb) 52) (h0 : Fb 34 = .slice none 0 0) :
    Calls Tryz.prog 132 #[.pointer (some ⟨b, 0, none⟩)] w fun e w' => e = .returned (.tuple #[]) ∧ Fr [] w w' := by
  have HBC : Hid (∀ W, Fr [] w W → W.cell? ⟨b, 34, none⟩ = some (.slice none 0 0)) := Lib.hid fun W hW => by rw [← h0]; exact (hW.blk hB (by simp)).c 34 _ rfl
  clear hB h0
  go_enter Tryz.func132, Tryz.ntmps132
  go_wp2_with fail
  go_loopw [2] (fun iv wr => iv = .int .i64 0 ∧ Fr [] w wr) (fun _ _ => 0)
  case atStart => exact ⟨rfl, Fr.refl _ _⟩
  case round =>
    obtain ⟨rfl, hF⟩ := hrel
    have g0 := HBC.out _ hF
    have HF := Lib.hid hF
    clear hF
    go_wp2_with fail
    exact bodyPost_end (results_none rfl _ _ _) rfl ⟨rfl, HF.out⟩
set_option maxRecDepth 100000 in
set_option maxHeartbeats 2000000 in
theorem growSteps_dead (hB : Blk w b (bkC Fb) 52) (h0 : Fb 34 = .slice none 0 0) :
    Calls Tryz.prog 164 #[.pointer (some ⟨b, 0, none⟩)] w fun e w' => e = .returned (.slice none 0 0) ∧ Fr [] w w' := by
  have HBC : Hid (∀ W, Fr [] w W → W.cell? ⟨b, 34, none⟩ = some (.slice none 0 0)) := Lib.hid fun W hW => by rw [← h0]; exact (hW.blk hB (by simp)).c 34 _ rfl
  clear hB h0
  go_enter Tryz.func164, Tryz.ntmps164
  go_wp2_with fail
  go_loopw [3, 4] (fun ov iv wr => ov = .slice none 0 0 ∧ iv = .int .i64 0 ∧ Fr [] w wr) (fun _ _ _ => 0)
  case atStart => exact ⟨rfl, rfl, Fr.refl _ _⟩
  case round =>
    obtain ⟨rfl, rfl, hF⟩ := hrel
    have g0 := HBC.out _ hF
    have HF := Lib.hid hF
    clear hF
    go_wp2_with fail
    go_ret
    exact ⟨rfl, HF.out⟩
set_option maxRecDepth 100000 in
set_option maxHeartbeats 2000000 in
theorem markedSteps_dead :
    Calls Tryz.prog 182 #[.slice none 0 0] w fun e w' => e = .returned (.bool true) ∧ Fr [] w w' := by
  go_enter Tryz.func182, Tryz.ntmps182
  go_wp2_with fail
  go_loopw [3] (fun iv wr => iv = .int .i64 0 ∧ Fr [] w wr) (fun _ _ => 0)
  case atStart => exact ⟨rfl, Fr.refl _ _⟩
  case round =>
    obtain ⟨rfl, hF⟩ := hrel
    have HF := Lib.hid hF
    clear hF
    go_wp2_with fail
    go_ret
    exact ⟨rfl, HF.out⟩
end
end Go.Proofs.YtfchbppfbepelaaGreat
