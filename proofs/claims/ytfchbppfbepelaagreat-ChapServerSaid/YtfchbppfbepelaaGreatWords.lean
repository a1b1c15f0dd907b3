/- A block's words. -/
import Derived.Test.YtfchbppfbepelaaGreatRot
import Derived.Test.YtfchbppfbepelaaGreatRow
import Derived.RegionTactic
import Derived.Laws.BitsAllLaws
namespace Go.Proofs.YtfchbppfbepelaaGreat
open Go.RowKit
set_option linter.unusedVariables false

def btN (l : List UInt8) (i : Nat) : Nat := (l.getD i 0).toNat
/-- of the j-th word what the first k bytes give -/
def wordP (l : List UInt8) (k j : Nat) : Nat := (if 4 * j < k then btN l (4 * j) else 0) + (if 4 * j + 1 < k then btN l (4 * j + 1) * 256 else 0) + (if 4 * j + 2 < k then btN l (4 * j + 2) * 65536 else 0) + (if 4 * j + 3 < k then btN l (4 * j + 3) * 16777216 else 0)
theorem btN_lt (l : List UInt8) (i : Nat) : btN l i < 256 := by unfold btN; have := (l.getD i 0).toNat_lt; omega
theorem wordP_end (l : List UInt8) (j : Nat) (hj : j < 16) : wordP l 64 j = wordAt l j := by
  unfold wordP wordAt
  rw [if_pos (by omega), if_pos (by omega), if_pos (by omega), if_pos (by omega)]
  rfl
theorem wordP_zero (l : List UInt8) (j : Nat) : wordP l 0 j = 0 := by simp [wordP]
theorem wordP_other (l : List UInt8) (k j : Nat) (h : j ≠ k / 4) : wordP l (k + 1) j = wordP l k j := by
  unfold wordP
  have e : ∀ t, t < 4 → (4 * j + t < k + 1 ↔ 4 * j + t < k) := fun t ht => by omega
  have e0 := e 0 (by omega)
  simp only [Nat.add_zero] at e0
  simp only [e0, e 1 (by omega), e 2 (by omega), e 3 (by omega)]
theorem wordP_lt (l : List UInt8) (k : Nat) : wordP l k (k / 4) < 2 ^ (8 * (k % 4)) := by
  have b0 := btN_lt l (4 * (k / 4))
  have b1 := btN_lt l (4 * (k / 4) + 1)
  have b2 := btN_lt l (4 * (k / 4) + 2)
  unfold wordP
  have hr : k % 4 = 0 ∨ k % 4 = 1 ∨ k % 4 = 2 ∨ k % 4 = 3 := by omega
  rw [if_neg (show ¬ 4 * (k / 4) + 3 < k by omega)]
  rcases hr with h | h | h | h <;> rw [h]
  · rw [if_neg (by omega), if_neg (by omega), if_neg (by omega)]; decide
  · rw [if_pos (by omega), if_neg (by omega), if_neg (by omega)]; omega
  · rw [if_pos (by omega), if_pos (by omega), if_neg (by omega)]; omega
  · rw [if_pos (by omega), if_pos (by omega), if_pos (by omega)]; omega
theorem wordP_next (l : List UInt8) (k : Nat) : wordP l (k + 1) (k / 4) = wordP l k (k / 4) ||| (btN l k * 2 ^ (8 * (k % 4))) := by
  have hlt := wordP_lt l k
  have hadd : wordP l (k + 1) (k / 4) = wordP l k (k / 4) + btN l k * 2 ^ (8 * (k % 4)) := by
    clear hlt
    unfold wordP
    have hr : k % 4 = 0 ∨ k % 4 = 1 ∨ k % 4 = 2 ∨ k % 4 = 3 := by omega
    rcases hr with h | h | h | h <;> rw [h]
    · rw [if_pos (show 4 * (k / 4) < k + 1 by omega), if_neg (show ¬ 4 * (k / 4) + 1 < k + 1 by omega), if_neg (show ¬ 4 * (k / 4) + 2 < k + 1 by omega), if_neg (show ¬ 4 * (k / 4) + 3 < k + 1 by omega), if_neg (show ¬ 4 * (k / 4) < k by omega), if_neg (show ¬ 4 * (k / 4) + 1 < k by omega), if_neg (show ¬ 4 * (k / 4) + 2 < k by omega), if_neg (show ¬ 4 * (k / 4) + 3 < k by omega)]
      rw [show 4 * (k / 4) = k from by omega]; omega
    · rw [if_pos (show 4 * (k / 4) < k + 1 by omega), if_pos (show 4 * (k / 4) + 1 < k + 1 by omega), if_neg (show ¬ 4 * (k / 4) + 2 < k + 1 by omega), if_neg (show ¬ 4 * (k / 4) + 3 < k + 1 by omega), if_pos (show 4 * (k / 4) < k by omega), if_neg (show ¬ 4 * (k / 4) + 1 < k by omega), if_neg (show ¬ 4 * (k / 4) + 2 < k by omega), if_neg (show ¬ 4 * (k / 4) + 3 < k by omega)]
      rw [show 4 * (k / 4) + 1 = k from by omega]; omega
    · rw [if_pos (show 4 * (k / 4) < k + 1 by omega), if_pos (show 4 * (k / 4) + 1 < k + 1 by omega), if_pos (show 4 * (k / 4) + 2 < k + 1 by omega), if_neg (show ¬ 4 * (k / 4) + 3 < k + 1 by omega), if_pos (show 4 * (k / 4) < k by omega), if_pos (show 4 * (k / 4) + 1 < k by omega), if_neg (show ¬ 4 * (k / 4) + 2 < k by omega), if_neg (show ¬ 4 * (k / 4) + 3 < k by omega)]
      rw [show 4 * (k / 4) + 2 = k from by omega]; omega
    · rw [if_pos (show 4 * (k / 4) < k + 1 by omega), if_pos (show 4 * (k / 4) + 1 < k + 1 by omega), if_pos (show 4 * (k / 4) + 2 < k + 1 by omega), if_pos (show 4 * (k / 4) + 3 < k + 1 by omega), if_pos (show 4 * (k / 4) < k by omega), if_pos (show 4 * (k / 4) + 1 < k by omega), if_pos (show 4 * (k / 4) + 2 < k by omega), if_neg (show ¬ 4 * (k / 4) + 3 < k by omega)]
      rw [show 4 * (k / 4) + 3 = k from by omega]; omega
  rw [hadd, Nat.add_comm, Nat.mul_comm, Nat.two_pow_add_eq_or_of_lt hlt, Nat.or_comm]
def wordsC (l : List UInt8) (k : Nat) : Array Value := ((List.range 16).map fun j => Value.int .u32 (wordP l k j : Nat)).toArray
theorem wordsC_size (l : List UInt8) (k : Nat) : (wordsC l k).size = 16 := by simp [wordsC]
theorem wordsC_get (l : List UInt8) (k j : Nat) (hj : j < 16) : (wordsC l k)[j]? = some (.int .u32 (wordP l k j : Nat)) := by simp [wordsC, hj]
theorem wordsC_next (l : List UInt8) (k : Nat) (hk : k < 64) : (wordsC l k).setIfInBounds (k / 4) (.int .u32 ((wordP l k (k / 4) ||| (btN l k * 2 ^ (8 * (k % 4))) : Nat) : Int)) = wordsC l (k + 1) := by
  rw [← wordP_next]
  apply Array.ext
  · simp [wordsC]
  · intro j h1 h2
    rw [wordsC_size] at h2
    rw [Array.getElem_setIfInBounds (by rw [wordsC_size]; exact h2)]
    by_cases h : k / 4 = j
    · subst h
      simp [wordsC]
    · rw [if_neg h]
      simp [wordsC, wordP_other l k j (fun e => h e.symm)]
/-- the words as an array's cells -/
def arr32 (ws : List Nat) : Array Value := (ws.map fun n : Nat => Value.int .u32 (n : Int)).toArray
theorem wordsC_end (l : List UInt8) : wordsC l 64 = arr32 (wordsL l) := by
  have h : ((List.range 16).map fun j => Value.int .u32 (wordP l 64 j : Nat)) = (((List.range 16).map (wordAt l)).map fun n : Nat => Value.int .u32 (n : Int)) := by
    rw [List.map_map]
    apply List.map_congr_left
    intro j hj
    rw [wordP_end l j (List.mem_range.1 hj), Function.comp]
  exact congrArg List.toArray h
theorem wordsC_zero (l : List UInt8) : wordsC l 0 = #[.int .u32 0, .int .u32 0, .int .u32 0, .int .u32 0, .int .u32 0, .int .u32 0, .int .u32 0, .int .u32 0, .int .u32 0, .int .u32 0, .int .u32 0, .int .u32 0, .int .u32 0, .int .u32 0, .int .u32 0, .int .u32 0] := by
  simp [wordsC, wordP_zero, List.range_succ]

theorem word_or (x b r : Nat) (hx : x < 4294967296) (hb : b < 256) (hr : r < 4) : bits .or .u32 (x : Int) ((b : Int) % 4294967296 * 2 ^ (8 * r) % 4294967296) = ((x ||| b * 2 ^ (8 * r) : Nat) : Int) := by
  have h : r = 0 ∨ r = 1 ∨ r = 2 ∨ r = 3 := by omega
  have e : ((b : Int) % 4294967296 * 2 ^ (8 * r) % 4294967296) = ((b * 2 ^ (8 * r) : Nat) : Int) ∧ b * 2 ^ (8 * r) < 4294967296 := by
    rcases h with rfl | rfl | rfl | rfl <;> (simp only [Nat.mul_zero, Nat.mul_one, Nat.reduceMul, Nat.reducePow, Int.reducePow, Int.pow_zero, Nat.pow_zero]; omega)
  rw [e.1]
  exact u32_or_nat _ _ hx e.2
theorem info16 : (Tryz.prog.info? 412).map (·.size) = some 16 := by kernel_rfl
set_option maxHeartbeats 1000000 in
theorem words_any (l : List UInt8) (w : World) (hl : 64 ≤ l.length) (hl2 : l.length ≤ 1000000) :
    Calls Tryz.prog 321 #[.string (B l)] w fun e w' => e = .returned (.agg (arr32 (wordsL l))) ∧ Fr [] w w' := by
  go_enter Tryz.func321, Tryz.ntmps321
  go_wp2
  have hz := wordsC_zero l
  go_loopw [5] (fun cv wr => ∃ k : Nat, k ≤ 64 ∧ cv = .int .i64 k ∧ Blk wr (w.heap.size + 1) (wordsC l k) 412 ∧ Blk wr w.heap.size (wordsC l 0) 412 ∧ Fr [] w wr) (fun cv _ => 64 - (intOf cv).toNat)
  case atStart =>
    rw [← hz]
    exact ⟨0, by omega, rfl, by have := Blk.new (w.alloc (.cells (wordsC l 0) 412)) (wordsC l 0) 412; simpa using this, (Blk.new _ _ _).alloc _, ((Fr.refl _ _).alloc _).alloc _⟩
  case round =>
    obtain ⟨k, hk, rfl, hB, hB0, hF⟩ := hrel
    by_cases hlt : k < 64
    · have hc := hB.c (k / 4) _ (wordsC_get l k (k / 4) (by omega))
      have hf := hB.fz (k / 4)
      obtain ⟨X, hX⟩ : ∃ X : Int, ((wordP l k (k / 4) : Nat) : Int) = X := ⟨_, rfl⟩
      rw [hX] at hc
      have HX := Lib.hid hX
      have Hz := Lib.hid hz
      have i1 : (k : Int) < l.length := by omega
      have i2 : IntKind.i64.wrap ((k : Int) / 4) = (k : Int) / 4 := IntWalk.i64_in _ (by omega)
      clear hX hz
      go_wp2
      go_region
      all_goals go_wp2
      go_roundw
      case rel =>
        have hx := wordP_lt l k
        have hp : 2 ^ (8 * (k % 4)) ≤ 2 ^ 24 := Nat.pow_le_pow_right (by omega) (by omega)
        have e : bits BinOp.or IntKind.u32 X ((l[k].toNat : Int) % 4294967296 * 2 ^ (8 * (k % 4)) % 4294967296) = ((wordP l k (k / 4) ||| (btN l k * 2 ^ (8 * (k % 4))) : Nat) : Int) := by
          have eb : btN l k = l[k].toNat := by unfold btN; rw [List.getD, List.getElem?_eq_getElem (by omega)]; rfl
          rw [eb, ← HX.out]
          exact word_or _ _ _ (by simp only [Nat.reducePow] at hp; omega) (by have := l[k].toNat_lt; omega) (by omega)
        rw [e]
        exact ⟨k + 1, by omega, by go_num, by have := hB.set (k / 4) (.int .u32 ((wordP l k (k / 4) ||| (btN l k * 2 ^ (8 * (k % 4))) : Nat) : Int)); rw [wordsC_next l k hlt] at this; exact this.drew, (hB0.set_other _ (by simp) _).drew, (hF.setNew (by simp) _).drew⟩
      case measure => (simp [intOf]) <;> omega
    · have : k = 64 := by omega
      subst this
      clear hz
      have z0 : (wordsC l 0).size = 16 := wordsC_size l 0
      have z1 : (wordsC l 64).size = 16 := wordsC_size l 64
      have hone : (wordsC l 64).all (·.oneCell') = true := by simp [wordsC, Array.all_eq_true, Value.oneCell']
      rw [wordsC_end] at hB z1 hone
      obtain ⟨W, hW⟩ : ∃ W, W = arr32 (wordsL l) := ⟨_, rfl⟩
      obtain ⟨Z, hZ⟩ : ∃ Z, Z = wordsC l 0 := ⟨_, rfl⟩
      rw [← hW] at hB z1 hone
      rw [← hZ] at hB0 z0
      have HW := Lib.hid hW
      clear hW hZ
      go_wp2_with (first | (refine wpList_load_blk rfl 412 (.tmp 3) rfl (w.heap.size + 1) 412 W _ hB rfl Tryz.underlying412 rfl (by rw [z1]; exact info16) ?_) | (refine wpList_store_blk rfl 412 (.tmp 2) (.tmp 23) rfl w.heap.size 412 Z W hB0 rfl rfl (by rw [z0, z1]) (by rw [z1]; exact info16) hone ?_; intro w' hw' hB'))
      refine ret_cell1 2 412 rfl w.heap.size 412 W _ hB' rfl Tryz.underlying412 rfl (by rw [z1]; exact info16) rfl ⟨by rw [HW.out], ?_⟩
      rw [hw'.out]
      exact hF.setCells _ _ _ (Or.inl (Nat.le_refl _))
end Go.Proofs.YtfchbppfbepelaaGreat
