/- The document's pool: Has, Give, Take, Who, Free, New. Printed by gen_pool6.py. -/
import Derived.Test.YtnenmgankgadcaaPool6
namespace Go.Proofs.Ytnenmgankgadcaa
open Go.RowKit Go.Maps
set_option linter.unusedVariables false
theorem lC_set (s : List (Option Ky)) (i : Nat) (v : Option Ky) (hi : i < s.length) (x0 x1 x2 : Value) (hv : lcell v = [x0, x1, x2]) :
    (((lC s).setIfInBounds (i * 3) x0).setIfInBounds (i * 3 + 1) x1).setIfInBounds (i * 3 + 2) x2 = lC (s.set i v) := by
  apply Array.ext'
  simp only [Array.toList_setIfInBounds]
  unfold lC
  simp only []
  have hl := lL_len s
  have hl2 := lL_len (s.set i v)
  rw [List.length_set] at hl2
  apply List.ext_getElem?
  intro k
  by_cases hk : k < s.length * 3
  · have hk3 : k = k / 3 * 3 + k % 3 := by omega
    have hm : k % 3 < 3 := Nat.mod_lt _ (by decide)
    have hkl : k / 3 < s.length := by omega
    simp only [List.getElem?_set, List.length_set]
    by_cases hki : k / 3 = i
    · have hs' : (s.set i v)[k / 3]? = some v := by rw [hki, List.getElem?_set, if_pos rfl, if_pos hi]
      have := lL_get (s.set i v) (k / 3) v hs' (k % 3) hm
      rw [← hk3] at this
      rw [this, hv]
      rcases (show k % 3 = 0 ∨ k % 3 = 1 ∨ k % 3 = 2 by omega) with h | h | h
      · have e : k = i * 3 := by omega
        rw [h, if_neg (by omega), if_neg (by omega), if_pos (by omega), if_pos (by omega)]; rfl
      · have e : k = i * 3 + 1 := by omega
        rw [h, if_neg (by omega), if_pos (by omega), if_pos (by omega)]; rfl
      · have e : k = i * 3 + 2 := by omega
        rw [h, if_pos (by omega), if_pos (by omega)]; rfl
    · rw [if_neg (by omega), if_neg (by omega), if_neg (by omega)]
      have hs1 : s[k / 3]? = some s[k / 3] := List.getElem?_eq_getElem hkl
      have hs2 : (s.set i v)[k / 3]? = some s[k / 3] := by rw [List.getElem?_set, if_neg (fun e => hki e.symm), hs1]
      have a1 := lL_get s (k / 3) _ hs1 (k % 3) hm
      have a2 := lL_get (s.set i v) (k / 3) _ hs2 (k % 3) hm
      rw [← hk3] at a1 a2
      rw [a1, a2]
  · rw [List.getElem?_eq_none (by simp only [List.length_set]; omega), List.getElem?_eq_none (by omega)]
section
variable {w w' : World} {g r : Nat} {b : Ad} {s : List (Option Ky)}
theorem DPool.put_ (h : DPool w g r b s) (i : Nat) (v : Option Ky) (hi : i < s.length) (x0 x1 x2 : Value) (hv : lcell v = [x0, x1, x2]) :
    DPool (((w.setCell ⟨r, i * 3, none⟩ x0).setCell ⟨r, i * 3 + 1, none⟩ x1).setCell ⟨r, i * 3 + 2, none⟩ x2) g r b (s.set i v) := by
  have hb := ((h.row.set (i * 3) x0).set (i * 3 + 1) x1).set (i * 3 + 2) x2
  rw [lC_set s i v hi x0 x1 x2 hv] at hb
  exact ⟨by rw [List.length_set]; exact (((h.st.set_other _ h.ne _).set_other _ h.ne _).set_other _ h.ne _), hb, h.bok, by rw [List.length_set]; exact h.n2, h.ne⟩
set_option maxRecDepth 100000 in
set_option maxHeartbeats 4000000 in
theorem dhas_no (k : Ky) (h : DPool w g r b s) (hu : ∀ j : Nat, s[j]? ≠ some (some k)) :
    Calls Try.prog 20 #[.pointer (some ⟨g, 0, none⟩), .agg (kyC k)] w fun e w' => e = .returned (.tuple #[.agg (adC (0, 0, 0, 0)), .bool false]) ∧ Fr [] w w' := by
  have n2 := h.n2
  obtain ⟨k1, k2⟩ := k
  have HP := Lib.hid h
  have HU := Lib.hid hu
  unfold adC adr kyC
  simp only
  clear h hu
  go_enter Try.func20, Try.ntmps20
  go_wp2_with fail
  have hBk := (Blk.new w #[.int .i64 k1, .int .i64 k2] 45).alloc (.cells #[.int .u8 0, .int .u8 0, .int .u8 0, .int .u8 0] 23 (0, 0))
  have hBz := Blk.new (w.alloc (.cells #[.int .i64 k1, .int .i64 k2] 45 (0, 0))) #[.int .u8 0, .int .u8 0, .int .u8 0, .int .u8 0] 23
  have hF := ((Fr.refl [] w).alloc (.cells #[.int .i64 k1, .int .i64 k2] 45 (0, 0))).alloc (.cells #[.int .u8 0, .int .u8 0, .int .u8 0, .int .u8 0] 23 (0, 0))
  rw [show (w.alloc (.cells #[.int .i64 k1, .int .i64 k2] 45 (0, 0))).heap.size = w.heap.size + 1 by simp] at hBz
  obtain ⟨W0, hW0⟩ : ∃ W, ((w.alloc (.cells #[.int .i64 k1, .int .i64 k2] 45 (0, 0))).alloc (.cells #[.int .u8 0, .int .u8 0, .int .u8 0, .int .u8 0] 23 (0, 0))) = W := ⟨_, rfl⟩
  obtain ⟨q, hq⟩ : ∃ q, w.heap.size = q := ⟨_, rfl⟩
  rw [hW0] at hBk hBz hF ⊢
  rw [hq] at hBk hBz ⊢
  have hP0 := HP.out.fr0 hF
  have hqw : w.heap.size ≤ q + 1 := by omega
  clear hW0 hq
  go_loopw [6] (fun iv wr => ∃ j : Nat, j ≤ s.length ∧ iv = .int .i64 j ∧ Fr [] W0 wr) (fun iv _ => s.length - (intOf iv).toNat)
  case atStart => exact ⟨0, by omega, rfl, Fr.refl _ _⟩
  case round =>
    obtain ⟨j, hj, rfl, hG⟩ := hrel
    have hPr := hP0.fr0 hG
    have hBr := hG.blk hBk (by simp)
    have hZr := hG.blk hBz (by simp)
    have g4 : wr.cell? ⟨g, 4, none⟩ = some (.slice (some ⟨r, 0, none⟩) s.length s.length) := hPr.st.c 4 _ rfl
    have t0 : wr.cell? ⟨q, 0, none⟩ = some (.int .i64 k1) := hBr.c 0 _ rfl
    have t1 : wr.cell? ⟨q, 1, none⟩ = some (.int .i64 k2) := hBr.c 1 _ rfl
    by_cases hlt : j < s.length
    · have hjl : j < s.length := by omega
      have hne := HU.out j
      cases hs : s[j]? with
      | none => rw [List.getElem?_eq_none_iff] at hs; omega
      | some v =>
        cases v with
        | none =>
          have d0 : wr.cell? ⟨r, j * 3, none⟩ = some (.bool false) := hPr.at_ j none hs 0 _ rfl
          clear hPr hBr hZr hs hne
          go_wp2_with fail
          go_quiet (fail)
          have hG2 := hG.drewN nq
          clear g4 t0 t1 d0 hG
          go_wp2_with fail
          go_roundw
          case rel => exact ⟨j + 1, by omega, by go_num, hG2⟩
          case measure => (simp [intOf]) <;> omega
        | some v =>
          obtain ⟨v1, v2⟩ := v
          have d0 : wr.cell? ⟨r, j * 3, none⟩ = some (.bool true) := hPr.at_ j _ hs 0 _ rfl
          have d1 : wr.cell? ⟨r, j * 3 + 1, none⟩ = some (.int .i64 v1) := hPr.at_ j _ hs 1 _ rfl
          have d2 : wr.cell? ⟨r, j * 3 + 2, none⟩ = some (.int .i64 v2) := hPr.at_ j _ hs 2 _ rfl
          have hkk : ((v1, v2) : Ky) ≠ (k1, k2) := fun e => hne (by rw [hs, e])
          have heq : ∀ W, (Op.equalIn 10000 45 (.agg #[.int .i64 v1, .int .i64 v2]) (.agg #[.int .i64 k1, .int .i64 k2])).run Try.prog W = .ok false W := fun W => by
            have := eq_rky (v1, v2) (k1, k2) W
            rwa [decide_eq_false hkk] at this
          clear hPr hBr hZr hs hne hkk
          go_wp2_with fail
          go_quiet (fail)
          have hG2 := hG.drewN nq
          clear g4 t0 t1 d0 d1 d2 hG heq
          go_wp2_with fail
          go_roundw
          case rel => exact ⟨j + 1, by omega, by go_num, hG2⟩
          case measure => (simp [intOf]) <;> omega
    · obtain rfl : j = s.length := by omega
      have hge : ¬ (s.length : Int) < s.length := by omega
      have w2e : wr = wr := rfl
      have hZ3 := hZr
      have hF2 := hF.trans hG
      have c0 : wr.cell? ⟨q + 1, 0, none⟩ = some (.int .u8 0) := hZ3.c 0 _ rfl
      have c1 : wr.cell? ⟨q + 1, 1, none⟩ = some (.int .u8 0) := hZ3.c 1 _ rfl
      have c2 : wr.cell? ⟨q + 1, 2, none⟩ = some (.int .u8 0) := hZ3.c 2 _ rfl
      have c3 : wr.cell? ⟨q + 1, 3, none⟩ = some (.int .u8 0) := hZ3.c 3 _ rfl
      have f0 := hZ3.fz 0
      have f1 := hZ3.fz 1
      have f2 := hZ3.fz 2
      have f3 := hZ3.fz 3
      clear t0 t1 hPr hZr hBr hG
      go_wp2_with fail
      have hB4 := (((hZ3.set 0 (.int .u8 0)).set 1 (.int .u8 0)).set 2 (.int .u8 0)).set 3 (.int .u8 0)
      have hF4 : Fr [] w _ := (((hF2.setNew (p := ⟨q + 1, 0, none⟩) hqw (.int .u8 0)).setNew (p := ⟨q + 1, 1, none⟩) hqw (.int .u8 0)).setNew (p := ⟨q + 1, 2, none⟩) hqw (.int .u8 0)).setNew (p := ⟨q + 1, 3, none⟩) hqw (.int .u8 0)

      exact ret_cell2 4 5 23 rfl (q + 1) 23 (adr 0 0 0 0) _ hB4 rfl Try.underlying23 rfl (by kernel_rfl) rfl ⟨rfl, hF4⟩
set_option maxRecDepth 100000 in
set_option maxHeartbeats 4000000 in
theorem dgive_yes (k : Ky) (i : Nat) (h : DPool w g r b s) (hi : s[i]? = some (some k)) (hu : ∀ j, j < i → s[j]? ≠ some (some k)) :
    Calls Try.prog 18 #[.pointer (some ⟨g, 0, none⟩), .agg (kyC k)] w fun e w' => e = .returned (.int .i64 0) ∧ DPool w' g r b (s.set i none) ∧ Fr [r] w w' := by
  have hil := at_lt hi
  have n2 := h.n2
  obtain ⟨k1, k2⟩ := k
  have HP := Lib.hid h
  have HI := Lib.hid hi
  have HU := Lib.hid hu
  unfold kyC
  simp only
  clear h hi hu
  go_enter Try.func18, Try.ntmps18
  go_wp2_with fail
  have hBk := Blk.new w #[.int .i64 k1, .int .i64 k2] 45
  have hF := (Fr.refl [] w).alloc (.cells #[.int .i64 k1, .int .i64 k2] 45 (0, 0))
  obtain ⟨W0, hW0⟩ : ∃ W, w.alloc (.cells #[.int .i64 k1, .int .i64 k2] 45 (0, 0)) = W := ⟨_, rfl⟩
  obtain ⟨q, hq⟩ : ∃ q, w.heap.size = q := ⟨_, rfl⟩
  rw [hW0] at hBk hF ⊢
  rw [hq] at hBk ⊢
  have hP0 := HP.out.fr0 hF
  have hqw : w.heap.size ≤ q + 1 := by omega
  clear hW0 hq
  go_loopw [5] (fun iv wr => ∃ j : Nat, j ≤ i ∧ iv = .int .i64 j ∧ Fr [] W0 wr) (fun iv _ => i - (intOf iv).toNat)
  case atStart => exact ⟨0, by omega, rfl, Fr.refl _ _⟩
  case round =>
    obtain ⟨j, hj, rfl, hG⟩ := hrel
    have hPr := hP0.fr0 hG
    have hBr := hG.blk hBk (by simp)
    have g4 : wr.cell? ⟨g, 4, none⟩ = some (.slice (some ⟨r, 0, none⟩) s.length s.length) := hPr.st.c 4 _ rfl
    have t0 : wr.cell? ⟨q, 0, none⟩ = some (.int .i64 k1) := hBr.c 0 _ rfl
    have t1 : wr.cell? ⟨q, 1, none⟩ = some (.int .i64 k2) := hBr.c 1 _ rfl
    by_cases hlt : j < i
    · have hjl : j < s.length := by omega
      have hne := HU.out j hlt
      cases hs : s[j]? with
      | none => rw [List.getElem?_eq_none_iff] at hs; omega
      | some v =>
        cases v with
        | none =>
          have d0 : wr.cell? ⟨r, j * 3, none⟩ = some (.bool false) := hPr.at_ j none hs 0 _ rfl
          clear hPr hBr hs hne
          go_wp2_with fail
          go_quiet (fail)
          have hG2 := hG.drewN nq
          clear g4 t0 t1 d0 hG
          go_wp2_with fail
          go_roundw
          case rel => exact ⟨j + 1, by omega, by go_num, hG2⟩
          case measure => (simp [intOf]) <;> omega
        | some v =>
          obtain ⟨v1, v2⟩ := v
          have d0 : wr.cell? ⟨r, j * 3, none⟩ = some (.bool true) := hPr.at_ j _ hs 0 _ rfl
          have d1 : wr.cell? ⟨r, j * 3 + 1, none⟩ = some (.int .i64 v1) := hPr.at_ j _ hs 1 _ rfl
          have d2 : wr.cell? ⟨r, j * 3 + 2, none⟩ = some (.int .i64 v2) := hPr.at_ j _ hs 2 _ rfl
          have hkk : ((v1, v2) : Ky) ≠ (k1, k2) := fun e => hne (by rw [hs, e])
          have heq : ∀ W, (Op.equalIn 10000 45 (.agg #[.int .i64 v1, .int .i64 v2]) (.agg #[.int .i64 k1, .int .i64 k2])).run Try.prog W = .ok false W := fun W => by
            have := eq_rky (v1, v2) (k1, k2) W
            rwa [decide_eq_false hkk] at this
          clear hPr hBr hs hne hkk
          go_wp2_with fail
          go_quiet (fail)
          have hG2 := hG.drewN nq
          clear g4 t0 t1 d0 d1 d2 hG heq
          go_wp2_with fail
          go_roundw
          case rel => exact ⟨j + 1, by omega, by go_num, hG2⟩
          case measure => (simp [intOf]) <;> omega
    · obtain rfl : j = i := by omega
      have d0 : wr.cell? ⟨r, j * 3, none⟩ = some (.bool true) := hPr.at_ j _ HI.out 0 _ rfl
      have d1 : wr.cell? ⟨r, j * 3 + 1, none⟩ = some (.int .i64 k1) := hPr.at_ j _ HI.out 1 _ rfl
      have d2 : wr.cell? ⟨r, j * 3 + 2, none⟩ = some (.int .i64 k2) := hPr.at_ j _ HI.out 2 _ rfl
      have heq : ∀ W, (Op.equalIn 10000 45 (.agg #[.int .i64 k1, .int .i64 k2]) (.agg #[.int .i64 k1, .int .i64 k2])).run Try.prog W = .ok true W := fun W => by
        have := eq_rky (k1, k2) (k1, k2) W
        rwa [decide_eq_true rfl] at this
      have HPr := Lib.hid hPr
      have f0 := fun N => (hPr.row.drewN N).fz (j * 3)
      have f1 := fun N => (hPr.row.drewN N).fz (j * 3 + 1)
      have f2 := fun N => (hPr.row.drewN N).fz (j * 3 + 2)
      clear hPr hlt
      go_wp2_with fail
      go_quiet (fail)
      have hP2 := HPr.out.fr0 ((Fr.refl [] wr).drewN nq)
      have hF2 := (hF.trans hG).drewN nq
      have y4 : (wr.drewN nq).cell? ⟨g, 4, none⟩ = some (.slice (some ⟨r, 0, none⟩) s.length s.length) := hP2.st.c 4 _ rfl
      have y0 : (wr.drewN nq).cell? ⟨r, j * 3, none⟩ = some (.bool true) := hP2.at_ j _ HI.out 0 _ rfl
      have y1 : (wr.drewN nq).cell? ⟨r, j * 3 + 1, none⟩ = some (.int .i64 k1) := hP2.at_ j _ HI.out 1 _ rfl
      have y2 : (wr.drewN nq).cell? ⟨r, j * 3 + 2, none⟩ = some (.int .i64 k2) := hP2.at_ j _ HI.out 2 _ rfl
      have g0 := f0 nq
      have g1 := f1 nq
      have g2 := f2 nq
      obtain ⟨W1, hW1⟩ : ∃ W, wr.drewN nq = W := ⟨_, rfl⟩
      rw [hW1] at hP2 hF2 y4 y0 y1 y2 g0 g1 g2 ⊢
      have HP2 := Lib.hid (hP2.put_ j none hil (.bool false) (.int .i64 0) (.int .i64 0) rfl)
      clear g4 t0 t1 d0 d1 d2 hG heq hBr hW1 f0 f1 f2 hP2
      go_wp2_with fail
      go_ret
      exact ⟨rfl, HP2.out, (((hF2.mono (S' := [r]) (by simp)).setCell (by simp) _).setCell (by simp) _).setCell (by simp) _⟩
set_option maxRecDepth 100000 in
set_option maxHeartbeats 4000000 in
theorem dgive_no (k : Ky) (h : DPool w g r b s) (hu : ∀ j : Nat, s[j]? ≠ some (some k)) :
    Calls Try.prog 18 #[.pointer (some ⟨g, 0, none⟩), .agg (kyC k)] w fun e w' => e = .returned (.int .i64 3) ∧ Fr [] w w' := by
  have n2 := h.n2
  obtain ⟨k1, k2⟩ := k
  have HP := Lib.hid h
  have HU := Lib.hid hu
  unfold kyC
  simp only
  clear h hu
  go_enter Try.func18, Try.ntmps18
  go_wp2_with fail
  have hBk := Blk.new w #[.int .i64 k1, .int .i64 k2] 45
  have hF := (Fr.refl [] w).alloc (.cells #[.int .i64 k1, .int .i64 k2] 45 (0, 0))
  obtain ⟨W0, hW0⟩ : ∃ W, w.alloc (.cells #[.int .i64 k1, .int .i64 k2] 45 (0, 0)) = W := ⟨_, rfl⟩
  obtain ⟨q, hq⟩ : ∃ q, w.heap.size = q := ⟨_, rfl⟩
  rw [hW0] at hBk hF ⊢
  rw [hq] at hBk ⊢
  have hP0 := HP.out.fr0 hF
  have hqw : w.heap.size ≤ q + 1 := by omega
  clear hW0 hq
  go_loopw [5] (fun iv wr => ∃ j : Nat, j ≤ s.length ∧ iv = .int .i64 j ∧ Fr [] W0 wr) (fun iv _ => s.length - (intOf iv).toNat)
  case atStart => exact ⟨0, by omega, rfl, Fr.refl _ _⟩
  case round =>
    obtain ⟨j, hj, rfl, hG⟩ := hrel
    have hPr := hP0.fr0 hG
    have hBr := hG.blk hBk (by simp)
    have g4 : wr.cell? ⟨g, 4, none⟩ = some (.slice (some ⟨r, 0, none⟩) s.length s.length) := hPr.st.c 4 _ rfl
    have t0 : wr.cell? ⟨q, 0, none⟩ = some (.int .i64 k1) := hBr.c 0 _ rfl
    have t1 : wr.cell? ⟨q, 1, none⟩ = some (.int .i64 k2) := hBr.c 1 _ rfl
    by_cases hlt : j < s.length
    · have hjl : j < s.length := by omega
      have hne := HU.out j
      cases hs : s[j]? with
      | none => rw [List.getElem?_eq_none_iff] at hs; omega
      | some v =>
        cases v with
        | none =>
          have d0 : wr.cell? ⟨r, j * 3, none⟩ = some (.bool false) := hPr.at_ j none hs 0 _ rfl
          clear hPr hBr hs hne
          go_wp2_with fail
          go_quiet (fail)
          have hG2 := hG.drewN nq
          clear g4 t0 t1 d0 hG
          go_wp2_with fail
          go_roundw
          case rel => exact ⟨j + 1, by omega, by go_num, hG2⟩
          case measure => (simp [intOf]) <;> omega
        | some v =>
          obtain ⟨v1, v2⟩ := v
          have d0 : wr.cell? ⟨r, j * 3, none⟩ = some (.bool true) := hPr.at_ j _ hs 0 _ rfl
          have d1 : wr.cell? ⟨r, j * 3 + 1, none⟩ = some (.int .i64 v1) := hPr.at_ j _ hs 1 _ rfl
          have d2 : wr.cell? ⟨r, j * 3 + 2, none⟩ = some (.int .i64 v2) := hPr.at_ j _ hs 2 _ rfl
          have hkk : ((v1, v2) : Ky) ≠ (k1, k2) := fun e => hne (by rw [hs, e])
          have heq : ∀ W, (Op.equalIn 10000 45 (.agg #[.int .i64 v1, .int .i64 v2]) (.agg #[.int .i64 k1, .int .i64 k2])).run Try.prog W = .ok false W := fun W => by
            have := eq_rky (v1, v2) (k1, k2) W
            rwa [decide_eq_false hkk] at this
          clear hPr hBr hs hne hkk
          go_wp2_with fail
          go_quiet (fail)
          have hG2 := hG.drewN nq
          clear g4 t0 t1 d0 d1 d2 hG heq
          go_wp2_with fail
          go_roundw
          case rel => exact ⟨j + 1, by omega, by go_num, hG2⟩
          case measure => (simp [intOf]) <;> omega
    · obtain rfl : j = s.length := by omega
      have hge : ¬ (s.length : Int) < s.length := by omega
      have hF2 := hF.trans hG
      clear hPr hBr t0 t1 hG
      go_wp2_with fail
      go_ret
      exact ⟨rfl, hF2⟩
def frees (s : List (Option Ky)) : Nat := (s.filter Option.isNone).length
theorem frees_next (s : List (Option Ky)) (k : Nat) (v : Option Ky) (h : s[k]? = some v) : frees (s.take (k + 1)) = frees (s.take k) + (match v with | none => 1 | some _ => 0) := by
  unfold frees
  have hl := at_lt h
  have hv : s[k] = v := by rw [List.getElem?_eq_getElem hl] at h; injection h
  rw [List.take_succ_eq_append_getElem hl, List.filter_append, List.length_append, hv]
  cases v <;> rfl
theorem frees_le (s : List (Option Ky)) : frees s ≤ s.length := List.length_filter_le _ _
theorem frees_cnt (s : List (Option Ky)) : ((frees s : Nat) : Int) = (s.length : Int) - (cnt s : Nat) := by
  unfold frees cnt
  induction s with
  | nil => rfl
  | cons v s ih => cases v <;> simp at ih ⊢ <;> omega
set_option maxRecDepth 100000 in
set_option maxHeartbeats 4000000 in
theorem dfree (h : DPool w g r b s) :
    Calls Try.prog 24 #[.pointer (some ⟨g, 0, none⟩)] w fun e w' => e = .returned (.int .i64 ((s.length : Int) - (cnt s : Nat))) ∧ w' = w := by
  have n2 := h.n2
  have HP := Lib.hid h
  rw [← frees_cnt]
  clear h
  go_enter Try.func24, Try.ntmps24
  go_wp2_with fail
  go_loopw [3, 4] (fun hv iv wr => ∃ j : Nat, j ≤ s.length ∧ iv = .int .i64 j ∧ hv = .int .i64 (frees (s.take j) : Nat) ∧ wr = w) (fun _ iv _ => s.length - (intOf iv).toNat)
  case atStart => exact ⟨0, by omega, rfl, rfl, rfl⟩
  case round =>
    obtain ⟨j, hj, rfl, rfl, rfl⟩ := hrel
    have hfb := frees_le (s.take j)
    rw [List.length_take] at hfb
    have g4 : wr.cell? ⟨g, 4, none⟩ = some (.slice (some ⟨r, 0, none⟩) s.length s.length) := HP.out.st.c 4 _ rfl
    by_cases hlt : j < s.length
    · cases hs : s[j]? with
      | none => rw [List.getElem?_eq_none_iff] at hs; omega
      | some v =>
        have hnx := frees_next s j v hs
        cases v with
        | none =>
          simp only at hnx
          have HN := Lib.hid hnx
          have d0 : wr.cell? ⟨r, j * 3, none⟩ = some (.bool false) := HP.out.at_ j none hs 0 _ rfl
          clear hnx hs
          go_wp2_with fail
          go_roundw
          case rel => exact ⟨j + 1, by omega, by go_num, by rw [HN.out]; go_num, trivial⟩
          case measure => (simp [intOf]) <;> omega
        | some v =>
          simp only at hnx
          have HN := Lib.hid hnx
          have d0 : wr.cell? ⟨r, j * 3, none⟩ = some (.bool true) := HP.out.at_ j _ hs 0 _ rfl
          clear hnx hs
          go_wp2_with fail
          go_roundw
          case rel => exact ⟨j + 1, by omega, by go_num, by rw [HN.out, Nat.add_zero], trivial⟩
          case measure => (simp [intOf]) <;> omega
    · obtain rfl : j = s.length := by omega
      have hge : ¬ (s.length : Int) < s.length := by omega
      rw [List.take_length]
      clear hlt hj hfb
      go_wp2_with fail
      go_ret
      exact ⟨rfl, rfl⟩
end
end Go.Proofs.Ytnenmgankgadcaa
