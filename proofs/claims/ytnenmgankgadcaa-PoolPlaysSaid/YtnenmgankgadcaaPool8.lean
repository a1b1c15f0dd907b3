/- The document's pool: Take, Who, New. Printed by gen_pool8.py. -/
import Derived.Test.YtnenmgankgadcaaPool7
namespace Go.Proofs.Ytnenmgankgadcaa
open Go.RowKit Go.Maps
set_option linter.unusedVariables false
section
variable {w w' : World} {g r : Nat} {b : Ad} {s : List (Option Ky)}
set_option maxRecDepth 100000 in
set_option maxHeartbeats 4000000 in
theorem dtake_had (k : Ky) (i : Nat) (h : DPool w g r b s) (hi : s[i]? = some (some k)) (hu : ∀ j, j < i → s[j]? ≠ some (some k)) :
    Calls Try.prog 17 #[.pointer (some ⟨g, 0, none⟩), .agg (kyC k)] w fun e w' => e = .returned (.tuple #[.agg (adC (adq (numb b + i))), .int .i64 0]) ∧ Fr [] w w' := by
  have HH := Lib.hid (fun (W : World) (hW : Fr [] w W) => dhas_yes k i (h.fr0 hW) hi hu)
  obtain ⟨⟨e0, e1, e2, e3⟩, hev⟩ : ∃ a, adq (numb b + i) = a := ⟨_, rfl⟩
  rw [hev] at HH ⊢
  obtain ⟨k1, k2⟩ := k
  unfold adC adr kyC at HH ⊢
  simp only at HH ⊢
  clear h hi hu hev
  go_enter Try.func17, Try.ntmps17
  go_wp2_with fail
  have hBk := (Blk.new w #[.int .i64 k1, .int .i64 k2] 45).alloc (.cells #[.int .u8 0, .int .u8 0, .int .u8 0, .int .u8 0] 23 (0, 0))
  have hBz := Blk.new (w.alloc (.cells #[.int .i64 k1, .int .i64 k2] 45 (0, 0))) #[.int .u8 0, .int .u8 0, .int .u8 0, .int .u8 0] 23
  have hF := ((Fr.refl [] w).alloc (.cells #[.int .i64 k1, .int .i64 k2] 45 (0, 0))).alloc (.cells #[.int .u8 0, .int .u8 0, .int .u8 0, .int .u8 0] 23 (0, 0))
  rw [show (w.alloc (.cells #[.int .i64 k1, .int .i64 k2] 45 (0, 0))).heap.size = w.heap.size + 1 by simp] at hBz
  obtain ⟨W0, hW0⟩ : ∃ W, ((w.alloc (.cells #[.int .i64 k1, .int .i64 k2] 45 (0, 0))).alloc (.cells #[.int .u8 0, .int .u8 0, .int .u8 0, .int .u8 0] 23 (0, 0))) = W := ⟨_, rfl⟩
  obtain ⟨q, hq⟩ : ∃ q, w.heap.size = q := ⟨_, rfl⟩
  rw [hW0] at hBk hBz hF ⊢
  rw [hq] at hBk hBz ⊢
  have hqw : w.heap.size ≤ q + 1 := by omega
  clear hW0 hq
  refine (HH.out _ hF).mono ?_
  rintro e w1 ⟨rfl, hF1⟩
  have hZ := hF1.blk hBz (by simp)
  have hF2 := (hF.trans hF1).alloc (.cells #[.int .u8 e0, .int .u8 e1, .int .u8 e2, .int .u8 e3] 23 (0, 0))
  have hZ3 := hZ.alloc (.cells #[.int .u8 e0, .int .u8 e1, .int .u8 e2, .int .u8 e3] 23 (0, 0))
  have c0 : (w1.alloc (.cells #[.int .u8 e0, .int .u8 e1, .int .u8 e2, .int .u8 e3] 23 (0, 0))).cell? ⟨q + 1, 0, none⟩ = some (.int .u8 0) := hZ3.c 0 _ rfl
  have c1 : (w1.alloc (.cells #[.int .u8 e0, .int .u8 e1, .int .u8 e2, .int .u8 e3] 23 (0, 0))).cell? ⟨q + 1, 1, none⟩ = some (.int .u8 0) := hZ3.c 1 _ rfl
  have c2 : (w1.alloc (.cells #[.int .u8 e0, .int .u8 e1, .int .u8 e2, .int .u8 e3] 23 (0, 0))).cell? ⟨q + 1, 2, none⟩ = some (.int .u8 0) := hZ3.c 2 _ rfl
  have c3 : (w1.alloc (.cells #[.int .u8 e0, .int .u8 e1, .int .u8 e2, .int .u8 e3] 23 (0, 0))).cell? ⟨q + 1, 3, none⟩ = some (.int .u8 0) := hZ3.c 3 _ rfl
  have f0 := hZ3.fz 0
  have f1 := hZ3.fz 1
  have f2 := hZ3.fz 2
  have f3 := hZ3.fz 3
  clear hBk hBz hF hF1 hZ
  go_wp2_with fail
  have hB4 := (((hZ3.set 0 (.int .u8 e0)).set 1 (.int .u8 e1)).set 2 (.int .u8 e2)).set 3 (.int .u8 e3)
  have hF4 : Fr [] w _ := (((hF2.setNew (p := ⟨q + 1, 0, none⟩) hqw (.int .u8 e0)).setNew (p := ⟨q + 1, 1, none⟩) hqw (.int .u8 e1)).setNew (p := ⟨q + 1, 2, none⟩) hqw (.int .u8 e2)).setNew (p := ⟨q + 1, 3, none⟩) hqw (.int .u8 e3)
  exact ret_cell2 4 5 23 rfl (q + 1) 23 (adr e0 e1 e2 e3) _ hB4 rfl Try.underlying23 rfl (by kernel_rfl) rfl ⟨rfl, hF4⟩
set_option maxRecDepth 100000 in
set_option maxHeartbeats 4000000 in
theorem dtake_full (k : Ky) (h : DPool w g r b s) (hu : ∀ j : Nat, s[j]? ≠ some (some k)) (ht : Taken s s.length) :
    Calls Try.prog 17 #[.pointer (some ⟨g, 0, none⟩), .agg (kyC k)] w fun e w' => e = .returned (.tuple #[.agg (adC (0, 0, 0, 0)), .int .i64 10]) ∧ Fr [] w w' := by
  have HH := Lib.hid (fun (W : World) (hW : Fr [] w W) => dhas_no k (h.fr0 hW) hu)
  have n2 := h.n2
  have HP := Lib.hid h
  have HT := Lib.hid ht
  obtain ⟨k1, k2⟩ := k
  unfold adC adr kyC at HH ⊢
  simp only at HH ⊢
  clear h hu ht
  go_enter Try.func17, Try.ntmps17
  go_wp2_with fail
  have hBk := (Blk.new w #[.int .i64 k1, .int .i64 k2] 45).alloc (.cells #[.int .u8 0, .int .u8 0, .int .u8 0, .int .u8 0] 23 (0, 0))
  have hBz := Blk.new (w.alloc (.cells #[.int .i64 k1, .int .i64 k2] 45 (0, 0))) #[.int .u8 0, .int .u8 0, .int .u8 0, .int .u8 0] 23
  have hF := ((Fr.refl [] w).alloc (.cells #[.int .i64 k1, .int .i64 k2] 45 (0, 0))).alloc (.cells #[.int .u8 0, .int .u8 0, .int .u8 0, .int .u8 0] 23 (0, 0))
  rw [show (w.alloc (.cells #[.int .i64 k1, .int .i64 k2] 45 (0, 0))).heap.size = w.heap.size + 1 by simp] at hBz
  obtain ⟨W0, hW0⟩ : ∃ W, ((w.alloc (.cells #[.int .i64 k1, .int .i64 k2] 45 (0, 0))).alloc (.cells #[.int .u8 0, .int .u8 0, .int .u8 0, .int .u8 0] 23 (0, 0))) = W := ⟨_, rfl⟩
  obtain ⟨q, hq⟩ : ∃ q, w.heap.size = q := ⟨_, rfl⟩
  rw [hW0] at hBk hBz hF ⊢
  rw [hq] at hBk hBz ⊢
  have hqw : w.heap.size ≤ q + 1 := by omega
  clear hW0 hq
  refine (HH.out _ hF).mono ?_
  rintro e w1 ⟨rfl, hF1⟩
  have hZ := (hF1.blk hBz (by simp)).alloc (.cells #[.int .u8 0, .int .u8 0, .int .u8 0, .int .u8 0] 23 (0, 0))
  have hK := (hF1.blk hBk (by simp)).alloc (.cells #[.int .u8 0, .int .u8 0, .int .u8 0, .int .u8 0] 23 (0, 0))
  have hF2 := (hF.trans hF1).alloc (.cells #[.int .u8 0, .int .u8 0, .int .u8 0, .int .u8 0] 23 (0, 0))
  clear hBk hBz hF hF1
  go_wp2_with fail
  obtain ⟨W1, hW1⟩ : ∃ W, w1.alloc (.cells #[.int .u8 0, .int .u8 0, .int .u8 0, .int .u8 0] 23 (0, 0)) = W := ⟨_, rfl⟩
  rw [hW1] at hZ hK hF2 ⊢
  have hP1 := HP.out.fr0 hF2
  clear hW1
  go_loopw [8] (fun iv wr => ∃ j : Nat, j ≤ s.length ∧ iv = .int .i64 j ∧ wr = W1) (fun iv _ => s.length - (intOf iv).toNat)
  case atStart => exact ⟨0, by omega, rfl, rfl⟩
  case round =>
    obtain ⟨j, hj, rfl, rfl⟩ := hrel
    have g4 : wr.cell? ⟨g, 4, none⟩ = some (.slice (some ⟨r, 0, none⟩) s.length s.length) := hP1.st.c 4 _ rfl
    by_cases hlt : j < s.length
    · have hjl : j < s.length := by omega
      obtain ⟨⟨v1, v2⟩, hs⟩ := HT.out j hlt
      have d0 : wr.cell? ⟨r, j * 3, none⟩ = some (.bool true) := hP1.at_ j _ hs 0 _ rfl
      clear hs
      go_wp2_with fail
      go_roundw
      case rel => exact ⟨j + 1, by omega, by go_num, trivial⟩
      case measure => (simp [intOf]) <;> omega
    · obtain rfl : j = s.length := by omega
      have hge : ¬ (s.length : Int) < s.length := by omega
      have hZ3 := hZ
      have c0 : (wr).cell? ⟨q + 1, 0, none⟩ = some (.int .u8 0) := hZ3.c 0 _ rfl
      have c1 : (wr).cell? ⟨q + 1, 1, none⟩ = some (.int .u8 0) := hZ3.c 1 _ rfl
      have c2 : (wr).cell? ⟨q + 1, 2, none⟩ = some (.int .u8 0) := hZ3.c 2 _ rfl
      have c3 : (wr).cell? ⟨q + 1, 3, none⟩ = some (.int .u8 0) := hZ3.c 3 _ rfl
      have f0 := hZ3.fz 0
      have f1 := hZ3.fz 1
      have f2 := hZ3.fz 2
      have f3 := hZ3.fz 3
      clear hZ hK hlt hj
      go_wp2_with fail
      have hB4 := (((hZ3.set 0 (.int .u8 0)).set 1 (.int .u8 0)).set 2 (.int .u8 0)).set 3 (.int .u8 0)
      have hF4 : Fr [] w _ := (((hF2.setNew (p := ⟨q + 1, 0, none⟩) hqw (.int .u8 0)).setNew (p := ⟨q + 1, 1, none⟩) hqw (.int .u8 0)).setNew (p := ⟨q + 1, 2, none⟩) hqw (.int .u8 0)).setNew (p := ⟨q + 1, 3, none⟩) hqw (.int .u8 0)
      exact ret_cell2 4 5 23 rfl (q + 1) 23 (adr 0 0 0 0) _ hB4 rfl Try.underlying23 rfl (by kernel_rfl) rfl ⟨rfl, hF4⟩
set_option maxRecDepth 100000 in
set_option maxHeartbeats 4000000 in
theorem dtake_new (k : Ky) (i : Nat) (h : DPool w g r b s) (hu : ∀ j : Nat, s[j]? ≠ some (some k)) (ht : Taken s i) (hi : s[i]? = some none) :
    Calls Try.prog 17 #[.pointer (some ⟨g, 0, none⟩), .agg (kyC k)] w fun e w' => e = .returned (.tuple #[.agg (adC (adq (numb b + i))), .int .i64 0]) ∧ DPool w' g r b (s.set i (some k)) ∧ Fr [r] w w' := by
  have HH := Lib.hid (fun (W : World) (hW : Fr [] w W) => dhas_no k (h.fr0 hW) hu)
  have n2 := h.n2
  have hil := at_lt hi
  have HP := Lib.hid h
  have HT := Lib.hid ht
  have HI := Lib.hid hi
  have HA := Lib.hid fun W => radd_any b.1 b.2.1 b.2.2.1 b.2.2.2 (i : Int) W h.bok.1 h.bok.2.1 h.bok.2.2.1 h.bok.2.2.2 (by omega) (by omega)
  obtain ⟨⟨e0, e1, e2, e3⟩, hev⟩ : ∃ a, adq (numb b + i) = a := ⟨_, rfl⟩
  rw [show adrN (num4 b.1 b.2.1 b.2.2.1 b.2.2.2 + (i : Int)) = adC (adq (numb b + i)) from rfl, hev] at HA
  rw [hev]
  obtain ⟨k1, k2⟩ := k
  obtain ⟨b0, b1, b2, b3⟩ := b
  unfold adC adr kyC at HH ⊢
  unfold adC adr at HA
  simp only at HH HA ⊢
  have hrw := h.row.lt
  have hgw := h.st.lt
  clear h hu ht hi hev
  go_enter Try.func17, Try.ntmps17
  go_wp2_with fail
  have hBk := (Blk.new w #[.int .i64 k1, .int .i64 k2] 45).alloc (.cells #[.int .u8 0, .int .u8 0, .int .u8 0, .int .u8 0] 23 (0, 0))
  have hBz := Blk.new (w.alloc (.cells #[.int .i64 k1, .int .i64 k2] 45 (0, 0))) #[.int .u8 0, .int .u8 0, .int .u8 0, .int .u8 0] 23
  have hF := ((Fr.refl [] w).alloc (.cells #[.int .i64 k1, .int .i64 k2] 45 (0, 0))).alloc (.cells #[.int .u8 0, .int .u8 0, .int .u8 0, .int .u8 0] 23 (0, 0))
  rw [show (w.alloc (.cells #[.int .i64 k1, .int .i64 k2] 45 (0, 0))).heap.size = w.heap.size + 1 by simp] at hBz
  obtain ⟨W0, hW0⟩ : ∃ W, ((w.alloc (.cells #[.int .i64 k1, .int .i64 k2] 45 (0, 0))).alloc (.cells #[.int .u8 0, .int .u8 0, .int .u8 0, .int .u8 0] 23 (0, 0))) = W := ⟨_, rfl⟩
  obtain ⟨q, hq⟩ : ∃ q, w.heap.size = q := ⟨_, rfl⟩
  rw [hW0] at hBk hBz hF ⊢
  rw [hq] at hBk hBz ⊢
  have hqw : w.heap.size ≤ q + 1 := by omega
  clear hW0 hq
  refine (HH.out _ hF).mono ?_
  rintro e w1 ⟨rfl, hF1⟩
  have hZ := (hF1.blk hBz (by simp)).alloc (.cells #[.int .u8 0, .int .u8 0, .int .u8 0, .int .u8 0] 23 (0, 0))
  have hK := (hF1.blk hBk (by simp)).alloc (.cells #[.int .u8 0, .int .u8 0, .int .u8 0, .int .u8 0] 23 (0, 0))
  have hF2 := (hF.trans hF1).alloc (.cells #[.int .u8 0, .int .u8 0, .int .u8 0, .int .u8 0] 23 (0, 0))
  clear hBk hBz hF hF1
  go_wp2_with fail
  obtain ⟨W1, hW1⟩ : ∃ W, w1.alloc (.cells #[.int .u8 0, .int .u8 0, .int .u8 0, .int .u8 0] 23 (0, 0)) = W := ⟨_, rfl⟩
  rw [hW1] at hZ hK hF2 ⊢
  have hP1 := HP.out.fr0 hF2
  clear hW1
  go_loopw [8] (fun iv wr => ∃ j : Nat, j ≤ i ∧ iv = .int .i64 j ∧ wr = W1) (fun iv _ => i - (intOf iv).toNat)
  case atStart => exact ⟨0, by omega, rfl, rfl⟩
  case round =>
    obtain ⟨j, hj, rfl, rfl⟩ := hrel
    have g4 : wr.cell? ⟨g, 4, none⟩ = some (.slice (some ⟨r, 0, none⟩) s.length s.length) := hP1.st.c 4 _ rfl
    by_cases hlt : j < i
    · have hjl : j < s.length := by omega
      obtain ⟨⟨v1, v2⟩, hs⟩ := HT.out j hlt
      have d0 : wr.cell? ⟨r, j * 3, none⟩ = some (.bool true) := hP1.at_ j _ hs 0 _ rfl
      clear hs
      go_wp2_with fail
      go_roundw
      case rel => exact ⟨j + 1, by omega, by go_num, trivial⟩
      case measure => (simp [intOf]) <;> omega
    · obtain rfl : j = i := by omega
      have d0 : wr.cell? ⟨r, j * 3, none⟩ = some (.bool false) := hP1.at_ j _ HI.out 0 _ rfl
      have d1 : wr.cell? ⟨r, j * 3 + 1, none⟩ = some (.int .i64 0) := hP1.at_ j _ HI.out 1 _ rfl
      have d2 : wr.cell? ⟨r, j * 3 + 2, none⟩ = some (.int .i64 0) := hP1.at_ j _ HI.out 2 _ rfl
      have t0 : wr.cell? ⟨q, 0, none⟩ = some (.int .i64 k1) := hK.c 0 _ rfl
      have t1 : wr.cell? ⟨q, 1, none⟩ = some (.int .i64 k2) := hK.c 1 _ rfl
      have f0 := hP1.row.fz (j * 3)
      have f1 := hP1.row.fz (j * 3 + 1)
      have f2 := hP1.row.fz (j * 3 + 2)
      clear hlt
      go_wp2_with fail
      go_region
      have hq9 : q + 1 ≠ r := by omega
      have hgq : g ≠ q + 1 := by omega
      have hP2 := (hP1.put_ j (some (k1, k2)) hil (.bool true) (.int .i64 k1) (.int .i64 k2) rfl).fr0 (Fr.refl [] _).drew
      have hZ2 := ((((hZ.set_other ⟨r, j * 3, none⟩ hq9 (.bool true)).set_other ⟨r, j * 3 + 1, none⟩ hq9 (.int .i64 k1)).set_other ⟨r, j * 3 + 2, none⟩ hq9 (.int .i64 k2))).drew
      have hG2 := ((((hF2.mono (S' := [r]) (by simp)).setCell (p := ⟨r, j * 3, none⟩) (by simp) (.bool true)).setCell (p := ⟨r, j * 3 + 1, none⟩) (by simp) (.int .i64 k1)).setCell (p := ⟨r, j * 3 + 2, none⟩) (by simp) (.int .i64 k2)).drew
      obtain ⟨W2, hW2⟩ : ∃ W, (((wr.setCell ⟨r, j * 3, none⟩ (.bool true)).setCell ⟨r, j * 3 + 1, none⟩ (.int .i64 k1)).setCell ⟨r, j * 3 + 2, none⟩ (.int .i64 k2)).drew = W := ⟨_, rfl⟩
      rw [hW2] at hP2 hZ2 hG2 ⊢
      have y0 : W2.cell? ⟨g, 0, none⟩ = some (.int .u8 b0) := hP2.st.c 0 _ rfl
      have y1 : W2.cell? ⟨g, 1, none⟩ = some (.int .u8 b1) := hP2.st.c 1 _ rfl
      have y2 : W2.cell? ⟨g, 2, none⟩ = some (.int .u8 b2) := hP2.st.c 2 _ rfl
      have y3 : W2.cell? ⟨g, 3, none⟩ = some (.int .u8 b3) := hP2.st.c 3 _ rfl
      have HP2 := Lib.hid hP2
      clear g4 d0 d1 d2 t0 t1 f0 f1 f2 hP1 hK hZ hF2 hW2 hP2 HH HT HI
      go_wp2_with fail
      refine (HA.out _).mono ?_
      rintro e w5 ⟨rfl, hG5⟩
      have hZ3 := hG5.blk hZ2 (by simp)
      have c0 : (w5).cell? ⟨q + 1, 0, none⟩ = some (.int .u8 0) := hZ3.c 0 _ rfl
      have c1 : (w5).cell? ⟨q + 1, 1, none⟩ = some (.int .u8 0) := hZ3.c 1 _ rfl
      have c2 : (w5).cell? ⟨q + 1, 2, none⟩ = some (.int .u8 0) := hZ3.c 2 _ rfl
      have c3 : (w5).cell? ⟨q + 1, 3, none⟩ = some (.int .u8 0) := hZ3.c 3 _ rfl
      have f0 := hZ3.fz 0
      have f1 := hZ3.fz 1
      have f2 := hZ3.fz 2
      have f3 := hZ3.fz 3
      have hG6 := hG2.trans (hG5.mono (by simp))
      have hP6 := Lib.hid (HP2.out.fr0 hG5)
      clear y0 y1 y2 y3 HP2 HA hG5 hG2 hZ2
      go_wp2_with fail
      have hst : Hid (∀ (W : World) (p : Addr) (v : Value), p.block = q + 1 → DPool W g r (b0, b1, b2, b3) (s.set j (some (k1, k2))) → DPool (W.setCell p v) g r (b0, b1, b2, b3) (s.set j (some (k1, k2)))) := Lib.hid fun W p v hp h => ⟨h.st.set_other p (by rw [hp]; exact hgq) v, h.row.set_other p (by rw [hp]; exact fun e => hq9 e.symm) v, h.bok, h.n2, h.ne⟩
      have hP7 := hst.out _ ⟨q + 1, 3, none⟩ (.int .u8 e3) rfl (hst.out _ ⟨q + 1, 2, none⟩ (.int .u8 e2) rfl (hst.out _ ⟨q + 1, 1, none⟩ (.int .u8 e1) rfl (hst.out _ ⟨q + 1, 0, none⟩ (.int .u8 e0) rfl hP6.out)))
      have hB4 := (((hZ3.set 0 (.int .u8 e0)).set 1 (.int .u8 e1)).set 2 (.int .u8 e2)).set 3 (.int .u8 e3)
      have hF4 : Fr [r] w _ := (((hG6.setNew (p := ⟨q + 1, 0, none⟩) hqw (.int .u8 e0)).setNew (p := ⟨q + 1, 1, none⟩) hqw (.int .u8 e1)).setNew (p := ⟨q + 1, 2, none⟩) hqw (.int .u8 e2)).setNew (p := ⟨q + 1, 3, none⟩) hqw (.int .u8 e3)
      exact ret_cell2 4 5 23 rfl (q + 1) 23 (adr e0 e1 e2 e3) _ hB4 rfl Try.underlying23 rfl (by kernel_rfl) rfl ⟨rfl, hP7, hF4⟩
set_option maxRecDepth 100000 in
set_option maxHeartbeats 4000000 in
theorem dwho_no (a : Ad) (ha : AdOk a) (h : DPool w g r b s) (hu : ∀ (j : Nat) v, s[j]? = some (some v) → adq (numb b + j) ≠ a) :
    Calls Try.prog 22 #[.pointer (some ⟨g, 0, none⟩), .agg (adC a)] w fun e w' => e = .returned (.tuple #[.agg (kyC (0, 0)), .bool false]) ∧ Fr [] w w' := by
  have n2 := h.n2
  have AD := Lib.hid fun (j : Nat) (hj : j < s.length) (W : World) => radd_any b.1 b.2.1 b.2.2.1 b.2.2.2 (j : Int) W h.bok.1 h.bok.2.1 h.bok.2.2.1 h.bok.2.2.2 (by omega) (by omega)
  have HP := Lib.hid h
  have HU := Lib.hid hu
  obtain ⟨a0, a1, a2, a3⟩ := a
  obtain ⟨b0, b1, b2, b3⟩ := b
  unfold adC adr kyC
  unfold adr at AD
  simp only at AD ⊢
  clear h hu
  have AD : Hid (∀ (j : Nat), j < s.length → ∀ W, Calls Try.prog 10 #[.agg #[.int .u8 b0, .int .u8 b1, .int .u8 b2, .int .u8 b3], .int .i64 j] W fun e w' => e = .returned (.agg (adC (adq (numb (b0, b1, b2, b3) + j)))) ∧ Fr [] W w') := AD
  go_enter Try.func22, Try.ntmps22
  go_wp2_with fail
  have hBk := (Blk.new w #[.int .u8 a0, .int .u8 a1, .int .u8 a2, .int .u8 a3] 23).alloc (.cells #[.int .i64 0, .int .i64 0] 45 (0, 0))
  have hBz := Blk.new (w.alloc (.cells #[.int .u8 a0, .int .u8 a1, .int .u8 a2, .int .u8 a3] 23 (0, 0))) #[.int .i64 0, .int .i64 0] 45
  have hF := ((Fr.refl [] w).alloc (.cells #[.int .u8 a0, .int .u8 a1, .int .u8 a2, .int .u8 a3] 23 (0, 0))).alloc (.cells #[.int .i64 0, .int .i64 0] 45 (0, 0))
  rw [show (w.alloc (.cells #[.int .u8 a0, .int .u8 a1, .int .u8 a2, .int .u8 a3] 23 (0, 0))).heap.size = w.heap.size + 1 by simp] at hBz
  obtain ⟨W0, hW0⟩ : ∃ W, ((w.alloc (.cells #[.int .u8 a0, .int .u8 a1, .int .u8 a2, .int .u8 a3] 23 (0, 0))).alloc (.cells #[.int .i64 0, .int .i64 0] 45 (0, 0))) = W := ⟨_, rfl⟩
  obtain ⟨q, hq⟩ : ∃ q, w.heap.size = q := ⟨_, rfl⟩
  rw [hW0] at hBk hBz hF ⊢
  rw [hq] at hBk hBz ⊢
  have hqw : w.heap.size ≤ q + 1 := by omega
  have hP0 := HP.out.fr0 hF
  clear hW0 hq
  go_loopw [6] (fun iv wr => ∃ j : Nat, j ≤ s.length ∧ iv = .int .i64 j ∧ Fr [] W0 wr) (fun iv _ => s.length - (intOf iv).toNat)
  case atStart => exact ⟨0, by omega, rfl, Fr.refl _ _⟩
  case round =>
    obtain ⟨j, hj, rfl, hG⟩ := hrel
    have hPr := hP0.fr0 hG
    have hBr := hG.blk hBk (by simp)
    have hZr := hG.blk hBz (by simp)
    have g4 : wr.cell? ⟨g, 4, none⟩ = some (.slice (some ⟨r, 0, none⟩) s.length s.length) := hPr.st.c 4 _ rfl
    by_cases hlt : j < s.length
    · have hjl : j < s.length := by omega
      cases hs : s[j]? with
      | none => rw [List.getElem?_eq_none_iff] at hs; omega
      | some v =>
        cases v with
        | none =>
          have d0 : wr.cell? ⟨r, j * 3, none⟩ = some (.bool false) := hPr.at_ j none hs 0 _ rfl
          clear hPr hBr hZr hs
          go_wp2_with fail
          go_quiet (fail)
          have hG2 := hG.drewN nq
          clear g4 d0 hG
          go_wp2_with fail
          go_roundw
          case rel => exact ⟨j + 1, by omega, by go_num, hG2⟩
          case measure => (simp [intOf]) <;> omega
        | some v =>
          have hne := HU.out j v hs
          have HA := Lib.hid (AD.out j hjl)
          obtain ⟨⟨e0, e1, e2, e3⟩, hev⟩ : ∃ a, adq (numb (b0, b1, b2, b3) + j) = a := ⟨_, rfl⟩
          rw [hev] at hne HA
          have heq : ∀ W, (Op.equalIn 10000 23 (.agg #[.int .u8 e0, .int .u8 e1, .int .u8 e2, .int .u8 e3]) (.agg #[.int .u8 a0, .int .u8 a1, .int .u8 a2, .int .u8 a3])).run Try.prog W = .ok false W := fun W => by
            have := eq_ad (e0, e1, e2, e3) (a0, a1, a2, a3) W
            rwa [show adEq (e0, e1, e2, e3) (a0, a1, a2, a3) = false by unfold adEq; exact decide_eq_false hne] at this
          unfold adC adr at HA
          simp only at HA
          clear hev hne
          have HS : Hid (∀ w', Fr [] wr w' → (w'.cell? ⟨g, 0, none⟩ = some (.int .u8 b0) ∧ w'.cell? ⟨g, 1, none⟩ = some (.int .u8 b1) ∧ w'.cell? ⟨g, 2, none⟩ = some (.int .u8 b2) ∧ w'.cell? ⟨g, 3, none⟩ = some (.int .u8 b3) ∧ w'.cell? ⟨g, 4, none⟩ = some (.slice (some ⟨r, 0, none⟩) s.length s.length) ∧ w'.cell? ⟨r, j * 3, none⟩ = some (.bool true) ∧ w'.cell? ⟨q, 0, none⟩ = some (.int .u8 a0) ∧ w'.cell? ⟨q, 1, none⟩ = some (.int .u8 a1) ∧ w'.cell? ⟨q, 2, none⟩ = some (.int .u8 a2) ∧ w'.cell? ⟨q, 3, none⟩ = some (.int .u8 a3)) ∧ Fr [] wr w') := Lib.hid fun w' hw => by
            have hp := hPr.fr0 hw
            have hb := hw.blk hBr (by simp)
            exact ⟨⟨hp.st.c 0 _ rfl, hp.st.c 1 _ rfl, hp.st.c 2 _ rfl, hp.st.c 3 _ rfl, hp.st.c 4 _ rfl, hp.at_ j _ hs 0 _ rfl, hb.c 0 _ rfl, hb.c 1 _ rfl, hb.c 2 _ rfl, hb.c 3 _ rfl⟩, hw⟩
          have HStep : Hid (∀ w1 w2, ((w1.cell? ⟨g, 0, none⟩ = some (.int .u8 b0) ∧ w1.cell? ⟨g, 1, none⟩ = some (.int .u8 b1) ∧ w1.cell? ⟨g, 2, none⟩ = some (.int .u8 b2) ∧ w1.cell? ⟨g, 3, none⟩ = some (.int .u8 b3) ∧ w1.cell? ⟨g, 4, none⟩ = some (.slice (some ⟨r, 0, none⟩) s.length s.length) ∧ w1.cell? ⟨r, j * 3, none⟩ = some (.bool true) ∧ w1.cell? ⟨q, 0, none⟩ = some (.int .u8 a0) ∧ w1.cell? ⟨q, 1, none⟩ = some (.int .u8 a1) ∧ w1.cell? ⟨q, 2, none⟩ = some (.int .u8 a2) ∧ w1.cell? ⟨q, 3, none⟩ = some (.int .u8 a3)) ∧ Fr [] wr w1) → Fr [] w1 w2 → ((w2.cell? ⟨g, 0, none⟩ = some (.int .u8 b0) ∧ w2.cell? ⟨g, 1, none⟩ = some (.int .u8 b1) ∧ w2.cell? ⟨g, 2, none⟩ = some (.int .u8 b2) ∧ w2.cell? ⟨g, 3, none⟩ = some (.int .u8 b3) ∧ w2.cell? ⟨g, 4, none⟩ = some (.slice (some ⟨r, 0, none⟩) s.length s.length) ∧ w2.cell? ⟨r, j * 3, none⟩ = some (.bool true) ∧ w2.cell? ⟨q, 0, none⟩ = some (.int .u8 a0) ∧ w2.cell? ⟨q, 1, none⟩ = some (.int .u8 a1) ∧ w2.cell? ⟨q, 2, none⟩ = some (.int .u8 a2) ∧ w2.cell? ⟨q, 3, none⟩ = some (.int .u8 a3)) ∧ Fr [] wr w2)) := Lib.hid fun w1 w2 h hw => HS.out _ (h.2.trans hw)
          have hG0 := HS.out _ (Fr.refl _ _).drew
          have d0 : wr.cell? ⟨r, j * 3, none⟩ = some (.bool true) := hPr.at_ j _ hs 0 _ rfl
          clear HS
          go_wp2_with fail
          go_region_held3 (fun w' => (w'.cell? ⟨g, 0, none⟩ = some (.int .u8 b0) ∧ w'.cell? ⟨g, 1, none⟩ = some (.int .u8 b1) ∧ w'.cell? ⟨g, 2, none⟩ = some (.int .u8 b2) ∧ w'.cell? ⟨g, 3, none⟩ = some (.int .u8 b3) ∧ w'.cell? ⟨g, 4, none⟩ = some (.slice (some ⟨r, 0, none⟩) s.length s.length) ∧ w'.cell? ⟨r, j * 3, none⟩ = some (.bool true) ∧ w'.cell? ⟨q, 0, none⟩ = some (.int .u8 a0) ∧ w'.cell? ⟨q, 1, none⟩ = some (.int .u8 a1) ∧ w'.cell? ⟨q, 2, none⟩ = some (.int .u8 a2) ∧ w'.cell? ⟨q, 3, none⟩ = some (.int .u8 a3)) ∧ Fr [] wr w') (first | exact hG0 | assumption | exact HStep.out _ _ (by assumption) hF5)
            (first | (go_at_call 10; refine (HA.out _).mono ?_; rintro e w5 ⟨rfl, hF5⟩))
          all_goals
            have hS : (w5.cell? ⟨g, 0, none⟩ = some (.int .u8 b0) ∧ w5.cell? ⟨g, 1, none⟩ = some (.int .u8 b1) ∧ w5.cell? ⟨g, 2, none⟩ = some (.int .u8 b2) ∧ w5.cell? ⟨g, 3, none⟩ = some (.int .u8 b3) ∧ w5.cell? ⟨g, 4, none⟩ = some (.slice (some ⟨r, 0, none⟩) s.length s.length) ∧ w5.cell? ⟨r, j * 3, none⟩ = some (.bool true) ∧ w5.cell? ⟨q, 0, none⟩ = some (.int .u8 a0) ∧ w5.cell? ⟨q, 1, none⟩ = some (.int .u8 a1) ∧ w5.cell? ⟨q, 2, none⟩ = some (.int .u8 a2) ∧ w5.cell? ⟨q, 3, none⟩ = some (.int .u8 a3)) ∧ Fr [] wr w5 := by assumption
            have hG2 := hG.trans hS.2
            clear g4 d0 hG hG0 hS heq HA HStep hF5 hPr hBr hZr hs
            go_wp2_with fail
            go_roundw
            case rel => exact ⟨j + 1, by omega, by go_num, hG2⟩
            case measure => (simp [intOf]) <;> omega
    · obtain rfl : j = s.length := by omega
      have hge : ¬ (s.length : Int) < s.length := by omega
      have hZ3 := hZr
      have hF2 := hF.trans hG
      have c0 : wr.cell? ⟨q + 1, 0, none⟩ = some (.int .i64 0) := hZ3.c 0 _ rfl
      have c1 : wr.cell? ⟨q + 1, 1, none⟩ = some (.int .i64 0) := hZ3.c 1 _ rfl
      have f0 := hZ3.fz 0
      have f1 := hZ3.fz 1
      clear hPr hZr hBr hG hlt hj
      go_wp2_with fail
      have hB4 := (hZ3.set 0 (.int .i64 0)).set 1 (.int .i64 0)
      have hF4 : Fr [] w _ := (hF2.setNew (p := ⟨q + 1, 0, none⟩) hqw (.int .i64 0)).setNew (p := ⟨q + 1, 1, none⟩) hqw (.int .i64 0)
      exact ret_cell2 4 5 45 rfl (q + 1) 45 (kyC (0, 0)) _ hB4 rfl Try.underlying45 rfl (by kernel_rfl) rfl ⟨rfl, hF4⟩
set_option maxRecDepth 100000 in
set_option maxHeartbeats 4000000 in
theorem dwho_yes (a : Ad) (ha : AdOk a) (i : Nat) (k : Ky) (h : DPool w g r b s) (hi : s[i]? = some (some k)) (hae : adq (numb b + i) = a) (hu : ∀ (j : Nat) v, j < i → s[j]? = some (some v) → adq (numb b + j) ≠ a) :
    Calls Try.prog 22 #[.pointer (some ⟨g, 0, none⟩), .agg (adC a)] w fun e w' => e = .returned (.tuple #[.agg (kyC k), .bool true]) ∧ Fr [] w w' := by
  have n2 := h.n2
  have AD := Lib.hid fun (j : Nat) (hj : j < s.length) (W : World) => radd_any b.1 b.2.1 b.2.2.1 b.2.2.2 (j : Int) W h.bok.1 h.bok.2.1 h.bok.2.2.1 h.bok.2.2.2 (by omega) (by omega)
  have HP := Lib.hid h
  have HU := Lib.hid hu
  have hil := at_lt hi
  have HI := Lib.hid hi
  have HE := Lib.hid hae
  obtain ⟨a0, a1, a2, a3⟩ := a
  obtain ⟨b0, b1, b2, b3⟩ := b
  unfold adC adr kyC
  unfold adr at AD
  simp only at AD ⊢
  clear h hu hi hae
  have AD : Hid (∀ (j : Nat), j < s.length → ∀ W, Calls Try.prog 10 #[.agg #[.int .u8 b0, .int .u8 b1, .int .u8 b2, .int .u8 b3], .int .i64 j] W fun e w' => e = .returned (.agg (adC (adq (numb (b0, b1, b2, b3) + j)))) ∧ Fr [] W w') := AD
  obtain ⟨k1, k2⟩ := k
  simp only
  go_enter Try.func22, Try.ntmps22
  go_wp2_with fail
  have hBk := (Blk.new w #[.int .u8 a0, .int .u8 a1, .int .u8 a2, .int .u8 a3] 23).alloc (.cells #[.int .i64 0, .int .i64 0] 45 (0, 0))
  have hBz := Blk.new (w.alloc (.cells #[.int .u8 a0, .int .u8 a1, .int .u8 a2, .int .u8 a3] 23 (0, 0))) #[.int .i64 0, .int .i64 0] 45
  have hF := ((Fr.refl [] w).alloc (.cells #[.int .u8 a0, .int .u8 a1, .int .u8 a2, .int .u8 a3] 23 (0, 0))).alloc (.cells #[.int .i64 0, .int .i64 0] 45 (0, 0))
  rw [show (w.alloc (.cells #[.int .u8 a0, .int .u8 a1, .int .u8 a2, .int .u8 a3] 23 (0, 0))).heap.size = w.heap.size + 1 by simp] at hBz
  obtain ⟨W0, hW0⟩ : ∃ W, ((w.alloc (.cells #[.int .u8 a0, .int .u8 a1, .int .u8 a2, .int .u8 a3] 23 (0, 0))).alloc (.cells #[.int .i64 0, .int .i64 0] 45 (0, 0))) = W := ⟨_, rfl⟩
  obtain ⟨q, hq⟩ : ∃ q, w.heap.size = q := ⟨_, rfl⟩
  rw [hW0] at hBk hBz hF ⊢
  rw [hq] at hBk hBz ⊢
  have hqw : w.heap.size ≤ q + 1 := by omega
  have hP0 := HP.out.fr0 hF
  clear hW0 hq
  go_loopw [6] (fun iv wr => ∃ j : Nat, j ≤ i ∧ iv = .int .i64 j ∧ Fr [] W0 wr) (fun iv _ => i - (intOf iv).toNat)
  case atStart => exact ⟨0, by omega, rfl, Fr.refl _ _⟩
  case round =>
    obtain ⟨j, hj, rfl, hG⟩ := hrel
    have hPr := hP0.fr0 hG
    have hBr := hG.blk hBk (by simp)
    have hZr := hG.blk hBz (by simp)
    have g4 : wr.cell? ⟨g, 4, none⟩ = some (.slice (some ⟨r, 0, none⟩) s.length s.length) := hPr.st.c 4 _ rfl
    by_cases hlt : j < i
    · have hjl : j < s.length := by omega
      cases hs : s[j]? with
      | none => rw [List.getElem?_eq_none_iff] at hs; omega
      | some v =>
        cases v with
        | none =>
          have d0 : wr.cell? ⟨r, j * 3, none⟩ = some (.bool false) := hPr.at_ j none hs 0 _ rfl
          clear hPr hBr hZr hs
          go_wp2_with fail
          go_quiet (fail)
          have hG2 := hG.drewN nq
          clear g4 d0 hG
          go_wp2_with fail
          go_roundw
          case rel => exact ⟨j + 1, by omega, by go_num, hG2⟩
          case measure => (simp [intOf]) <;> omega
        | some v =>
          have hne := HU.out j v hlt hs
          have HA := Lib.hid (AD.out j hjl)
          obtain ⟨⟨e0, e1, e2, e3⟩, hev⟩ : ∃ a, adq (numb (b0, b1, b2, b3) + j) = a := ⟨_, rfl⟩
          rw [hev] at hne HA
          have heq : ∀ W, (Op.equalIn 10000 23 (.agg #[.int .u8 e0, .int .u8 e1, .int .u8 e2, .int .u8 e3]) (.agg #[.int .u8 a0, .int .u8 a1, .int .u8 a2, .int .u8 a3])).run Try.prog W = .ok false W := fun W => by
            have := eq_ad (e0, e1, e2, e3) (a0, a1, a2, a3) W
            rwa [show adEq (e0, e1, e2, e3) (a0, a1, a2, a3) = false by unfold adEq; exact decide_eq_false hne] at this
          unfold adC adr at HA
          simp only at HA
          clear hev hne
          have HS : Hid (∀ w', Fr [] wr w' → (w'.cell? ⟨g, 0, none⟩ = some (.int .u8 b0) ∧ w'.cell? ⟨g, 1, none⟩ = some (.int .u8 b1) ∧ w'.cell? ⟨g, 2, none⟩ = some (.int .u8 b2) ∧ w'.cell? ⟨g, 3, none⟩ = some (.int .u8 b3) ∧ w'.cell? ⟨g, 4, none⟩ = some (.slice (some ⟨r, 0, none⟩) s.length s.length) ∧ w'.cell? ⟨r, j * 3, none⟩ = some (.bool true) ∧ w'.cell? ⟨q, 0, none⟩ = some (.int .u8 a0) ∧ w'.cell? ⟨q, 1, none⟩ = some (.int .u8 a1) ∧ w'.cell? ⟨q, 2, none⟩ = some (.int .u8 a2) ∧ w'.cell? ⟨q, 3, none⟩ = some (.int .u8 a3)) ∧ Fr [] wr w') := Lib.hid fun w' hw => by
            have hp := hPr.fr0 hw
            have hb := hw.blk hBr (by simp)
            exact ⟨⟨hp.st.c 0 _ rfl, hp.st.c 1 _ rfl, hp.st.c 2 _ rfl, hp.st.c 3 _ rfl, hp.st.c 4 _ rfl, hp.at_ j _ hs 0 _ rfl, hb.c 0 _ rfl, hb.c 1 _ rfl, hb.c 2 _ rfl, hb.c 3 _ rfl⟩, hw⟩
          have HStep : Hid (∀ w1 w2, ((w1.cell? ⟨g, 0, none⟩ = some (.int .u8 b0) ∧ w1.cell? ⟨g, 1, none⟩ = some (.int .u8 b1) ∧ w1.cell? ⟨g, 2, none⟩ = some (.int .u8 b2) ∧ w1.cell? ⟨g, 3, none⟩ = some (.int .u8 b3) ∧ w1.cell? ⟨g, 4, none⟩ = some (.slice (some ⟨r, 0, none⟩) s.length s.length) ∧ w1.cell? ⟨r, j * 3, none⟩ = some (.bool true) ∧ w1.cell? ⟨q, 0, none⟩ = some (.int .u8 a0) ∧ w1.cell? ⟨q, 1, none⟩ = some (.int .u8 a1) ∧ w1.cell? ⟨q, 2, none⟩ = some (.int .u8 a2) ∧ w1.cell? ⟨q, 3, none⟩ = some (.int .u8 a3)) ∧ Fr [] wr w1) → Fr [] w1 w2 → ((w2.cell? ⟨g, 0, none⟩ = some (.int .u8 b0) ∧ w2.cell? ⟨g, 1, none⟩ = some (.int .u8 b1) ∧ w2.cell? ⟨g, 2, none⟩ = some (.int .u8 b2) ∧ w2.cell? ⟨g, 3, none⟩ = some (.int .u8 b3) ∧ w2.cell? ⟨g, 4, none⟩ = some (.slice (some ⟨r, 0, none⟩) s.length s.length) ∧ w2.cell? ⟨r, j * 3, none⟩ = some (.bool true) ∧ w2.cell? ⟨q, 0, none⟩ = some (.int .u8 a0) ∧ w2.cell? ⟨q, 1, none⟩ = some (.int .u8 a1) ∧ w2.cell? ⟨q, 2, none⟩ = some (.int .u8 a2) ∧ w2.cell? ⟨q, 3, none⟩ = some (.int .u8 a3)) ∧ Fr [] wr w2)) := Lib.hid fun w1 w2 h hw => HS.out _ (h.2.trans hw)
          have hG0 := HS.out _ (Fr.refl _ _).drew
          have d0 : wr.cell? ⟨r, j * 3, none⟩ = some (.bool true) := hPr.at_ j _ hs 0 _ rfl
          clear HS
          go_wp2_with fail
          go_region_held3 (fun w' => (w'.cell? ⟨g, 0, none⟩ = some (.int .u8 b0) ∧ w'.cell? ⟨g, 1, none⟩ = some (.int .u8 b1) ∧ w'.cell? ⟨g, 2, none⟩ = some (.int .u8 b2) ∧ w'.cell? ⟨g, 3, none⟩ = some (.int .u8 b3) ∧ w'.cell? ⟨g, 4, none⟩ = some (.slice (some ⟨r, 0, none⟩) s.length s.length) ∧ w'.cell? ⟨r, j * 3, none⟩ = some (.bool true) ∧ w'.cell? ⟨q, 0, none⟩ = some (.int .u8 a0) ∧ w'.cell? ⟨q, 1, none⟩ = some (.int .u8 a1) ∧ w'.cell? ⟨q, 2, none⟩ = some (.int .u8 a2) ∧ w'.cell? ⟨q, 3, none⟩ = some (.int .u8 a3)) ∧ Fr [] wr w') (first | exact hG0 | assumption | exact HStep.out _ _ (by assumption) hF5)
            (first | (go_at_call 10; refine (HA.out _).mono ?_; rintro e w5 ⟨rfl, hF5⟩))
          all_goals
            have hS : (w5.cell? ⟨g, 0, none⟩ = some (.int .u8 b0) ∧ w5.cell? ⟨g, 1, none⟩ = some (.int .u8 b1) ∧ w5.cell? ⟨g, 2, none⟩ = some (.int .u8 b2) ∧ w5.cell? ⟨g, 3, none⟩ = some (.int .u8 b3) ∧ w5.cell? ⟨g, 4, none⟩ = some (.slice (some ⟨r, 0, none⟩) s.length s.length) ∧ w5.cell? ⟨r, j * 3, none⟩ = some (.bool true) ∧ w5.cell? ⟨q, 0, none⟩ = some (.int .u8 a0) ∧ w5.cell? ⟨q, 1, none⟩ = some (.int .u8 a1) ∧ w5.cell? ⟨q, 2, none⟩ = some (.int .u8 a2) ∧ w5.cell? ⟨q, 3, none⟩ = some (.int .u8 a3)) ∧ Fr [] wr w5 := by assumption
            have hG2 := hG.trans hS.2
            clear g4 d0 hG hG0 hS heq HA HStep hF5 hPr hBr hZr hs
            go_wp2_with fail
            go_roundw
            case rel => exact ⟨j + 1, by omega, by go_num, hG2⟩
            case measure => (simp [intOf]) <;> omega
    · obtain rfl : j = i := by omega
      have HA := Lib.hid (AD.out j hil)
      rw [HE.out] at HA
      have heq : ∀ W, (Op.equalIn 10000 23 (.agg #[.int .u8 a0, .int .u8 a1, .int .u8 a2, .int .u8 a3]) (.agg #[.int .u8 a0, .int .u8 a1, .int .u8 a2, .int .u8 a3])).run Try.prog W = .ok true W := fun W => by
        have := eq_ad (a0, a1, a2, a3) (a0, a1, a2, a3) W
        rwa [show adEq (a0, a1, a2, a3) (a0, a1, a2, a3) = true by simp [adEq]] at this
      unfold adC adr at HA
      simp only at HA
      clear hlt hj
      have HS : Hid (∀ w', Fr [] wr w' → (w'.cell? ⟨g, 0, none⟩ = some (.int .u8 b0) ∧ w'.cell? ⟨g, 1, none⟩ = some (.int .u8 b1) ∧ w'.cell? ⟨g, 2, none⟩ = some (.int .u8 b2) ∧ w'.cell? ⟨g, 3, none⟩ = some (.int .u8 b3) ∧ w'.cell? ⟨g, 4, none⟩ = some (.slice (some ⟨r, 0, none⟩) s.length s.length) ∧ w'.cell? ⟨r, j * 3, none⟩ = some (.bool true) ∧ w'.cell? ⟨q, 0, none⟩ = some (.int .u8 a0) ∧ w'.cell? ⟨q, 1, none⟩ = some (.int .u8 a1) ∧ w'.cell? ⟨q, 2, none⟩ = some (.int .u8 a2) ∧ w'.cell? ⟨q, 3, none⟩ = some (.int .u8 a3)) ∧ Fr [] wr w') := Lib.hid fun w' hw => by
        have hp := hPr.fr0 hw
        have hb := hw.blk hBr (by simp)
        exact ⟨⟨hp.st.c 0 _ rfl, hp.st.c 1 _ rfl, hp.st.c 2 _ rfl, hp.st.c 3 _ rfl, hp.st.c 4 _ rfl, hp.at_ j _ HI.out 0 _ rfl, hb.c 0 _ rfl, hb.c 1 _ rfl, hb.c 2 _ rfl, hb.c 3 _ rfl⟩, hw⟩
      have HStep : Hid (∀ w1 w2, ((w1.cell? ⟨g, 0, none⟩ = some (.int .u8 b0) ∧ w1.cell? ⟨g, 1, none⟩ = some (.int .u8 b1) ∧ w1.cell? ⟨g, 2, none⟩ = some (.int .u8 b2) ∧ w1.cell? ⟨g, 3, none⟩ = some (.int .u8 b3) ∧ w1.cell? ⟨g, 4, none⟩ = some (.slice (some ⟨r, 0, none⟩) s.length s.length) ∧ w1.cell? ⟨r, j * 3, none⟩ = some (.bool true) ∧ w1.cell? ⟨q, 0, none⟩ = some (.int .u8 a0) ∧ w1.cell? ⟨q, 1, none⟩ = some (.int .u8 a1) ∧ w1.cell? ⟨q, 2, none⟩ = some (.int .u8 a2) ∧ w1.cell? ⟨q, 3, none⟩ = some (.int .u8 a3)) ∧ Fr [] wr w1) → Fr [] w1 w2 → ((w2.cell? ⟨g, 0, none⟩ = some (.int .u8 b0) ∧ w2.cell? ⟨g, 1, none⟩ = some (.int .u8 b1) ∧ w2.cell? ⟨g, 2, none⟩ = some (.int .u8 b2) ∧ w2.cell? ⟨g, 3, none⟩ = some (.int .u8 b3) ∧ w2.cell? ⟨g, 4, none⟩ = some (.slice (some ⟨r, 0, none⟩) s.length s.length) ∧ w2.cell? ⟨r, j * 3, none⟩ = some (.bool true) ∧ w2.cell? ⟨q, 0, none⟩ = some (.int .u8 a0) ∧ w2.cell? ⟨q, 1, none⟩ = some (.int .u8 a1) ∧ w2.cell? ⟨q, 2, none⟩ = some (.int .u8 a2) ∧ w2.cell? ⟨q, 3, none⟩ = some (.int .u8 a3)) ∧ Fr [] wr w2)) := Lib.hid fun w1 w2 h hw => HS.out _ (h.2.trans hw)
      have hG0 := HS.out _ (Fr.refl _ _).drew
      have d0 : wr.cell? ⟨r, j * 3, none⟩ = some (.bool true) := hPr.at_ j _ HI.out 0 _ rfl
      clear HS
      go_wp2_with fail
      go_region_held3 (fun w' => (w'.cell? ⟨g, 0, none⟩ = some (.int .u8 b0) ∧ w'.cell? ⟨g, 1, none⟩ = some (.int .u8 b1) ∧ w'.cell? ⟨g, 2, none⟩ = some (.int .u8 b2) ∧ w'.cell? ⟨g, 3, none⟩ = some (.int .u8 b3) ∧ w'.cell? ⟨g, 4, none⟩ = some (.slice (some ⟨r, 0, none⟩) s.length s.length) ∧ w'.cell? ⟨r, j * 3, none⟩ = some (.bool true) ∧ w'.cell? ⟨q, 0, none⟩ = some (.int .u8 a0) ∧ w'.cell? ⟨q, 1, none⟩ = some (.int .u8 a1) ∧ w'.cell? ⟨q, 2, none⟩ = some (.int .u8 a2) ∧ w'.cell? ⟨q, 3, none⟩ = some (.int .u8 a3)) ∧ Fr [] wr w') (first | exact hG0 | assumption | exact HStep.out _ _ (by assumption) hF5)
        (first | (go_at_call 10; refine (HA.out _).mono ?_; rintro e w5 ⟨rfl, hF5⟩))
      all_goals
        have hS : (w5.cell? ⟨g, 0, none⟩ = some (.int .u8 b0) ∧ w5.cell? ⟨g, 1, none⟩ = some (.int .u8 b1) ∧ w5.cell? ⟨g, 2, none⟩ = some (.int .u8 b2) ∧ w5.cell? ⟨g, 3, none⟩ = some (.int .u8 b3) ∧ w5.cell? ⟨g, 4, none⟩ = some (.slice (some ⟨r, 0, none⟩) s.length s.length) ∧ w5.cell? ⟨r, j * 3, none⟩ = some (.bool true) ∧ w5.cell? ⟨q, 0, none⟩ = some (.int .u8 a0) ∧ w5.cell? ⟨q, 1, none⟩ = some (.int .u8 a1) ∧ w5.cell? ⟨q, 2, none⟩ = some (.int .u8 a2) ∧ w5.cell? ⟨q, 3, none⟩ = some (.int .u8 a3)) ∧ Fr [] wr w5 := by assumption
        have hP5 := hPr.fr0 hS.2
        have hZ3 := hS.2.blk hZr (by simp)
        have hF2 := (hF.trans hG).trans hS.2
        have x4 : w5.cell? ⟨g, 4, none⟩ = some (.slice (some ⟨r, 0, none⟩) s.length s.length) := hP5.st.c 4 _ rfl
        have x1 : w5.cell? ⟨r, j * 3 + 1, none⟩ = some (.int .i64 k1) := hP5.at_ j _ HI.out 1 _ rfl
        have x2 : w5.cell? ⟨r, j * 3 + 2, none⟩ = some (.int .i64 k2) := hP5.at_ j _ HI.out 2 _ rfl
        have c0 : w5.cell? ⟨q + 1, 0, none⟩ = some (.int .i64 0) := hZ3.c 0 _ rfl
        have c1 : w5.cell? ⟨q + 1, 1, none⟩ = some (.int .i64 0) := hZ3.c 1 _ rfl
        have f0 := hZ3.fz 0
        have f1 := hZ3.fz 1
        clear g4 d0 hG hG0 hS heq HA HStep hF5 hPr hBr hZr hP5
        go_wp2_with fail
        have hB4 := (hZ3.set 0 (.int .i64 k1)).set 1 (.int .i64 k2)
        have hF4 : Fr [] w _ := (hF2.setNew (p := ⟨q + 1, 0, none⟩) hqw (.int .i64 k1)).setNew (p := ⟨q + 1, 1, none⟩) hqw (.int .i64 k2)
        exact ret_cell2 4 5 45 rfl (q + 1) 45 (kyC (k1, k2)) _ hB4 rfl Try.underlying45 rfl (by kernel_rfl) rfl ⟨rfl, hF4⟩
theorem infoLent : (Try.prog.info? 75).map (fun i => (i.zero, i.size, i.bytes)) = some (some (.agg #[.bool false, .int .i64 0, .int .i64 0]), 3, 24) := by kernel_rfl
set_option maxRecDepth 100000 in
set_option maxHeartbeats 4000000 in
theorem dnew_ok (b : Ad) (n : Nat) (hb : AdOk b) (n1 : 1 ≤ n) (n2 : n ≤ 256) (ht : numb b + n ≤ 4294967296) :
    Calls Try.prog 16 #[.agg (adC b), .int .i64 n] w fun e w' => ∃ g r, e = .returned (.tuple #[.pointer (some ⟨g, 0, none⟩), .int .i64 0]) ∧ w.heap.size ≤ g ∧ w.heap.size ≤ r ∧ DPool w' g r b (List.replicate n none) ∧ Fr [] w w' := by
  have hx := num4_bd hb.1 hb.2.1 hb.2.2.1 hb.2.2.2
  have HN := Lib.hid fun W => addrNum_any b.1 b.2.1 b.2.2.1 b.2.2.2 W hb.1 hb.2.1 hb.2.2.1 hb.2.2.2
  have HB := Lib.hid hb
  obtain ⟨i0, hi, hz0, hz1, hz2⟩ := info_parts infoLent
  have hmk : ∀ W : World, (Instr.makeSlice 71 (.int .i64 (n : Int)) (.int .i64 (n : Int))).run Try.prog W = .ok (.slice (some ⟨W.heap.size, 0, none⟩) n n) (W.alloc (.cells (lC (List.replicate n none)) 75)) := fun W => by
    have h := run_make (P := Try.prog) W 71 75 i0 (.agg #[.bool false, .int .i64 0, .int .i64 0]) Try.underlying71 hi hz0 .i64 .i64 (n : Int) (n : Int) (by omega) (by omega) (by rw [hz2]; omega) (by omega)
    rw [show ((n : Nat) : Int).toNat * i0.size = n * 3 by rw [hz1]; rfl, ← lL_rep] at h
    simpa [lC] using h
  obtain ⟨R, hR⟩ : ∃ R, lC (List.replicate n none) = R := ⟨_, rfl⟩
  rw [hR] at hmk
  obtain ⟨b0, b1, b2, b3⟩ := b
  obtain ⟨x, hxe⟩ : ∃ x, num4 b0 b1 b2 b3 = x := ⟨_, rfl⟩
  simp only at HN hx
  rw [hxe] at HN hx
  have ht' : x + n ≤ 4294967296 := by rw [← hxe]; exact ht
  obtain ⟨x0, x1⟩ := hx
  have i1 : ¬ (n : Int) < 1 := by omega
  have i2 : ¬ (256 : Int) < n := by omega
  have i3 : ¬ 4294967296 < x + n := by omega
  have HR := Lib.hid hR
  clear hxe hb ht hR hi hz0 hz1 hz2
  unfold adC
  simp only
  unfold adr at HN ⊢
  go_enter Try.func16, Try.ntmps16
  go_wp2_with fail
  refine (HN.out _).mono ?_
  rintro e w1 ⟨rfl, hF1⟩
  have hF2 := ((Fr.refl [] w).alloc (.cells #[.int .u8 b0, .int .u8 b1, .int .u8 b2, .int .u8 b3] 23 (0, 0))).trans hF1
  have hBx := hF1.blk (Blk.new w #[.int .u8 b0, .int .u8 b1, .int .u8 b2, .int .u8 b3] 23) (by simp)
  have c0 : w1.cell? ⟨w.heap.size, 0, none⟩ = some (.int .u8 b0) := hBx.c 0 _ rfl
  have c1 : w1.cell? ⟨w.heap.size, 1, none⟩ = some (.int .u8 b1) := hBx.c 1 _ rfl
  have c2 : w1.cell? ⟨w.heap.size, 2, none⟩ = some (.int .u8 b2) := hBx.c 2 _ rfl
  have c3 : w1.cell? ⟨w.heap.size, 3, none⟩ = some (.int .u8 b3) := hBx.c 3 _ rfl
  have e0 : (w1.alloc (.cells R 75 (0, 0))).cell? ⟨w.heap.size, 0, none⟩ = some (.int .u8 b0) := (hBx.alloc _).c 0 _ rfl
  have e1 : (w1.alloc (.cells R 75 (0, 0))).cell? ⟨w.heap.size, 1, none⟩ = some (.int .u8 b1) := (hBx.alloc _).c 1 _ rfl
  have e2 : (w1.alloc (.cells R 75 (0, 0))).cell? ⟨w.heap.size, 2, none⟩ = some (.int .u8 b2) := (hBx.alloc _).c 2 _ rfl
  have e3 : (w1.alloc (.cells R 75 (0, 0))).cell? ⟨w.heap.size, 3, none⟩ = some (.int .u8 b3) := (hBx.alloc _).c 3 _ rfl
  have hsz := hF2.size
  clear hF1
  go_wp2_with fail
  go_region
  have hRb := Blk.new w1 R 75
  have hF3 := (hF2.alloc (.cells R 75 (0, 0)))
  go_wp2_with fail
  go_ret2
  refine ⟨w1.heap.size + 1, w1.heap.size, rfl, by omega, hsz, ?_, (hF3.alloc _).drew⟩
  have hst := Blk.new (w1.alloc (.cells R 75 (0, 0))) #[.int .u8 b0, .int .u8 b1, .int .u8 b2, .int .u8 b3, .slice (some ⟨w1.heap.size, 0, none⟩) n n] 73
  rw [show (w1.alloc (.cells R 75 (0, 0))).heap.size = w1.heap.size + 1 by simp] at hst
  refine ⟨?_, ?_, HB.out, by rw [List.length_replicate]; exact n2, by omega⟩
  · rw [List.length_replicate]; exact hst.drew
  · rw [HR.out]; exact (hRb.alloc _).drew
set_option maxRecDepth 100000 in
set_option maxHeartbeats 4000000 in
theorem dnew_bad (b : Ad) (n : Int) (hb : AdOk b) (n0 : -9223372036854775808 ≤ n) (n1 : n ≤ 9223372036854775807) (h : n < 1 ∨ 256 < n ∨ 4294967296 < numb b + n) :
    Calls Try.prog 16 #[.agg (adC b), .int .i64 n] w fun e w' => e = .returned (.tuple #[.pointer none, .int .i64 1]) ∧ Fr [] w w' := by
  have hx := num4_bd hb.1 hb.2.1 hb.2.2.1 hb.2.2.2
  have HN := Lib.hid fun W => addrNum_any b.1 b.2.1 b.2.2.1 b.2.2.2 W hb.1 hb.2.1 hb.2.2.1 hb.2.2.2
  obtain ⟨b0, b1, b2, b3⟩ := b
  obtain ⟨x, hxe⟩ : ∃ x, num4 b0 b1 b2 b3 = x := ⟨_, rfl⟩
  simp only at HN hx
  rw [hxe] at HN hx
  have hX : n < 1 ∨ ¬ n < 1 ∧ 256 < n ∨ ¬ n < 1 ∧ ¬ 256 < n ∧ 4294967296 < x + n := by
    have : numb (b0, b1, b2, b3) = x := hxe
    rw [this] at h
    omega
  obtain ⟨x0, x1⟩ := hx
  clear hxe hb h
  unfold adC
  simp only
  unfold adr at HN ⊢
  rcases hX with hX | ⟨h1, hX⟩ | ⟨h1, h2, hX⟩
  · go_enter Try.func16, Try.ntmps16
    go_wp2_with fail
    go_ret2
    exact ⟨rfl, (Fr.refl _ _).alloc _⟩
  · go_enter Try.func16, Try.ntmps16
    go_wp2_with fail
    go_ret2
    exact ⟨rfl, (Fr.refl _ _).alloc _⟩
  · go_enter Try.func16, Try.ntmps16
    go_wp2_with fail
    refine (HN.out _).mono ?_
    rintro e w1 ⟨rfl, hF1⟩
    have hBx := hF1.blk (Blk.new w #[.int .u8 b0, .int .u8 b1, .int .u8 b2, .int .u8 b3] 23) (by simp)
    have hF2 := ((Fr.refl [] w).alloc (.cells #[.int .u8 b0, .int .u8 b1, .int .u8 b2, .int .u8 b3] 23 (0, 0))).trans hF1
    clear hF1
    go_wp2_with fail
    go_ret2
    exact ⟨rfl, hF2⟩
end
end Go.Proofs.Ytnenmgankgadcaa
