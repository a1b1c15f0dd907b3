/- package pool: Take, Give. -/
import Derived.Test.YtnenmgankgadcaaPool3
namespace Go.Proofs.Ytnenmgankgadcaa
open Go.RowKit Go.Maps
set_option linter.unusedVariables false
set_option maxRecDepth 100000 in
set_option maxHeartbeats 4000000 in
theorem take_new {w : World} {g bh bw : Nat} {b : Ad} {s : List (Option Ky)} {H : List (Ky × Ad)} {M : List (Ad × Ky)} (k : Ky) (i : Nat) (hk : KyOk k) (h : PoolIs w g bh bw b s H M) (hn : ∀ i : Nat, s[i]? ≠ some (some k)) (hfirst : ∀ j, j < i → ∃ k', s[j]? = some (some k')) (hi : s[i]? = some none) :
    Calls Try.prog 14 #[.pointer (some ⟨g, 0, none⟩), .agg (kyC k)] w fun e w' => e = .returned (.tuple #[.agg (adC (adq (numb b + i))), .int .i64 0]) ∧ PoolIs w' g bh bw b (s.set i (some k)) (put H k (adq (numb b + i))) (put M (adq (numb b + i)) k) ∧ Fr [bh, bw] w w' := by
  have n1 := h.n1
  have n2 := h.n2
  have HNn := Lib.hid (fun (W : World) (hW : Fr [] w W) => pnone_any (len_beq h) (h.fr0 hW).st)
  have HH := Lib.hid (fun (W : World) (hW : Fr [] w W) => by have := has_any k hk (h.fr0 hW); rw [h.rel.hasnt hn] at this; exact this)
  have HP := Lib.hid h
  have HN := Lib.hid hn
  have HKO := Lib.hid hk
  have HF := Lib.hid hfirst
  obtain ⟨k1, k2⟩ := k
  obtain ⟨b0, b1, b2, b3⟩ := b
  have HB := Lib.hid h.bok
  unfold kyC at HH ⊢
  unfold adD adC adr at HH
  simp only [Option.getD_none, Option.isSome_none] at HH
  simp only
  clear h hk hn hfirst
  go_enter Try.func14, Try.ntmps14
  go_wp2_with fail
  refine (HH.out _ (((Fr.refl _ _).alloc _).alloc _)).mono ?_
  rintro e w1 ⟨rfl, hF1⟩
  have hFa := (((Fr.refl [] w).alloc (.cells #[.int .i64 k1, .int .i64 k2] 36 (0, 0))).alloc (.cells #[.int .u8 0, .int .u8 0, .int .u8 0, .int .u8 0] 23 (0, 0))).trans hF1
  have hBk : Blk w1 w.heap.size #[.int .i64 k1, .int .i64 k2] 36 := hF1.blk ((Blk.new w _ _).alloc _) (by simp)
  have hBz : Blk w1 (w.heap.size + 1) #[.int .u8 0, .int .u8 0, .int .u8 0, .int .u8 0] 23 := by
    have := Blk.new (w.alloc (.cells #[.int .i64 k1, .int .i64 k2] 36 (0, 0))) #[.int .u8 0, .int .u8 0, .int .u8 0, .int .u8 0] 23
    rw [show (w.alloc (.cells #[.int .i64 k1, .int .i64 k2] 36 (0, 0))).heap.size = w.heap.size + 1 by simp] at this
    exact hF1.blk this (by simp)
  go_wp2_with fail
  refine (HNn.out _ (hFa.alloc _)).mono ?_
  rintro e w2 ⟨rfl, rfl⟩
  obtain ⟨W0, hW0⟩ : ∃ W0, w1.alloc (.cells #[.int .u8 0, .int .u8 0, .int .u8 0, .int .u8 0] 23 (0, 0)) = W0 := ⟨_, rfl⟩
  have hF0 : Fr [] w W0 := by rw [← hW0]; exact hFa.alloc _
  have hK0 : Blk W0 w.heap.size #[.int .i64 k1, .int .i64 k2] 36 := by rw [← hW0]; exact hBk.alloc _
  have hZ0 : Blk W0 (w.heap.size + 1) #[.int .u8 0, .int .u8 0, .int .u8 0, .int .u8 0] 23 := by rw [← hW0]; exact hBz.alloc _
  have HP0 := Lib.hid (HP.out.fr0 hF0)
  obtain ⟨q3, hq3⟩ : ∃ q, w.heap.size = q := ⟨_, rfl⟩
  obtain ⟨t6, ht6⟩ : ∃ q, w1.heap.size = q := ⟨_, rfl⟩
  have hq3w := hq3
  rw [hq3] at hK0 hZ0
  rw [hW0, hq3, ht6]
  have HK0 := Lib.hid hK0
  have HZ0 := Lib.hid hZ0
  have HQ3 := Lib.hid hq3w
  have g4 : W0.cell? ⟨g, 4, none⟩ = some (.int .i64 (s.length : Nat)) := HP0.out.st.c 4 _ rfl
  clear hW0 hBk hBz hFa hF1 HH HNn hK0 hZ0 hq3 hq3w ht6
  go_wp2_with fail
  go_loopw [27] (fun iv wr => ∃ j : Nat, j ≤ i ∧ iv = .int .i64 j ∧ Fr [] W0 wr) (fun iv _ => (i - (intOf iv).toNat))
  case atStart => exact ⟨0, by omega, rfl, Fr.refl _ _⟩
  case round =>
    clear g4
    obtain ⟨j, hj, rfl, hF⟩ := hrel
    by_cases hlt : j < i
    · obtain ⟨⟨v0, v1⟩, hk'⟩ := HF.out j hlt
      have hjs := at_lt hk'
      have hPr := HP0.out.fr0 hF
      have hbr : Blk wr g (plv (b0, b1, b2, b3) s.length bh bw) 61 := hPr.st
      have g0 : wr.cell? ⟨g, 0, none⟩ = some (.int .u8 b0) := hbr.c 0 _ rfl
      have g1 : wr.cell? ⟨g, 1, none⟩ = some (.int .u8 b1) := hbr.c 1 _ rfl
      have g2 : wr.cell? ⟨g, 2, none⟩ = some (.int .u8 b2) := hbr.c 2 _ rfl
      have g3 : wr.cell? ⟨g, 3, none⟩ = some (.int .u8 b3) := hbr.c 3 _ rfl
      obtain ⟨⟨e0, e1, e2, e3⟩, hev⟩ : ∃ a, adq (numb (b0, b1, b2, b3) + j) = a := ⟨_, rfl⟩
      have HE := Lib.hid hev
      have HA := Lib.hid fun W => add_any b0 b1 b2 b3 (j : Int) W HB.out.1 HB.out.2.1 HB.out.2.2.1 HB.out.2.2.2 (by omega) (by omega)
      have e9 : adrN (num4 b0 b1 b2 b3 + (j : Int)) = #[.int .u8 e0, .int .u8 e1, .int .u8 e2, .int .u8 e3] := by
        have : adrN (num4 b0 b1 b2 b3 + (j : Int)) = adC (adq (numb (b0, b1, b2, b3) + j)) := rfl
        rw [this, hev]; rfl
      rw [e9] at HA
      have haok := adq_ok (numb (b0, b1, b2, b3) + j)
      rw [hev] at haok
      unfold adr at HA
      have HO := Lib.hid haok
      have hjn : (j : Int) ≤ 256 := by omega
      clear hev e9 hPr hbr haok
      go_wp2_with fail
      refine (HA.out _).mono ?_
      rintro e w5 ⟨rfl, hF5⟩
      go_wp2_with fail
      obtain ⟨V, hV⟩ : ∃ V, w5.alloc (.cells #[.int .u8 e0, .int .u8 e1, .int .u8 e2, .int .u8 e3] 23 (0, 0)) = V := ⟨_, rfl⟩
      have hFV : Fr [] W0 V := by rw [← hV]; exact (hF.trans hF5).alloc _
      have hB9 : Blk V w5.heap.size #[.int .u8 e0, .int .u8 e1, .int .u8 e2, .int .u8 e3] 23 := by rw [← hV]; exact Blk.new _ _ _
      have hr9 : W0.heap.size ≤ w5.heap.size := (hF.trans hF5).size
      obtain ⟨r9, hr9e⟩ : ∃ r, w5.heap.size = r := ⟨_, rfl⟩
      rw [hr9e] at hB9 hr9
      rw [hV, hr9e]
      clear hV hr9e hF5 HA g0 g1 g2 g3
      have hLk : Hid (∀ w', Fr [] V w' → (Instr.lookup 59 (.map (some bw)) (.agg #[.int .u8 e0, .int .u8 e1, .int .u8 e2, .int .u8 e3]) true).run Try.prog w' = .ok (.tuple #[.agg #[.int .i64 v0, .int .i64 v1], .bool true]) w') := Lib.hid fun w' hw => by
        have := lookM (HP0.out.fr0 (hFV.trans hw)).wM (e0, e1, e2, e3) HO.out
        rw [← HE.out, HP0.out.rel.who hk'] at this
        rw [HE.out] at this
        exact this
      have HS : Hid (∀ w', Fr [] V w' → (w'.cell? ⟨g, 6, none⟩ = some (.map (some bw)) ∧ w'.cell? ⟨r9, 0, none⟩ = some (.int .u8 e0) ∧ w'.cell? ⟨r9, 1, none⟩ = some (.int .u8 e1) ∧ w'.cell? ⟨r9, 2, none⟩ = some (.int .u8 e2) ∧ w'.cell? ⟨r9, 3, none⟩ = some (.int .u8 e3) ∧ (Instr.lookup 59 (.map (some bw)) (.agg #[.int .u8 e0, .int .u8 e1, .int .u8 e2, .int .u8 e3]) true).run Try.prog w' = .ok (.tuple #[.agg #[.int .i64 v0, .int .i64 v1], .bool true]) w') ∧ Fr [] V w') :=
        Lib.hid fun w' hw => ⟨⟨(HP0.out.fr0 (hFV.trans hw)).st.c 6 _ rfl, (hw.blk hB9 (by simp)).c 0 _ rfl, (hw.blk hB9 (by simp)).c 1 _ rfl, (hw.blk hB9 (by simp)).c 2 _ rfl, (hw.blk hB9 (by simp)).c 3 _ rfl, hLk.out _ hw⟩, hw⟩
      go_region_held3 (fun w' => (w'.cell? ⟨g, 6, none⟩ = some (.map (some bw)) ∧ w'.cell? ⟨r9, 0, none⟩ = some (.int .u8 e0) ∧ w'.cell? ⟨r9, 1, none⟩ = some (.int .u8 e1) ∧ w'.cell? ⟨r9, 2, none⟩ = some (.int .u8 e2) ∧ w'.cell? ⟨r9, 3, none⟩ = some (.int .u8 e3) ∧ (Instr.lookup 59 (.map (some bw)) (.agg #[.int .u8 e0, .int .u8 e1, .int .u8 e2, .int .u8 e3]) true).run Try.prog w' = .ok (.tuple #[.agg #[.int .i64 v0, .int .i64 v1], .bool true]) w') ∧ Fr [] V w')
        (first | exact HS.out _ (Fr.refl _ _).drew | exact HS.out _ ((Fr.refl _ _).alloc _).drew | assumption) (fail)
      all_goals
        obtain ⟨V2, hV2⟩ : ∃ V2, (V.alloc (.cells #[.int .i64 v0, .int .i64 v1] 36 (0, 0))).drew = V2 := ⟨_, rfl⟩
        have hF2 : Fr [] W0 V2 := by rw [← hV2]; exact (hFV.alloc _).drew
        rw [hV2]
        clear hV2 HS hLk hB9 hFV hF
        go_wp2_with fail
        go_roundw
        case rel => exact ⟨j + 1, by omega, by go_num, hF2⟩
        case measure => (simp [intOf]) <;> omega
    · obtain rfl : j = i := by omega
      have hjs := at_lt hi
      have HI := Lib.hid hi
      clear hlt hj hi
      have hPr := HP0.out.fr0 hF
      have hbr : Blk wr g (plv (b0, b1, b2, b3) s.length bh bw) 61 := hPr.st
      have g0 : wr.cell? ⟨g, 0, none⟩ = some (.int .u8 b0) := hbr.c 0 _ rfl
      have g1 : wr.cell? ⟨g, 1, none⟩ = some (.int .u8 b1) := hbr.c 1 _ rfl
      have g2 : wr.cell? ⟨g, 2, none⟩ = some (.int .u8 b2) := hbr.c 2 _ rfl
      have g3 : wr.cell? ⟨g, 3, none⟩ = some (.int .u8 b3) := hbr.c 3 _ rfl
      obtain ⟨⟨e0, e1, e2, e3⟩, hev⟩ : ∃ a, adq (numb (b0, b1, b2, b3) + j) = a := ⟨_, rfl⟩
      have HE := Lib.hid hev
      have HA := Lib.hid fun W => add_any b0 b1 b2 b3 (j : Int) W HB.out.1 HB.out.2.1 HB.out.2.2.1 HB.out.2.2.2 (by omega) (by omega)
      have e9 : adrN (num4 b0 b1 b2 b3 + (j : Int)) = #[.int .u8 e0, .int .u8 e1, .int .u8 e2, .int .u8 e3] := by
        have : adrN (num4 b0 b1 b2 b3 + (j : Int)) = adC (adq (numb (b0, b1, b2, b3) + j)) := rfl
        rw [this, hev]; rfl
      rw [e9] at HA
      have haok := adq_ok (numb (b0, b1, b2, b3) + j)
      rw [hev] at haok
      unfold adr at HA
      have HO := Lib.hid haok
      have hjn : (j : Int) ≤ 256 := by omega
      clear hev e9 hPr hbr haok
      go_wp2_with fail
      refine (HA.out _).mono ?_
      rintro e w5 ⟨rfl, hF5⟩
      go_wp2_with fail
      obtain ⟨V, hV⟩ : ∃ V, w5.alloc (.cells #[.int .u8 e0, .int .u8 e1, .int .u8 e2, .int .u8 e3] 23 (0, 0)) = V := ⟨_, rfl⟩
      have hFV : Fr [] W0 V := by rw [← hV]; exact (hF.trans hF5).alloc _
      have hB9 : Blk V w5.heap.size #[.int .u8 e0, .int .u8 e1, .int .u8 e2, .int .u8 e3] 23 := by rw [← hV]; exact Blk.new _ _ _
      have hr9 : W0.heap.size ≤ w5.heap.size := (hF.trans hF5).size
      obtain ⟨r9, hr9e⟩ : ∃ r, w5.heap.size = r := ⟨_, rfl⟩
      rw [hr9e] at hB9 hr9
      rw [hV, hr9e]
      clear hV hr9e hF5 HA g0 g1 g2 g3
      have hLk : Hid (∀ w', Fr [] V w' → (Instr.lookup 59 (.map (some bw)) (.agg #[.int .u8 e0, .int .u8 e1, .int .u8 e2, .int .u8 e3]) true).run Try.prog w' = .ok (.tuple #[.agg #[.int .i64 0, .int .i64 0], .bool false]) w') := Lib.hid fun w' hw => by
        have := lookM (HP0.out.fr0 (hFV.trans hw)).wM (e0, e1, e2, e3) HO.out
        rw [← HE.out, HP0.out.rel.whont HI.out] at this
        rw [HE.out] at this
        exact this
      have HS : Hid (∀ w', Fr [] V w' → (w'.cell? ⟨g, 6, none⟩ = some (.map (some bw)) ∧ w'.cell? ⟨r9, 0, none⟩ = some (.int .u8 e0) ∧ w'.cell? ⟨r9, 1, none⟩ = some (.int .u8 e1) ∧ w'.cell? ⟨r9, 2, none⟩ = some (.int .u8 e2) ∧ w'.cell? ⟨r9, 3, none⟩ = some (.int .u8 e3) ∧ (Instr.lookup 59 (.map (some bw)) (.agg #[.int .u8 e0, .int .u8 e1, .int .u8 e2, .int .u8 e3]) true).run Try.prog w' = .ok (.tuple #[.agg #[.int .i64 0, .int .i64 0], .bool false]) w') ∧ Fr [] V w') :=
        Lib.hid fun w' hw => ⟨⟨(HP0.out.fr0 (hFV.trans hw)).st.c 6 _ rfl, (hw.blk hB9 (by simp)).c 0 _ rfl, (hw.blk hB9 (by simp)).c 1 _ rfl, (hw.blk hB9 (by simp)).c 2 _ rfl, (hw.blk hB9 (by simp)).c 3 _ rfl, hLk.out _ hw⟩, hw⟩
      go_region_held3 (fun w' => (w'.cell? ⟨g, 6, none⟩ = some (.map (some bw)) ∧ w'.cell? ⟨r9, 0, none⟩ = some (.int .u8 e0) ∧ w'.cell? ⟨r9, 1, none⟩ = some (.int .u8 e1) ∧ w'.cell? ⟨r9, 2, none⟩ = some (.int .u8 e2) ∧ w'.cell? ⟨r9, 3, none⟩ = some (.int .u8 e3) ∧ (Instr.lookup 59 (.map (some bw)) (.agg #[.int .u8 e0, .int .u8 e1, .int .u8 e2, .int .u8 e3]) true).run Try.prog w' = .ok (.tuple #[.agg #[.int .i64 0, .int .i64 0], .bool false]) w') ∧ Fr [] V w')
        (first | exact HS.out _ (Fr.refl _ _).drew | exact HS.out _ ((Fr.refl _ _).alloc _).drew | assumption) (fail)
      all_goals
        obtain ⟨V2, hV2⟩ : ∃ V2, (V.alloc (.cells #[.int .i64 0, .int .i64 0] 36 (0, 0))).drew = V2 := ⟨_, rfl⟩
        have hF2 : Fr [] V V2 := by rw [← hV2]; exact ((Fr.refl _ _).alloc _).drew
        have hF02 : Fr [] W0 V2 := hFV.trans hF2
        rw [hV2]
        have h9 := hF2.blk hB9 (by simp)
        have hP2 := HP0.out.fr0 hF02
        have hK2 := hF02.blk HK0.out (by simp)
        have hZ2 := hF02.blk HZ0.out (by simp)
        clear hV2 HS hLk hB9 hFV hF hF2
        have hne := hP2.ne
        have n9h := hP2.hM.not_row h9
        have n9w := hP2.wM.not_row h9
        have n3h := hP2.hM.not_row hK2
        have n3w := hP2.wM.not_row hK2
        have n4h := hP2.hM.not_row hZ2
        have n4w := hP2.wM.not_row hZ2
        have ngh := hP2.hM.not_row hP2.st
        have ngw := hP2.wM.not_row hP2.st
        have hlen := hP2.rel.len
        have hmlen := hP2.rel.mlen
        have hcl := cnt_le s
        obtain ⟨V3, c1, x1, hM1, hG1⟩ := (hP2.hM.fr (Fr.refl [] V2).drew (by simp)).entryNew Try.underlying58 (v0 := (0, 0, 0, 0)) (zero_ad _) (by unfold maxLen; omega) (k1, k2) HKO.out (hP2.rel.hasnt HN.out)
        obtain ⟨V4, x2, hM2, hG2⟩ := hM1.store (t := 58) (hP2.rel.hasnt HN.out) (e0, e1, e2, e3)
        have hG12 : Fr [bh, bw] V2 V4 := (((Fr.refl _ _).drew).trans (hG1.mono (by simp))).trans (hG2.mono (by simp))
        have hW1 := (hP2.wM.fr (((Fr.refl [bh] V2).drew.trans hG1).trans hG2) (by simpa using hne.symm))
        obtain ⟨V5, c2, x3, hM3, hG3⟩ := hW1.entryNew Try.underlying59 (v0 := (0, 0)) (zero_ky _) (by unfold maxLen; omega) (e0, e1, e2, e3) HO.out (by rw [← HE.out]; exact hP2.rel.whont HI.out)
        obtain ⟨V6, x4, hM4, hG4⟩ := hM3.store (t := 59) (by rw [← HE.out]; exact hP2.rel.whont HI.out) (k1, k2)
        have hH4 := (hM2.fr (hG3.trans hG4) (by simpa using hne))
        have hG13 : Fr [bh, bw] V2 V3 := ((Fr.refl _ _).drew).trans (hG1.mono (by simp))
        have hG15 : Fr [bh, bw] V2 V5 := hG12.trans (hG3.mono (by simp))
        have hG16 : Fr [bh, bw] V2 V6 := hG15.trans (hG4.mono (by simp))
        have hrel := hP2.rel.take HN.out HI.out
        rw [HE.out] at hrel
        have hP6 : PoolIs V6 g bh bw (b0, b1, b2, b3) (s.set j (some (k1, k2))) (put H (k1, k2) (e0, e1, e2, e3)) (put M (e0, e1, e2, e3) (k1, k2)) :=
          ⟨by rw [List.length_set]; exact hG16.blk hP2.st (by simp; exact ⟨ngh, ngw⟩), hH4, hM4, hne, hrel, hP2.bok, by rw [List.length_set]; exact hP2.n1, by rw [List.length_set]; exact hP2.n2⟩
        have HP6 := Lib.hid hP6
        have HS : Hid (∀ w', Fr [bh, bw] V2 w' → w'.cell? ⟨g, 5, none⟩ = some (.map (some bh)) ∧ w'.cell? ⟨g, 6, none⟩ = some (.map (some bw)) ∧ w'.cell? ⟨r9, 0, none⟩ = some (.int .u8 e0) ∧ w'.cell? ⟨r9, 1, none⟩ = some (.int .u8 e1) ∧ w'.cell? ⟨r9, 2, none⟩ = some (.int .u8 e2) ∧ w'.cell? ⟨r9, 3, none⟩ = some (.int .u8 e3) ∧ w'.cell? ⟨q3, 0, none⟩ = some (.int .i64 k1) ∧ w'.cell? ⟨q3, 1, none⟩ = some (.int .i64 k2)) :=
          Lib.hid fun w' hw => ⟨(hw.blk hP2.st (by simp; exact ⟨ngh, ngw⟩)).c 5 _ rfl, (hw.blk hP2.st (by simp; exact ⟨ngh, ngw⟩)).c 6 _ rfl, (hw.blk h9 (by simp; exact ⟨n9h, n9w⟩)).c 0 _ rfl, (hw.blk h9 (by simp; exact ⟨n9h, n9w⟩)).c 1 _ rfl, (hw.blk h9 (by simp; exact ⟨n9h, n9w⟩)).c 2 _ rfl, (hw.blk h9 (by simp; exact ⟨n9h, n9w⟩)).c 3 _ rfl, (hw.blk hK2 (by simp; exact ⟨n3h, n3w⟩)).c 0 _ rfl, (hw.blk hK2 (by simp; exact ⟨n3h, n3w⟩)).c 1 _ rfl⟩
        have h96 := hG16.blk h9 (by simp; exact ⟨n9h, n9w⟩)
        have hZ6 := hG16.blk hZ2 (by simp; exact ⟨n4h, n4w⟩)
        have hF6 : Fr [bh, bw] W0 V6 := (hF02.mono (by simp)).trans hG16
        have y1 : (Instr.mapEntry 58 (.map (some bh)) (.agg #[.int .i64 k1, .int .i64 k2])).run Try.prog V2.drew = .ok (.tuple #[.agg #[.int .u8 0, .int .u8 0, .int .u8 0, .int .u8 0], .int .i64 (c1 : Nat)]) V3 := x1
        have y2 : (Instr.entryStore 58 (.map (some bh)) (.int .i64 (c1 : Nat)) (.agg #[.int .u8 e0, .int .u8 e1, .int .u8 e2, .int .u8 e3])).run Try.prog V3 = .ok () V4 := x2
        have y3 : (Instr.mapEntry 59 (.map (some bw)) (.agg #[.int .u8 e0, .int .u8 e1, .int .u8 e2, .int .u8 e3])).run Try.prog V4 = .ok (.tuple #[.agg #[.int .i64 0, .int .i64 0], .int .i64 (c2 : Nat)]) V5 := x3
        have y4 : (Instr.entryStore 59 (.map (some bw)) (.int .i64 (c2 : Nat)) (.agg #[.int .i64 k1, .int .i64 k2])).run Try.prog V5 = .ok () V6 := x4
        clear x1 x2 x3 x4 hM1 hM2 hM3 hM4 hW1 hH4 hrel hP6 hP2 h9 hK2 hZ2 hG1 hG2 hG3 hG4 hlen hmlen hcl hne
        go_wp2_with fail
        go_region_held3 (fun w' => w'.cell? ⟨g, 5, none⟩ = some (.map (some bh)) ∧ w'.cell? ⟨g, 6, none⟩ = some (.map (some bw)) ∧ w'.cell? ⟨r9, 0, none⟩ = some (.int .u8 e0) ∧ w'.cell? ⟨r9, 1, none⟩ = some (.int .u8 e1) ∧ w'.cell? ⟨r9, 2, none⟩ = some (.int .u8 e2) ∧ w'.cell? ⟨r9, 3, none⟩ = some (.int .u8 e3) ∧ w'.cell? ⟨q3, 0, none⟩ = some (.int .i64 k1) ∧ w'.cell? ⟨q3, 1, none⟩ = some (.int .i64 k2))
          (first | exact HS.out _ (Fr.refl _ _).drew | exact HS.out _ hG13 | exact HS.out _ hG12 | exact HS.out _ hG15 | exact HS.out _ hG16) (fail)
        all_goals
          have z0 : V6.cell? ⟨q3 + 1, 0, none⟩ = some (.int .u8 0) := hZ6.c 0 _ rfl
          have z1 : V6.cell? ⟨q3 + 1, 1, none⟩ = some (.int .u8 0) := hZ6.c 1 _ rfl
          have z2 : V6.cell? ⟨q3 + 1, 2, none⟩ = some (.int .u8 0) := hZ6.c 2 _ rfl
          have z3 : V6.cell? ⟨q3 + 1, 3, none⟩ = some (.int .u8 0) := hZ6.c 3 _ rfl
          have f0 := hZ6.fz 0
          have f1 := hZ6.fz 1
          have f2 := hZ6.fz 2
          have f3 := hZ6.fz 3
          have d0 : V6.cell? ⟨r9, 0, none⟩ = some (.int .u8 e0) := h96.c 0 _ rfl
          have d1 : V6.cell? ⟨r9, 1, none⟩ = some (.int .u8 e1) := h96.c 1 _ rfl
          have d2 : V6.cell? ⟨r9, 2, none⟩ = some (.int .u8 e2) := h96.c 2 _ rfl
          have d3 : V6.cell? ⟨r9, 3, none⟩ = some (.int .u8 e3) := h96.c 3 _ rfl
          have hB4 := (((hZ6.set 0 (.int .u8 e0)).set 1 (.int .u8 e1)).set 2 (.int .u8 e2)).set 3 (.int .u8 e3)
          have hgl := HP.out.st.lt
          have hq := HQ3.out
          have hg3 : g ≠ q3 + 1 := by omega
          have hF7 : Fr [q3 + 1] V6 ((((V6.setCell ⟨q3 + 1, 0, none⟩ (.int .u8 e0)).setCell ⟨q3 + 1, 1, none⟩ (.int .u8 e1)).setCell ⟨q3 + 1, 2, none⟩ (.int .u8 e2)).setCell ⟨q3 + 1, 3, none⟩ (.int .u8 e3)) := ((((Fr.refl _ _).setCell (by simp) _).setCell (by simp) _).setCell (by simp) _).setCell (by simp) _
          have hP7 := HP6.out.fr hF7 (by simpa using hg3) (by simpa using n4h.symm) (by simpa using n4w.symm)
          have hF8 := ((hF0.mono (by simp)).trans hF6).sub hF7 (fun y hy => by simp only [List.mem_singleton] at hy; subst hy; right; omega)
          have HP7 := Lib.hid hP7
          clear hP7 hgl hq hF6 hF7 h96 hZ6 y1 y2 y3 y4 HS HP6
          go_wp2_with fail
          refine ret_cell2 4 5 23 rfl (q3 + 1) 23 #[.int .u8 e0, .int .u8 e1, .int .u8 e2, .int .u8 e3] _ hB4 rfl Try.underlying23 rfl (by kernel_rfl) rfl ⟨?_, ?_, hF8⟩
          · rw [HE.out]; rfl
          · rw [HE.out]; exact HP7.out
set_option maxRecDepth 100000 in
set_option maxHeartbeats 4000000 in
theorem take_full {w : World} {g bh bw : Nat} {b : Ad} {s : List (Option Ky)} {H : List (Ky × Ad)} {M : List (Ad × Ky)} (k : Ky) (i : Nat) (hk : KyOk k) (h : PoolIs w g bh bw b s H M) (hn : ∀ i : Nat, s[i]? ≠ some (some k)) (hfirst : ∀ j, j < i → ∃ k', s[j]? = some (some k')) (hi : i = s.length) :
    Calls Try.prog 14 #[.pointer (some ⟨g, 0, none⟩), .agg (kyC k)] w fun e w' => e = .returned (.tuple #[.agg (adC (0, 0, 0, 0)), .int .i64 10]) ∧ Fr [] w w' := by
  have n1 := h.n1
  have n2 := h.n2
  have HNn := Lib.hid (fun (W : World) (hW : Fr [] w W) => pnone_any (len_beq h) (h.fr0 hW).st)
  have HH := Lib.hid (fun (W : World) (hW : Fr [] w W) => by have := has_any k hk (h.fr0 hW); rw [h.rel.hasnt hn] at this; exact this)
  have HP := Lib.hid h
  have HN := Lib.hid hn
  have HKO := Lib.hid hk
  have HF := Lib.hid hfirst
  obtain ⟨k1, k2⟩ := k
  obtain ⟨b0, b1, b2, b3⟩ := b
  have HB := Lib.hid h.bok
  unfold kyC at HH ⊢
  unfold adD adC adr at HH
  simp only [Option.getD_none, Option.isSome_none] at HH
  simp only
  clear h hk hn hfirst
  go_enter Try.func14, Try.ntmps14
  go_wp2_with fail
  refine (HH.out _ (((Fr.refl _ _).alloc _).alloc _)).mono ?_
  rintro e w1 ⟨rfl, hF1⟩
  have hFa := (((Fr.refl [] w).alloc (.cells #[.int .i64 k1, .int .i64 k2] 36 (0, 0))).alloc (.cells #[.int .u8 0, .int .u8 0, .int .u8 0, .int .u8 0] 23 (0, 0))).trans hF1
  have hBk : Blk w1 w.heap.size #[.int .i64 k1, .int .i64 k2] 36 := hF1.blk ((Blk.new w _ _).alloc _) (by simp)
  have hBz : Blk w1 (w.heap.size + 1) #[.int .u8 0, .int .u8 0, .int .u8 0, .int .u8 0] 23 := by
    have := Blk.new (w.alloc (.cells #[.int .i64 k1, .int .i64 k2] 36 (0, 0))) #[.int .u8 0, .int .u8 0, .int .u8 0, .int .u8 0] 23
    rw [show (w.alloc (.cells #[.int .i64 k1, .int .i64 k2] 36 (0, 0))).heap.size = w.heap.size + 1 by simp] at this
    exact hF1.blk this (by simp)
  go_wp2_with fail
  refine (HNn.out _ (hFa.alloc _)).mono ?_
  rintro e w2 ⟨rfl, rfl⟩
  obtain ⟨W0, hW0⟩ : ∃ W0, w1.alloc (.cells #[.int .u8 0, .int .u8 0, .int .u8 0, .int .u8 0] 23 (0, 0)) = W0 := ⟨_, rfl⟩
  have hF0 : Fr [] w W0 := by rw [← hW0]; exact hFa.alloc _
  have hK0 : Blk W0 w.heap.size #[.int .i64 k1, .int .i64 k2] 36 := by rw [← hW0]; exact hBk.alloc _
  have hZ0 : Blk W0 (w.heap.size + 1) #[.int .u8 0, .int .u8 0, .int .u8 0, .int .u8 0] 23 := by rw [← hW0]; exact hBz.alloc _
  have HP0 := Lib.hid (HP.out.fr0 hF0)
  obtain ⟨q3, hq3⟩ : ∃ q, w.heap.size = q := ⟨_, rfl⟩
  obtain ⟨t6, ht6⟩ : ∃ q, w1.heap.size = q := ⟨_, rfl⟩
  have hq3w := hq3
  rw [hq3] at hK0 hZ0
  rw [hW0, hq3, ht6]
  have HK0 := Lib.hid hK0
  have HZ0 := Lib.hid hZ0
  have HQ3 := Lib.hid hq3w
  have g4 : W0.cell? ⟨g, 4, none⟩ = some (.int .i64 (s.length : Nat)) := HP0.out.st.c 4 _ rfl
  clear hW0 hBk hBz hFa hF1 HH HNn hK0 hZ0 hq3 hq3w ht6
  go_wp2_with fail
  go_loopw [27] (fun iv wr => ∃ j : Nat, j ≤ i ∧ iv = .int .i64 j ∧ Fr [] W0 wr) (fun iv _ => (i - (intOf iv).toNat))
  case atStart => exact ⟨0, by omega, rfl, Fr.refl _ _⟩
  case round =>
    clear g4
    obtain ⟨j, hj, rfl, hF⟩ := hrel
    by_cases hlt : j < i
    · obtain ⟨⟨v0, v1⟩, hk'⟩ := HF.out j hlt
      have hjs := at_lt hk'
      have hPr := HP0.out.fr0 hF
      have hbr : Blk wr g (plv (b0, b1, b2, b3) s.length bh bw) 61 := hPr.st
      have g0 : wr.cell? ⟨g, 0, none⟩ = some (.int .u8 b0) := hbr.c 0 _ rfl
      have g1 : wr.cell? ⟨g, 1, none⟩ = some (.int .u8 b1) := hbr.c 1 _ rfl
      have g2 : wr.cell? ⟨g, 2, none⟩ = some (.int .u8 b2) := hbr.c 2 _ rfl
      have g3 : wr.cell? ⟨g, 3, none⟩ = some (.int .u8 b3) := hbr.c 3 _ rfl
      obtain ⟨⟨e0, e1, e2, e3⟩, hev⟩ : ∃ a, adq (numb (b0, b1, b2, b3) + j) = a := ⟨_, rfl⟩
      have HE := Lib.hid hev
      have HA := Lib.hid fun W => add_any b0 b1 b2 b3 (j : Int) W HB.out.1 HB.out.2.1 HB.out.2.2.1 HB.out.2.2.2 (by omega) (by omega)
      have e9 : adrN (num4 b0 b1 b2 b3 + (j : Int)) = #[.int .u8 e0, .int .u8 e1, .int .u8 e2, .int .u8 e3] := by
        have : adrN (num4 b0 b1 b2 b3 + (j : Int)) = adC (adq (numb (b0, b1, b2, b3) + j)) := rfl
        rw [this, hev]; rfl
      rw [e9] at HA
      have haok := adq_ok (numb (b0, b1, b2, b3) + j)
      rw [hev] at haok
      unfold adr at HA
      have HO := Lib.hid haok
      have hjn : (j : Int) ≤ 256 := by omega
      clear hev e9 hPr hbr haok
      go_wp2_with fail
      refine (HA.out _).mono ?_
      rintro e w5 ⟨rfl, hF5⟩
      go_wp2_with fail
      obtain ⟨V, hV⟩ : ∃ V, w5.alloc (.cells #[.int .u8 e0, .int .u8 e1, .int .u8 e2, .int .u8 e3] 23 (0, 0)) = V := ⟨_, rfl⟩
      have hFV : Fr [] W0 V := by rw [← hV]; exact (hF.trans hF5).alloc _
      have hB9 : Blk V w5.heap.size #[.int .u8 e0, .int .u8 e1, .int .u8 e2, .int .u8 e3] 23 := by rw [← hV]; exact Blk.new _ _ _
      have hr9 : W0.heap.size ≤ w5.heap.size := (hF.trans hF5).size
      obtain ⟨r9, hr9e⟩ : ∃ r, w5.heap.size = r := ⟨_, rfl⟩
      rw [hr9e] at hB9 hr9
      rw [hV, hr9e]
      clear hV hr9e hF5 HA g0 g1 g2 g3
      have hLk : Hid (∀ w', Fr [] V w' → (Instr.lookup 59 (.map (some bw)) (.agg #[.int .u8 e0, .int .u8 e1, .int .u8 e2, .int .u8 e3]) true).run Try.prog w' = .ok (.tuple #[.agg #[.int .i64 v0, .int .i64 v1], .bool true]) w') := Lib.hid fun w' hw => by
        have := lookM (HP0.out.fr0 (hFV.trans hw)).wM (e0, e1, e2, e3) HO.out
        rw [← HE.out, HP0.out.rel.who hk'] at this
        rw [HE.out] at this
        exact this
      have HS : Hid (∀ w', Fr [] V w' → (w'.cell? ⟨g, 6, none⟩ = some (.map (some bw)) ∧ w'.cell? ⟨r9, 0, none⟩ = some (.int .u8 e0) ∧ w'.cell? ⟨r9, 1, none⟩ = some (.int .u8 e1) ∧ w'.cell? ⟨r9, 2, none⟩ = some (.int .u8 e2) ∧ w'.cell? ⟨r9, 3, none⟩ = some (.int .u8 e3) ∧ (Instr.lookup 59 (.map (some bw)) (.agg #[.int .u8 e0, .int .u8 e1, .int .u8 e2, .int .u8 e3]) true).run Try.prog w' = .ok (.tuple #[.agg #[.int .i64 v0, .int .i64 v1], .bool true]) w') ∧ Fr [] V w') :=
        Lib.hid fun w' hw => ⟨⟨(HP0.out.fr0 (hFV.trans hw)).st.c 6 _ rfl, (hw.blk hB9 (by simp)).c 0 _ rfl, (hw.blk hB9 (by simp)).c 1 _ rfl, (hw.blk hB9 (by simp)).c 2 _ rfl, (hw.blk hB9 (by simp)).c 3 _ rfl, hLk.out _ hw⟩, hw⟩
      go_region_held3 (fun w' => (w'.cell? ⟨g, 6, none⟩ = some (.map (some bw)) ∧ w'.cell? ⟨r9, 0, none⟩ = some (.int .u8 e0) ∧ w'.cell? ⟨r9, 1, none⟩ = some (.int .u8 e1) ∧ w'.cell? ⟨r9, 2, none⟩ = some (.int .u8 e2) ∧ w'.cell? ⟨r9, 3, none⟩ = some (.int .u8 e3) ∧ (Instr.lookup 59 (.map (some bw)) (.agg #[.int .u8 e0, .int .u8 e1, .int .u8 e2, .int .u8 e3]) true).run Try.prog w' = .ok (.tuple #[.agg #[.int .i64 v0, .int .i64 v1], .bool true]) w') ∧ Fr [] V w')
        (first | exact HS.out _ (Fr.refl _ _).drew | exact HS.out _ ((Fr.refl _ _).alloc _).drew | assumption) (fail)
      all_goals
        obtain ⟨V2, hV2⟩ : ∃ V2, (V.alloc (.cells #[.int .i64 v0, .int .i64 v1] 36 (0, 0))).drew = V2 := ⟨_, rfl⟩
        have hF2 : Fr [] W0 V2 := by rw [← hV2]; exact (hFV.alloc _).drew
        rw [hV2]
        clear hV2 HS hLk hB9 hFV hF
        go_wp2_with fail
        go_roundw
        case rel => exact ⟨j + 1, by omega, by go_num, hF2⟩
        case measure => (simp [intOf]) <;> omega
    · have hji : j = i := by omega
      have hge : ¬ (j : Int) < (s.length : Nat) := by omega
      have g4 : wr.cell? ⟨g, 4, none⟩ = some (.int .i64 (s.length : Nat)) := (HP0.out.fr0 hF).st.c 4 _ rfl
      have hZ6 := hF.blk HZ0.out (by simp)
      have z0 : wr.cell? ⟨q3 + 1, 0, none⟩ = some (.int .u8 0) := hZ6.c 0 _ rfl
      have z1 : wr.cell? ⟨q3 + 1, 1, none⟩ = some (.int .u8 0) := hZ6.c 1 _ rfl
      have z2 : wr.cell? ⟨q3 + 1, 2, none⟩ = some (.int .u8 0) := hZ6.c 2 _ rfl
      have z3 : wr.cell? ⟨q3 + 1, 3, none⟩ = some (.int .u8 0) := hZ6.c 3 _ rfl
      have f0 := hZ6.fz 0
      have f1 := hZ6.fz 1
      have f2 := hZ6.fz 2
      have f3 := hZ6.fz 3
      have hB4 := (((hZ6.set 0 (.int .u8 0)).set 1 (.int .u8 0)).set 2 (.int .u8 0)).set 3 (.int .u8 0)
      have hq := HQ3.out
      have hF7 : Fr [q3 + 1] wr ((((wr.setCell ⟨q3 + 1, 0, none⟩ (.int .u8 0)).setCell ⟨q3 + 1, 1, none⟩ (.int .u8 0)).setCell ⟨q3 + 1, 2, none⟩ (.int .u8 0)).setCell ⟨q3 + 1, 3, none⟩ (.int .u8 0)) := ((((Fr.refl _ _).setCell (by simp) _).setCell (by simp) _).setCell (by simp) _).setCell (by simp) _
      have hF8 := (hF0.trans hF).sub hF7 (fun y hy => by simp only [List.mem_singleton] at hy; subst hy; right; omega)
      clear hji hlt hq hF7 hZ6 hF hj
      go_wp2_with fail
      exact ret_cell2 4 5 23 rfl (q3 + 1) 23 #[.int .u8 0, .int .u8 0, .int .u8 0, .int .u8 0] _ hB4 rfl Try.underlying23 rfl (by kernel_rfl) rfl ⟨rfl, hF8⟩
set_option maxRecDepth 100000 in
set_option maxHeartbeats 4000000 in
theorem take_had {w : World} {g bh bw : Nat} {b : Ad} {s : List (Option Ky)} {H : List (Ky × Ad)} {M : List (Ad × Ky)} (k : Ky) (i : Nat) (hk : KyOk k) (h : PoolIs w g bh bw b s H M) (hi : s[i]? = some (some k)) :
    Calls Try.prog 14 #[.pointer (some ⟨g, 0, none⟩), .agg (kyC k)] w fun e w' => e = .returned (.tuple #[.agg (adC (adq (numb b + i))), .int .i64 0]) ∧ Fr [] w w' := by
  have HH := Lib.hid (fun (W : World) (hW : Fr [] w W) => by have := has_any k hk (h.fr0 hW); rw [h.rel.has hi] at this; exact this)
  obtain ⟨k1, k2⟩ := k
  obtain ⟨⟨e0, e1, e2, e3⟩, hev⟩ : ∃ a, adq (numb b + i) = a := ⟨_, rfl⟩
  rw [hev] at HH ⊢
  unfold kyC at HH ⊢
  unfold adD at HH
  unfold adC adr at HH ⊢
  simp only [Option.getD_some, Option.isSome_some] at HH ⊢
  clear h hk hi hev
  go_enter Try.func14, Try.ntmps14
  go_wp2_with fail
  refine (HH.out _ (((Fr.refl _ _).alloc _).alloc _)).mono ?_
  rintro e w1 ⟨rfl, hF1⟩
  have hFa := (((Fr.refl [] w).alloc (.cells #[.int .i64 k1, .int .i64 k2] 36 (0, 0))).alloc (.cells #[.int .u8 0, .int .u8 0, .int .u8 0, .int .u8 0] 23 (0, 0))).trans hF1
  have hBz : Blk w1 (w.heap.size + 1) #[.int .u8 0, .int .u8 0, .int .u8 0, .int .u8 0] 23 := by
    have := Blk.new (w.alloc (.cells #[.int .i64 k1, .int .i64 k2] 36 (0, 0))) #[.int .u8 0, .int .u8 0, .int .u8 0, .int .u8 0] 23
    rw [show (w.alloc (.cells #[.int .i64 k1, .int .i64 k2] 36 (0, 0))).heap.size = w.heap.size + 1 by simp] at this
    exact hF1.blk this (by simp)
  have z0 : w1.cell? ⟨w.heap.size + 1, 0, none⟩ = some (.int .u8 0) := hBz.c 0 _ rfl
  have z1 : w1.cell? ⟨w.heap.size + 1, 1, none⟩ = some (.int .u8 0) := hBz.c 1 _ rfl
  have z2 : w1.cell? ⟨w.heap.size + 1, 2, none⟩ = some (.int .u8 0) := hBz.c 2 _ rfl
  have z3 : w1.cell? ⟨w.heap.size + 1, 3, none⟩ = some (.int .u8 0) := hBz.c 3 _ rfl
  have f0 := hBz.fz 0
  have f1 := hBz.fz 1
  have f2 := hBz.fz 2
  have f3 := hBz.fz 3
  have hlt := hBz.lt
  have hB4 := ((((hBz.set 0 (.int .u8 e0)).set 1 (.int .u8 e1)).set 2 (.int .u8 e2)).set 3 (.int .u8 e3)).alloc (.cells #[.int .u8 e0, .int .u8 e1, .int .u8 e2, .int .u8 e3] 23 (0, 0))
  have hF8 := ((((hFa.setNew (p := ⟨w.heap.size + 1, 0, none⟩) (by simp) (.int .u8 e0)).setNew (p := ⟨w.heap.size + 1, 1, none⟩) (by simp) (.int .u8 e1)).setNew (p := ⟨w.heap.size + 1, 2, none⟩) (by simp) (.int .u8 e2)).setNew (p := ⟨w.heap.size + 1, 3, none⟩) (by simp) (.int .u8 e3)).alloc (.cells #[.int .u8 e0, .int .u8 e1, .int .u8 e2, .int .u8 e3] 23 (0, 0))
  clear hBz HH hFa hF1
  go_wp2_with fail
  exact ret_cell2 4 5 23 rfl (w.heap.size + 1) 23 #[.int .u8 e0, .int .u8 e1, .int .u8 e2, .int .u8 e3] _ hB4 rfl Try.underlying23 rfl (by kernel_rfl) rfl ⟨rfl, hF8⟩
set_option maxRecDepth 100000 in
set_option maxHeartbeats 4000000 in
theorem give_no {w : World} {g bh bw : Nat} {b : Ad} {s : List (Option Ky)} {H : List (Ky × Ad)} {M : List (Ad × Ky)} (k : Ky) (hk : KyOk k) (h : PoolIs w g bh bw b s H M) (hn : ∀ i : Nat, s[i]? ≠ some (some k)) :
    Calls Try.prog 15 #[.pointer (some ⟨g, 0, none⟩), .agg (kyC k)] w fun e w' => e = .returned (.int .i64 3) ∧ Fr [] w w' := by
  have HH := Lib.hid (fun (W : World) (hW : Fr [] w W) => by have := has_any k hk (h.fr0 hW); rw [h.rel.hasnt hn] at this; exact this)
  obtain ⟨k1, k2⟩ := k
  unfold kyC at HH ⊢
  unfold adD adC adr at HH
  simp only [Option.getD_none, Option.isSome_none] at HH ⊢
  clear h hk hn
  go_enter Try.func15, Try.ntmps15
  go_wp2_with fail
  refine (HH.out _ ((Fr.refl _ _).alloc _)).mono ?_
  rintro e w1 ⟨rfl, hF1⟩
  go_wp2_with fail
  go_ret
  exact ⟨rfl, (((Fr.refl _ _).alloc _).trans hF1).alloc _⟩
set_option maxRecDepth 100000 in
set_option maxHeartbeats 4000000 in
theorem give_yes {w : World} {g bh bw : Nat} {b : Ad} {s : List (Option Ky)} {H : List (Ky × Ad)} {M : List (Ad × Ky)} (k : Ky) (i : Nat) (hk : KyOk k) (h : PoolIs w g bh bw b s H M) (hi : s[i]? = some (some k)) :
    Calls Try.prog 15 #[.pointer (some ⟨g, 0, none⟩), .agg (kyC k)] w fun e w' => e = .returned (.int .i64 0) ∧ PoolIs w' g bh bw b (s.set i none) (del H k) (del M (adq (numb b + i))) ∧ Fr [bh, bw] w w' := by
  have HH := Lib.hid (fun (W : World) (hW : Fr [] w W) => by have := has_any k hk (h.fr0 hW); rw [h.rel.has hi] at this; exact this)
  have HP := Lib.hid h
  have HI := Lib.hid hi
  have HKO := Lib.hid hk
  obtain ⟨k1, k2⟩ := k
  have haok := adq_ok (numb b + i)
  obtain ⟨⟨e0, e1, e2, e3⟩, hev⟩ : ∃ a, adq (numb b + i) = a := ⟨_, rfl⟩
  rw [hev] at HH haok
  have HE := Lib.hid hev
  have HO := Lib.hid haok
  unfold kyC at HH ⊢
  unfold adD adC adr at HH
  simp only [Option.getD_some, Option.isSome_some] at HH ⊢
  clear h hk hi hev haok
  go_enter Try.func15, Try.ntmps15
  go_wp2_with fail
  refine (HH.out _ ((Fr.refl _ _).alloc _)).mono ?_
  rintro e w1 ⟨rfl, hF1⟩
  go_wp2_with fail
  obtain ⟨V2, hV2⟩ : ∃ V2, w1.alloc (.cells #[.int .u8 e0, .int .u8 e1, .int .u8 e2, .int .u8 e3] 23 (0, 0)) = V2 := ⟨_, rfl⟩
  have hFa := ((Fr.refl [] w).alloc (.cells #[.int .i64 k1, .int .i64 k2] 36 (0, 0))).trans hF1
  have hF2 : Fr [] w V2 := by rw [← hV2]; exact hFa.alloc _
  have h9 : Blk V2 w1.heap.size #[.int .u8 e0, .int .u8 e1, .int .u8 e2, .int .u8 e3] 23 := by rw [← hV2]; exact Blk.new _ _ _
  have hK2 : Blk V2 w.heap.size #[.int .i64 k1, .int .i64 k2] 36 := by rw [← hV2]; exact (hF1.blk (Blk.new w _ _) (by simp)).alloc _
  obtain ⟨r9, hr9⟩ : ∃ r, w1.heap.size = r := ⟨_, rfl⟩
  obtain ⟨q3, hq3⟩ : ∃ q, w.heap.size = q := ⟨_, rfl⟩
  rw [hr9] at h9
  rw [hq3] at hK2
  rw [hV2, hr9, hq3]
  have hP2 := HP.out.fr0 hF2
  clear hV2 hr9 hq3 hF1 hFa HH
  have hne := hP2.ne
  have n9h := hP2.hM.not_row h9
  have n9w := hP2.wM.not_row h9
  have n3h := hP2.hM.not_row hK2
  have n3w := hP2.wM.not_row hK2
  have ngh := hP2.hM.not_row hP2.st
  have ngw := hP2.wM.not_row hP2.st
  obtain ⟨V3, x1, hM1, hG1⟩ := (hP2.hM.fr (Fr.refl [] V2).drew (by simp)).delete Try.underlying58 (k1, k2) HKO.out 0
  have hG13 : Fr [bh] V2 V3 := ((Fr.refl _ _).drew).trans hG1
  obtain ⟨V4, x2, hM2, hG2⟩ := ((hP2.wM.fr hG13 (by simpa using hne.symm)).fr (Fr.refl [] V3).drew (by simp)).delete Try.underlying59 (e0, e1, e2, e3) HO.out 0
  have hG34 : Fr [bw] V3 V4 := ((Fr.refl _ _).drew).trans hG2
  have hG14 : Fr [bh, bw] V2 V4 := (hG13.mono (by simp)).trans (hG34.mono (by simp))
  have hH4 := hM1.fr hG34 (by simpa using hne)
  have hrel := hP2.rel.give hP2.hM.nodup hP2.wM.nodup HI.out
  rw [HE.out] at hrel
  have hP6 : PoolIs V4 g bh bw b (s.set i none) (del H (k1, k2)) (del M (e0, e1, e2, e3)) :=
    ⟨by rw [List.length_set]; exact hG14.blk hP2.st (by simp; exact ⟨ngh, ngw⟩), hH4, hM2, hne, hrel, hP2.bok, by rw [List.length_set]; exact hP2.n1, by rw [List.length_set]; exact hP2.n2⟩
  have HP6 := Lib.hid hP6
  have hF6 : Fr [bh, bw] w V4 := (hF2.mono (by simp)).trans hG14
  have c5 : V2.cell? ⟨g, 5, none⟩ = some (.map (some bh)) := hP2.st.c 5 _ rfl
  have t0 : V2.cell? ⟨q3, 0, none⟩ = some (.int .i64 k1) := hK2.c 0 _ rfl
  have t1 : V2.cell? ⟨q3, 1, none⟩ = some (.int .i64 k2) := hK2.c 1 _ rfl
  have c6 : V3.cell? ⟨g, 6, none⟩ = some (.map (some bw)) := (hG13.blk hP2.st (by simpa using ngh)).c 6 _ rfl
  have h93 := hG13.blk h9 (by simpa using n9h)
  have u0 : V3.cell? ⟨r9, 0, none⟩ = some (.int .u8 e0) := h93.c 0 _ rfl
  have u1 : V3.cell? ⟨r9, 1, none⟩ = some (.int .u8 e1) := h93.c 1 _ rfl
  have u2 : V3.cell? ⟨r9, 2, none⟩ = some (.int .u8 e2) := h93.c 2 _ rfl
  have u3 : V3.cell? ⟨r9, 3, none⟩ = some (.int .u8 e3) := h93.c 3 _ rfl
  have y1 : (Builtin.delete_ #[58, 36] 0 #[.map (some bh), .agg #[.int .i64 k1, .int .i64 k2]]).run Try.prog V2.drew = .ok (.tuple #[]) V3 := x1
  have y2 : (Builtin.delete_ #[59, 23] 0 #[.map (some bw), .agg #[.int .u8 e0, .int .u8 e1, .int .u8 e2, .int .u8 e3]]).run Try.prog V3.drew = .ok (.tuple #[]) V4 := x2
  clear x1 x2 hM1 hM2 hH4 hrel hP6 hP2 h9 hK2 hG1 hG2 hG13 hG34 hG14 h93 hne n9h n9w n3h n3w ngh ngw
  go_region
  all_goals
    go_wp2_with fail
    go_region
    all_goals
      go_wp2_with fail
      go_ret
      refine ⟨rfl, ?_, hF6⟩
      rw [HE.out]
      exact HP6.out
end Go.Proofs.Ytnenmgankgadcaa
